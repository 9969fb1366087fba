/- The document's store in memory; place, Get, lay: no condition. -/
import Derived.Test.YthnjakomkdlglaaStoW
namespace Go.Proofs.Ythnjakomkdlglaa
open Go.RowKit

/-- The document's store. -/
structure RAt (w : World) (g : Nat) (s : PS) (vL vP : Value) : Prop where
  head : w.heap[g]? = some (.cells #[vL, vP] 45 (0, 0))
  list : LO w 99 pairE 2 vL s.t
  past : LO w 148 wasE 3 vP s.past
  up : Up s.t
def rfoot (g : Nat) (vL vP : Value) : List Nat := g :: (vL.ownBlock.toList ++ vP.ownBlock.toList)
def RS (w : World) (g : Nat) (s : PS) (F : List Nat) : Prop := ∃ vL vP, RAt w g s vL vP ∧ F = rfoot g vL vP
theorem rfoot_eq (g : Nat) (vL vP : Value) (x : Nat) : x ∈ rfoot g vL vP ↔ x = g ∨ vL.ownBlock = some x ∨ vP.ownBlock = some x := by
  unfold rfoot
  simp only [List.mem_cons, List.mem_append, Option.mem_toList]
theorem RAt.keep {w w' : World} {g : Nat} {s : PS} {vL vP : Value} (h : RAt w g s vL vP) {S : Nat → Prop} (hk : Keep S w w') (hS : ∀ x ∈ rfoot g vL vP, ¬ S x) : RAt w' g s vL vP where
  head := hk.at h.head (hS g ((rfoot_eq _ _ _ _).2 (.inl rfl)))
  list := h.list.keep hk fun k e => hS k ((rfoot_eq _ _ _ _).2 (.inr (.inl e)))
  past := h.past.keep hk fun k e => hS k ((rfoot_eq _ _ _ _).2 (.inr (.inr e)))
  up := h.up
theorem RS.keep {w w' : World} {g : Nat} {s : PS} {F : List Nat} (h : RS w g s F) {S : Nat → Prop} (hk : Keep S w w') (hS : ∀ x ∈ F, ¬ S x) : RS w' g s F := by
  obtain ⟨vL, vP, h, rfl⟩ := h
  exact ⟨vL, vP, h.keep hk hS, rfl⟩
theorem RS.later {w w' : World} {g : Nat} {s : PS} {F : List Nat} (h : RS w g s F) (hb : Below w.heap.size w w') : RS w' g s F :=
  h.keep (Keep.of_below (S := fun _ => False) hb) fun _ _ => id
def rstKind (o : Obj) : Bool := match o with
  | .cells _ e (0, 0) => e == 45 || e == 99 || e == 148
  | _ => false
theorem RS.kind {w : World} {g : Nat} {s : PS} {F : List Nat} (h : RS w g s F) : ∀ x ∈ F, ∃ o, w.heap[x]? = some o ∧ rstKind o = true := by
  obtain ⟨vL, vP, h, rfl⟩ := h
  intro x hx
  rw [rfoot_eq] at hx
  rcases hx with rfl | hx | hx
  · exact ⟨_, h.head, rfl⟩
  · obtain ⟨cs, hc⟩ := h.list.kind hx; exact ⟨_, hc, rfl⟩
  · obtain ⟨cs, hc⟩ := h.past.kind hx; exact ⟨_, hc, rfl⟩
theorem RS.lt {w : World} {g : Nat} {s : PS} {F : List Nat} (h : RS w g s F) : ∀ x ∈ F, x < w.heap.size := by
  intro x hx
  obtain ⟨o, ho, _⟩ := h.kind x hx
  exact heap_lt ho
theorem RS.up {w : World} {g : Nat} {s : PS} {F : List Nat} (h : RS w g s F) : Up s.t := by
  obtain ⟨_, _, h, _⟩ := h; exact h.up
theorem kinds_apart (o : Obj) (h1 : stoKind o = true) (h2 : rstKind o = true) : False := by
  unfold rstKind at h2
  split at h2
  · rename_i e
    unfold stoKind at h1
    simp at h1 h2
    rcases h2 with (rfl | rfl) | rfl <;> revert h1 <;> decide
  · cases h2
/-- The two stores share no block. -/
theorem stores_apart {w : World} {g g' : Nat} {s s' : PS} {F F' : List Nat} (h : St w g s F) (h' : RS w g' s' F') : ∀ x ∈ F, x ∉ F' := by
  intro x hx hx'
  obtain ⟨o, ho, k1⟩ := h.kind x hx
  obtain ⟨o', ho', k2⟩ := h'.kind x hx'
  rw [ho] at ho'
  cases ho'
  exact kinds_apart o k1 k2
/-- A call that may turn the document's store alone. -/
def RRet (w : World) (g : Nat) (F : List Nat) (s' : PS) (v : Value) (e : Ending) (w' : World) : Prop :=
  e = .returned v ∧ ∃ F', RS w' g s' F' ∧ Keep (· ∈ F) w w' ∧ ∀ x ∈ F', x ∈ F ∨ w.heap.size ≤ x

theorem LO.pair {w : World} {e : TypeId} {ad : Option Addr} {n cap : Nat} {t : Tab} (h : LO w e pairE 2 (.slice ad n cap) t) (i : Nat) (hi : i < t.length) :
    ∃ g, ad = some ⟨g, 0, none⟩ ∧ g < w.heap.size ∧ w.cell? ⟨g, i * 2, none⟩ = some (.string (bs t[i].1)) ∧ w.cell? ⟨g, i * 2 + 1, none⟩ = some (.string (bs t[i].2)) := by
  have hne : t ≠ [] := by rintro rfl; simp at hi
  obtain ⟨g, c, cur, e1, hg, _⟩ := h.opened hne
  have e2 := (Value.slice.inj e1).1
  subst e2
  obtain ⟨ax, cx, e3, _, _, h3⟩ := h.rd pairE_len
  obtain ⟨b, off, e4, _, h5⟩ := h3 hne
  have e5 := (Value.slice.inj e3).1.trans e4
  simp only [Option.some.injEq, Addr.mk.injEq] at e5
  obtain ⟨rfl, rfl, _⟩ := e5
  refine ⟨g, rfl, heap_lt hg, ?_, ?_⟩
  · have := h5 i hi 0 (by omega); simpa [pairE] using this
  · have := h5 i hi 1 (by omega); simpa [pairE] using this

def PlaceRet (w : World) (t : Tab) (k : Txt) (e : Ending) (w' : World) : Prop := ∃ i : Nat, e = .returned (.int .i64 i) ∧ At (keysP t) k i ∧ w = w'
set_option maxHeartbeats 1000000 in
theorem rplace_any {w : World} {g : Nat} {s : PS} {F : List Nat} (h : RS w g s F) (hl : s.t.length < 4611686018427387904) (k : Txt) :
    Calls Try.prog 113 #[.pointer (some ⟨g, 0, none⟩), .string (bs k)] w (PlaceRet w s.t k) := by
  obtain ⟨vL, vP, h, _⟩ := h
  obtain ⟨ad, cap, hvL, h1, h2⟩ := h.list.shape
  obtain ⟨n, hn⟩ : ∃ n, n = s.t.length := ⟨_, rfl⟩
  rw [← hn] at hvL h1 hl
  subst hvL
  have c0 : w.cell? ⟨g, 0, none⟩ = some (.slice ad n cap) := Lib.cell_of_heap h.head 0
  have H := Lib.hid h; have HN := Lib.hid hn
  have hkl : (keysP s.t).length = n := by unfold keysP; rw [List.length_map, hn]
  have HKL := Lib.hid hkl
  have hku : UpK (keysP s.t) := upK_keys.2 h.up
  have HKU := Lib.hid hku
  clear h hn hkl hku
  go_enter Try.func113, Try.ntmps113
  go_wp2_with fail
  go_loop [5] (fun v => ∃ i : Nat, v = .int .i64 i ∧ i ≤ n ∧ Hid (∀ q (hq : q < (keysP s.t).length), q < i → less (keysP s.t)[q] k = true)) (fun v => n - (intOf v).toNat)
  case atStart => exact ⟨0, rfl, Nat.zero_le _, Lib.hid fun q hq h => absurd h (Nat.not_lt_zero _)⟩
  case round =>
    obtain ⟨i, rfl, hin, L⟩ := hrel
    by_cases hlt : i < n
    · have hil : i < s.t.length := by rw [← HN.out]; exact hlt
      obtain ⟨gL, rfl, hgL, q0, q1⟩ := H.out.list.pair i hil
      have hkk : (keysP s.t)[i]'(by rw [HKL.out]; exact hlt) = s.t[i].1 := by simp [keysP]
      obtain ⟨x, hx⟩ : ∃ x, x = s.t[i].1 := ⟨_, rfl⟩
      rw [← hx] at q0 hkk
      have HKK := Lib.hid hkk
      clear q1 hgL hx hkk
      cases hxk : less x k with
      | true =>
        have g1 : Op.bytesLess (bs x).toList (bs k).toList = true := by rw [toList_bs, toList_bs]; exact hxk
        have L2 : Hid (∀ q (hq : q < (keysP s.t).length), q < i + 1 → less (keysP s.t)[q] k = true) := Lib.hid fun q hq h => by
          rcases Nat.lt_or_ge q i with h' | h'
          · exact L.out q hq h'
          · obtain rfl : q = i := by omega
            rw [HKK.out]; exact hxk
        clear hxk
        go_wp2_with fail
        go_round
        case rel => exact ⟨i + 1, by go_num, by omega, L2⟩
        case measure => simp [intOf]; omega
      | false =>
        have g1 : Op.bytesLess (bs x).toList (bs k).toList = false := by rw [toList_bs, toList_bs]; exact hxk
        have hat : At (keysP s.t) k i := ⟨by rw [HKL.out]; exact hin, L.out, fun q hq h => by
          rcases Nat.lt_or_ge i q with h' | h'
          · cases hb : less (keysP s.t)[q] k with
            | false => rfl
            | true =>
              have := less_trans (HKU.out.ne hq h') hb
              rw [HKK.out, hxk] at this; cases this
          · obtain rfl : q = i := by omega
            rw [HKK.out]; exact hxk⟩
        have HA := Lib.hid hat
        clear hxk hat
        go_wp2_with fail
        go_ret
        exact ⟨i, rfl, HA.out, rfl⟩
    · have hat : At (keysP s.t) k i := ⟨by rw [HKL.out]; exact hin, L.out, fun q hq h => by rw [HKL.out] at hq; omega⟩
      have HA := Lib.hid hat
      clear hat
      go_wp2_with fail
      go_ret
      exact ⟨i, rfl, HA.out, rfl⟩

theorem get_at {t : Tab} {k : Txt} {i : Nat} (hu : Up t) (ha : At (keysP t) k i) : (∃ hi : i < t.length, t[i].1 = k ∧ getP t k = some t[i].2) ∨ ((∀ hi : i < t.length, t[i].1 ≠ k) ∧ getP t k = none) := by
  have hkl : (keysP t).length = t.length := by unfold keysP; rw [List.length_map]
  by_cases hm : k ∈ keysP t
  · obtain ⟨hi, e⟩ := ha.there (upK_keys.2 hu) hm
    left
    have hi' : i < t.length := by rw [← hkl]; exact hi
    have e2 : t[i].1 = k := by rw [← e]; simp [keysP]
    exact ⟨hi', e2, getP_of_mem hu (by rw [← e2]; exact List.getElem_mem _)⟩
  · right
    refine ⟨fun hi e => hm (List.mem_map.2 ⟨_, List.getElem_mem hi, e⟩), ?_⟩
    cases hg : getP t k with
    | none => rfl
    | some v => exact absurd (mem_keys.2 (by rw [hg]; simp)) hm
theorem rget_any {w : World} {g : Nat} {s : PS} {F : List Nat} (h : RS w g s F) (hl : s.t.length < 4611686018427387904) (k : Txt) :
    Calls Try.prog 88 #[.pointer (some ⟨g, 0, none⟩), .string (bs k)] w fun e w' => e = .returned (.tuple #[.string (bs ((getP s.t k).getD [])), .bool (getP s.t k).isSome]) ∧ w = w' := by
  have HS := Lib.hid h
  obtain ⟨vL, vP, h, _⟩ := h
  obtain ⟨ad, cap, hvL, h1, h2⟩ := h.list.shape
  obtain ⟨n, hn⟩ : ∃ n, n = s.t.length := ⟨_, rfl⟩
  have HL := Lib.hid hl
  rw [← hn] at hvL h1 hl
  subst hvL
  have c0 : w.cell? ⟨g, 0, none⟩ = some (.slice ad n cap) := Lib.cell_of_heap h.head 0
  have H := Lib.hid h; have HN := Lib.hid hn
  clear h hn
  go_enter Try.func88, Try.ntmps88
  go_wp2_with fail
  refine (rplace_any HS.out HL.out k).mono ?_
  rintro e w1 ⟨i, rfl, ha, rfl⟩
  rcases get_at H.out.up ha with ⟨hi, e1, e2⟩ | ⟨e1, e2⟩
  · obtain ⟨gL, rfl, hgL, q0, q1⟩ := H.out.list.pair i hi
    rw [e1] at q0
    obtain ⟨v, hv⟩ : ∃ v, v = s.t[i].2 := ⟨_, rfl⟩
    rw [← hv] at q1 e2
    have g1 : ((bs k).toList == (bs k).toList) = true := by simp
    have hin : i < n := by rw [HN.out]; exact hi
    have E2 := Lib.hid e2
    clear hgL hv ha hi e1 e2
    go_wp2_with fail
    go_ret2
    rw [E2.out]
    exact ⟨rfl, rfl⟩
  · have E2 := Lib.hid e2
    have hle : i ≤ n := by have := ha.le; unfold keysP at this; rw [List.length_map] at this; rw [HN.out]; exact this
    by_cases hin : i < n
    · have hi : i < s.t.length := by rw [← HN.out]; exact hin
      obtain ⟨gL, rfl, hgL, q0, q1⟩ := H.out.list.pair i hi
      have g1 : ((bs s.t[i].1).toList == (bs k).toList) = false := by rw [toList_bs, toList_bs, beq_eq_false_iff_ne]; exact e1 hi
      obtain ⟨x, hx⟩ : ∃ x, x = s.t[i].1 := ⟨_, rfl⟩
      rw [← hx] at q0 g1
      clear hgL hx ha hi e1 e2 q1
      go_wp2_with fail
      go_ret2
      rw [E2.out]
      exact ⟨rfl, rfl⟩
    · clear ha e1 e2
      go_wp2_with fail
      go_ret2
      rw [E2.out]
      exact ⟨rfl, rfl⟩
end Go.Proofs.Ythnjakomkdlglaa
