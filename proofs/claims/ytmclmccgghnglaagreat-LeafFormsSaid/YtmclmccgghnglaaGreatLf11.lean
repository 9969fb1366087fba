/- octet.Source: its state; ok, fail, take, Left, Err. No condition. octet.Source: take, Left, Err, End, Byte. No condition. octet.Source: Byte. No condition. octet.Source: group. No condition. Groups of seven bits put together by or. No condition. octet.Source: Var. No condition. -/
import Derived.Test.YtmclmccgghnglaaGreatLfLeaI
namespace Go.Proofs.YtmclmccgghnglaaGreat
section
open Go.RowKit

/-- A source: what is left, and what went wrong. -/
def Src (w : World) (g : Nat) (l : List UInt8) (e : Int) : Prop := ∃ (ad : Option Addr) (n cap : Nat), w.heap[g]? = some (.cells #[.slice ad n cap, .int .i64 e, .bool true] 293 (0, 0)) ∧ Rd w u8E 1 (.slice ad n cap) l ∧ ∀ k, (Value.slice ad n cap).ownBlock = some k → k < g
theorem Src.later {w w' : World} {g : Nat} {l : List UInt8} {e : Int} (h : Src w g l e) (hb : Below w.heap.size w w') : Src w' g l e := by
  obtain ⟨ad, n, cap, h1, h2, h3⟩ := h
  exact ⟨ad, n, cap, below_at2 hb h1, h2.later hb, h3⟩
/-- What a method of a source leaves. -/
def SrcRet (w : World) (g : Nat) (l : List UInt8) (k : Int) (v : Value) (e : Ending) (w' : World) : Prop := e = .returned v ∧ Keep (· = g) w w' ∧ Src w' g l k
theorem Tryz.sizeSl8 : (Tryz.prog.info? 100).map (·.size) = some 1 := by kernel_rfl
theorem Tryz.sizeErr : (Tryz.prog.info? 37).map (·.size) = some 1 := by kernel_rfl
set_option maxHeartbeats 1000000 in
theorem sok_any (w : World) (g : Nat) (l : List UInt8) (e : Int) (h : Src w g l e) : Calls Tryz.prog 245 #[.pointer (some ⟨g, 0, none⟩)] w fun r w' => r = .returned (.bool (decide (e = 0))) ∧ w' = w := by
  obtain ⟨ad, n, cap, h1, h2, _⟩ := h
  have c1 : w.cell? ⟨g, 1, none⟩ = some (.int .i64 e) := Lib.cell_of_heap h1 1
  have c2 : w.cell? ⟨g, 2, none⟩ = some (.bool true) := Lib.cell_of_heap h1 2
  obtain ⟨q, hq⟩ : ∃ q, q = decide (e = 0) := ⟨_, rfl⟩
  have he : (e == 0) = q := by rw [hq]; simp [BEq.beq]
  rw [← hq]
  clear hq h1 h2
  go_enter Tryz.func245, Tryz.ntmps245
  go_wp2_with fail
  go_ret
  exact ⟨rfl, rfl⟩
set_option maxHeartbeats 1000000 in
theorem sfail_any (w : World) (g : Nat) (l : List UInt8) (e k : Int) (h : Src w g l e) : Calls Tryz.prog 247 #[.pointer (some ⟨g, 0, none⟩), .int .i64 k] w (SrcRet w g (if e = 0 then [] else l) (if e = 0 then k else e) (.tuple #[])) := by
  have H := Lib.hid h
  by_cases he : e = 0
  · subst he
    rw [if_pos rfl, if_pos rfl]
    obtain ⟨ad, n, cap, h1, _, _⟩ := h
    have HC := Lib.hid h1
    clear h1
    go_enter Tryz.func247, Tryz.ntmps247
    go_wp2_with fail
    refine (sok_any w g l 0 H.out).mono ?_
    rintro r w1 ⟨rfl, rfl⟩
    rw [decide_eq_true rfl]
    go_wp2_with (first
      | (refine wpList_store1_g rfl 100 _ _ rfl g 0 (.slice none 0 0) rfl rfl rfl rfl 293 _ HC.out Tryz.sizeSl8 (by simp) #[.slice none 0 0, .int .i64 0, .bool true] rfl ?_)
      | fail)
    intro w2 h2 k2 z2
    have HC2 := Lib.hid h2; have HK2 := Lib.hid k2
    clear h2 k2 z2
    go_wp2_with (refine wpList_store1_g rfl 37 _ _ rfl g 1 (.int .i64 k) rfl rfl rfl rfl 293 _ HC2.out Tryz.sizeErr (by simp) #[.slice none 0 0, .int .i64 k, .bool true] rfl ?_)
    intro w3 h3 k3 z3
    have HC3 := Lib.hid h3; have HK3 := Lib.hid (HK2.out.then k3 fun x hx => .inl hx)
    clear h3 k3 z3
    go_wp2_with fail
    go_end0
    exact ⟨rfl, HK3.out, none, 0, 0, HC3.out, Rd.nil _ _ _, by simp [Value.ownBlock]⟩
  · rw [if_neg he, if_neg he]
    clear h
    have HE := Lib.hid he; clear he
    go_enter Tryz.func247, Tryz.ntmps247
    go_wp2_with fail
    refine (sok_any w g l e H.out).mono ?_
    rintro r w1 ⟨rfl, rfl⟩
    rw [decide_eq_false HE.out]
    go_wp2_with fail
    go_end0
    exact ⟨rfl, Keep.refl _ _, H.out⟩
end
section
open Go.RowKit

theorem Rd.cut3b {w : World} {ad : Option Addr} {n cap k : Nat} {l : List UInt8} (h : Rd w u8E 1 (.slice ad n cap) l) (hk : k ≤ l.length) : Rd w u8E 1 (.slice (if k = 0 then ad else ad.map (·.add (0 * 1))) k k) (l.take k) ∧ ∀ q, (Value.slice (if k = 0 then ad else ad.map (·.add (0 * 1))) k k).ownBlock = some q → Value.ownBlock (.slice ad n cap) = some q := by
  obtain ⟨ad', cap', e, h1, h2, h3⟩ := h
  cases e
  have hk2 : (l.take k).length = k := by rw [List.length_take]; omega
  constructor
  · refine ⟨_, _, by rw [hk2], by omega, by omega, fun hne => ?_⟩
    have hk0 : k ≠ 0 := by intro e; subst e; simp at hne
    obtain ⟨b, off, rfl, hb, hc⟩ := h3 (by intro e; subst e; simp at hne)
    refine ⟨b, off, by rw [if_neg hk0]; simp [Addr.add], hb, fun i hi j hj => ?_⟩
    rw [hk2] at hi
    rw [hc i (by omega) j hj]
    simp
  · intro q hq
    cases ad with
    | none => split at hq <;> simp [Value.ownBlock] at hq
    | some a =>
      have : (if k = 0 then some a else Option.map (fun x => x.add (0 * 1)) (some a)) = some a := by split <;> simp [Addr.add]
      rw [this] at hq
      exact hq
theorem add_none (ad : Option Addr) (k n : Nat) : (if n = 0 then ad else ad.map (·.add (0 * k))) = ad := by
  cases ad with
  | none => split <;> rfl
  | some a => split <;> simp [Addr.add]
theorem Tryz.sizeU8 : (Tryz.prog.info? 5).map (·.size) = some 1 := by kernel_rfl
/-- What take leaves, and what it tells. -/
def takeS (l : List UInt8) (e : Int) (n : Nat) : List UInt8 × Int := if e ≠ 0 then (l, e) else if l.length < n then ([], 3) else (l.drop n, 0)
def takeV (l : List UInt8) (e : Int) (n : Nat) : List UInt8 := if e ≠ 0 then [] else if l.length < n then [] else l.take n
set_option maxHeartbeats 4000000 in
theorem stake2_any (w : World) (g : Nat) (l : List UInt8) (e : Int) (n : Nat) (h : Src w g l e) : Calls Tryz.prog 248 #[.pointer (some ⟨g, 0, none⟩), .int .i64 n] w fun r w' => ∃ v', r = .returned v' ∧ Keep (· = g) w w' ∧ Src w' g (takeS l e n).1 (takeS l e n).2 ∧ Rd w' u8E 1 v' (takeV l e n) ∧ (e ≠ 0 ∨ l.length < n → v' = .slice none 0 0) := by
  have H := Lib.hid h
  by_cases he : e = 0
  · subst he
    obtain ⟨ad, m, cap, h1, h2, h3⟩ := h
    have hm : m = l.length := h2.size
    have HC := Lib.hid h1; have HR := Lib.hid h2; have HO := Lib.hid h3; have HM := Lib.hid hm
    have c0 : w.cell? ⟨g, 0, none⟩ = some (.slice ad m cap) := Lib.cell_of_heap h1 0
    clear h1 h2 h3 hm
    by_cases hl : m < n
    · have e1 : takeS l 0 n = ([], 3) := by unfold takeS; rw [if_neg (by decide), if_pos (by rw [← HM.out]; exact hl)]
      have e2 : takeV l 0 n = [] := by unfold takeV; rw [if_neg (by decide), if_pos (by rw [← HM.out]; exact hl)]
      rw [e1, e2]
      clear e1 e2
      go_enter Tryz.func248, Tryz.ntmps248
      go_wp2_with fail
      refine (sok_any w g l 0 H.out).mono ?_
      rintro r w1 ⟨rfl, rfl⟩
      rw [decide_eq_true rfl]
      go_wp2_with fail
      refine (sfail_any w1 g l 0 3 H.out).mono ?_
      rw [if_pos rfl, if_pos rfl]
      rintro r w2 ⟨rfl, hk, hs⟩
      have HK := Lib.hid hk; have HS := Lib.hid hs
      clear hk hs c0
      go_wp2_with fail
      go_ret
      exact ⟨_, rfl, HK.out, HS.out, Rd.nil _ _ _, fun _ => rfl⟩
    · have e1 : takeS l 0 n = (l.drop n, 0) := by unfold takeS; rw [if_neg (by decide), if_neg (by rw [← HM.out]; exact hl)]
      have e2 : takeV l 0 n = l.take n := by unfold takeV; rw [if_neg (by decide), if_neg (by rw [← HM.out]; exact hl)]
      rw [e1, e2]
      clear e1 e2
      have hnm : n ≤ m := by omega
      obtain ⟨ad', cap', hsh, hc1, hc2⟩ := HR.out.shape
      have hcap : m ≤ cap := by cases hsh; omega
      have hcut := HR.out.cut3b (k := n) (by have := HM.out; omega)
      rw [add_none] at hcut
      have hsl := fun (w : World) (kl : IntKind) => run_slice3 (P := Tryz.prog) Tryz.underlying100 Tryz.sizeU8 w ad m cap n (by omega) kl
      simp only [add_none] at hsl
      obtain ⟨vd, hvd1, hvd2, hvd3⟩ := HR.out.from Tryz.underlying100 (sz := 1) Tryz.sizeU8 n (by have := HM.out; omega)
      obtain ⟨adv, capv, rfl, _, _⟩ := hvd2.shape
      obtain ⟨D, hD⟩ : ∃ D, D = (l.drop n).length := ⟨_, rfl⟩
      rw [← hD] at hvd1 hvd2 hvd3
      have HV1 := Lib.hid hcut.1; have HV2 := Lib.hid hvd2; have HVO := Lib.hid (show ∀ k, (Value.slice adv D capv).ownBlock = some k → k < g from fun k h => HO.out k (hvd3 k h)); have HCO := Lib.hid (show ∀ k, (Value.slice ad n n).ownBlock = some k → k < g from fun k h => HO.out k (hcut.2 k h))
      clear hcut hvd2 hvd3 hsh hc1 hc2 hD hl
      go_enter Tryz.func248, Tryz.ntmps248
      go_wp2_with fail
      refine (sok_any w g l 0 H.out).mono ?_
      rintro r w1 ⟨rfl, rfl⟩
      rw [decide_eq_true rfl]
      go_wp2_with (refine wpList_store1_g rfl 100 _ _ rfl g 0 (.slice adv D capv) rfl rfl rfl rfl 293 _ HC.out Tryz.sizeSl8 (by simp) #[.slice adv D capv, .int .i64 0, .bool true] rfl ?_)
      intro w2 h2 k2 z2
      have HC2 := Lib.hid h2; have HK2 := Lib.hid k2
      clear h2 k2 z2 c0
      go_wp2_with fail
      go_ret
      exact ⟨_, rfl, HK2.out, ⟨adv, D, capv, HC2.out, HV2.out.keep HK2.out (fun k h _ he => Nat.ne_of_lt (HVO.out k h) he), HVO.out⟩, HV1.out.keep HK2.out (fun k h _ he => Nat.ne_of_lt (HCO.out k h) he), fun h => h.elim (fun h => absurd rfl h) fun h => absurd h (by have := HM.out; omega)⟩
  · have e1 : takeS l e n = (l, e) := by unfold takeS; rw [if_pos he]
    have e2 : takeV l e n = [] := by unfold takeV; rw [if_pos he]
    rw [e1, e2]
    clear h e1 e2
    have HE := Lib.hid he; clear he
    go_enter Tryz.func248, Tryz.ntmps248
    go_wp2_with fail
    refine (sok_any w g l e H.out).mono ?_
    rintro r w1 ⟨rfl, rfl⟩
    rw [decide_eq_false HE.out]
    go_wp2_with fail
    go_ret
    exact ⟨_, rfl, Keep.refl _ _, H.out, Rd.nil _ _ _, fun _ => rfl⟩
theorem stake_any (w : World) (g : Nat) (l : List UInt8) (e : Int) (n : Nat) (h : Src w g l e) (_hn : n < 1000000000) : Calls Tryz.prog 248 #[.pointer (some ⟨g, 0, none⟩), .int .i64 n] w fun r w' => ∃ v', r = .returned v' ∧ Keep (· = g) w w' ∧ Src w' g (takeS l e n).1 (takeS l e n).2 ∧ Rd w' u8E 1 v' (takeV l e n) :=
  (stake2_any w g l e n h).mono fun _ _ ⟨v, h1, h2, h3, h4, _⟩ => ⟨v, h1, h2, h3, h4⟩
set_option maxHeartbeats 1000000 in
theorem sleft_any (w : World) (g : Nat) (l : List UInt8) (e : Int) (h : Src w g l e) : Calls Tryz.prog 249 #[.pointer (some ⟨g, 0, none⟩)] w fun r w' => r = .returned (.int .i64 (if e = 0 then (l.length : Int) else 0)) ∧ w' = w := by
  have H := Lib.hid h
  by_cases he : e = 0
  · subst he
    rw [if_pos rfl]
    obtain ⟨ad, m, cap, h1, h2, h3⟩ := h
    rw [← h2.size]
    have c0 : w.cell? ⟨g, 0, none⟩ = some (.slice ad m cap) := Lib.cell_of_heap h1 0
    clear h1 h2 h3
    go_enter Tryz.func249, Tryz.ntmps249
    go_wp2_with fail
    refine (sok_any w g l 0 H.out).mono ?_
    rintro r w1 ⟨rfl, rfl⟩
    rw [decide_eq_true rfl]
    go_wp2_with fail
    go_ret
    exact ⟨rfl, rfl⟩
  · rw [if_neg he]
    have HE := Lib.hid he
    clear he h
    go_enter Tryz.func249, Tryz.ntmps249
    go_wp2_with fail
    refine (sok_any w g l e H.out).mono ?_
    rintro r w1 ⟨rfl, rfl⟩
    rw [decide_eq_false HE.out]
    go_wp2_with fail
    go_ret
    exact ⟨rfl, rfl⟩
set_option maxHeartbeats 1000000 in
theorem serr_any (w : World) (g : Nat) (l : List UInt8) (e : Int) (h : Src w g l e) : Calls Tryz.prog 250 #[.pointer (some ⟨g, 0, none⟩)] w fun r w' => r = .returned (.int .i64 e) ∧ w' = w := by
  obtain ⟨ad, m, cap, h1, _, _⟩ := h
  have c1 : w.cell? ⟨g, 1, none⟩ = some (.int .i64 e) := Lib.cell_of_heap h1 1
  have c2 : w.cell? ⟨g, 2, none⟩ = some (.bool true) := Lib.cell_of_heap h1 2
  clear h1
  go_enter Tryz.func250, Tryz.ntmps250
  go_wp2_with fail
  go_ret
  exact ⟨rfl, rfl⟩
/-- What End leaves. -/
def endS (l : List UInt8) (e : Int) : List UInt8 × Int := if e = 0 ∧ 0 < l.length then ([], 4) else (l, e)
set_option maxHeartbeats 1000000 in
theorem send_any (w : World) (g : Nat) (l : List UInt8) (e : Int) (h : Src w g l e) : Calls Tryz.prog 151 #[.pointer (some ⟨g, 0, none⟩)] w (SrcRet w g (endS l e).1 (endS l e).2 (.int .i64 (endS l e).2)) := by
  have H := Lib.hid h
  clear h
  obtain ⟨k, hk⟩ : ∃ k : Int, k = if e = 0 then (l.length : Int) else 0 := ⟨_, rfl⟩
  have hlf := sleft_any w g l e H.out
  rw [← hk] at hlf
  have HLF := Lib.hid hlf
  clear hlf
  by_cases hp : 0 < k
  · have he : e = 0 ∧ 0 < l.length := by
      by_cases h0 : e = 0
      · rw [if_pos h0] at hk; exact ⟨h0, by omega⟩
      · rw [if_neg h0] at hk; omega
    have e1 : endS l e = ([], 4) := by unfold endS; rw [if_pos he]
    rw [e1]
    obtain ⟨rfl, _⟩ := he
    clear e1 hk
    go_enter Tryz.func151, Tryz.ntmps151
    go_wp2_with fail
    refine HLF.out.mono ?_
    rintro r w1 ⟨rfl, rfl⟩
    go_wp2_with fail
    refine (sfail_any w1 g l 0 4 H.out).mono ?_
    rw [if_pos rfl, if_pos rfl]
    rintro r w2 ⟨rfl, hkk, hs⟩
    have HKK := Lib.hid hkk; have HS := Lib.hid hs
    clear hkk hs
    go_wp2_with fail
    refine (serr_any w2 g [] 4 HS.out).mono ?_
    rintro r w3 ⟨rfl, rfl⟩
    go_wp2_with fail
    go_ret
    exact ⟨rfl, HKK.out, HS.out⟩
  · have he : ¬ (e = 0 ∧ 0 < l.length) := fun h => by rw [if_pos h.1] at hk; omega
    have e1 : endS l e = (l, e) := by unfold endS; rw [if_neg he]
    rw [e1]
    clear e1 hk he
    go_enter Tryz.func151, Tryz.ntmps151
    go_wp2_with fail
    refine HLF.out.mono ?_
    rintro r w1 ⟨rfl, rfl⟩
    go_wp2_with fail
    refine (serr_any w1 g l e H.out).mono ?_
    rintro r w3 ⟨rfl, rfl⟩
    go_wp2_with fail
    go_ret
    exact ⟨rfl, Keep.refl _ _, H.out⟩
end
section
open Go.RowKit

theorem takeV_one (l : List UInt8) (e : Int) : takeV l e 1 = [] ∨ ∃ c, takeV l e 1 = [c] := by
  unfold takeV
  split
  · exact .inl rfl
  · split
    · exact .inl rfl
    · cases l with
      | nil => exact .inl rfl
      | cons c l => exact .inr ⟨c, rfl⟩
set_option maxHeartbeats 4000000 in
theorem sbyte_any (w : World) (g : Nat) (l : List UInt8) (e : Int) (h : Src w g l e) : Calls Tryz.prog 253 #[.pointer (some ⟨g, 0, none⟩)] w (SrcRet w g (takeS l e 1).1 (takeS l e 1).2 (.int .u8 (((takeV l e 1).headD 0).toNat : Int))) := by
  have H := Lib.hid h
  clear h
  rcases takeV_one l e with hv | ⟨c, hv⟩
  · have HV := Lib.hid hv
    rw [hv]
    clear hv
    go_enter Tryz.func253, Tryz.ntmps253
    go_wp2_with fail
    refine (stake_any w g l e 1 H.out (by omega)).mono ?_
    rw [HV.out]
    rintro r w1 ⟨v', rfl, hk, hs, hr⟩
    obtain ⟨ad, cap, rfl, _, _⟩ := hr.shape
    have HK := Lib.hid hk; have HS := Lib.hid hs
    clear hk hs hr
    simp only [List.length_nil]
    go_wp2_with fail
    go_loopw [8] (fun y wr => y = .int .i64 0 ∧ wr = w1) (fun _ _ => 0)
    case atStart => exact ⟨rfl, rfl⟩
    case round =>
      obtain ⟨rfl, rfl⟩ := hrel
      go_wp2_with fail
      go_ret
      exact ⟨rfl, HK.out, HS.out⟩
  · have HV := Lib.hid hv
    rw [hv]
    clear hv
    go_enter Tryz.func253, Tryz.ntmps253
    go_wp2_with fail
    refine (stake_any w g l e 1 H.out (by omega)).mono ?_
    rw [HV.out]
    rintro r w1 ⟨v', rfl, hk, hs, hr⟩
    obtain ⟨ad, cap, rfl, _, _⟩ := hr.shape
    obtain ⟨b, off, rfl, _, hc⟩ := hr.at 0 (by simp)
    have HK := Lib.hid hk; have HS := Lib.hid hs; have HC := Lib.hid hc
    clear hk hs hr hc
    simp only [List.length_singleton]
    go_wp2_with fail
    go_loopw [8] (fun y wr => y = .int .i64 0 ∧ wr = w1) (fun _ _ => 0)
    case atStart => exact ⟨rfl, rfl⟩
    case round =>
      obtain ⟨rfl, rfl⟩ := hrel
      have q : wr.cell? ⟨b, off, none⟩ = some (.int .u8 (c.toNat : Int)) := by simpa [byteV, u8E] using HC.out
      go_wp2_with fail
      go_ret
      exact ⟨rfl, HK.out, HS.out⟩
end
section
open Go.RowKit

/-- What group leaves. -/
def GrpRet (w : World) (g : Nat) (l : List UInt8) (r : Ending) (w' : World) : Prop := Keep (· = g) w w' ∧
  ((∃ s, grp 0 l = some s ∧ r = .returned (.int .i64 (s : Int)) ∧ w' = w) ∨ (grp 0 l = none ∧ r = .returned (.int .i64 0) ∧ ∃ e, e ≠ 0 ∧ Src w' g [] e))
set_option maxHeartbeats 8000000 in
theorem sgroup_any (w : World) (g : Nat) (l : List UInt8) (h : Src w g l 0) (hlen : l.length < 1000000000) : Calls Tryz.prog 246 #[.pointer (some ⟨g, 0, none⟩)] w (GrpRet w g l) := by
  have H := Lib.hid h
  obtain ⟨ad, n, cap, h1, h2, _⟩ := h
  have hn : n = l.length := h2.size
  have HR := Lib.hid h2; have HN := Lib.hid hn
  have c0 : w.cell? ⟨g, 0, none⟩ = some (.slice ad n cap) := Lib.cell_of_heap h1 0
  have hn9 : n < 1000000000 := by omega
  clear h1 h2 hn hlen
  go_enter Tryz.func246, Tryz.ntmps246
  go_wp2_with fail
  clear c0
  go_loopw [13] (fun y wr => ∃ i : Nat, y = .int .i64 i ∧ i ≤ n ∧ Hid (grp i (l.drop i) = grp 0 l) ∧ wr = w) (fun y _ => n - (intOf y).toNat)
  case atStart => exact ⟨0, rfl, by omega, Lib.hid rfl, rfl⟩
  case round =>
    obtain ⟨i, rfl, hin, HE, rfl⟩ := hrel
    by_cases hlt : i < n
    · have hi : i < l.length := by have := HN.out; omega
      have hga := grp_at l i hi
      rw [HE.out] at hga
      obtain ⟨b, off, rfl, _, hc⟩ := HR.out.at i hi
      obtain ⟨N, hNN⟩ : ∃ N, N = l[i].toNat := ⟨_, rfl⟩
      have q : wr.cell? ⟨b, off + i, none⟩ = some (.int .u8 (N : Int)) := by rw [hNN]; simpa [byteV, u8E] using hc
      have hz : l[i] = 0 ↔ N = 0 := by
        rw [hNN]
        exact ⟨fun h => by rw [h]; rfl, fun h => by rw [← UInt8.toNat_inj]; exact h⟩
      rw [← hNN] at hga; simp only [hz] at hga
      have HGA := Lib.hid hga
      clear hga hc hz hNN hi
      by_cases h9 : i = 9
      · have HG := Lib.hid (show grp 0 l = none by rw [HGA.out, if_pos h9])
        subst h9
        go_wp2_with fail
        refine (sfail_any wr g l 0 4 H.out).mono ?_
        rw [if_pos rfl, if_pos rfl]
        rintro r w2 ⟨rfl, hk, hs⟩
        have HK := Lib.hid hk; have HS := Lib.hid hs
        clear hk hs
        go_wp2_with fail
        go_ret
        exact ⟨HK.out, .inr ⟨HG.out, rfl, 4, by decide, HS.out⟩⟩
      · have e9 : ((i : Int) == 9) = false := by simp; omega
        by_cases h128 : 128 ≤ N
        · have HG := Lib.hid (show grp (i + 1) (l.drop (i + 1)) = grp 0 l by rw [HGA.out, if_neg h9, if_pos h128])
          have e1 : (128 : Int) ≤ (N : Int) := by omega
          clear h128
          go_wp2_with fail
          go_roundw
          case rel => exact ⟨i + 1, by go_num, hlt, HG, trivial⟩
          case measure => simp [intOf]; omega
        · have e1 : ¬ (128 : Int) ≤ (N : Int) := by omega
          by_cases hz : N = 0 ∧ 0 < i
          · have HG := Lib.hid (show grp 0 l = none by rw [HGA.out, if_neg h9, if_neg h128, if_pos hz])
            obtain ⟨hz1, hz2⟩ := hz
            subst hz1
            have e2 : (0 : Int) < (i : Int) := by omega
            clear h128 e1
            go_wp2_with fail
            refine (sfail_any wr g l 0 4 H.out).mono ?_
            rw [if_pos rfl, if_pos rfl]
            rintro r w2 ⟨rfl, hk, hs⟩
            have HK := Lib.hid hk; have HS := Lib.hid hs
            clear hk hs
            go_wp2_with fail
            go_ret
            exact ⟨HK.out, .inr ⟨HG.out, rfl, 4, by decide, HS.out⟩⟩
          · have HG := Lib.hid (show grp 0 l = some (i + 1) by rw [HGA.out, if_neg h9, if_neg h128, if_neg hz])
            clear h128
            rcases (show ¬ N = 0 ∨ (N = 0 ∧ i = 0) by omega) with hz1 | ⟨hz1, hz2⟩
            · have e2 : ((N : Int) == 0) = false := by simp; omega
              clear hz hz1
              go_wp2_with fail
              go_ret
              exact ⟨Keep.refl _ _, .inl ⟨_, HG.out, by go_num, rfl⟩⟩
            · subst hz1 hz2
              replace q : wr.cell? ⟨b, off, none⟩ = some (.int .u8 0) := q
              clear hz
              go_wp2_with fail
              go_ret
              exact ⟨Keep.refl _ _, .inl ⟨_, HG.out, rfl, rfl⟩⟩
    · obtain rfl : i = n := by omega
      have HG := Lib.hid (show grp 0 l = none by rw [← HE.out]; exact grp_end l i (by rw [HN.out]; exact Nat.le_refl _))
      go_wp2_with fail
      refine (sfail_any wr g l 0 3 H.out).mono ?_
      rw [if_pos rfl, if_pos rfl]
      rintro r w2 ⟨rfl, hk, hs⟩
      have HK := Lib.hid hk; have HS := Lib.hid hs
      clear hk hs
      go_wp2_with fail
      go_ret
      exact ⟨HK.out, .inr ⟨HG.out, rfl, 3, by decide, HS.out⟩⟩
end
section
open Go.RowKit

theorem i64_or_nat (a b : Nat) (ha : a < 9223372036854775808) (hb : b < 9223372036854775808) : bits .or .i64 (a : Int) (b : Int) = ((a ||| b : Nat) : Int) := by
  have hx : a ||| b < 2 ^ 63 := Nat.or_lt_two_pow (by omega) (by omega)
  show IntKind.i64.wrap ((BitVec.ofInt 64 (a : Int) ||| BitVec.ofInt 64 (b : Int)).toNat : Int) = _
  rw [BitVec.toNat_or, ofInt_u64 a (by omega), ofInt_u64 b (by omega)]
  exact IntWalk.i64_in _ (by omega)
theorem or_grp (a d k : Nat) (ha : a < 128 ^ k) (hd : d < 128) (hk : k ≤ 8) : bits .or .i64 (a : Int) (IntKind.i64.wrap ((d : Int) * 2 ^ (7 * k))) = ((a + d * 128 ^ k : Nat) : Int) := by
  have h2 : (2 : Nat) ^ (7 * k) = 128 ^ k := by rw [Nat.pow_mul]
  have hp : 128 ^ k ≤ 128 ^ 8 := Nat.pow_le_pow_right (by omega) hk
  have h8 : (128 : Nat) ^ 8 = 72057594037927936 := by decide
  have hm : d * 128 ^ k ≤ 127 * 128 ^ k := Nat.mul_le_mul_right _ (by omega)
  have e1 : ((d : Int) * 2 ^ (7 * k)) = ((d * 128 ^ k : Nat) : Int) := by rw [← h2]; push_cast; rfl
  have e2 : IntKind.i64.wrap ((d * 128 ^ k : Nat) : Int) = ((d * 128 ^ k : Nat) : Int) := IntWalk.i64_in _ (by omega)
  rw [e1, e2, i64_or_nat _ _ (by omega) (by omega), Nat.or_comm]
  have h3 : d * 128 ^ k ||| a = d * 128 ^ k + a := by
    rw [← h2] at ha ⊢
    rw [Nat.mul_comm]
    exact (Nat.two_pow_add_eq_or_of_lt ha d).symm
  rw [h3, Nat.add_comm]
end
section
open Go.RowKit

/-- A source: what is left; none: something went wrong. -/
def SrcO (w : World) (g : Nat) : Option (List UInt8) → Prop
  | some l => Src w g l 0
  | none => ∃ l e, e ≠ 0 ∧ Src w g l e
/-- What Var tells and leaves. -/
def varO : Option (List UInt8) → Nat × Option (List UInt8)
  | none => (0, none)
  | some l => match varR l with
    | some (n, r) => (n, some r)
    | none => (0, none)
def SrcORet (w : World) (g : Nat) (o : Option (List UInt8)) (v : Value) (e : Ending) (w' : World) : Prop := e = .returned v ∧ Keep (· = g) w w' ∧ SrcO w' g o
theorem and_127 (c : Nat) (hc : c < 256) : bits BinOp.and IntKind.u8 (c : Int) 127 = ((c % 128 : Nat) : Int) := by
  rw [show (127 : Int) = ((127 : Nat) : Int) from rfl, u8_and_nat _ _ hc (by omega)]
  congr 1
  exact Nat.and_two_pow_sub_one_eq_mod c 7
set_option maxHeartbeats 8000000 in
set_option maxRecDepth 100000 in
theorem svar_any (w : World) (g : Nat) (o : Option (List UInt8)) (mo : Int) (hmo : 9223372036854775807 ≤ mo) (h : SrcO w g o) (hlen : ∀ l, o = some l → l.length < 1000000000) : Calls Tryz.prog 149 #[.pointer (some ⟨g, 0, none⟩), .int .i64 mo] w (SrcORet w g (varO o).2 (.int .i64 ((varO o).1 : Int))) := by
  have HMO := Lib.hid hmo
  clear hmo
  cases o with
  | none =>
    obtain ⟨l, e, he, hs⟩ := h
    have HS := Lib.hid hs; have HE := Lib.hid he
    clear hs he hlen
    show Calls _ _ _ _ (SrcORet w g none (.int .i64 0))
    go_enter Tryz.func149, Tryz.ntmps149
    go_wp2_with fail
    refine (sok_any w g l e HS.out).mono ?_
    rintro r w1 ⟨rfl, rfl⟩
    rw [decide_eq_false HE.out]
    go_wp2_with fail
    go_ret
    exact ⟨rfl, Keep.refl _ _, l, e, HE.out, HS.out⟩
  | some l =>
    have HS := Lib.hid (show Src w g l 0 from h)
    have HL := Lib.hid (hlen l rfl)
    clear h hlen
    obtain ⟨R, hR⟩ : ∃ R, R = varO (some l) := ⟨_, rfl⟩
    rw [← hR]
    have HR := Lib.hid hR
    clear hR
    go_enter Tryz.func149, Tryz.ntmps149
    go_wp2_with fail
    refine (sok_any w g l 0 HS.out).mono ?_
    rintro r w1 ⟨rfl, rfl⟩
    rw [decide_eq_true rfl]
    go_wp2_with fail
    refine (sgroup_any w1 g l HS.out HL.out).mono ?_
    rintro r w2 ⟨hk, ⟨s, hg, rfl, rfl⟩ | ⟨hg, rfl, e, he, hs⟩⟩
    · obtain ⟨hs0, hs1, hs2⟩ := grp_some l 0 s hg
      replace hs2 := hs2 (by omega)
      rw [Nat.zero_add] at hs1
      have HV := Lib.hid (show R = (gval (l.take s), some (l.drop s)) by rw [HR.out]; unfold varO varR; simp only [hg, Option.map_some])
      obtain ⟨ad, m, cap, h1, h2, _⟩ := HS.out
      have c0 : w2.cell? ⟨g, 0, none⟩ = some (.slice ad m cap) := Lib.cell_of_heap h1 0
      obtain ⟨vu, hu1, hu2, _⟩ := h2.upto Tryz.underlying100 (sz := 1) Tryz.sizeU8 s hs1
      obtain ⟨adu, capu, rfl, _, _⟩ := hu2.shape
      obtain ⟨S, hS⟩ : ∃ S, S = (l.take s).length := ⟨_, rfl⟩
      have hSs : S = s := by rw [hS, List.length_take]; omega
      rw [← hS] at hu1 hu2
      subst hSs
      have HU := Lib.hid hu2; have HS1 := Lib.hid hs1
      have hz : ((S : Int) == 0) = false := by simp; omega
      clear hk hg h1 h2 hu2 hS hs0 hs1
      go_wp2_with fail
      clear c0
      go_loopw [6, 23] (fun nv y wr => ∃ i : Nat, nv = .int .i64 (gval (l.take i) : Int) ∧ y = .int .i64 i ∧ i ≤ S ∧ wr = w2) (fun _ y _ => S - (intOf y).toNat)
      case atStart => exact ⟨0, rfl, rfl, by omega, rfl⟩
      case round =>
        obtain ⟨i, rfl, rfl, hin, rfl⟩ := hrel
        by_cases hlt : i < S
        · have hi : i < l.length := by have := HS1.out; omega
          obtain ⟨b, off, rfl, _, hc⟩ := HU.out.at i (by rw [List.length_take]; omega)
          have hgt := gval_take l i hi
          have hlt2 := gval_take_lt l i
          obtain ⟨N, hN⟩ : ∃ N, N = l[i].toNat := ⟨_, rfl⟩
          have hN2 : N < 256 := by rw [hN]; exact l[i].toNat_lt
          have q : wr.cell? ⟨b, off + i, none⟩ = some (.int .u8 (N : Int)) := by rw [hN]; simpa [byteV, u8E] using hc
          rw [← hN] at hgt
          obtain ⟨G, hG⟩ : ∃ G, G = gval (l.take i) := ⟨_, rfl⟩
          rw [← hG] at hgt hlt2 ⊢
          have hand := and_127 N hN2
          have hor : bits BinOp.or IntKind.i64 (G : Int) (wrap64 ((N : Int) % 128 * 2 ^ (7 * i))) = ((G + N % 128 * 128 ^ i : Nat) : Int) := by
            rw [show ((N : Int) % 128) = ((N % 128 : Nat) : Int) by omega]
            have h := or_grp G (N % 128) i hlt2 (Nat.mod_lt _ (by decide)) (by omega)
            rw [IntWalk.i64_left] at h
            exact h
          have HOR := Lib.hid hor; have HGT := Lib.hid hgt
          clear hor hgt hlt2 hc hN hG hi
          go_wp2_with fail
          go_roundw
          case rel => exact ⟨i + 1, by rw [HOR.out, HGT.out], by go_num, hlt, trivial⟩
          case measure => simp [intOf]; omega
        · obtain rfl : i = S := by omega
          obtain ⟨G, hG⟩ : ∃ G, G = gval (l.take i) := ⟨_, rfl⟩
          have hlt2 := gval_take_lt l i
          have hp : (128 : Nat) ^ i ≤ 128 ^ 9 := Nat.pow_le_pow_right (by omega) hs2
          have h9 : (128 : Nat) ^ 9 = 9223372036854775808 := by decide
          rw [← hG] at HV hlt2 ⊢
          have hgm : (mo < (G : Int)) = False := eq_false (by have := HMO.out; omega)
          clear hp h9 hlt2 hG
          go_wp2_with fail
          refine (stake_any wr g l 0 i HS.out (by omega)).mono ?_
          rintro r w3 ⟨v3, rfl, hk3, hs3, _⟩
          rw [show takeS l 0 i = (l.drop i, 0) by unfold takeS; rw [if_neg (by decide), if_neg (by have := HS1.out; omega)]] at hs3
          have HK3 := Lib.hid hk3; have HT3 := Lib.hid hs3
          clear hk3 hs3
          go_wp2_with fail
          go_ret
          exact ⟨by rw [HV.out]; rfl, HK3.out, by rw [HV.out]; exact HT3.out⟩
    · have HV := Lib.hid (show R = (0, none) by rw [HR.out]; unfold varO varR; simp only [hg, Option.map_none])
      have HK := Lib.hid hk; have HE := Lib.hid he; have HT := Lib.hid hs
      clear hg hk he hs
      go_wp2_with fail
      go_ret
      exact ⟨by rw [HV.out]; rfl, HK.out, by rw [HV.out]; exact ⟨[], e, HE.out, HT.out⟩⟩
end
end Go.Proofs.YtmclmccgghnglaaGreat
