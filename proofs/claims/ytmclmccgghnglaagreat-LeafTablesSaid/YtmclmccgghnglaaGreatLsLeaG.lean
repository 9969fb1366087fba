/- Groups of rows, one for each earner (code). No condition. -/
import Derived.Test.YtmclmccgghnglaaGreatLsLeaF
namespace Go.Proofs.YtmclmccgghnglaaGreat
open Go.RowKit

/-- The first place where p holds; none: less than nought. -/
def fidx {α : Type} (p : α → Bool) (l : List α) : Int := match l.findIdx? p with
  | some i => (i : Int)
  | none => -1
theorem fidx_at {α : Type} {p : α → Bool} {l : List α} {i : Nat} (hi : i < l.length) (h1 : ∀ j (h : j < l.length), j < i → p l[j] = false) (h2 : p l[i] = true) : fidx p l = (i : Int) := by
  unfold fidx
  rw [show l.findIdx? p = some i from List.findIdx?_eq_some_iff_getElem.2 ⟨hi, h2, fun j hj => by rw [h1 j (by omega) hj]; decide⟩]
theorem fidx_none {α : Type} {p : α → Bool} {l : List α} (h : ∀ j (h : j < l.length), p l[j] = false) : fidx p l = -1 := by
  unfold fidx
  rw [show l.findIdx? p = none from List.findIdx?_eq_none_iff.2 fun x hx => by obtain ⟨j, hj, rfl⟩ := List.mem_iff_getElem.1 hx; exact h j hj]
/-- A slice as a value: where, how long, how much room. -/
abbrev SlV := Option Addr × Nat × Nat
def slV (s : SlV) : Value := .slice s.1 s.2.1 s.2.2
/-- A group as it lies: its earner, and its rows' slice. -/
def gE (g : Int × SlV) : List Value := [.int .i64 g.1, slV g.2]
theorem gE_one (g : Int × SlV) : ∀ u ∈ gE g, u.oneCell' = true := by
  intro u hu
  simp only [gE, slV, List.mem_cons, List.not_mem_nil, or_false] at hu
  rcases hu with rfl | rfl <;> rfl
theorem gE_len (g : Int × SlV) : (gE g).length = 2 := rfl
theorem Rd.grp {w : World} {ad : Option Addr} {n cap : Nat} {l : List (Int × SlV)} (h : Rd w gE 2 (.slice ad n cap) l) (i : Nat) (hi : i < l.length) :
    ∃ b off, ad = some ⟨b, off, none⟩ ∧ b < w.heap.size ∧ w.cell? ⟨b, off + i * 2, none⟩ = some (.int .i64 l[i].1) ∧ w.cell? ⟨b, off + i * 2 + 1, none⟩ = some (.slice l[i].2.1 l[i].2.2.1 l[i].2.2.2) := by
  obtain ⟨ad', cap', he, h1, h2, h3⟩ := h
  cases he
  obtain ⟨b, off, rfl, hb, hc⟩ := h3 (by intro hl; subst hl; simp at hi)
  exact ⟨b, off, rfl, hb, hc i hi 0 (by omega), hc i hi 1 (by omega)⟩

set_option maxHeartbeats 1000000 in
theorem open1_any (t : Int) (A : Nat) (r : LRow) (w : World) (hA : w.heap[A]? = some (.cells #[.int .i64 t] 3 (0, 0))) :
    Calls Tryz.prog 191 #[.agg #[.int .i64 r.e, .int .i64 r.t, .int .u64 (uw0 r.m), .int .u64 (uw1 r.m), .int .u64 (uw2 r.m), .int .u64 (uw3 r.m)], .pointer (some ⟨A, 0, none⟩)] w (Ret w (.bool (decide (r.t = t)))) := by
  have hne : A ≠ w.heap.size := Nat.ne_of_lt (heap_lt hA)
  have c0 : (w.alloc (.cells #[.int .i64 r.e, .int .i64 r.t, .int .u64 (uw0 r.m), .int .u64 (uw1 r.m), .int .u64 (uw2 r.m), .int .u64 (uw3 r.m)] 127)).cell? ⟨A, 0, none⟩ = some (.int .i64 t) := Lib.cell_of_heap (below_at2 ((Below.refl w.heap.size w).alloc (Nat.le_refl _) _) hA) 0
  obtain ⟨q, hq⟩ : ∃ q, q = decide (r.t = t) := ⟨_, rfl⟩
  have he : (r.t == t) = q := by rw [hq]; simp [BEq.beq]
  rw [← hq]
  clear hq
  go_enter Tryz.func191, Tryz.ntmps191
  go_wp2_with fail
  go_ret
  exact ⟨rfl, (Below.refl _ _).alloc (Nat.le_refl _) _⟩
set_option maxHeartbeats 1000000 in
theorem claim1_any (t : Int) (A : Nat) (x : Int) (a : Option Addr) (n c : Nat) (w : World) (hA : w.heap[A]? = some (.cells #[.int .i64 t] 3 (0, 0))) :
    Calls Tryz.prog 89 #[.agg #[.int .i64 x, .slice a n c], .pointer (some ⟨A, 0, none⟩)] w (Ret w (.bool (decide (x = t)))) := by
  have c0 : (w.alloc (.cells #[.int .i64 x, .slice a n c] 157)).cell? ⟨A, 0, none⟩ = some (.int .i64 t) := Lib.cell_of_heap (below_at2 ((Below.refl w.heap.size w).alloc (Nat.le_refl _) _) hA) 0
  obtain ⟨q, hq⟩ : ∃ q, q = decide (x = t) := ⟨_, rfl⟩
  have he : (x == t) = q := by rw [hq]; simp [BEq.beq]
  rw [← hq]
  clear hq hA
  go_enter Tryz.func89, Tryz.ntmps89
  go_wp2_with fail
  go_ret
  exact ⟨rfl, (Below.refl _ _).alloc (Nat.le_refl _) _⟩
set_option maxHeartbeats 1000000 in
theorem groups1_any (A : Nat) (r h0 : LRow) (tl : List LRow) (v : Value) (w : World) (hA : w.heap[A]? = some (.cells #[v] 22 (0, 0))) (hv : Rd w rowE 6 v (h0 :: tl)) :
    Calls Tryz.prog 282 #[.agg #[.int .i64 r.e, .int .i64 r.t, .int .u64 (uw0 r.m), .int .u64 (uw1 r.m), .int .u64 (uw2 r.m), .int .u64 (uw3 r.m)], .pointer (some ⟨A, 0, none⟩)] w (Ret w (.bool (decide (r.e ≠ h0.e)))) := by
  obtain ⟨ad, cap, rfl, z1, z2⟩ := hv.shape
  obtain ⟨b, off, rfl, hb, c1, _⟩ := hv.six 0 (by simp)
  obtain ⟨w1, hw1⟩ : ∃ w1, w1 = w.alloc (.cells #[.int .i64 r.e, .int .i64 r.t, .int .u64 (uw0 r.m), .int .u64 (uw1 r.m), .int .u64 (uw2 r.m), .int .u64 (uw3 r.m)] 127) := ⟨_, rfl⟩
  obtain ⟨X, hX⟩ : ∃ X, X = w.heap.size := ⟨_, rfl⟩
  have hbw : Below w.heap.size w w1 := by rw [hw1]; exact (Below.refl _ _).alloc (Nat.le_refl _) _
  obtain ⟨q, hq⟩ : ∃ q, q = decide (r.e ≠ h0.e) := ⟨_, rfl⟩
  have he : (r.e != h0.e) = q := by rw [hq]; simp [bne, BEq.beq]
  rw [← hq]
  have c2 : w1.cell? ⟨A, 0, none⟩ = some (.slice (some ⟨b, off, none⟩) (h0 :: tl).length cap) := Lib.cell_of_heap (below_at2 hbw hA) 0
  have c3 : w1.cell? ⟨b, off, none⟩ = some (.int .i64 h0.e) := by
    rw [(bcell hbw).1 b off hb]; simpa using c1
  have c4 : w1.cell? ⟨X, 0, none⟩ = some (.int .i64 r.e) := Lib.cell_of_heap (show w1.heap[X]? = some (.cells #[.int .i64 r.e, .int .i64 r.t, .int .u64 (uw0 r.m), .int .u64 (uw1 r.m), .int .u64 (uw2 r.m), .int .u64 (uw3 r.m)] 127 (0, 0)) by rw [hw1, hX]; exact heap_alloc_new w _) 0
  have hlen : 0 < (h0 :: tl).length := by simp
  obtain ⟨N, hN⟩ : ∃ N, N = (h0 :: tl).length := ⟨_, rfl⟩
  rw [← hN] at c2 hlen
  have hN0 : (0 : Int) < (N : Int) := by omega
  have HB := Lib.hid hbw
  clear hq hA hv z1 c1 hb hbw hN
  go_enter Tryz.func282, Tryz.ntmps282
  go_wp2_with fail
  rw [← hw1, ← hX]
  clear hw1 hX
  go_quiet (fail)
  go_wp2_with fail
  go_ret
  exact ⟨rfl, below_drewN HB.out _⟩

set_option maxHeartbeats 4000000 in
set_option maxRecDepth 100000 in
theorem idxO_any (w : World) (A : Nat) (p : LRow → Bool) (v : Value) (l : List (LRow)) (hr : Rd w rowE 6 v l) (hlen : l.length < 1000000000)
    (hcl : ∀ W, Below w.heap.size w W → ∀ x, x ∈ l → Calls Tryz.prog 191 #[.agg #[.int .i64 x.e, .int .i64 x.t, .int .u64 (uw0 x.m), .int .u64 (uw1 x.m), .int .u64 (uw2 x.m), .int .u64 (uw3 x.m)], .pointer (some ⟨A, 0, none⟩)] W (Ret W (.bool (p x)))) :
    Calls Tryz.prog 190 #[v, .func (.func 191) #[] #[.pointer (some ⟨A, 0, none⟩)]] w (Ret w (.int .i64 (fidx p l))) := by
  obtain ⟨ad, cap, rfl, z1, z2⟩ := hr.shape
  obtain ⟨q, hq⟩ : ∃ q, q = fidx p l := ⟨_, rfl⟩
  rw [← hq]
  obtain ⟨n, hn⟩ : ∃ n, n = l.length := ⟨_, rfl⟩
  rw [← hn] at hr hlen ⊢
  have HR := Lib.hid hr; have HC := Lib.hid hcl; have HQ := Lib.hid hq; have HN := Lib.hid hn
  clear hr hcl hq hn z1
  go_enter Tryz.func190, Tryz.ntmps190
  go_wp2_with fail
  go_loopw [8] (fun x wr => ∃ i : Nat, x = .int .i64 i ∧ i ≤ n ∧ Hid (∀ j (h : j < l.length), j < i → p l[j] = false) ∧ Hid (Below w.heap.size w wr)) (fun x _ => n - (intOf x).toNat)
  case atStart => exact ⟨0, rfl, by omega, Lib.hid fun j h hj => by omega, Lib.hid (Below.refl _ _)⟩
  case round =>
    obtain ⟨i, rfl, hin, HP, HB⟩ := hrel
    by_cases hlt : i < n
    · have hi : i < l.length := by have := HN.out; omega
      obtain ⟨b, off, rfl, _, c0, c1, c2, c3, c4, c5⟩ := (HR.out.later HB.out).six i hi
      have hc := HC.out wr HB.out l[i] (List.getElem_mem hi)
      have hp0 : p l[i] = false → ∀ j (h : j < l.length), j < i + 1 → p l[j] = false := fun h0 j h hj => by
        rcases (show j < i ∨ j = i by omega) with h1 | rfl
        · exact HP.out j h h1
        · exact h0
      have hp1 : p l[i] = true → q = (i : Int) := fun h1 => by rw [HQ.out]; exact fidx_at hi HP.out h1
      obtain ⟨x, hx⟩ : ∃ x, x = l[i] := ⟨_, rfl⟩
      rw [← hx] at c0 c1 c2 c3 c4 c5 hc hp0 hp1
      obtain ⟨z, hz⟩ : ∃ z, z = p x := ⟨_, rfl⟩
      rw [← hz] at hc hp0 hp1
      have HCC := Lib.hid hc; have HP0 := Lib.hid hp0; have HP1 := Lib.hid hp1
      clear hc hx hz hi hp0 hp1
      go_wp2_with fail
      refine HCC.out.mono ?_
      rintro e w2 ⟨rfl, hb⟩
      have HB2 := Lib.hid (HB.out.trans (hb.mono HB.out.size))
      clear hb HB c0 c1 c2 c3 c4 c5
      cases z with
      | false =>
        have HP2 := Lib.hid (HP0.out rfl)
        go_wp2_with fail
        go_roundw
        case rel => exact ⟨i + 1, by go_num, hlt, HP2, HB2⟩
        case measure => simp [intOf]; omega
      | true =>
        have HE := Lib.hid (HP1.out rfl)
        go_wp2_with fail
        go_ret
        exact ⟨by rw [HE.out]; rfl, HB2.out⟩
    · obtain rfl : i = n := by omega
      have HE := Lib.hid (show q = -1 by rw [HQ.out]; exact fidx_none fun j h => HP.out j h (by rw [HN.out]; exact h))
      go_wp2_with fail
      go_ret
      exact ⟨by rw [HE.out]; rfl, HB.out⟩

set_option maxHeartbeats 4000000 in
set_option maxRecDepth 100000 in
theorem idxG_any (w : World) (A : Nat) (p : LRow → Bool) (v : Value) (l : List (LRow)) (hr : Rd w rowE 6 v l) (hlen : l.length < 1000000000)
    (hcl : ∀ W, Below w.heap.size w W → ∀ x, x ∈ l → Calls Tryz.prog 282 #[.agg #[.int .i64 x.e, .int .i64 x.t, .int .u64 (uw0 x.m), .int .u64 (uw1 x.m), .int .u64 (uw2 x.m), .int .u64 (uw3 x.m)], .pointer (some ⟨A, 0, none⟩)] W (Ret W (.bool (p x)))) :
    Calls Tryz.prog 190 #[v, .func (.func 282) #[] #[.pointer (some ⟨A, 0, none⟩)]] w (Ret w (.int .i64 (fidx p l))) := by
  obtain ⟨ad, cap, rfl, z1, z2⟩ := hr.shape
  obtain ⟨q, hq⟩ : ∃ q, q = fidx p l := ⟨_, rfl⟩
  rw [← hq]
  obtain ⟨n, hn⟩ : ∃ n, n = l.length := ⟨_, rfl⟩
  rw [← hn] at hr hlen ⊢
  have HR := Lib.hid hr; have HC := Lib.hid hcl; have HQ := Lib.hid hq; have HN := Lib.hid hn
  clear hr hcl hq hn z1
  go_enter Tryz.func190, Tryz.ntmps190
  go_wp2_with fail
  go_loopw [8] (fun x wr => ∃ i : Nat, x = .int .i64 i ∧ i ≤ n ∧ Hid (∀ j (h : j < l.length), j < i → p l[j] = false) ∧ Hid (Below w.heap.size w wr)) (fun x _ => n - (intOf x).toNat)
  case atStart => exact ⟨0, rfl, by omega, Lib.hid fun j h hj => by omega, Lib.hid (Below.refl _ _)⟩
  case round =>
    obtain ⟨i, rfl, hin, HP, HB⟩ := hrel
    by_cases hlt : i < n
    · have hi : i < l.length := by have := HN.out; omega
      obtain ⟨b, off, rfl, _, c0, c1, c2, c3, c4, c5⟩ := (HR.out.later HB.out).six i hi
      have hc := HC.out wr HB.out l[i] (List.getElem_mem hi)
      have hp0 : p l[i] = false → ∀ j (h : j < l.length), j < i + 1 → p l[j] = false := fun h0 j h hj => by
        rcases (show j < i ∨ j = i by omega) with h1 | rfl
        · exact HP.out j h h1
        · exact h0
      have hp1 : p l[i] = true → q = (i : Int) := fun h1 => by rw [HQ.out]; exact fidx_at hi HP.out h1
      obtain ⟨x, hx⟩ : ∃ x, x = l[i] := ⟨_, rfl⟩
      rw [← hx] at c0 c1 c2 c3 c4 c5 hc hp0 hp1
      obtain ⟨z, hz⟩ : ∃ z, z = p x := ⟨_, rfl⟩
      rw [← hz] at hc hp0 hp1
      have HCC := Lib.hid hc; have HP0 := Lib.hid hp0; have HP1 := Lib.hid hp1
      clear hc hx hz hi hp0 hp1
      go_wp2_with fail
      refine HCC.out.mono ?_
      rintro e w2 ⟨rfl, hb⟩
      have HB2 := Lib.hid (HB.out.trans (hb.mono HB.out.size))
      clear hb HB c0 c1 c2 c3 c4 c5
      cases z with
      | false =>
        have HP2 := Lib.hid (HP0.out rfl)
        go_wp2_with fail
        go_roundw
        case rel => exact ⟨i + 1, by go_num, hlt, HP2, HB2⟩
        case measure => simp [intOf]; omega
      | true =>
        have HE := Lib.hid (HP1.out rfl)
        go_wp2_with fail
        go_ret
        exact ⟨by rw [HE.out]; rfl, HB2.out⟩
    · obtain rfl : i = n := by omega
      have HE := Lib.hid (show q = -1 by rw [HQ.out]; exact fidx_none fun j h => HP.out j h (by rw [HN.out]; exact h))
      go_wp2_with fail
      go_ret
      exact ⟨by rw [HE.out]; rfl, HB.out⟩

set_option maxHeartbeats 4000000 in
set_option maxRecDepth 100000 in
theorem idxC_any (w : World) (A : Nat) (p : Int × SlV → Bool) (v : Value) (l : List (Int × SlV)) (hr : Rd w gE 2 v l) (hlen : l.length < 1000000000)
    (hcl : ∀ W, Below w.heap.size w W → ∀ x, x ∈ l → Calls Tryz.prog 89 #[.agg #[.int .i64 x.1, .slice x.2.1 x.2.2.1 x.2.2.2], .pointer (some ⟨A, 0, none⟩)] W (Ret W (.bool (p x)))) :
    Calls Tryz.prog 88 #[v, .func (.func 89) #[] #[.pointer (some ⟨A, 0, none⟩)]] w (Ret w (.int .i64 (fidx p l))) := by
  obtain ⟨ad, cap, rfl, z1, z2⟩ := hr.shape
  obtain ⟨q, hq⟩ : ∃ q, q = fidx p l := ⟨_, rfl⟩
  rw [← hq]
  obtain ⟨n, hn⟩ : ∃ n, n = l.length := ⟨_, rfl⟩
  rw [← hn] at hr hlen ⊢
  have HR := Lib.hid hr; have HC := Lib.hid hcl; have HQ := Lib.hid hq; have HN := Lib.hid hn
  clear hr hcl hq hn z1
  go_enter Tryz.func88, Tryz.ntmps88
  go_wp2_with fail
  go_loopw [8] (fun x wr => ∃ i : Nat, x = .int .i64 i ∧ i ≤ n ∧ Hid (∀ j (h : j < l.length), j < i → p l[j] = false) ∧ Hid (Below w.heap.size w wr)) (fun x _ => n - (intOf x).toNat)
  case atStart => exact ⟨0, rfl, by omega, Lib.hid fun j h hj => by omega, Lib.hid (Below.refl _ _)⟩
  case round =>
    obtain ⟨i, rfl, hin, HP, HB⟩ := hrel
    by_cases hlt : i < n
    · have hi : i < l.length := by have := HN.out; omega
      obtain ⟨b, off, rfl, _, c0, c1⟩ := (HR.out.later HB.out).grp i hi
      have hc := HC.out wr HB.out l[i] (List.getElem_mem hi)
      have hp0 : p l[i] = false → ∀ j (h : j < l.length), j < i + 1 → p l[j] = false := fun h0 j h hj => by
        rcases (show j < i ∨ j = i by omega) with h1 | rfl
        · exact HP.out j h h1
        · exact h0
      have hp1 : p l[i] = true → q = (i : Int) := fun h1 => by rw [HQ.out]; exact fidx_at hi HP.out h1
      obtain ⟨x, hx⟩ : ∃ x, x = l[i] := ⟨_, rfl⟩
      rw [← hx] at c0 c1 hc hp0 hp1
      obtain ⟨z, hz⟩ : ∃ z, z = p x := ⟨_, rfl⟩
      rw [← hz] at hc hp0 hp1
      have HCC := Lib.hid hc; have HP0 := Lib.hid hp0; have HP1 := Lib.hid hp1
      clear hc hx hz hi hp0 hp1
      go_wp2_with fail
      refine HCC.out.mono ?_
      rintro e w2 ⟨rfl, hb⟩
      have HB2 := Lib.hid (HB.out.trans (hb.mono HB.out.size))
      clear hb HB c0 c1
      cases z with
      | false =>
        have HP2 := Lib.hid (HP0.out rfl)
        go_wp2_with fail
        go_roundw
        case rel => exact ⟨i + 1, by go_num, hlt, HP2, HB2⟩
        case measure => simp [intOf]; omega
      | true =>
        have HE := Lib.hid (HP1.out rfl)
        go_wp2_with fail
        go_ret
        exact ⟨by rw [HE.out]; rfl, HB2.out⟩
    · obtain rfl : i = n := by omega
      have HE := Lib.hid (show q = -1 by rw [HQ.out]; exact fidx_none fun j h => HP.out j h (by rw [HN.out]; exact h))
      go_wp2_with fail
      go_ret
      exact ⟨by rw [HE.out]; rfl, HB.out⟩
end Go.Proofs.YtmclmccgghnglaaGreat
