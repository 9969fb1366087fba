/- delay's and the document's Settle, Of, bit, row, Get: their contracts. -/
import Derived.Test.YtohedljdkfmkdaaCelA
import Derived.Deep.QuietTactic
import Derived.BigQuiet
import Derived.Great.BuildSlice
namespace Go.Proofs.Ytohedljdkfmkdaa
open Go.RowKit

/-- A number that changes behind a while. -/
structure DV where
  has : Bool
  now : Int
  next : Int
  at_ : Int
  more : Bool
def DV.zero : DV := ⟨false, 0, 0, 0, false⟩
def dvC (v : DV) : Array Value := #[.bool v.has, .int .i64 v.now, .int .i64 v.next, .int .i64 v.at_, .bool v.more]
def settleD (v : DV) (b : Int) : DV := if v.more = true ∧ v.at_ ≤ b then ⟨true, v.next, 0, 0, false⟩ else v
def bitD (b : Bool) : Int := if b then 1 else 0
def rowD (v : DV) : List Int := [bitD v.has, v.now, bitD v.more, v.next, v.at_]
def readD : List Int → DV
  | [a, b, c, d, e] => ⟨a == 1, b, d, e, c == 1⟩
  | _ => DV.zero
theorem settleD_no {v : DV} {b : Int} (h : v.more = false) : settleD v b = v := by unfold settleD; rw [if_neg (by rw [h]; simp)]
theorem settleD_wait {v : DV} {b : Int} (h : b < v.at_) : settleD v b = v := by unfold settleD; rw [if_neg (by omega)]
theorem settleD_do {v : DV} {b : Int} (h : v.more = true) (h2 : v.at_ ≤ b) : settleD v b = ⟨true, v.next, 0, 0, false⟩ := by unfold settleD; rw [if_pos ⟨h, h2⟩]
theorem readD_len {l : List Int} (h : ¬ l.length = 5) : readD l = DV.zero := by
  unfold readD
  split
  · exact absurd rfl h
  · rfl

theorem Try.zeroDDV (w : World) : (zeroValue 53).run Try.prog w = .ok (.agg #[.bool false, .int .i64 0, .int .i64 0, .int .i64 0, .bool false]) w := by kernel_rfl
theorem Try.sizeDDV : (Try.prog.info? 53).map (·.size) = some 5 := by kernel_rfl
theorem dbit_any (b : Bool) (w : World) : Calls Try.prog 114 #[.bool b] w fun e w' => e = .returned (.int .i64 (bitD b)) ∧ w = w' := by
  cases b <;>
  · go_enter Try.func114, Try.ntmps114
    go_wp2
    go_ret
    exact ⟨rfl, rfl⟩

theorem Try.zeroRDV (w : World) : (zeroValue 64).run Try.prog w = .ok (.agg #[.bool false, .int .i64 0, .int .i64 0, .int .i64 0, .bool false]) w := by kernel_rfl
theorem Try.sizeRDV : (Try.prog.info? 64).map (·.size) = some 5 := by kernel_rfl
theorem rbit_any (b : Bool) (w : World) : Calls Try.prog 84 #[.bool b] w fun e w' => e = .returned (.int .i64 (bitD b)) ∧ w = w' := by
  cases b <;>
  · go_enter Try.func84, Try.ntmps84
    go_wp2
    go_ret
    exact ⟨rfl, rfl⟩

set_option maxHeartbeats 1000000 in
theorem dsettled_any (v : DV) (b : Int) (w : World) : Calls Try.prog 86 #[.agg (dvC v), .int .i64 b] w (Ret w (.agg (dvC (settleD v b)))) := by
  obtain ⟨h, n, x, t, m⟩ := v
  show Calls Try.prog 86 #[.agg #[.bool h, .int .i64 n, .int .i64 x, .int .i64 t, .bool m], .int .i64 b] w _
  cases m with
  | false =>
    rw [settleD_no rfl]
    go_enter Try.func86, Try.ntmps86
    go_wp2_with fail
    exact bodyPost_ret (results_cell_row rfl _ _ _ _ _ _ _ rfl (heap_alloc2_new _ _ _) Try.underlying53 rfl Try.sizeDDV) rfl ⟨rfl, ((Below.refl _ _).alloc (Nat.le_refl _) _).alloc (by simp) _⟩
  | true =>
  by_cases hb : t ≤ b
  · rw [settleD_do rfl hb]
    go_enter Try.func86, Try.ntmps86
    go_wp2_with fail
    exact bodyPost_ret (results_cell_row rfl _ _ _ _ _ _ _ rfl (heap_alloc2_new _ _ _) Try.underlying53 rfl Try.sizeDDV) rfl ⟨rfl, ((Below.refl _ _).alloc (Nat.le_refl _) _).alloc (by simp) _⟩
  · have hb2 : b < t := by omega
    rw [settleD_wait hb2]
    go_enter Try.func86, Try.ntmps86
    go_wp2_with fail
    exact bodyPost_ret (results_cell_row rfl _ _ _ _ _ _ _ rfl (heap_alloc2_new _ _ _) Try.underlying53 rfl Try.sizeDDV) rfl ⟨rfl, ((Below.refl _ _).alloc (Nat.le_refl _) _).alloc (by simp) _⟩

set_option maxHeartbeats 1000000 in
theorem rsettle_any (v : DV) (b : Int) (w : World) : Calls Try.prog 36 #[.agg (dvC v), .int .i64 b] w (Ret w (.agg (dvC (settleD v b)))) := by
  obtain ⟨h, n, x, t, m⟩ := v
  show Calls Try.prog 36 #[.agg #[.bool h, .int .i64 n, .int .i64 x, .int .i64 t, .bool m], .int .i64 b] w _
  cases m with
  | false =>
    rw [settleD_no rfl]
    go_enter Try.func36, Try.ntmps36
    go_wp2_with fail
    exact bodyPost_ret (results_cell_row rfl _ _ _ _ _ _ _ rfl (heap_alloc2_new _ _ _) Try.underlying64 rfl Try.sizeRDV) rfl ⟨rfl, ((Below.refl _ _).alloc (Nat.le_refl _) _).alloc (by simp) _⟩
  | true =>
  by_cases hb : t ≤ b
  · rw [settleD_do rfl hb]
    go_enter Try.func36, Try.ntmps36
    go_wp2_with fail
    exact bodyPost_ret (results_cell_row rfl _ _ _ _ _ _ _ rfl (heap_alloc2_new _ _ _) Try.underlying64 rfl Try.sizeRDV) rfl ⟨rfl, ((Below.refl _ _).alloc (Nat.le_refl _) _).alloc (by simp) _⟩
  · have hb2 : b < t := by omega
    rw [settleD_wait hb2]
    go_enter Try.func36, Try.ntmps36
    go_wp2_with fail
    exact bodyPost_ret (results_cell_row rfl _ _ _ _ _ _ _ rfl (heap_alloc2_new _ _ _) Try.underlying64 rfl Try.sizeRDV) rfl ⟨rfl, ((Below.refl _ _).alloc (Nat.le_refl _) _).alloc (by simp) _⟩

set_option maxHeartbeats 1000000 in
theorem dsettle_any (v : DV) (b : Int) (w : World) : Calls Try.prog 35 #[.agg (dvC v), .int .i64 b] w (Ret w (.agg (dvC (settleD v b)))) := by
  have hst := dsettled_any v b
  obtain ⟨r, hr⟩ : ∃ r, r = settleD v b := ⟨_, rfl⟩
  rw [← hr] at hst ⊢
  have HST := Lib.hid hst
  clear hr hst
  obtain ⟨h, n, x, t, m⟩ := v
  obtain ⟨h', n', x', t', m'⟩ := r
  replace HST : Hid (∀ w : World, Calls Try.prog 86 #[.agg #[.bool h, .int .i64 n, .int .i64 x, .int .i64 t, .bool m], .int .i64 b] w (Ret w (.agg #[.bool h', .int .i64 n', .int .i64 x', .int .i64 t', .bool m']))) := HST
  show Calls Try.prog 35 #[.agg #[.bool h, .int .i64 n, .int .i64 x, .int .i64 t, .bool m], .int .i64 b] w (Ret w (.agg #[.bool h', .int .i64 n', .int .i64 x', .int .i64 t', .bool m']))
  go_enter Try.func35, Try.ntmps35
  go_wp2_with fail
  obtain ⟨w1, hw1⟩ : ∃ w1, w1 = (w.alloc (.cells #[.bool h, .int .i64 n, .int .i64 x, .int .i64 t, .bool m] 53)).alloc (.cells #[.bool false, .int .i64 0, .int .i64 0, .int .i64 0, .bool false] 53) := ⟨_, rfl⟩
  obtain ⟨R, hR⟩ : ∃ R, R = w.heap.size + 1 := ⟨_, rfl⟩
  rw [← hw1, ← hR]
  have hb1 : Below w.heap.size w w1 := by rw [hw1]; exact ((Below.refl _ _).alloc (Nat.le_refl _) _).alloc (by simp) _
  have hx1 : w1.heap[R]? = some (.cells #[.bool false, .int .i64 0, .int .i64 0, .int .i64 0, .bool false] 53 (0, 0)) := by rw [hw1, hR]; exact heap_alloc2_new _ _ _
  have hR2 : w.heap.size ≤ R := by omega
  have HB1 := Lib.hid hb1; have HX1 := Lib.hid hx1; have HR2 := Lib.hid hR2
  clear hw1 hR hb1 hx1 hR2
  refine (HST.out _).mono ?_
  rintro e w2 ⟨rfl, hb⟩
  have hx2 := (Keep.of_below (S := fun _ => False) hb).at HX1.out id
  have HX2 := Lib.hid hx2; have HB2 := Lib.hid (HB1.out.trans (hb.mono HB1.out.size))
  clear hx2 hb HX1 HB1
  go_wp2_with (refine wpList_store_row_g (t := 53) (old := #[.bool false, .int .i64 0, .int .i64 0, .int .i64 0, .bool false]) rfl 53 _ _ rfl R #[.bool h', .int .i64 n', .int .i64 x', .int .i64 t', .bool m'] rfl rfl HX2.out Try.sizeDDV rfl (by simp [Value.oneCell']) ?_)
  intro w3 h3 k23 _
  have HX3 := Lib.hid h3
  have HB3 := Lib.hid (HB2.out.trans (k23.below (B := w.heap.size) (fun x hx e => by have := HR2.out; omega) HB2.out.size))
  clear h3 k23
  go_wp2_with fail
  exact bodyPost_ret (results_cell_row rfl _ _ _ _ _ _ _ rfl HX3.out Try.underlying53 rfl Try.sizeDDV) rfl ⟨rfl, HB3.out⟩

set_option maxHeartbeats 1000000 in
theorem rof_any (v : DV) (b : Int) (w : World) : Calls Try.prog 34 #[.agg (dvC v), .int .i64 b] w (Ret w (.tuple #[.int .i64 (settleD v b).now, .bool (settleD v b).has])) := by
  have hst := rsettle_any v b
  obtain ⟨r, hr⟩ : ∃ r, r = settleD v b := ⟨_, rfl⟩
  rw [← hr] at hst ⊢
  have HST := Lib.hid hst
  clear hr hst
  obtain ⟨h, n, x, t, m⟩ := v
  obtain ⟨h', n', x', t', m'⟩ := r
  replace HST : Hid (∀ w : World, Calls Try.prog 36 #[.agg #[.bool h, .int .i64 n, .int .i64 x, .int .i64 t, .bool m], .int .i64 b] w (Ret w (.agg #[.bool h', .int .i64 n', .int .i64 x', .int .i64 t', .bool m']))) := HST
  show Calls Try.prog 34 #[.agg #[.bool h, .int .i64 n, .int .i64 x, .int .i64 t, .bool m], .int .i64 b] w (Ret w (.tuple #[.int .i64 n', .bool h']))
  go_enter Try.func34, Try.ntmps34
  go_wp2_with fail
  refine (HST.out _).mono ?_
  rintro e w2 ⟨rfl, hb⟩
  have HB2 := Lib.hid (((Below.refl _ _).alloc (Nat.le_refl _) _).trans (hb.mono (by simp)) : Below w.heap.size w w2)
  clear hb
  go_wp2_with (refine wpList_alloc_g rfl _ rfl _ _ Try.zeroRDV rfl ?_)
  intro R w3 h3
  go_wp2_with (refine wpList_store_row_g (t := 64) (old := #[.bool false, .int .i64 0, .int .i64 0, .int .i64 0, .bool false]) rfl 64 _ _ rfl R #[.bool h', .int .i64 n', .int .i64 x', .int .i64 t', .bool m'] rfl rfl h3.out.cells Try.sizeRDV rfl (by simp [Value.oneCell']) ?_)
  intro w4 h4 k34 _
  have hb34 : Below w2.heap.size w2 w4 := h3.out.below.trans (k34.below (B := w2.heap.size) (fun x hx e => by have := h3.out.eq; omega) h3.out.below.size)
  have HX := Lib.hid h4; have HB4 := Lib.hid (HB2.out.trans (hb34.mono HB2.out.size))
  have q0 : w4.cell? ⟨R, 0, none⟩ = some (.bool h') := Lib.cell_of_heap h4 0
  have q1 : w4.cell? ⟨R, 1, none⟩ = some (.int .i64 n') := Lib.cell_of_heap h4 1
  clear h3 h4 k34 hb34 HB2
  go_wp2_with fail
  go_quiet (fail)
  go_wp2_with fail
  go_ret2
  exact ⟨rfl, below_drewN HB4.out _⟩

set_option maxHeartbeats 1000000 in
theorem dof_any (v : DV) (b : Int) (w : World) : Calls Try.prog 30 #[.agg (dvC v), .int .i64 b] w (Ret w (.tuple #[.int .i64 (settleD v b).now, .bool (settleD v b).has])) := by
  have hst := dsettle_any v b
  obtain ⟨r, hr⟩ : ∃ r, r = settleD v b := ⟨_, rfl⟩
  rw [← hr] at hst ⊢
  have HST := Lib.hid hst
  clear hr hst
  obtain ⟨h, n, x, t, m⟩ := v
  obtain ⟨h', n', x', t', m'⟩ := r
  replace HST : Hid (∀ w : World, Calls Try.prog 35 #[.agg #[.bool h, .int .i64 n, .int .i64 x, .int .i64 t, .bool m], .int .i64 b] w (Ret w (.agg #[.bool h', .int .i64 n', .int .i64 x', .int .i64 t', .bool m']))) := HST
  show Calls Try.prog 30 #[.agg #[.bool h, .int .i64 n, .int .i64 x, .int .i64 t, .bool m], .int .i64 b] w (Ret w (.tuple #[.int .i64 n', .bool h']))
  have key : h' = true ∨ (h' = false ∧ (n' == 0) = false) ∨ (h' = false ∧ n' = 0 ∧ (x' == 0) = false) ∨ (h' = false ∧ n' = 0 ∧ x' = 0 ∧ (t' == 0) = false) ∨ (h' = false ∧ n' = 0 ∧ x' = 0 ∧ t' = 0 ∧ m' = true) ∨ (h' = false ∧ n' = 0 ∧ x' = 0 ∧ t' = 0 ∧ m' = false) := by
    cases h' <;> cases m' <;> simp <;> omega
  rcases key with rfl | ⟨rfl, h1⟩ | ⟨rfl, rfl, h1⟩ | ⟨rfl, rfl, rfl, h1⟩ | ⟨rfl, rfl, rfl, rfl, rfl⟩ | ⟨rfl, rfl, rfl, rfl, rfl⟩
  · skip
    go_enter Try.func30, Try.ntmps30
    go_wp2_with fail
    refine (HST.out _).mono ?_
    rintro e w2 ⟨rfl, hb⟩
    have HB2 := Lib.hid (((Below.refl _ _).alloc (Nat.le_refl _) _).trans (hb.mono (by simp)) : Below w.heap.size w w2)
    clear hb
    go_wp2_with (refine wpList_alloc_g rfl _ rfl _ _ Try.zeroDDV rfl ?_)
    intro R w3 h3
    go_wp2_with (refine wpList_store_row_g (t := 53) (old := #[.bool false, .int .i64 0, .int .i64 0, .int .i64 0, .bool false]) rfl 53 _ _ rfl R #[.bool true, .int .i64 n', .int .i64 x', .int .i64 t', .bool m'] rfl rfl h3.out.cells Try.sizeDDV rfl (by simp [Value.oneCell']) ?_)
    intro w4 h4 k34 _
    have hb34 : Below w2.heap.size w2 w4 := h3.out.below.trans (k34.below (B := w2.heap.size) (fun x hx e => by have := h3.out.eq; omega) h3.out.below.size)
    have HX := Lib.hid h4; have HB4 := Lib.hid (HB2.out.trans (hb34.mono HB2.out.size))
    have q0 : w4.cell? ⟨R, 0, none⟩ = some (.bool true) := Lib.cell_of_heap h4 0
    have q1 : w4.cell? ⟨R, 1, none⟩ = some (.int .i64 n') := Lib.cell_of_heap h4 1
    clear h3 h4 k34 hb34 HB2
    have q2 : w4.cell? ⟨R, 2, none⟩ = some (.int .i64 x') := Lib.cell_of_heap HX.out 2
    have q3 : w4.cell? ⟨R, 3, none⟩ = some (.int .i64 t') := Lib.cell_of_heap HX.out 3
    have q4 : w4.cell? ⟨R, 4, none⟩ = some (.bool m') := Lib.cell_of_heap HX.out 4
    go_wp2_with fail
    go_quiet (fail)
    go_wp2_with fail
    go_ret2
    exact ⟨rfl, below_drewN HB4.out _⟩
  · skip
    go_enter Try.func30, Try.ntmps30
    go_wp2_with fail
    refine (HST.out _).mono ?_
    rintro e w2 ⟨rfl, hb⟩
    have HB2 := Lib.hid (((Below.refl _ _).alloc (Nat.le_refl _) _).trans (hb.mono (by simp)) : Below w.heap.size w w2)
    clear hb
    go_wp2_with (refine wpList_alloc_g rfl _ rfl _ _ Try.zeroDDV rfl ?_)
    intro R w3 h3
    go_wp2_with (refine wpList_store_row_g (t := 53) (old := #[.bool false, .int .i64 0, .int .i64 0, .int .i64 0, .bool false]) rfl 53 _ _ rfl R #[.bool false, .int .i64 n', .int .i64 x', .int .i64 t', .bool m'] rfl rfl h3.out.cells Try.sizeDDV rfl (by simp [Value.oneCell']) ?_)
    intro w4 h4 k34 _
    have hb34 : Below w2.heap.size w2 w4 := h3.out.below.trans (k34.below (B := w2.heap.size) (fun x hx e => by have := h3.out.eq; omega) h3.out.below.size)
    have HX := Lib.hid h4; have HB4 := Lib.hid (HB2.out.trans (hb34.mono HB2.out.size))
    have q0 : w4.cell? ⟨R, 0, none⟩ = some (.bool false) := Lib.cell_of_heap h4 0
    have q1 : w4.cell? ⟨R, 1, none⟩ = some (.int .i64 n') := Lib.cell_of_heap h4 1
    clear h3 h4 k34 hb34 HB2
    have q2 : w4.cell? ⟨R, 2, none⟩ = some (.int .i64 x') := Lib.cell_of_heap HX.out 2
    have q3 : w4.cell? ⟨R, 3, none⟩ = some (.int .i64 t') := Lib.cell_of_heap HX.out 3
    have q4 : w4.cell? ⟨R, 4, none⟩ = some (.bool m') := Lib.cell_of_heap HX.out 4
    go_wp2_with fail
    go_quiet (fail)
    go_wp2_with fail
    go_ret2
    exact ⟨rfl, below_drewN HB4.out _⟩
  · skip
    go_enter Try.func30, Try.ntmps30
    go_wp2_with fail
    refine (HST.out _).mono ?_
    rintro e w2 ⟨rfl, hb⟩
    have HB2 := Lib.hid (((Below.refl _ _).alloc (Nat.le_refl _) _).trans (hb.mono (by simp)) : Below w.heap.size w w2)
    clear hb
    go_wp2_with (refine wpList_alloc_g rfl _ rfl _ _ Try.zeroDDV rfl ?_)
    intro R w3 h3
    go_wp2_with (refine wpList_store_row_g (t := 53) (old := #[.bool false, .int .i64 0, .int .i64 0, .int .i64 0, .bool false]) rfl 53 _ _ rfl R #[.bool false, .int .i64 0, .int .i64 x', .int .i64 t', .bool m'] rfl rfl h3.out.cells Try.sizeDDV rfl (by simp [Value.oneCell']) ?_)
    intro w4 h4 k34 _
    have hb34 : Below w2.heap.size w2 w4 := h3.out.below.trans (k34.below (B := w2.heap.size) (fun x hx e => by have := h3.out.eq; omega) h3.out.below.size)
    have HX := Lib.hid h4; have HB4 := Lib.hid (HB2.out.trans (hb34.mono HB2.out.size))
    have q0 : w4.cell? ⟨R, 0, none⟩ = some (.bool false) := Lib.cell_of_heap h4 0
    have q1 : w4.cell? ⟨R, 1, none⟩ = some (.int .i64 0) := Lib.cell_of_heap h4 1
    clear h3 h4 k34 hb34 HB2
    have q2 : w4.cell? ⟨R, 2, none⟩ = some (.int .i64 x') := Lib.cell_of_heap HX.out 2
    have q3 : w4.cell? ⟨R, 3, none⟩ = some (.int .i64 t') := Lib.cell_of_heap HX.out 3
    have q4 : w4.cell? ⟨R, 4, none⟩ = some (.bool m') := Lib.cell_of_heap HX.out 4
    go_wp2_with fail
    go_quiet (fail)
    go_wp2_with fail
    go_ret2
    exact ⟨rfl, below_drewN HB4.out _⟩
  · skip
    go_enter Try.func30, Try.ntmps30
    go_wp2_with fail
    refine (HST.out _).mono ?_
    rintro e w2 ⟨rfl, hb⟩
    have HB2 := Lib.hid (((Below.refl _ _).alloc (Nat.le_refl _) _).trans (hb.mono (by simp)) : Below w.heap.size w w2)
    clear hb
    go_wp2_with (refine wpList_alloc_g rfl _ rfl _ _ Try.zeroDDV rfl ?_)
    intro R w3 h3
    go_wp2_with (refine wpList_store_row_g (t := 53) (old := #[.bool false, .int .i64 0, .int .i64 0, .int .i64 0, .bool false]) rfl 53 _ _ rfl R #[.bool false, .int .i64 0, .int .i64 0, .int .i64 t', .bool m'] rfl rfl h3.out.cells Try.sizeDDV rfl (by simp [Value.oneCell']) ?_)
    intro w4 h4 k34 _
    have hb34 : Below w2.heap.size w2 w4 := h3.out.below.trans (k34.below (B := w2.heap.size) (fun x hx e => by have := h3.out.eq; omega) h3.out.below.size)
    have HX := Lib.hid h4; have HB4 := Lib.hid (HB2.out.trans (hb34.mono HB2.out.size))
    have q0 : w4.cell? ⟨R, 0, none⟩ = some (.bool false) := Lib.cell_of_heap h4 0
    have q1 : w4.cell? ⟨R, 1, none⟩ = some (.int .i64 0) := Lib.cell_of_heap h4 1
    clear h3 h4 k34 hb34 HB2
    have q2 : w4.cell? ⟨R, 2, none⟩ = some (.int .i64 0) := Lib.cell_of_heap HX.out 2
    have q3 : w4.cell? ⟨R, 3, none⟩ = some (.int .i64 t') := Lib.cell_of_heap HX.out 3
    have q4 : w4.cell? ⟨R, 4, none⟩ = some (.bool m') := Lib.cell_of_heap HX.out 4
    go_wp2_with fail
    go_quiet (fail)
    go_wp2_with fail
    go_ret2
    exact ⟨rfl, below_drewN HB4.out _⟩
  · skip
    go_enter Try.func30, Try.ntmps30
    go_wp2_with fail
    refine (HST.out _).mono ?_
    rintro e w2 ⟨rfl, hb⟩
    have HB2 := Lib.hid (((Below.refl _ _).alloc (Nat.le_refl _) _).trans (hb.mono (by simp)) : Below w.heap.size w w2)
    clear hb
    go_wp2_with (refine wpList_alloc_g rfl _ rfl _ _ Try.zeroDDV rfl ?_)
    intro R w3 h3
    go_wp2_with (refine wpList_store_row_g (t := 53) (old := #[.bool false, .int .i64 0, .int .i64 0, .int .i64 0, .bool false]) rfl 53 _ _ rfl R #[.bool false, .int .i64 0, .int .i64 0, .int .i64 0, .bool true] rfl rfl h3.out.cells Try.sizeDDV rfl (by simp [Value.oneCell']) ?_)
    intro w4 h4 k34 _
    have hb34 : Below w2.heap.size w2 w4 := h3.out.below.trans (k34.below (B := w2.heap.size) (fun x hx e => by have := h3.out.eq; omega) h3.out.below.size)
    have HX := Lib.hid h4; have HB4 := Lib.hid (HB2.out.trans (hb34.mono HB2.out.size))
    have q0 : w4.cell? ⟨R, 0, none⟩ = some (.bool false) := Lib.cell_of_heap h4 0
    have q1 : w4.cell? ⟨R, 1, none⟩ = some (.int .i64 0) := Lib.cell_of_heap h4 1
    clear h3 h4 k34 hb34 HB2
    have q2 : w4.cell? ⟨R, 2, none⟩ = some (.int .i64 0) := Lib.cell_of_heap HX.out 2
    have q3 : w4.cell? ⟨R, 3, none⟩ = some (.int .i64 0) := Lib.cell_of_heap HX.out 3
    have q4 : w4.cell? ⟨R, 4, none⟩ = some (.bool true) := Lib.cell_of_heap HX.out 4
    go_wp2_with fail
    go_quiet (fail)
    go_wp2_with fail
    go_ret2
    exact ⟨rfl, below_drewN HB4.out _⟩
  · skip
    go_enter Try.func30, Try.ntmps30
    go_wp2_with fail
    refine (HST.out _).mono ?_
    rintro e w2 ⟨rfl, hb⟩
    have HB2 := Lib.hid (((Below.refl _ _).alloc (Nat.le_refl _) _).trans (hb.mono (by simp)) : Below w.heap.size w w2)
    clear hb
    go_wp2_with (refine wpList_alloc_g rfl _ rfl _ _ Try.zeroDDV rfl ?_)
    intro R w3 h3
    go_wp2_with (refine wpList_store_row_g (t := 53) (old := #[.bool false, .int .i64 0, .int .i64 0, .int .i64 0, .bool false]) rfl 53 _ _ rfl R #[.bool false, .int .i64 0, .int .i64 0, .int .i64 0, .bool false] rfl rfl h3.out.cells Try.sizeDDV rfl (by simp [Value.oneCell']) ?_)
    intro w4 h4 k34 _
    have hb34 : Below w2.heap.size w2 w4 := h3.out.below.trans (k34.below (B := w2.heap.size) (fun x hx e => by have := h3.out.eq; omega) h3.out.below.size)
    have HX := Lib.hid h4; have HB4 := Lib.hid (HB2.out.trans (hb34.mono HB2.out.size))
    have q0 : w4.cell? ⟨R, 0, none⟩ = some (.bool false) := Lib.cell_of_heap h4 0
    have q1 : w4.cell? ⟨R, 1, none⟩ = some (.int .i64 0) := Lib.cell_of_heap h4 1
    clear h3 h4 k34 hb34 HB2
    have q2 : w4.cell? ⟨R, 2, none⟩ = some (.int .i64 0) := Lib.cell_of_heap HX.out 2
    have q3 : w4.cell? ⟨R, 3, none⟩ = some (.int .i64 0) := Lib.cell_of_heap HX.out 3
    have q4 : w4.cell? ⟨R, 4, none⟩ = some (.bool false) := Lib.cell_of_heap HX.out 4
    go_wp2_with fail
    go_ret2
    exact ⟨rfl, HB4.out⟩
end Go.Proofs.Ytohedljdkfmkdaa
