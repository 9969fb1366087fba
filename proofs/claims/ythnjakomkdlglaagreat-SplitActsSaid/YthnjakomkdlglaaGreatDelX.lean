/- delay's and the document's Settle, Of, bit, row, Get: their contracts. delay's and the document's Get: their contracts. delay's row, good, Set and the document's Set: their contracts. The document's delay.Set: its contract. -/
import Derived.Test.YthnjakomkdlglaaGreatCelA
import Derived.Deep.QuietTactic
import Derived.BigQuiet
import Derived.Great.BuildSlice
import Derived.Test.YthnjakomkdlglaaGreatLit
namespace Go.Proofs.YthnjakomkdlglaaGreat
section
open Go.RowKit

/-- A number that changes behind a while. -/
structure DV where
  has : Bool
  now : Int
  next : Int
  at_ : Int
  more : Bool
def DV.zero : DV := ⟨false, 0, 0, 0, false⟩
def dvC (v : DV) : Array Value := #[.bool v.has, .int .i64 v.now, .int .i64 v.next, .int .i64 v.at_, .bool v.more]
def settleD (v : DV) (b : Int) : DV := if v.more = true ∧ v.at_ ≤ b then ⟨true, v.next, 0, 0, false⟩ else v
def bitD (b : Bool) : Int := if b then 1 else 0
def rowD (v : DV) : List Int := [bitD v.has, v.now, bitD v.more, v.next, v.at_]
def readD : List Int → DV
  | [a, b, c, d, e] => ⟨a == 1, b, d, e, c == 1⟩
  | _ => DV.zero
theorem settleD_no {v : DV} {b : Int} (h : v.more = false) : settleD v b = v := by unfold settleD; rw [if_neg (by rw [h]; simp)]
theorem settleD_wait {v : DV} {b : Int} (h : b < v.at_) : settleD v b = v := by unfold settleD; rw [if_neg (by omega)]
theorem settleD_do {v : DV} {b : Int} (h : v.more = true) (h2 : v.at_ ≤ b) : settleD v b = ⟨true, v.next, 0, 0, false⟩ := by unfold settleD; rw [if_pos ⟨h, h2⟩]
theorem readD_len {l : List Int} (h : ¬ l.length = 5) : readD l = DV.zero := by
  unfold readD
  split
  · exact absurd rfl h
  · rfl

theorem Tryz.zeroDDV (w : World) : (zeroValue 138).run Tryz.prog w = .ok (.agg #[.bool false, .int .i64 0, .int .i64 0, .int .i64 0, .bool false]) w := by kernel_rfl
theorem Tryz.sizeDDV : (Tryz.prog.info? 138).map (·.size) = some 5 := by kernel_rfl
theorem dbit_any (b : Bool) (w : World) : Calls Tryz.prog 191 #[.bool b] w fun e w' => e = .returned (.int .i64 (bitD b)) ∧ w = w' := by
  cases b <;>
  · go_enter Tryz.func191, Tryz.ntmps191
    go_wp2
    go_ret
    exact ⟨rfl, rfl⟩

theorem Tryz.zeroRDV (w : World) : (zeroValue 141).run Tryz.prog w = .ok (.agg #[.bool false, .int .i64 0, .int .i64 0, .int .i64 0, .bool false]) w := by kernel_rfl
theorem Tryz.sizeRDV : (Tryz.prog.info? 141).map (·.size) = some 5 := by kernel_rfl
theorem rbit_any (b : Bool) (w : World) : Calls Tryz.prog 158 #[.bool b] w fun e w' => e = .returned (.int .i64 (bitD b)) ∧ w = w' := by
  cases b <;>
  · go_enter Tryz.func158, Tryz.ntmps158
    go_wp2
    go_ret
    exact ⟨rfl, rfl⟩

set_option maxHeartbeats 1000000 in
theorem dsettled_any (v : DV) (b : Int) (w : World) : Calls Tryz.prog 190 #[.agg (dvC v), .int .i64 b] w (Ret w (.agg (dvC (settleD v b)))) := by
  obtain ⟨h, n, x, t, m⟩ := v
  show Calls Tryz.prog 190 #[.agg #[.bool h, .int .i64 n, .int .i64 x, .int .i64 t, .bool m], .int .i64 b] w _
  cases m with
  | false =>
    rw [settleD_no rfl]
    go_enter Tryz.func190, Tryz.ntmps190
    go_wp2_with fail
    exact bodyPost_ret (results_cell_row rfl _ _ _ _ _ _ _ rfl (heap_alloc2_new _ _ _) Tryz.underlying138 rfl Tryz.sizeDDV) rfl ⟨rfl, ((Below.refl _ _).alloc (Nat.le_refl _) _).alloc (by simp) _⟩
  | true =>
  by_cases hb : t ≤ b
  · rw [settleD_do rfl hb]
    go_enter Tryz.func190, Tryz.ntmps190
    go_wp2_with fail
    exact bodyPost_ret (results_cell_row rfl _ _ _ _ _ _ _ rfl (heap_alloc2_new _ _ _) Tryz.underlying138 rfl Tryz.sizeDDV) rfl ⟨rfl, ((Below.refl _ _).alloc (Nat.le_refl _) _).alloc (by simp) _⟩
  · have hb2 : b < t := by omega
    rw [settleD_wait hb2]
    go_enter Tryz.func190, Tryz.ntmps190
    go_wp2_with fail
    exact bodyPost_ret (results_cell_row rfl _ _ _ _ _ _ _ rfl (heap_alloc2_new _ _ _) Tryz.underlying138 rfl Tryz.sizeDDV) rfl ⟨rfl, ((Below.refl _ _).alloc (Nat.le_refl _) _).alloc (by simp) _⟩

set_option maxHeartbeats 1000000 in
theorem rsettle_any (v : DV) (b : Int) (w : World) : Calls Tryz.prog 156 #[.agg (dvC v), .int .i64 b] w (Ret w (.agg (dvC (settleD v b)))) := by
  obtain ⟨h, n, x, t, m⟩ := v
  show Calls Tryz.prog 156 #[.agg #[.bool h, .int .i64 n, .int .i64 x, .int .i64 t, .bool m], .int .i64 b] w _
  cases m with
  | false =>
    rw [settleD_no rfl]
    go_enter Tryz.func156, Tryz.ntmps156
    go_wp2_with fail
    exact bodyPost_ret (results_cell_row rfl _ _ _ _ _ _ _ rfl (heap_alloc2_new _ _ _) Tryz.underlying141 rfl Tryz.sizeRDV) rfl ⟨rfl, ((Below.refl _ _).alloc (Nat.le_refl _) _).alloc (by simp) _⟩
  | true =>
  by_cases hb : t ≤ b
  · rw [settleD_do rfl hb]
    go_enter Tryz.func156, Tryz.ntmps156
    go_wp2_with fail
    exact bodyPost_ret (results_cell_row rfl _ _ _ _ _ _ _ rfl (heap_alloc2_new _ _ _) Tryz.underlying141 rfl Tryz.sizeRDV) rfl ⟨rfl, ((Below.refl _ _).alloc (Nat.le_refl _) _).alloc (by simp) _⟩
  · have hb2 : b < t := by omega
    rw [settleD_wait hb2]
    go_enter Tryz.func156, Tryz.ntmps156
    go_wp2_with fail
    exact bodyPost_ret (results_cell_row rfl _ _ _ _ _ _ _ rfl (heap_alloc2_new _ _ _) Tryz.underlying141 rfl Tryz.sizeRDV) rfl ⟨rfl, ((Below.refl _ _).alloc (Nat.le_refl _) _).alloc (by simp) _⟩

set_option maxHeartbeats 1000000 in
theorem dsettle_any (v : DV) (b : Int) (w : World) : Calls Tryz.prog 153 #[.agg (dvC v), .int .i64 b] w (Ret w (.agg (dvC (settleD v b)))) := by
  have hst := dsettled_any v b
  obtain ⟨r, hr⟩ : ∃ r, r = settleD v b := ⟨_, rfl⟩
  rw [← hr] at hst ⊢
  have HST := Lib.hid hst
  clear hr hst
  obtain ⟨h, n, x, t, m⟩ := v
  obtain ⟨h', n', x', t', m'⟩ := r
  replace HST : Hid (∀ w : World, Calls Tryz.prog 190 #[.agg #[.bool h, .int .i64 n, .int .i64 x, .int .i64 t, .bool m], .int .i64 b] w (Ret w (.agg #[.bool h', .int .i64 n', .int .i64 x', .int .i64 t', .bool m']))) := HST
  show Calls Tryz.prog 153 #[.agg #[.bool h, .int .i64 n, .int .i64 x, .int .i64 t, .bool m], .int .i64 b] w (Ret w (.agg #[.bool h', .int .i64 n', .int .i64 x', .int .i64 t', .bool m']))
  go_enter Tryz.func153, Tryz.ntmps153
  go_wp2_with fail
  obtain ⟨w1, hw1⟩ : ∃ w1, w1 = (w.alloc (.cells #[.bool h, .int .i64 n, .int .i64 x, .int .i64 t, .bool m] 138)).alloc (.cells #[.bool false, .int .i64 0, .int .i64 0, .int .i64 0, .bool false] 138) := ⟨_, rfl⟩
  obtain ⟨R, hR⟩ : ∃ R, R = w.heap.size + 1 := ⟨_, rfl⟩
  rw [← hw1, ← hR]
  have hb1 : Below w.heap.size w w1 := by rw [hw1]; exact ((Below.refl _ _).alloc (Nat.le_refl _) _).alloc (by simp) _
  have hx1 : w1.heap[R]? = some (.cells #[.bool false, .int .i64 0, .int .i64 0, .int .i64 0, .bool false] 138 (0, 0)) := by rw [hw1, hR]; exact heap_alloc2_new _ _ _
  have hR2 : w.heap.size ≤ R := by omega
  have HB1 := Lib.hid hb1; have HX1 := Lib.hid hx1; have HR2 := Lib.hid hR2
  clear hw1 hR hb1 hx1 hR2
  refine (HST.out _).mono ?_
  rintro e w2 ⟨rfl, hb⟩
  have hx2 := (Keep.of_below (S := fun _ => False) hb).at HX1.out id
  have HX2 := Lib.hid hx2; have HB2 := Lib.hid (HB1.out.trans (hb.mono HB1.out.size))
  clear hx2 hb HX1 HB1
  go_wp2_with (refine wpList_store_row_g (t := 138) (old := #[.bool false, .int .i64 0, .int .i64 0, .int .i64 0, .bool false]) rfl 138 _ _ rfl R #[.bool h', .int .i64 n', .int .i64 x', .int .i64 t', .bool m'] rfl rfl HX2.out Tryz.sizeDDV rfl (by simp [Value.oneCell']) ?_)
  intro w3 h3 k23 _
  have HX3 := Lib.hid h3
  have HB3 := Lib.hid (HB2.out.trans (k23.below (B := w.heap.size) (fun x hx e => by have := HR2.out; omega) HB2.out.size))
  clear h3 k23
  go_wp2_with fail
  exact bodyPost_ret (results_cell_row rfl _ _ _ _ _ _ _ rfl HX3.out Tryz.underlying138 rfl Tryz.sizeDDV) rfl ⟨rfl, HB3.out⟩

set_option maxHeartbeats 1000000 in
theorem rof_any (v : DV) (b : Int) (w : World) : Calls Tryz.prog 103 #[.agg (dvC v), .int .i64 b] w (Ret w (.tuple #[.int .i64 (settleD v b).now, .bool (settleD v b).has])) := by
  have hst := rsettle_any v b
  obtain ⟨r, hr⟩ : ∃ r, r = settleD v b := ⟨_, rfl⟩
  rw [← hr] at hst ⊢
  have HST := Lib.hid hst
  clear hr hst
  obtain ⟨h, n, x, t, m⟩ := v
  obtain ⟨h', n', x', t', m'⟩ := r
  replace HST : Hid (∀ w : World, Calls Tryz.prog 156 #[.agg #[.bool h, .int .i64 n, .int .i64 x, .int .i64 t, .bool m], .int .i64 b] w (Ret w (.agg #[.bool h', .int .i64 n', .int .i64 x', .int .i64 t', .bool m']))) := HST
  show Calls Tryz.prog 103 #[.agg #[.bool h, .int .i64 n, .int .i64 x, .int .i64 t, .bool m], .int .i64 b] w (Ret w (.tuple #[.int .i64 n', .bool h']))
  go_enter Tryz.func103, Tryz.ntmps103
  go_wp2_with fail
  refine (HST.out _).mono ?_
  rintro e w2 ⟨rfl, hb⟩
  have HB2 := Lib.hid (((Below.refl _ _).alloc (Nat.le_refl _) _).trans (hb.mono (by simp)) : Below w.heap.size w w2)
  clear hb
  go_wp2_with (refine wpList_alloc_g rfl _ rfl _ _ Tryz.zeroRDV rfl ?_)
  intro R w3 h3
  go_wp2_with (refine wpList_store_row_g (t := 141) (old := #[.bool false, .int .i64 0, .int .i64 0, .int .i64 0, .bool false]) rfl 141 _ _ rfl R #[.bool h', .int .i64 n', .int .i64 x', .int .i64 t', .bool m'] rfl rfl h3.out.cells Tryz.sizeRDV rfl (by simp [Value.oneCell']) ?_)
  intro w4 h4 k34 _
  have hb34 : Below w2.heap.size w2 w4 := h3.out.below.trans (k34.below (B := w2.heap.size) (fun x hx e => by have := h3.out.eq; omega) h3.out.below.size)
  have HX := Lib.hid h4; have HB4 := Lib.hid (HB2.out.trans (hb34.mono HB2.out.size))
  have q0 : w4.cell? ⟨R, 0, none⟩ = some (.bool h') := Lib.cell_of_heap h4 0
  have q1 : w4.cell? ⟨R, 1, none⟩ = some (.int .i64 n') := Lib.cell_of_heap h4 1
  clear h3 h4 k34 hb34 HB2
  go_wp2_with fail
  go_quiet (fail)
  go_wp2_with fail
  go_ret2
  exact ⟨rfl, below_drewN HB4.out _⟩

set_option maxHeartbeats 1000000 in
theorem dof_any (v : DV) (b : Int) (w : World) : Calls Tryz.prog 101 #[.agg (dvC v), .int .i64 b] w (Ret w (.tuple #[.int .i64 (settleD v b).now, .bool (settleD v b).has])) := by
  have hst := dsettle_any v b
  obtain ⟨r, hr⟩ : ∃ r, r = settleD v b := ⟨_, rfl⟩
  rw [← hr] at hst ⊢
  have HST := Lib.hid hst
  clear hr hst
  obtain ⟨h, n, x, t, m⟩ := v
  obtain ⟨h', n', x', t', m'⟩ := r
  replace HST : Hid (∀ w : World, Calls Tryz.prog 153 #[.agg #[.bool h, .int .i64 n, .int .i64 x, .int .i64 t, .bool m], .int .i64 b] w (Ret w (.agg #[.bool h', .int .i64 n', .int .i64 x', .int .i64 t', .bool m']))) := HST
  show Calls Tryz.prog 101 #[.agg #[.bool h, .int .i64 n, .int .i64 x, .int .i64 t, .bool m], .int .i64 b] w (Ret w (.tuple #[.int .i64 n', .bool h']))
  have key : h' = true ∨ (h' = false ∧ (n' == 0) = false) ∨ (h' = false ∧ n' = 0 ∧ (x' == 0) = false) ∨ (h' = false ∧ n' = 0 ∧ x' = 0 ∧ (t' == 0) = false) ∨ (h' = false ∧ n' = 0 ∧ x' = 0 ∧ t' = 0 ∧ m' = true) ∨ (h' = false ∧ n' = 0 ∧ x' = 0 ∧ t' = 0 ∧ m' = false) := by
    cases h' <;> cases m' <;> simp <;> omega
  rcases key with rfl | ⟨rfl, h1⟩ | ⟨rfl, rfl, h1⟩ | ⟨rfl, rfl, rfl, h1⟩ | ⟨rfl, rfl, rfl, rfl, rfl⟩ | ⟨rfl, rfl, rfl, rfl, rfl⟩
  · skip
    go_enter Tryz.func101, Tryz.ntmps101
    go_wp2_with fail
    refine (HST.out _).mono ?_
    rintro e w2 ⟨rfl, hb⟩
    have HB2 := Lib.hid (((Below.refl _ _).alloc (Nat.le_refl _) _).trans (hb.mono (by simp)) : Below w.heap.size w w2)
    clear hb
    go_wp2_with (refine wpList_alloc_g rfl _ rfl _ _ Tryz.zeroDDV rfl ?_)
    intro R w3 h3
    go_wp2_with (refine wpList_store_row_g (t := 138) (old := #[.bool false, .int .i64 0, .int .i64 0, .int .i64 0, .bool false]) rfl 138 _ _ rfl R #[.bool true, .int .i64 n', .int .i64 x', .int .i64 t', .bool m'] rfl rfl h3.out.cells Tryz.sizeDDV rfl (by simp [Value.oneCell']) ?_)
    intro w4 h4 k34 _
    have hb34 : Below w2.heap.size w2 w4 := h3.out.below.trans (k34.below (B := w2.heap.size) (fun x hx e => by have := h3.out.eq; omega) h3.out.below.size)
    have HX := Lib.hid h4; have HB4 := Lib.hid (HB2.out.trans (hb34.mono HB2.out.size))
    have q0 : w4.cell? ⟨R, 0, none⟩ = some (.bool true) := Lib.cell_of_heap h4 0
    have q1 : w4.cell? ⟨R, 1, none⟩ = some (.int .i64 n') := Lib.cell_of_heap h4 1
    clear h3 h4 k34 hb34 HB2
    have q2 : w4.cell? ⟨R, 2, none⟩ = some (.int .i64 x') := Lib.cell_of_heap HX.out 2
    have q3 : w4.cell? ⟨R, 3, none⟩ = some (.int .i64 t') := Lib.cell_of_heap HX.out 3
    have q4 : w4.cell? ⟨R, 4, none⟩ = some (.bool m') := Lib.cell_of_heap HX.out 4
    go_wp2_with fail
    go_quiet (fail)
    go_wp2_with fail
    go_ret2
    exact ⟨rfl, below_drewN HB4.out _⟩
  · skip
    go_enter Tryz.func101, Tryz.ntmps101
    go_wp2_with fail
    refine (HST.out _).mono ?_
    rintro e w2 ⟨rfl, hb⟩
    have HB2 := Lib.hid (((Below.refl _ _).alloc (Nat.le_refl _) _).trans (hb.mono (by simp)) : Below w.heap.size w w2)
    clear hb
    go_wp2_with (refine wpList_alloc_g rfl _ rfl _ _ Tryz.zeroDDV rfl ?_)
    intro R w3 h3
    go_wp2_with (refine wpList_store_row_g (t := 138) (old := #[.bool false, .int .i64 0, .int .i64 0, .int .i64 0, .bool false]) rfl 138 _ _ rfl R #[.bool false, .int .i64 n', .int .i64 x', .int .i64 t', .bool m'] rfl rfl h3.out.cells Tryz.sizeDDV rfl (by simp [Value.oneCell']) ?_)
    intro w4 h4 k34 _
    have hb34 : Below w2.heap.size w2 w4 := h3.out.below.trans (k34.below (B := w2.heap.size) (fun x hx e => by have := h3.out.eq; omega) h3.out.below.size)
    have HX := Lib.hid h4; have HB4 := Lib.hid (HB2.out.trans (hb34.mono HB2.out.size))
    have q0 : w4.cell? ⟨R, 0, none⟩ = some (.bool false) := Lib.cell_of_heap h4 0
    have q1 : w4.cell? ⟨R, 1, none⟩ = some (.int .i64 n') := Lib.cell_of_heap h4 1
    clear h3 h4 k34 hb34 HB2
    have q2 : w4.cell? ⟨R, 2, none⟩ = some (.int .i64 x') := Lib.cell_of_heap HX.out 2
    have q3 : w4.cell? ⟨R, 3, none⟩ = some (.int .i64 t') := Lib.cell_of_heap HX.out 3
    have q4 : w4.cell? ⟨R, 4, none⟩ = some (.bool m') := Lib.cell_of_heap HX.out 4
    go_wp2_with fail
    go_quiet (fail)
    go_wp2_with fail
    go_ret2
    exact ⟨rfl, below_drewN HB4.out _⟩
  · skip
    go_enter Tryz.func101, Tryz.ntmps101
    go_wp2_with fail
    refine (HST.out _).mono ?_
    rintro e w2 ⟨rfl, hb⟩
    have HB2 := Lib.hid (((Below.refl _ _).alloc (Nat.le_refl _) _).trans (hb.mono (by simp)) : Below w.heap.size w w2)
    clear hb
    go_wp2_with (refine wpList_alloc_g rfl _ rfl _ _ Tryz.zeroDDV rfl ?_)
    intro R w3 h3
    go_wp2_with (refine wpList_store_row_g (t := 138) (old := #[.bool false, .int .i64 0, .int .i64 0, .int .i64 0, .bool false]) rfl 138 _ _ rfl R #[.bool false, .int .i64 0, .int .i64 x', .int .i64 t', .bool m'] rfl rfl h3.out.cells Tryz.sizeDDV rfl (by simp [Value.oneCell']) ?_)
    intro w4 h4 k34 _
    have hb34 : Below w2.heap.size w2 w4 := h3.out.below.trans (k34.below (B := w2.heap.size) (fun x hx e => by have := h3.out.eq; omega) h3.out.below.size)
    have HX := Lib.hid h4; have HB4 := Lib.hid (HB2.out.trans (hb34.mono HB2.out.size))
    have q0 : w4.cell? ⟨R, 0, none⟩ = some (.bool false) := Lib.cell_of_heap h4 0
    have q1 : w4.cell? ⟨R, 1, none⟩ = some (.int .i64 0) := Lib.cell_of_heap h4 1
    clear h3 h4 k34 hb34 HB2
    have q2 : w4.cell? ⟨R, 2, none⟩ = some (.int .i64 x') := Lib.cell_of_heap HX.out 2
    have q3 : w4.cell? ⟨R, 3, none⟩ = some (.int .i64 t') := Lib.cell_of_heap HX.out 3
    have q4 : w4.cell? ⟨R, 4, none⟩ = some (.bool m') := Lib.cell_of_heap HX.out 4
    go_wp2_with fail
    go_quiet (fail)
    go_wp2_with fail
    go_ret2
    exact ⟨rfl, below_drewN HB4.out _⟩
  · skip
    go_enter Tryz.func101, Tryz.ntmps101
    go_wp2_with fail
    refine (HST.out _).mono ?_
    rintro e w2 ⟨rfl, hb⟩
    have HB2 := Lib.hid (((Below.refl _ _).alloc (Nat.le_refl _) _).trans (hb.mono (by simp)) : Below w.heap.size w w2)
    clear hb
    go_wp2_with (refine wpList_alloc_g rfl _ rfl _ _ Tryz.zeroDDV rfl ?_)
    intro R w3 h3
    go_wp2_with (refine wpList_store_row_g (t := 138) (old := #[.bool false, .int .i64 0, .int .i64 0, .int .i64 0, .bool false]) rfl 138 _ _ rfl R #[.bool false, .int .i64 0, .int .i64 0, .int .i64 t', .bool m'] rfl rfl h3.out.cells Tryz.sizeDDV rfl (by simp [Value.oneCell']) ?_)
    intro w4 h4 k34 _
    have hb34 : Below w2.heap.size w2 w4 := h3.out.below.trans (k34.below (B := w2.heap.size) (fun x hx e => by have := h3.out.eq; omega) h3.out.below.size)
    have HX := Lib.hid h4; have HB4 := Lib.hid (HB2.out.trans (hb34.mono HB2.out.size))
    have q0 : w4.cell? ⟨R, 0, none⟩ = some (.bool false) := Lib.cell_of_heap h4 0
    have q1 : w4.cell? ⟨R, 1, none⟩ = some (.int .i64 0) := Lib.cell_of_heap h4 1
    clear h3 h4 k34 hb34 HB2
    have q2 : w4.cell? ⟨R, 2, none⟩ = some (.int .i64 0) := Lib.cell_of_heap HX.out 2
    have q3 : w4.cell? ⟨R, 3, none⟩ = some (.int .i64 t') := Lib.cell_of_heap HX.out 3
    have q4 : w4.cell? ⟨R, 4, none⟩ = some (.bool m') := Lib.cell_of_heap HX.out 4
    go_wp2_with fail
    go_quiet (fail)
    go_wp2_with fail
    go_ret2
    exact ⟨rfl, below_drewN HB4.out _⟩
  · skip
    go_enter Tryz.func101, Tryz.ntmps101
    go_wp2_with fail
    refine (HST.out _).mono ?_
    rintro e w2 ⟨rfl, hb⟩
    have HB2 := Lib.hid (((Below.refl _ _).alloc (Nat.le_refl _) _).trans (hb.mono (by simp)) : Below w.heap.size w w2)
    clear hb
    go_wp2_with (refine wpList_alloc_g rfl _ rfl _ _ Tryz.zeroDDV rfl ?_)
    intro R w3 h3
    go_wp2_with (refine wpList_store_row_g (t := 138) (old := #[.bool false, .int .i64 0, .int .i64 0, .int .i64 0, .bool false]) rfl 138 _ _ rfl R #[.bool false, .int .i64 0, .int .i64 0, .int .i64 0, .bool true] rfl rfl h3.out.cells Tryz.sizeDDV rfl (by simp [Value.oneCell']) ?_)
    intro w4 h4 k34 _
    have hb34 : Below w2.heap.size w2 w4 := h3.out.below.trans (k34.below (B := w2.heap.size) (fun x hx e => by have := h3.out.eq; omega) h3.out.below.size)
    have HX := Lib.hid h4; have HB4 := Lib.hid (HB2.out.trans (hb34.mono HB2.out.size))
    have q0 : w4.cell? ⟨R, 0, none⟩ = some (.bool false) := Lib.cell_of_heap h4 0
    have q1 : w4.cell? ⟨R, 1, none⟩ = some (.int .i64 0) := Lib.cell_of_heap h4 1
    clear h3 h4 k34 hb34 HB2
    have q2 : w4.cell? ⟨R, 2, none⟩ = some (.int .i64 0) := Lib.cell_of_heap HX.out 2
    have q3 : w4.cell? ⟨R, 3, none⟩ = some (.int .i64 0) := Lib.cell_of_heap HX.out 3
    have q4 : w4.cell? ⟨R, 4, none⟩ = some (.bool true) := Lib.cell_of_heap HX.out 4
    go_wp2_with fail
    go_quiet (fail)
    go_wp2_with fail
    go_ret2
    exact ⟨rfl, below_drewN HB4.out _⟩
  · skip
    go_enter Tryz.func101, Tryz.ntmps101
    go_wp2_with fail
    refine (HST.out _).mono ?_
    rintro e w2 ⟨rfl, hb⟩
    have HB2 := Lib.hid (((Below.refl _ _).alloc (Nat.le_refl _) _).trans (hb.mono (by simp)) : Below w.heap.size w w2)
    clear hb
    go_wp2_with (refine wpList_alloc_g rfl _ rfl _ _ Tryz.zeroDDV rfl ?_)
    intro R w3 h3
    go_wp2_with (refine wpList_store_row_g (t := 138) (old := #[.bool false, .int .i64 0, .int .i64 0, .int .i64 0, .bool false]) rfl 138 _ _ rfl R #[.bool false, .int .i64 0, .int .i64 0, .int .i64 0, .bool false] rfl rfl h3.out.cells Tryz.sizeDDV rfl (by simp [Value.oneCell']) ?_)
    intro w4 h4 k34 _
    have hb34 : Below w2.heap.size w2 w4 := h3.out.below.trans (k34.below (B := w2.heap.size) (fun x hx e => by have := h3.out.eq; omega) h3.out.below.size)
    have HX := Lib.hid h4; have HB4 := Lib.hid (HB2.out.trans (hb34.mono HB2.out.size))
    have q0 : w4.cell? ⟨R, 0, none⟩ = some (.bool false) := Lib.cell_of_heap h4 0
    have q1 : w4.cell? ⟨R, 1, none⟩ = some (.int .i64 0) := Lib.cell_of_heap h4 1
    clear h3 h4 k34 hb34 HB2
    have q2 : w4.cell? ⟨R, 2, none⟩ = some (.int .i64 0) := Lib.cell_of_heap HX.out 2
    have q3 : w4.cell? ⟨R, 3, none⟩ = some (.int .i64 0) := Lib.cell_of_heap HX.out 3
    have q4 : w4.cell? ⟨R, 4, none⟩ = some (.bool false) := Lib.cell_of_heap HX.out 4
    go_wp2_with fail
    go_ret2
    exact ⟨rfl, HB4.out⟩
end
section
open Go.RowKit

def getD (f : Txt → Option Txt) (t : Int) (ids : List Int) : DV := readD (rowF (valF f (keyF t ids)))
theorem five {l : List Int} (h : l.length = 5) : ∃ a b c d e, l = [a, b, c, d, e] := by
  match l, h with
  | [a, b, c, d, e], _ => exact ⟨a, b, c, d, e, rfl⟩

set_option maxHeartbeats 4000000 in
set_option maxRecDepth 100000 in
theorem dget_any {w : World} {x : Option Addr} {m : Bool} {f : Txt → Option Txt} (h : Look w x m f) (hf : FitF f) (t : Int) {ids : List Int} {vi : Value} (hl : ids.length ≤ 100000000) (hi : I64s ids) (hrd : Rd w intE 1 vi ids) :
    Calls Tryz.prog 102 #[.pointer x, .int .i64 t, vi] w (Ret w (.agg (dvC (getD f t ids)))) := by
  have H := Lib.hid h; have HF := Lib.hid hf
  clear h hf
  go_enter Tryz.func102, Tryz.ntmps102
  go_wp2_with (refine wpList_alloc_g rfl _ rfl _ _ Tryz.zeroDDV rfl ?_)
  intro R w1 h1
  have HRW : Hid (w.heap.size ≤ R) := Lib.hid (Nat.le_of_eq h1.out.eq.symm)
  have HR1 := Lib.hid h1.out.cells; have HB1 := Lib.hid h1.out.below
  clear h1
  go_wp2_with fail
  refine (key_any t ids vi _ hl hi (hrd.later HB1.out)).mono ?_
  rintro e w2 ⟨rfl, hb2⟩
  have HR2 := Lib.hid ((Keep.of_below (S := fun _ => False) hb2).at HR1.out id); have HB2 := Lib.hid (HB1.out.trans (hb2.mono HB1.out.size))
  clear hb2 HR1 HB1 hrd hl hi
  go_wp2_with fail
  refine (row_any (H.out.later HB2.out) HF.out (keyF t ids)).mono ?_
  rintro e w3 ⟨v, rfl, ho, hb3⟩
  obtain ⟨l, hll⟩ : ∃ l, l = rowF (valF f (keyF t ids)) := ⟨_, rfl⟩
  rw [← hll] at ho
  have HG : Hid (getD f t ids = readD l) := Lib.hid (by rw [hll]; rfl)
  have hrd := RowRet.rd ho
  have HR3 := Lib.hid ((Keep.of_below (S := fun _ => False) hb3).at HR2.out id); have HB3 := Lib.hid (HB2.out.trans (hb3.mono HB2.out.size))
  clear ho hll HR2 HB2 hb3
  obtain ⟨ad, cap, rfl, c1, c2⟩ := hrd.shape
  obtain ⟨n, hn⟩ : ∃ n, n = l.length := ⟨_, rfl⟩
  rw [← hn] at c1 ⊢
  by_cases h5 : n = 5
  · subst h5
    obtain ⟨a, b, c, d, e, rfl⟩ := five hn.symm
    obtain ⟨q, off, rfl, hq, t0⟩ := hrd.at 0 (by simp)
    obtain ⟨q1, off1, he1, _, t1⟩ := hrd.at 1 (by simp)
    cases he1
    obtain ⟨q1, off1, he1, _, t2⟩ := hrd.at 2 (by simp)
    cases he1
    obtain ⟨q1, off1, he1, _, t3⟩ := hrd.at 3 (by simp)
    cases he1
    obtain ⟨q1, off1, he1, _, t4⟩ := hrd.at 4 (by simp)
    cases he1
    have hb4 : Below w3.heap.size w3 w3.drew := Below.drew (Below.refl _ _)
    have HR4 := Lib.hid ((Keep.of_below (S := fun _ => False) hb4).at HR3.out id); have HB4 := Lib.hid (HB3.out.trans (hb4.mono HB3.out.size))
    have hS : w3.drew.cell? ⟨q, off, none⟩ = some (.int .i64 a) ∧ w3.drew.cell? ⟨q, off + 1, none⟩ = some (.int .i64 b) ∧ w3.drew.cell? ⟨q, off + 2, none⟩ = some (.int .i64 c) ∧ w3.drew.cell? ⟨q, off + 3, none⟩ = some (.int .i64 d) ∧ w3.drew.cell? ⟨q, off + 4, none⟩ = some (.int .i64 e) := ⟨t0, t1, t2, t3, t4⟩
    clear hb4 HR3 HB3 hq t0 t1 t2 t3 t4 hrd hn
    go_wp2_with fail
    refine wp_region_till (fun w' => w'.cell? ⟨q, off, none⟩ = some (.int .i64 a) ∧ w'.cell? ⟨q, off + 1, none⟩ = some (.int .i64 b) ∧ w'.cell? ⟨q, off + 2, none⟩ = some (.int .i64 c) ∧ w'.cell? ⟨q, off + 3, none⟩ = some (.int .i64 d) ∧ w'.cell? ⟨q, off + 4, none⟩ = some (.int .i64 e)) 18 19 (by kernel_rfl) rfl ?_
    refine till_take 0 (some 17) rfl rfl (by kernel_rfl) (by kernel_rfl) (by kernel_rfl) (by kernel_rfl) (by kernel_rfl) (by kernel_rfl) (fun _ _ _ h => h) (.inl ⟨by rfl, fun w' _ => (by go_simp; rfl)⟩) hS ?_
    go_frame
    refine till_take 1 (some 18) rfl rfl (by kernel_rfl) (by kernel_rfl) (by kernel_rfl) (by kernel_rfl) (by kernel_rfl) (by kernel_rfl) (fun _ _ _ h => h) (.inl ⟨by rfl, fun w' _ => (by go_simp; rfl)⟩) hS ?_
    go_frame
    refine till_take 2 (some 19) rfl rfl (by kernel_rfl) (by kernel_rfl) (by kernel_rfl) (by kernel_rfl) (by kernel_rfl) (by kernel_rfl) (fun _ _ _ h => h) (.inl ⟨by rfl, fun w' hS' => (by obtain ⟨hc1, hc2, hc3, hc4, hc5⟩ := hS'; go_simp; rfl)⟩) hS ?_
    go_frame
    refine till_take 3 (some 20) rfl rfl (by kernel_rfl) (by kernel_rfl) (by kernel_rfl) (by kernel_rfl) (by kernel_rfl) (by kernel_rfl) (fun _ _ _ h => h) (.inl ⟨by rfl, fun w' _ => (by go_simp; rfl)⟩) hS ?_
    go_frame
    refine till_take 4 (some 21) rfl rfl (by kernel_rfl) (by kernel_rfl) (by kernel_rfl) (by kernel_rfl) (by kernel_rfl) (by kernel_rfl) (fun _ _ _ h => h) (.inl ⟨by rfl, fun w' _ => (by go_simp; rfl)⟩) hS ?_
    go_frame
    refine till_take 5 (some 22) rfl rfl (by kernel_rfl) (by kernel_rfl) (by kernel_rfl) (by kernel_rfl) (by kernel_rfl) (by kernel_rfl) (fun _ _ _ h => h) (.inl ⟨by rfl, fun w' _ => (by go_simp; rfl)⟩) hS ?_
    go_frame
    refine till_take 6 (some 23) rfl rfl (by kernel_rfl) (by kernel_rfl) (by kernel_rfl) (by kernel_rfl) (by kernel_rfl) (by kernel_rfl) (fun _ _ _ h => h) (.inl ⟨by rfl, fun w' hS' => (by obtain ⟨hc1, hc2, hc3, hc4, hc5⟩ := hS'; go_simp; rfl)⟩) hS ?_
    go_frame
    refine till_take 7 (some 24) rfl rfl (by kernel_rfl) (by kernel_rfl) (by kernel_rfl) (by kernel_rfl) (by kernel_rfl) (by kernel_rfl) (fun _ _ _ h => h) (.inl ⟨by rfl, fun w' _ => (by go_simp; rfl)⟩) hS ?_
    go_frame
    refine till_take 8 (some 25) rfl rfl (by kernel_rfl) (by kernel_rfl) (by kernel_rfl) (by kernel_rfl) (by kernel_rfl) (by kernel_rfl) (fun _ _ _ h => h) (.inl ⟨by rfl, fun w' _ => (by go_simp; rfl)⟩) hS ?_
    go_frame
    refine till_take 9 (some 26) rfl rfl (by kernel_rfl) (by kernel_rfl) (by kernel_rfl) (by kernel_rfl) (by kernel_rfl) (by kernel_rfl) (fun _ _ _ h => h) (.inl ⟨by rfl, fun w' hS' => (by obtain ⟨hc1, hc2, hc3, hc4, hc5⟩ := hS'; go_simp; rfl)⟩) hS ?_
    go_frame
    refine till_take 10 (some 27) rfl rfl (by kernel_rfl) (by kernel_rfl) (by kernel_rfl) (by kernel_rfl) (by kernel_rfl) (by kernel_rfl) (fun _ _ _ h => h) (.inl ⟨by rfl, fun w' _ => (by go_simp; rfl)⟩) hS ?_
    go_frame
    refine till_take 11 (some 28) rfl rfl (by kernel_rfl) (by kernel_rfl) (by kernel_rfl) (by kernel_rfl) (by kernel_rfl) (by kernel_rfl) (fun _ _ _ h => h) (.inl ⟨by rfl, fun w' _ => (by go_simp; rfl)⟩) hS ?_
    go_frame
    refine till_take 12 (some 29) rfl rfl (by kernel_rfl) (by kernel_rfl) (by kernel_rfl) (by kernel_rfl) (by kernel_rfl) (by kernel_rfl) (fun _ _ _ h => h) (.inl ⟨by rfl, fun w' _ => (by go_simp; rfl)⟩) hS ?_
    go_frame
    refine till_take 13 (some 30) rfl rfl (by kernel_rfl) (by kernel_rfl) (by kernel_rfl) (by kernel_rfl) (by kernel_rfl) (by kernel_rfl) (fun _ _ _ h => h) (.inl ⟨by rfl, fun w' hS' => (by obtain ⟨hc1, hc2, hc3, hc4, hc5⟩ := hS'; go_simp; rfl)⟩) hS ?_
    go_frame
    refine till_take 14 (some 31) rfl rfl (by kernel_rfl) (by kernel_rfl) (by kernel_rfl) (by kernel_rfl) (by kernel_rfl) (by kernel_rfl) (fun _ _ _ h => h) (.inl ⟨by rfl, fun w' _ => (by go_simp; rfl)⟩) hS ?_
    go_frame
    refine till_take 15 (some 32) rfl rfl (by kernel_rfl) (by kernel_rfl) (by kernel_rfl) (by kernel_rfl) (by kernel_rfl) (by kernel_rfl) (fun _ _ _ h => h) (.inl ⟨by rfl, fun w' _ => (by go_simp; rfl)⟩) hS ?_
    go_frame
    refine till_take 16 (some 33) rfl rfl (by kernel_rfl) (by kernel_rfl) (by kernel_rfl) (by kernel_rfl) (by kernel_rfl) (by kernel_rfl) (fun _ _ _ h => h) (.inl ⟨by rfl, fun w' hS' => (by obtain ⟨hc1, hc2, hc3, hc4, hc5⟩ := hS'; go_simp; rfl)⟩) hS ?_
    go_frame
    refine till_take 17 (some 34) rfl rfl (by kernel_rfl) (by kernel_rfl) (by kernel_rfl) (by kernel_rfl) (by kernel_rfl) (by kernel_rfl) (fun _ _ _ h => h) (.inl ⟨by rfl, fun w' _ => (by go_simp; rfl)⟩) hS ?_
    go_frame
    refine till_one 18 rfl (by kernel_rfl) fun K hK => ?_
    simp only [List.getElem_toArray, List.getElem_cons_succ, List.getElem_cons_zero]
    rw [if_pos (by rfl)]
    refine wp_store_row_g (t := 138) (old := #[.bool false, .int .i64 0, .int .i64 0, .int .i64 0, .bool false]) 138 _ _ rfl R #[.bool (a == 1), .int .i64 b, .int .i64 d, .int .i64 e, .bool (c == 1)] rfl rfl HR4.out Tryz.sizeDDV rfl (by simp [Value.oneCell']) ?_
    intro w5 h5 k45 _
    have HX := Lib.hid h5
    have HB5 : Hid (Below w.heap.size w w5) := Lib.hid (HB4.out.trans (k45.below (B := w.heap.size) (fun x hx e => by have := HRW.out; omega) HB4.out.size))
    refine hK _ _ (fun h => absurd rfl h) ?_
    clear hK h5 k45
    refine till_done (by kernel_rfl) ?_ _
    go_wp2_with fail
    exact bodyPost_ret (results_cell_row rfl _ _ _ _ _ _ _ rfl HX.out Tryz.underlying138 rfl Tryz.sizeDDV) rfl ⟨by rw [HG.out]; rfl, HB5.out⟩
  · have h5' : ((n : Int) != 5) = true := by rw [bne_iff_ne]; omega
    have HG0 : Hid (getD f t ids = DV.zero) := Lib.hid (by rw [HG.out, readD_len (by omega)])
    clear h5 hn hrd
    go_wp2_with (refine wpList_store_row_g (t := 138) (old := #[.bool false, .int .i64 0, .int .i64 0, .int .i64 0, .bool false]) rfl 138 _ _ rfl R #[.bool false, .int .i64 0, .int .i64 0, .int .i64 0, .bool false] rfl rfl HR3.out Tryz.sizeDDV rfl (by simp [Value.oneCell']) ?_)
    intro w4 h4 k34 _
    have HX := Lib.hid h4
    have HB4 : Hid (Below w.heap.size w w4) := Lib.hid (HB3.out.trans (k34.below (B := w.heap.size) (fun x hx e => by have := HRW.out; omega) HB3.out.size))
    clear h4 k34
    go_wp2_with fail
    exact bodyPost_ret (results_cell_row rfl _ _ _ _ _ _ _ rfl HX.out Tryz.underlying138 rfl Tryz.sizeDDV) rfl ⟨by rw [HG0.out]; rfl, HB4.out⟩

set_option maxHeartbeats 4000000 in
set_option maxRecDepth 100000 in
theorem rget28_any {w : World} {g : Nat} {s : PS} {F : List Nat} (h : RS w g s F) (hz : s.sz < 1099511627776) (hf : Fit s) (t : Int) {ids : List Int} {vi : Value} (hl : ids.length ≤ 100000000) (hi : I64s ids) (hrd : Rd w intE 1 vi ids) :
    Calls Tryz.prog 104 #[.pointer (some ⟨g, 0, none⟩), .int .i64 t, vi] w (Ret w (.agg (dvC (getD (getP s.t) t ids)))) := by
  have H := Lib.hid h; have HF := Lib.hid hf
  clear h hf
  go_enter Tryz.func104, Tryz.ntmps104
  go_wp2_with (refine wpList_alloc_g rfl _ rfl _ _ Tryz.zeroRDV rfl ?_)
  intro R w1 h1
  have HRW : Hid (w.heap.size ≤ R) := Lib.hid (Nat.le_of_eq h1.out.eq.symm)
  have HR1 := Lib.hid h1.out.cells; have HB1 := Lib.hid h1.out.below
  clear h1
  go_wp2_with fail
  refine (refKey_any t ids vi _ hl hi (hrd.later HB1.out)).mono ?_
  rintro e w2 ⟨rfl, hb2⟩
  have HR2 := Lib.hid ((Keep.of_below (S := fun _ => False) hb2).at HR1.out id); have HB2 := Lib.hid (HB1.out.trans (hb2.mono HB1.out.size))
  clear hb2 HR1 HB1 hrd hl hi
  go_wp2_with fail
  refine (rrow_any (H.out.later HB2.out) hz HF.out (keyF t ids)).mono ?_
  rintro e w3 ⟨v, rfl, ho, hb3⟩
  obtain ⟨l, hll⟩ : ∃ l, l = rowF (valF (getP s.t) (keyF t ids)) := ⟨_, rfl⟩
  rw [← hll] at ho
  have HG : Hid (getD (getP s.t) t ids = readD l) := Lib.hid (by rw [hll]; rfl)
  have hrd := RowRet.rd ho
  have HR3 := Lib.hid ((Keep.of_below (S := fun _ => False) hb3).at HR2.out id); have HB3 := Lib.hid (HB2.out.trans (hb3.mono HB2.out.size))
  clear ho hll HR2 HB2 hb3
  obtain ⟨ad, cap, rfl, c1, c2⟩ := hrd.shape
  obtain ⟨n, hn⟩ : ∃ n, n = l.length := ⟨_, rfl⟩
  rw [← hn] at c1 ⊢
  by_cases h5 : n = 5
  · subst h5
    obtain ⟨a, b, c, d, e, rfl⟩ := five hn.symm
    obtain ⟨q, off, rfl, hq, t0⟩ := hrd.at 0 (by simp)
    obtain ⟨q1, off1, he1, _, t1⟩ := hrd.at 1 (by simp)
    cases he1
    obtain ⟨q1, off1, he1, _, t2⟩ := hrd.at 2 (by simp)
    cases he1
    obtain ⟨q1, off1, he1, _, t3⟩ := hrd.at 3 (by simp)
    cases he1
    obtain ⟨q1, off1, he1, _, t4⟩ := hrd.at 4 (by simp)
    cases he1
    have hb4 : Below w3.heap.size w3 w3.drew := Below.drew (Below.refl _ _)
    have HR4 := Lib.hid ((Keep.of_below (S := fun _ => False) hb4).at HR3.out id); have HB4 := Lib.hid (HB3.out.trans (hb4.mono HB3.out.size))
    have hS : w3.drew.cell? ⟨q, off, none⟩ = some (.int .i64 a) ∧ w3.drew.cell? ⟨q, off + 1, none⟩ = some (.int .i64 b) ∧ w3.drew.cell? ⟨q, off + 2, none⟩ = some (.int .i64 c) ∧ w3.drew.cell? ⟨q, off + 3, none⟩ = some (.int .i64 d) ∧ w3.drew.cell? ⟨q, off + 4, none⟩ = some (.int .i64 e) := ⟨t0, t1, t2, t3, t4⟩
    clear hb4 HR3 HB3 hq t0 t1 t2 t3 t4 hrd hn
    go_wp2_with fail
    refine wp_region_till (fun w' => w'.cell? ⟨q, off, none⟩ = some (.int .i64 a) ∧ w'.cell? ⟨q, off + 1, none⟩ = some (.int .i64 b) ∧ w'.cell? ⟨q, off + 2, none⟩ = some (.int .i64 c) ∧ w'.cell? ⟨q, off + 3, none⟩ = some (.int .i64 d) ∧ w'.cell? ⟨q, off + 4, none⟩ = some (.int .i64 e)) 18 19 (by kernel_rfl) rfl ?_
    refine till_take 0 (some 17) rfl rfl (by kernel_rfl) (by kernel_rfl) (by kernel_rfl) (by kernel_rfl) (by kernel_rfl) (by kernel_rfl) (fun _ _ _ h => h) (.inl ⟨by rfl, fun w' _ => (by go_simp; rfl)⟩) hS ?_
    go_frame
    refine till_take 1 (some 18) rfl rfl (by kernel_rfl) (by kernel_rfl) (by kernel_rfl) (by kernel_rfl) (by kernel_rfl) (by kernel_rfl) (fun _ _ _ h => h) (.inl ⟨by rfl, fun w' _ => (by go_simp; rfl)⟩) hS ?_
    go_frame
    refine till_take 2 (some 19) rfl rfl (by kernel_rfl) (by kernel_rfl) (by kernel_rfl) (by kernel_rfl) (by kernel_rfl) (by kernel_rfl) (fun _ _ _ h => h) (.inl ⟨by rfl, fun w' hS' => (by obtain ⟨hc1, hc2, hc3, hc4, hc5⟩ := hS'; go_simp; rfl)⟩) hS ?_
    go_frame
    refine till_take 3 (some 20) rfl rfl (by kernel_rfl) (by kernel_rfl) (by kernel_rfl) (by kernel_rfl) (by kernel_rfl) (by kernel_rfl) (fun _ _ _ h => h) (.inl ⟨by rfl, fun w' _ => (by go_simp; rfl)⟩) hS ?_
    go_frame
    refine till_take 4 (some 21) rfl rfl (by kernel_rfl) (by kernel_rfl) (by kernel_rfl) (by kernel_rfl) (by kernel_rfl) (by kernel_rfl) (fun _ _ _ h => h) (.inl ⟨by rfl, fun w' _ => (by go_simp; rfl)⟩) hS ?_
    go_frame
    refine till_take 5 (some 22) rfl rfl (by kernel_rfl) (by kernel_rfl) (by kernel_rfl) (by kernel_rfl) (by kernel_rfl) (by kernel_rfl) (fun _ _ _ h => h) (.inl ⟨by rfl, fun w' _ => (by go_simp; rfl)⟩) hS ?_
    go_frame
    refine till_take 6 (some 23) rfl rfl (by kernel_rfl) (by kernel_rfl) (by kernel_rfl) (by kernel_rfl) (by kernel_rfl) (by kernel_rfl) (fun _ _ _ h => h) (.inl ⟨by rfl, fun w' hS' => (by obtain ⟨hc1, hc2, hc3, hc4, hc5⟩ := hS'; go_simp; rfl)⟩) hS ?_
    go_frame
    refine till_take 7 (some 24) rfl rfl (by kernel_rfl) (by kernel_rfl) (by kernel_rfl) (by kernel_rfl) (by kernel_rfl) (by kernel_rfl) (fun _ _ _ h => h) (.inl ⟨by rfl, fun w' _ => (by go_simp; rfl)⟩) hS ?_
    go_frame
    refine till_take 8 (some 25) rfl rfl (by kernel_rfl) (by kernel_rfl) (by kernel_rfl) (by kernel_rfl) (by kernel_rfl) (by kernel_rfl) (fun _ _ _ h => h) (.inl ⟨by rfl, fun w' _ => (by go_simp; rfl)⟩) hS ?_
    go_frame
    refine till_take 9 (some 26) rfl rfl (by kernel_rfl) (by kernel_rfl) (by kernel_rfl) (by kernel_rfl) (by kernel_rfl) (by kernel_rfl) (fun _ _ _ h => h) (.inl ⟨by rfl, fun w' hS' => (by obtain ⟨hc1, hc2, hc3, hc4, hc5⟩ := hS'; go_simp; rfl)⟩) hS ?_
    go_frame
    refine till_take 10 (some 27) rfl rfl (by kernel_rfl) (by kernel_rfl) (by kernel_rfl) (by kernel_rfl) (by kernel_rfl) (by kernel_rfl) (fun _ _ _ h => h) (.inl ⟨by rfl, fun w' _ => (by go_simp; rfl)⟩) hS ?_
    go_frame
    refine till_take 11 (some 28) rfl rfl (by kernel_rfl) (by kernel_rfl) (by kernel_rfl) (by kernel_rfl) (by kernel_rfl) (by kernel_rfl) (fun _ _ _ h => h) (.inl ⟨by rfl, fun w' _ => (by go_simp; rfl)⟩) hS ?_
    go_frame
    refine till_take 12 (some 29) rfl rfl (by kernel_rfl) (by kernel_rfl) (by kernel_rfl) (by kernel_rfl) (by kernel_rfl) (by kernel_rfl) (fun _ _ _ h => h) (.inl ⟨by rfl, fun w' _ => (by go_simp; rfl)⟩) hS ?_
    go_frame
    refine till_take 13 (some 30) rfl rfl (by kernel_rfl) (by kernel_rfl) (by kernel_rfl) (by kernel_rfl) (by kernel_rfl) (by kernel_rfl) (fun _ _ _ h => h) (.inl ⟨by rfl, fun w' hS' => (by obtain ⟨hc1, hc2, hc3, hc4, hc5⟩ := hS'; go_simp; rfl)⟩) hS ?_
    go_frame
    refine till_take 14 (some 31) rfl rfl (by kernel_rfl) (by kernel_rfl) (by kernel_rfl) (by kernel_rfl) (by kernel_rfl) (by kernel_rfl) (fun _ _ _ h => h) (.inl ⟨by rfl, fun w' _ => (by go_simp; rfl)⟩) hS ?_
    go_frame
    refine till_take 15 (some 32) rfl rfl (by kernel_rfl) (by kernel_rfl) (by kernel_rfl) (by kernel_rfl) (by kernel_rfl) (by kernel_rfl) (fun _ _ _ h => h) (.inl ⟨by rfl, fun w' _ => (by go_simp; rfl)⟩) hS ?_
    go_frame
    refine till_take 16 (some 33) rfl rfl (by kernel_rfl) (by kernel_rfl) (by kernel_rfl) (by kernel_rfl) (by kernel_rfl) (by kernel_rfl) (fun _ _ _ h => h) (.inl ⟨by rfl, fun w' hS' => (by obtain ⟨hc1, hc2, hc3, hc4, hc5⟩ := hS'; go_simp; rfl)⟩) hS ?_
    go_frame
    refine till_take 17 (some 34) rfl rfl (by kernel_rfl) (by kernel_rfl) (by kernel_rfl) (by kernel_rfl) (by kernel_rfl) (by kernel_rfl) (fun _ _ _ h => h) (.inl ⟨by rfl, fun w' _ => (by go_simp; rfl)⟩) hS ?_
    go_frame
    refine till_one 18 rfl (by kernel_rfl) fun K hK => ?_
    simp only [List.getElem_toArray, List.getElem_cons_succ, List.getElem_cons_zero]
    rw [if_pos (by rfl)]
    refine wp_store_row_g (t := 141) (old := #[.bool false, .int .i64 0, .int .i64 0, .int .i64 0, .bool false]) 141 _ _ rfl R #[.bool (a == 1), .int .i64 b, .int .i64 d, .int .i64 e, .bool (c == 1)] rfl rfl HR4.out Tryz.sizeRDV rfl (by simp [Value.oneCell']) ?_
    intro w5 h5 k45 _
    have HX := Lib.hid h5
    have HB5 : Hid (Below w.heap.size w w5) := Lib.hid (HB4.out.trans (k45.below (B := w.heap.size) (fun x hx e => by have := HRW.out; omega) HB4.out.size))
    refine hK _ _ (fun h => absurd rfl h) ?_
    clear hK h5 k45
    refine till_done (by kernel_rfl) ?_ _
    go_wp2_with fail
    exact bodyPost_ret (results_cell_row rfl _ _ _ _ _ _ _ rfl HX.out Tryz.underlying141 rfl Tryz.sizeRDV) rfl ⟨by rw [HG.out]; rfl, HB5.out⟩
  · have h5' : ((n : Int) != 5) = true := by rw [bne_iff_ne]; omega
    have HG0 : Hid (getD (getP s.t) t ids = DV.zero) := Lib.hid (by rw [HG.out, readD_len (by omega)])
    clear h5 hn hrd
    go_wp2_with (refine wpList_store_row_g (t := 141) (old := #[.bool false, .int .i64 0, .int .i64 0, .int .i64 0, .bool false]) rfl 141 _ _ rfl R #[.bool false, .int .i64 0, .int .i64 0, .int .i64 0, .bool false] rfl rfl HR3.out Tryz.sizeRDV rfl (by simp [Value.oneCell']) ?_)
    intro w4 h4 k34 _
    have HX := Lib.hid h4
    have HB4 : Hid (Below w.heap.size w w4) := Lib.hid (HB3.out.trans (k34.below (B := w.heap.size) (fun x hx e => by have := HRW.out; omega) HB3.out.size))
    clear h4 k34
    go_wp2_with fail
    exact bodyPost_ret (results_cell_row rfl _ _ _ _ _ _ _ rfl HX.out Tryz.underlying141 rfl Tryz.sizeRDV) rfl ⟨by rw [HG0.out]; rfl, HB4.out⟩
end
section
open Go.RowKit

def dgB (n : Int) : Bool := decide (0 ≤ n) && decide (n ≤ 1099511627776)
theorem dgB_yes {n : Int} : dgB n = true ↔ 0 ≤ n ∧ n ≤ 1099511627776 := by unfold dgB; simp
theorem dgB_no {n : Int} : dgB n = false ↔ n < 0 ∨ 1099511627776 < n := by unfold dgB; simp; omega
theorem dgood_any (n : Int) (w : World) : Calls Tryz.prog 152 #[.int .i64 n] w fun e w' => e = .returned (.bool (dgB n)) ∧ w = w' := by
  by_cases h1 : 0 ≤ n
  · by_cases h2 : n ≤ 1099511627776
    · have e : dgB n = true := dgB_yes.2 ⟨h1, h2⟩
      rw [e]
      clear e
      go_enter Tryz.func152, Tryz.ntmps152
      go_wp2
      go_ret
      exact ⟨rfl, rfl⟩
    · have e : dgB n = false := dgB_no.2 (.inr (by omega))
      rw [e]
      clear e
      go_enter Tryz.func152, Tryz.ntmps152
      go_wp2
      go_ret
      exact ⟨rfl, rfl⟩
  · have e : dgB n = false := dgB_no.2 (.inl (by omega))
    rw [e]
    clear e
    go_enter Tryz.func152, Tryz.ntmps152
    go_wp2
    go_ret
    exact ⟨rfl, rfl⟩


set_option maxHeartbeats 4000000 in
theorem drow_any (v : DV) (w : World) : Calls Tryz.prog 155 #[.agg (dvC v)] w (RowRet w (rowD v)) := by
  obtain ⟨h, n, x, t, m⟩ := v
  show Calls Tryz.prog 155 #[.agg #[.bool h, .int .i64 n, .int .i64 x, .int .i64 t, .bool m]] w (RowRet w [bitD h, n, bitD m, x, t])
  go_enter Tryz.func155, Tryz.ntmps155
  go_wp2_with fail
  obtain ⟨w1, hw1⟩ : ∃ w1, w1 = w.alloc (.cells #[.bool h, .int .i64 n, .int .i64 x, .int .i64 t, .bool m] 138) := ⟨_, rfl⟩
  obtain ⟨R, hR⟩ : ∃ R, R = w.heap.size := ⟨_, rfl⟩
  rw [← hw1, ← hR]
  have hx1 : w1.heap[R]? = some (.cells #[.bool h, .int .i64 n, .int .i64 x, .int .i64 t, .bool m] 138 (0, 0)) := by rw [hw1, hR]; exact heap_alloc_new _ _
  have hb1 : Below w.heap.size w w1 := by rw [hw1]; exact (Below.refl _ _).alloc (Nat.le_refl _) _
  have hS : w1.drew.cell? ⟨R, 0, none⟩ = some (.bool h) ∧ w1.drew.cell? ⟨R, 1, none⟩ = some (.int .i64 n) ∧ w1.drew.cell? ⟨R, 2, none⟩ = some (.int .i64 x) ∧ w1.drew.cell? ⟨R, 3, none⟩ = some (.int .i64 t) ∧ w1.drew.cell? ⟨R, 4, none⟩ = some (.bool m) := ⟨Lib.cell_of_heap hx1 0, Lib.cell_of_heap hx1 1, Lib.cell_of_heap hx1 2, Lib.cell_of_heap hx1 3, Lib.cell_of_heap hx1 4⟩
  have HB1 := Lib.hid hb1; have HX1 := Lib.hid hx1
  clear hw1 hR hx1 hb1
  refine wp_region_till (fun w' => w'.cell? ⟨R, 0, none⟩ = some (.bool h) ∧ w'.cell? ⟨R, 1, none⟩ = some (.int .i64 n) ∧ w'.cell? ⟨R, 2, none⟩ = some (.int .i64 x) ∧ w'.cell? ⟨R, 3, none⟩ = some (.int .i64 t) ∧ w'.cell? ⟨R, 4, none⟩ = some (.bool m)) 14 14 (by kernel_rfl) rfl ?_
  refine till_take 0 (some 3) rfl rfl (by kernel_rfl) (by kernel_rfl) (by kernel_rfl) (by kernel_rfl) (by kernel_rfl) (by kernel_rfl) (fun _ _ _ h => h) (.inl ⟨by rfl, fun w' _ => (by go_simp; rfl)⟩) hS ?_
  go_frame
  refine till_take 1 (some 4) rfl rfl (by kernel_rfl) (by kernel_rfl) (by kernel_rfl) (by kernel_rfl) (by kernel_rfl) (by kernel_rfl) (fun _ _ _ h => h) (.inl ⟨by rfl, fun w' hS' => (by obtain ⟨hc1, hc2, hc3, hc4, hc5⟩ := hS'; go_simp; rfl)⟩) hS ?_
  go_frame
  refine till_take 3 (some 6) rfl rfl (by kernel_rfl) (by kernel_rfl) (by kernel_rfl) (by kernel_rfl) (by kernel_rfl) (by kernel_rfl) (fun _ _ _ h => h) (.inl ⟨by rfl, fun w' _ => (by go_simp; rfl)⟩) hS ?_
  go_frame
  refine till_take 4 (some 7) rfl rfl (by kernel_rfl) (by kernel_rfl) (by kernel_rfl) (by kernel_rfl) (by kernel_rfl) (by kernel_rfl) (fun _ _ _ h => h) (.inl ⟨by rfl, fun w' hS' => (by obtain ⟨hc1, hc2, hc3, hc4, hc5⟩ := hS'; go_simp; rfl)⟩) hS ?_
  go_frame
  refine till_take 5 (some 8) rfl rfl (by kernel_rfl) (by kernel_rfl) (by kernel_rfl) (by kernel_rfl) (by kernel_rfl) (by kernel_rfl) (fun _ _ _ h => h) (.inl ⟨by rfl, fun w' _ => (by go_simp; rfl)⟩) hS ?_
  go_frame
  refine till_take 6 (some 9) rfl rfl (by kernel_rfl) (by kernel_rfl) (by kernel_rfl) (by kernel_rfl) (by kernel_rfl) (by kernel_rfl) (fun _ _ _ h => h) (.inl ⟨by rfl, fun w' hS' => (by obtain ⟨hc1, hc2, hc3, hc4, hc5⟩ := hS'; go_simp; rfl)⟩) hS ?_
  go_frame
  refine till_take 8 (some 11) rfl rfl (by kernel_rfl) (by kernel_rfl) (by kernel_rfl) (by kernel_rfl) (by kernel_rfl) (by kernel_rfl) (fun _ _ _ h => h) (.inl ⟨by rfl, fun w' _ => (by go_simp; rfl)⟩) hS ?_
  go_frame
  refine till_take 9 (some 12) rfl rfl (by kernel_rfl) (by kernel_rfl) (by kernel_rfl) (by kernel_rfl) (by kernel_rfl) (by kernel_rfl) (fun _ _ _ h => h) (.inl ⟨by rfl, fun w' hS' => (by obtain ⟨hc1, hc2, hc3, hc4, hc5⟩ := hS'; go_simp; rfl)⟩) hS ?_
  go_frame
  refine till_take 10 (some 13) rfl rfl (by kernel_rfl) (by kernel_rfl) (by kernel_rfl) (by kernel_rfl) (by kernel_rfl) (by kernel_rfl) (fun _ _ _ h => h) (.inl ⟨by rfl, fun w' _ => (by go_simp; rfl)⟩) hS ?_
  go_frame
  refine till_take 11 (some 14) rfl rfl (by kernel_rfl) (by kernel_rfl) (by kernel_rfl) (by kernel_rfl) (by kernel_rfl) (by kernel_rfl) (fun _ _ _ h => h) (.inl ⟨by rfl, fun w' hS' => (by obtain ⟨hc1, hc2, hc3, hc4, hc5⟩ := hS'; go_simp; rfl)⟩) hS ?_
  go_frame
  refine till_one 2 rfl (by kernel_rfl) fun K hK => ?_
  simp only [List.getElem_toArray, List.getElem_cons_succ, List.getElem_cons_zero]
  rw [if_pos (by rfl)]
  go_simp
  refine (dbit_any h _).mono ?_
  rintro e w8 ⟨rfl, rfl⟩
  refine hK _ _ (fun _ _ => hS) ?_
  clear hK
  refine till_one 7 rfl (by kernel_rfl) fun K hK => ?_
  simp only [List.getElem_toArray, List.getElem_cons_succ, List.getElem_cons_zero]
  rw [if_pos (by rfl)]
  go_simp
  refine (dbit_any m _).mono ?_
  rintro e w8 ⟨rfl, rfl⟩
  refine hK _ _ (fun _ _ => hS) ?_
  clear hK
  refine till_one 12 rfl (by kernel_rfl) fun K hK => ?_
  simp only [List.getElem_toArray, List.getElem_cons_succ, List.getElem_cons_zero]
  rw [if_pos (by rfl)]
  go_simp
  obtain ⟨w2, hw2⟩ : ∃ w2, w2 = (World.alloc w1 (.cells #[.int .i64 (bitD h), .int .i64 n, .int .i64 (bitD m), .int .i64 x, .int .i64 t] 3)).drew := ⟨_, rfl⟩
  obtain ⟨Q, hQ⟩ : ∃ Q, Q = (World.heap w1).size := ⟨_, rfl⟩
  rw [← hw2, ← hQ]
  have hbx : Below (World.heap w1).size w1 w2 := by rw [hw2]; exact ((Below.refl _ _).alloc (Nat.le_refl _) _).drew
  have hx2 : w2.heap[Q]? = some (.cells ([bitD h, n, bitD m, x, t].map (Value.int .i64)).toArray 3 (0, 0)) := by rw [hw2, hQ]; exact heap_alloc_new _ _
  have HO := Lib.hid (own_lit (B := w.heap.size) hx2 (by rw [hQ]; exact HB1.out.size) (by unfold maxLen; simp))
  have HB2 := Lib.hid (HB1.out.trans (hbx.mono HB1.out.size) : Below w.heap.size w w2)
  have hx3 := below_at' hbx HX1.out
  refine hK _ _ (fun _ _ => ⟨Lib.cell_of_heap hx3 0, Lib.cell_of_heap hx3 1, Lib.cell_of_heap hx3 2, Lib.cell_of_heap hx3 3, Lib.cell_of_heap hx3 4⟩) ?_
  clear hK hS
  have hS : w2.cell? ⟨R, 0, none⟩ = some (.bool h) ∧ w2.cell? ⟨R, 1, none⟩ = some (.int .i64 n) ∧ w2.cell? ⟨R, 2, none⟩ = some (.int .i64 x) ∧ w2.cell? ⟨R, 3, none⟩ = some (.int .i64 t) ∧ w2.cell? ⟨R, 4, none⟩ = some (.bool m) := ⟨Lib.cell_of_heap hx3 0, Lib.cell_of_heap hx3 1, Lib.cell_of_heap hx3 2, Lib.cell_of_heap hx3 3, Lib.cell_of_heap hx3 4⟩
  clear hw2 hQ hbx hx2 hx3
  refine till_take 13 (some 2) rfl rfl (by kernel_rfl) (by kernel_rfl) (by kernel_rfl) (by kernel_rfl) (by kernel_rfl) (by kernel_rfl) (fun _ _ _ h => h) (.inl ⟨by rfl, fun w' _ => (by go_simp; rfl)⟩) hS ?_
  go_frame
  refine till_done (by kernel_rfl) ?_ _
  clear hS
  go_wp2_with fail
  go_ret
  exact ⟨_, rfl, HO.out, HB2.out⟩

/-- Its numbers may be. -/
structure Bd (v : DV) : Prop where
  now : 0 ≤ v.now ∧ v.now < 9223372036854775808
  next : 0 ≤ v.next ∧ v.next < 9223372036854775808
  at_ : 0 ≤ v.at_ ∧ v.at_ < 9223372036854775808
theorem Bd.zero : Bd DV.zero := by constructor <;> (constructor <;> decide)
theorem Bd.get (f : Txt → Option Txt) (t : Int) (ids : List Int) : Bd (getD f t ids) := by
  unfold getD
  have h := rowF_bound (valF f (keyF t ids))
  generalize rowF (valF f (keyF t ids)) = l at h
  by_cases h5 : l.length = 5
  · obtain ⟨a, b, c, d, e, rfl⟩ := five h5
    exact ⟨h b (by simp), h d (by simp), h e (by simp)⟩
  · rw [readD_len h5]; exact Bd.zero
theorem Bd.settle {v : DV} (h : Bd v) (b : Int) : Bd (settleD v b) := by
  unfold settleD
  split
  · exact ⟨h.next, (by show (0 : Int) ≤ 0 ∧ (0 : Int) < _; omega), (by show (0 : Int) ≤ 0 ∧ (0 : Int) < _; omega)⟩
  · exact h
theorem bitD_bd (b : Bool) : 0 ≤ bitD b ∧ bitD b ≤ 1 := by cases b <;> decide
theorem Bd.row {v : DV} (h : Bd v) : I64s (rowD v) := by
  have h1 := bitD_bd v.has
  have h2 := bitD_bd v.more
  have h3 := h.now; have h4 := h.next; have h5 := h.at_
  intro x hx
  simp only [rowD, List.mem_cons, List.not_mem_nil, or_false] at hx
  rcases hx with rfl | rfl | rfl | rfl | rfl <;> omega
/-- What is laid. -/
def nextD (u : DV) (v b wt : Int) : DV := settleD ⟨(settleD u b).has, (settleD u b).now, v, b + wt, true⟩ b
theorem Bd.nextD {u : DV} (h : Bd u) {v b wt : Int} (hv : dgB v = true) (hb : dgB b = true) (hw : dgB wt = true) : Bd (nextD u v b wt) := by
  rw [dgB_yes] at hv hb hw
  unfold Go.Proofs.YthnjakomkdlglaaGreat.nextD
  refine Bd.settle (v := ⟨(settleD u b).has, (settleD u b).now, v, b + wt, true⟩) ⟨(h.settle b).now, ?_, ?_⟩ b
  · show 0 ≤ v ∧ v < _; omega
  · show 0 ≤ b + wt ∧ b + wt < _; omega
def badD (t : Int) (ids : List Int) (v b wt : Int) : Bool := (keyF t ids).isEmpty || !dgB v || !dgB b || !dgB wt
def putD (s : PS) (t : Int) (ids : List Int) (v b wt : Int) : PS := if badD t ids v b wt then s else s.setRow (keyF t ids) (rowD (nextD (getD (getP s.t) t ids) v b wt))
def putDE (t : Int) (ids : List Int) (v b wt : Int) : Int := if badD t ids v b wt then 2 else 0
theorem putD_bad {s : PS} {t : Int} {ids : List Int} {v b wt : Int} (h : badD t ids v b wt = true) : putD s t ids v b wt = s ∧ putDE t ids v b wt = 2 := by unfold putD putDE; rw [if_pos h, if_pos h]; exact ⟨rfl, rfl⟩
theorem putD_ok {s : PS} {t : Int} {ids : List Int} {v b wt : Int} (h : badD t ids v b wt = false) : putD s t ids v b wt = s.setRow (keyF t ids) (rowD (nextD (getD (getP s.t) t ids) v b wt)) ∧ putDE t ids v b wt = 0 := by unfold putD putDE; rw [h]; exact ⟨rfl, rfl⟩
theorem sz_putD (s : PS) (t : Int) (ids : List Int) (v b wt : Int) : (putD s t ids v b wt).sz ≤ s.sz + 2 := by
  unfold putD
  split
  · omega
  · exact sz_setRow _ _ _
theorem Fit.putD {s : PS} (h : Fit s) (t : Int) (ids : List Int) (v b wt : Int) : Fit (putD s t ids v b wt) := by
  unfold Go.Proofs.YthnjakomkdlglaaGreat.putD
  split
  · exact h
  · exact h.setRow _ (by simp [rowD])
theorem txt_empty (k : Txt) : (bs k).toList.isEmpty = k.isEmpty := by rw [toList_bs]

set_option maxHeartbeats 4000000 in
set_option maxRecDepth 100000 in
theorem dset_not {w : World} {x : Option Addr} (h : NotMade w x) (t : Int) {ids : List Int} {vi : Value} (hl : ids.length ≤ 100000000) (hi : I64s ids) (hrd : Rd w intE 1 vi ids) (v b wt : Int) :
    Calls Tryz.prog 97 #[.pointer x, .int .i64 t, vi, .int .i64 v, .int .i64 b, .int .i64 wt] w (Ret w (.int .i64 1)) := by
  have H := Lib.hid h
  clear h
  go_enter Tryz.func97, Tryz.ntmps97
  go_wp2_with fail
  refine (key_any t ids vi _ hl hi hrd).mono ?_
  rintro e w1 ⟨rfl, hb1⟩
  have H1 := Lib.hid (H.out.later hb1); have HB1 := Lib.hid hb1
  clear hb1 hl hi hrd H
  go_wp2_with fail
  refine (smade_not H1.out).mono ?_
  rintro e w2 ⟨rfl, rfl⟩
  go_wp2_with fail
  go_ret
  exact ⟨rfl, HB1.out⟩

set_option maxHeartbeats 4000000 in
set_option maxRecDepth 100000 in
theorem dset_any {w : World} {g : Nat} {s : PS} {F : List Nat} (h : St w g s F) (hz : s.sz < 1099511627776) (hf : Fit s) (t : Int) {ids : List Int} {vi : Value} (hl : ids.length ≤ 100000000) (hi : I64s ids) (hrd : Rd w intE 1 vi ids) (v b wt : Int) :
    Calls Tryz.prog 97 #[.pointer (some ⟨g, 0, none⟩), .int .i64 t, vi, .int .i64 v, .int .i64 b, .int .i64 wt] w (StRet w g F (putD s t ids v b wt) (.int .i64 (putDE t ids v b wt))) := by
  have L := Lib.hid (Liv.start h); have HZ := Lib.hid hz; have HF := Lib.hid hf; have HID := Lib.hid (And.intro hl (And.intro hi hrd))
  clear h hz hf
  go_enter Tryz.func97, Tryz.ntmps97
  go_wp2_with fail
  refine (key_any t ids vi _ hl hi hrd).mono ?_
  rintro e w1 ⟨rfl, hb1⟩
  have L1 := Lib.hid (L.out.later hb1); have HB1 := Lib.hid hb1; have HID1 : Hid (ids.length ≤ 100000000 ∧ I64s ids ∧ Rd w1 intE 1 vi ids) := Lib.hid ⟨hl, hi, hrd.later hb1⟩
  obtain ⟨k, hk⟩ : ∃ k, k = keyF t ids := ⟨_, rfl⟩
  rw [← hk]
  have hbad : badD t ids v b wt = (k.isEmpty || !dgB v || !dgB b || !dgB wt) := by rw [hk]; rfl
  have HBAD := Lib.hid hbad; have HK := Lib.hid hk
  clear hb1 hl hi hrd L HID hbad hk
  have h1t := txt_empty k
  go_wp2_with fail
  obtain ⟨F1, p1, _⟩ := L1.out
  have P1 := Lib.hid p1
  clear p1
  refine (smade_any P1.out).mono ?_
  rintro e w2 ⟨rfl, rfl⟩
  by_cases hk0 : k = []
  · subst hk0
    have hbd : badD t ids v b wt = true := by rw [HBAD.out]; simp
    obtain ⟨hp1, hp2⟩ := putD_bad (s := s) hbd
    have HP1 := Lib.hid hp1; have HP2 := Lib.hid hp2
    have h1t : (bs ([] : Txt)).toList.isEmpty = true := by rw [txt_empty]; rfl
    clear hp1 hp2 hbd
    go_wp2_with fail
    go_ret
    rw [HP1.out, HP2.out]
    exact L1.out.ret
  cases hv : dgB v with
  | false =>
    have hbd : badD t ids v b wt = true := by rw [HBAD.out]; simp [hv]
    obtain ⟨hp1, hp2⟩ := putD_bad (s := s) hbd
    have HP1 := Lib.hid hp1; have HP2 := Lib.hid hp2
    have h1t : (bs k).toList.isEmpty = false := by rw [txt_empty]; simpa using hk0
    clear hp1 hp2 hbd
    go_wp2_with fail
    refine (dgood_any v _).mono ?_
    rintro e w2 ⟨rfl, rfl⟩
    rw [hv]
    go_wp2_with fail
    go_ret
    rw [HP1.out, HP2.out]
    exact L1.out.ret
  | true =>
  cases hb : dgB b with
  | false =>
    have hbd : badD t ids v b wt = true := by rw [HBAD.out]; simp [hb]
    obtain ⟨hp1, hp2⟩ := putD_bad (s := s) hbd
    have HP1 := Lib.hid hp1; have HP2 := Lib.hid hp2
    have h1t : (bs k).toList.isEmpty = false := by rw [txt_empty]; simpa using hk0
    clear hp1 hp2 hbd
    go_wp2_with fail
    refine (dgood_any v _).mono ?_
    rintro e w2 ⟨rfl, rfl⟩
    rw [hv]
    go_wp2_with fail
    refine (dgood_any b _).mono ?_
    rintro e w2 ⟨rfl, rfl⟩
    rw [hb]
    go_wp2_with fail
    go_ret
    rw [HP1.out, HP2.out]
    exact L1.out.ret
  | true =>
  cases hw : dgB wt with
  | false =>
    have hbd : badD t ids v b wt = true := by rw [HBAD.out]; simp [hw]
    obtain ⟨hp1, hp2⟩ := putD_bad (s := s) hbd
    have HP1 := Lib.hid hp1; have HP2 := Lib.hid hp2
    have h1t : (bs k).toList.isEmpty = false := by rw [txt_empty]; simpa using hk0
    clear hp1 hp2 hbd
    go_wp2_with fail
    refine (dgood_any v _).mono ?_
    rintro e w2 ⟨rfl, rfl⟩
    rw [hv]
    go_wp2_with fail
    refine (dgood_any b _).mono ?_
    rintro e w2 ⟨rfl, rfl⟩
    rw [hb]
    go_wp2_with fail
    refine (dgood_any wt _).mono ?_
    rintro e w2 ⟨rfl, rfl⟩
    rw [hw]
    go_wp2_with fail
    go_ret
    rw [HP1.out, HP2.out]
    exact L1.out.ret
  | true =>
  have jk : k.isEmpty = false := by simpa using hk0
  have q1 := dgB_yes.1 hv; have q2 := dgB_yes.1 hb; have q3 := dgB_yes.1 hw
  have hok : badD t ids v b wt = false := by rw [HBAD.out, jk, hv, hb, hw]; rfl
  have hbn : Hid (I64s (rowD (nextD (getD (getP s.t) t ids) v b wt))) := Lib.hid ((Bd.get _ _ _).nextD hv hb hw).row
  obtain ⟨hp1, hp2⟩ := putD_ok (s := s) hok
  have HP1 := Lib.hid hp1; have HP2 := Lib.hid hp2
  rw [jk] at h1t
  clear hok hp1 hp2 hk0 jk
  go_wp2_with fail
  refine (dgood_any v _).mono ?_
  rintro e w2 ⟨rfl, rfl⟩
  rw [hv]
  go_wp2_with fail
  refine (dgood_any b _).mono ?_
  rintro e w2 ⟨rfl, rfl⟩
  rw [hb]
  go_wp2_with fail
  refine (dgood_any wt _).mono ?_
  rintro e w2 ⟨rfl, rfl⟩
  rw [hw]
  clear hv hb hw h1t
  go_wp2_with fail
  refine (dget_any (Look.of_st P1.out) HF.out.f t HID1.out.1 HID1.out.2.1 HID1.out.2.2).mono ?_
  rintro e w2 ⟨rfl, hb2⟩
  obtain ⟨u, hu⟩ : ∃ u, u = getD (getP s.t) t ids := ⟨_, rfl⟩
  rw [← hu] at hbn HP1 ⊢
  have L2 := Lib.hid (L1.out.later hb2)
  clear hb2 hu L1 P1 HB1 HID1
  go_wp2_with fail
  refine (dsettle_any u b _).mono ?_
  rintro e w3 ⟨rfl, hb3⟩
  have L3 := Lib.hid (L2.out.later hb3)
  obtain ⟨z, hz⟩ : ∃ z, z = settleD u b := ⟨_, rfl⟩
  rw [← hz]
  have hnx : nextD u v b wt = settleD ⟨z.has, z.now, v, b + wt, true⟩ b := by rw [hz]; rfl
  rw [hnx] at hbn HP1
  clear hb3 hz hnx L2
  obtain ⟨za, zn, zx, zt, zm⟩ := z
  go_wp2_with (refine wpList_alloc_g rfl _ rfl _ _ Tryz.zeroDDV rfl ?_)
  intro R w4 h4
  go_wp2_with (refine wpList_store_row_g (t := 138) (old := #[.bool false, .int .i64 0, .int .i64 0, .int .i64 0, .bool false]) rfl 138 _ _ rfl R #[.bool za, .int .i64 zn, .int .i64 zx, .int .i64 zt, .bool zm] rfl rfl h4.out.cells Tryz.sizeDDV rfl (by simp [Value.oneCell']) ?_)
  intro w5 h5 k45 _
  go_wp2_with (refine wpList_store1_g rfl 4 _ _ rfl R 4 _ rfl rfl rfl rfl 138 _ h5 (by kernel_rfl) (by simp) #[.bool za, .int .i64 zn, .int .i64 zx, .int .i64 zt, .bool true] rfl ?_)
  intro w6 h6 k56 _
  go_wp2_with (refine wpList_store1_g rfl 3 _ _ rfl R 2 _ rfl rfl rfl rfl 138 _ h6 (by kernel_rfl) (by simp) #[.bool za, .int .i64 zn, .int .i64 v, .int .i64 zt, .bool true] rfl ?_)
  intro w7 h7 k67 _
  go_wp2_with (refine wpList_store1_g rfl 3 _ _ rfl R 3 _ rfl rfl rfl rfl 138 _ h7 (by kernel_rfl) (by simp) #[.bool za, .int .i64 zn, .int .i64 v, .int .i64 (b + wt), .bool true] rfl ?_)
  intro w8 h8 k78 _
  have hb38 : Below w3.heap.size w3 w8 := by
    have hR : w3.heap.size ≤ R := Nat.le_of_eq h4.out.eq.symm
    have s4 := h4.out.below
    have s5 := s4.trans (k45.below (B := w3.heap.size) (fun x hx e => by omega) s4.size)
    have s6 := s5.trans (k56.below (B := w3.heap.size) (fun x hx e => by omega) s5.size)
    have s7 := s6.trans (k67.below (B := w3.heap.size) (fun x hx e => by omega) s6.size)
    exact s7.trans (k78.below (B := w3.heap.size) (fun x hx e => by omega) s7.size)
  have L8 := Lib.hid (L3.out.later hb38); have HX := Lib.hid h8
  clear hb38 h4 h5 h6 h7 h8 k45 k56 k67 k78 L3
  go_wp2_with (refine wpList_load_row rfl 138 _ rfl R rfl 138 _ _ _ HX.out Tryz.underlying138 rfl Tryz.sizeDDV ?_)
  refine (dsettle_any ⟨za, zn, v, b + wt, true⟩ b _).mono ?_
  rintro e w9 ⟨rfl, hb9⟩
  have L9 := Lib.hid (L8.out.later hb9)
  obtain ⟨y, hy⟩ : ∃ y, y = settleD ⟨za, zn, v, b + wt, true⟩ b := ⟨_, rfl⟩
  have hbn2 : Hid (I64s (rowD y)) := by rw [hy]; exact hbn
  have HP3 : Hid (putD s t ids v b wt = s.setRow (keyF t ids) (rowD y)) := by rw [hy]; exact HP1
  rw [← hy]
  clear hb9 hy L8 HX hbn HP1
  go_wp2_with fail
  refine (drow_any y _).mono ?_
  rintro e wa ⟨vr, rfl, ho, hba⟩
  have LA := Lib.hid (L9.out.later hba); have HO := Lib.hid ho
  clear ho hba L9
  go_wp2_with fail
  refine (LA.out.call fun F h => setRow_any h HZ.out k (by simp [rowD]) hbn2.out (RowRet.rd HO.out)).mono ?_
  rintro e wb ⟨rfl, LB, _⟩
  have LB := Lib.hid LB
  go_wp2_with fail
  go_ret
  rw [HP3.out, HP2.out, ← HK.out]
  exact LB.out.ret
end
section
open Go.RowKit

/-- A block of the call's own turns, that is none of the store's. -/
theorem RLiv.turn {w0 w w' : World} {F0 : List Nat} {g R : Nat} {s : PS} {o : Obj} (L : RLiv w0 F0 w g s) (hR : w.heap[R]? = some o) (hk : rstKind o = false) (hn : w0.heap.size ≤ R) (k : Keep (· = R) w w') : RLiv w0 F0 w' g s := by
  obtain ⟨F, h1, h2, h3⟩ := L
  refine ⟨F, h1.keep k fun x hx e => ?_, h2.trans (k.mono fun x _ e => .inr (by rw [e]; exact hn)), h3⟩
  obtain ⟨o', ho', k1⟩ := h1.kind x hx
  rw [e, hR] at ho'; cases ho'
  rw [hk] at k1; cases k1
theorem Liv.turn {w0 w w' : World} {F0 : List Nat} {g R : Nat} {s : PS} {o : Obj} (L : Liv w0 F0 w g s) (hR : w.heap[R]? = some o) (hk : stoKind o = false) (hn : w0.heap.size ≤ R) (k : Keep (· = R) w w') : Liv w0 F0 w' g s := by
  obtain ⟨F, h1, h2, h3⟩ := L
  refine ⟨F, h1.keep k fun x hx e => ?_, h2.trans (k.mono fun x _ e => .inr (by rw [e]; exact hn)), h3⟩
  obtain ⟨o', ho', k1⟩ := h1.kind x hx
  rw [e, hR] at ho'; cases ho'
  rw [hk] at k1; cases k1

theorem idx30 (p q r : Value) (w : World) : (Instr.index 194 (.agg #[p, q, r]) (.int .i64 0)).run Tryz.prog w = .ok p w := by kernel_rfl
theorem idx31 (p q r : Value) (w : World) : (Instr.index 194 (.agg #[p, q, r]) (.int .i64 1)).run Tryz.prog w = .ok q w := by kernel_rfl
theorem idx32 (p q r : Value) (w : World) : (Instr.index 194 (.agg #[p, q, r]) (.int .i64 2)).run Tryz.prog w = .ok r w := by kernel_rfl

set_option maxHeartbeats 4000000 in
set_option maxRecDepth 100000 in
theorem rset28_any {w : World} {g : Nat} {s : PS} {F : List Nat} (h : RS w g s F) (hz : s.sz < 1099511627776) (hf : Fit s) (t : Int) {ids : List Int} {vi : Value} (hl : ids.length ≤ 100000000) (hi : I64s ids) (hrd : Rd w intE 1 vi ids) (v b wt : Int) :
    Calls Tryz.prog 100 #[.pointer (some ⟨g, 0, none⟩), .int .i64 t, vi, .int .i64 v, .int .i64 b, .int .i64 wt] w (RRet w g F (putD s t ids v b wt) (.int .i64 (putDE t ids v b wt))) := by
  have L := Lib.hid (RLiv.start h); have HZ := Lib.hid hz; have HF := Lib.hid hf
  clear h hz hf
  go_enter Tryz.func100, Tryz.ntmps100
  go_wp2_with fail
  refine (refKey_any t ids vi _ hl hi hrd).mono ?_
  rintro e w1 ⟨rfl, hb1⟩
  have L1 := Lib.hid (L.out.later hb1); have HID1 : Hid (ids.length ≤ 100000000 ∧ I64s ids ∧ Rd w1 intE 1 vi ids) := Lib.hid ⟨hl, hi, hrd.later hb1⟩
  obtain ⟨k, hk⟩ : ∃ k, k = keyF t ids := ⟨_, rfl⟩
  rw [← hk]
  have hbad : badD t ids v b wt = (k.isEmpty || !dgB v || !dgB b || !dgB wt) := by rw [hk]; rfl
  have HBAD := Lib.hid hbad; have HK := Lib.hid hk
  clear hb1 hl hi hrd L hbad hk
  by_cases hk0 : k = []
  · subst hk0
    have hbd : badD t ids v b wt = true := by rw [HBAD.out]; simp
    obtain ⟨hp1, hp2⟩ := putD_bad (s := s) hbd
    have HP1 := Lib.hid hp1; have HP2 := Lib.hid hp2
    have h1t : (bs ([] : Txt)).toList.isEmpty = true := by rw [txt_empty]; rfl
    clear hp1 hp2 hbd
    go_wp2_with fail
    go_ret
    rw [HP1.out, HP2.out]
    exact L1.out.ret
  have jk : k.isEmpty = false := by simpa using hk0
  have h1t : (bs k).toList.isEmpty = false := by rw [txt_empty]; exact jk
  have JK := Lib.hid jk
  clear hk0 jk
  go_wp2_with fail
  clear h1t
  go_loopw [26] (fun vi' wr => (vi' = .int .i64 0 ∨ (vi' = .int .i64 1 ∧ Hid (dgB v = true)) ∨ (vi' = .int .i64 2 ∧ Hid (dgB v = true ∧ dgB b = true)) ∨ (vi' = .int .i64 3 ∧ Hid (dgB v = true ∧ dgB b = true ∧ dgB wt = true))) ∧ wr = w1) (fun vi' _ => 3 - (intOf vi').toNat)
  case atStart => exact ⟨.inl rfl, rfl⟩
  case round =>
    obtain ⟨hv, rfl⟩ := hrel
    have i0 := fun w => idx30 (.int .i64 v) (.int .i64 b) (.int .i64 wt) w
    have i1 := fun w => idx31 (.int .i64 v) (.int .i64 b) (.int .i64 wt) w
    have i2 := fun w => idx32 (.int .i64 v) (.int .i64 b) (.int .i64 wt) w
    rcases hv with rfl | ⟨rfl, G⟩ | ⟨rfl, G⟩ | ⟨rfl, G⟩
    · by_cases n1 : v < 0
      · have hbd : badD t ids v b wt = true := by
          have h9 : dgB v = false := dgB_no.2 (.inl n1)
          rw [HBAD.out, h9]; simp
        obtain ⟨hp1, hp2⟩ := putD_bad (s := s) hbd
        have HP1 := Lib.hid hp1; have HP2 := Lib.hid hp2
        clear hp1 hp2 hbd
        go_wp2_with fail
        go_ret
        rw [HP1.out, HP2.out]
        exact L1.out.ret
      by_cases n2 : 1099511627776 < v
      · have hbd : badD t ids v b wt = true := by
          have h9 : dgB v = false := dgB_no.2 (.inr n2)
          rw [HBAD.out, h9]; simp
        obtain ⟨hp1, hp2⟩ := putD_bad (s := s) hbd
        have HP1 := Lib.hid hp1; have HP2 := Lib.hid hp2
        clear hp1 hp2 hbd
        go_wp2_with fail
        go_ret
        rw [HP1.out, HP2.out]
        exact L1.out.ret
      · have hgx : Hid (dgB v = true) := Lib.hid (dgB_yes.2 ⟨by omega, by omega⟩)
        go_wp2_with fail
        go_roundw
        case rel => exact ⟨.inr (.inl ⟨rfl, hgx⟩), by first | rfl | trivial⟩
        case measure => simp [intOf]
    · by_cases n1 : b < 0
      · have hbd : badD t ids v b wt = true := by
          have h9 : dgB b = false := dgB_no.2 (.inl n1)
          rw [HBAD.out, h9]; simp
        obtain ⟨hp1, hp2⟩ := putD_bad (s := s) hbd
        have HP1 := Lib.hid hp1; have HP2 := Lib.hid hp2
        clear hp1 hp2 hbd
        go_wp2_with fail
        go_ret
        rw [HP1.out, HP2.out]
        exact L1.out.ret
      by_cases n2 : 1099511627776 < b
      · have hbd : badD t ids v b wt = true := by
          have h9 : dgB b = false := dgB_no.2 (.inr n2)
          rw [HBAD.out, h9]; simp
        obtain ⟨hp1, hp2⟩ := putD_bad (s := s) hbd
        have HP1 := Lib.hid hp1; have HP2 := Lib.hid hp2
        clear hp1 hp2 hbd
        go_wp2_with fail
        go_ret
        rw [HP1.out, HP2.out]
        exact L1.out.ret
      · have hgx : Hid (dgB b = true) := Lib.hid (dgB_yes.2 ⟨by omega, by omega⟩)
        go_wp2_with fail
        go_roundw
        case rel => exact ⟨.inr (.inr (.inl ⟨rfl, Lib.hid ⟨G.out, hgx.out⟩⟩)), by first | rfl | trivial⟩
        case measure => simp [intOf]
    · by_cases n1 : wt < 0
      · have hbd : badD t ids v b wt = true := by
          have h9 : dgB wt = false := dgB_no.2 (.inl n1)
          rw [HBAD.out, h9]; simp
        obtain ⟨hp1, hp2⟩ := putD_bad (s := s) hbd
        have HP1 := Lib.hid hp1; have HP2 := Lib.hid hp2
        clear hp1 hp2 hbd
        go_wp2_with fail
        go_ret
        rw [HP1.out, HP2.out]
        exact L1.out.ret
      by_cases n2 : 1099511627776 < wt
      · have hbd : badD t ids v b wt = true := by
          have h9 : dgB wt = false := dgB_no.2 (.inr n2)
          rw [HBAD.out, h9]; simp
        obtain ⟨hp1, hp2⟩ := putD_bad (s := s) hbd
        have HP1 := Lib.hid hp1; have HP2 := Lib.hid hp2
        clear hp1 hp2 hbd
        go_wp2_with fail
        go_ret
        rw [HP1.out, HP2.out]
        exact L1.out.ret
      · have hgx : Hid (dgB wt = true) := Lib.hid (dgB_yes.2 ⟨by omega, by omega⟩)
        go_wp2_with fail
        go_roundw
        case rel => exact ⟨.inr (.inr (.inr ⟨rfl, Lib.hid ⟨G.out.1, G.out.2, hgx.out⟩⟩)), by first | rfl | trivial⟩
        case measure => simp [intOf]
    · obtain ⟨hgv, hgb, hgw⟩ := G.out
      have q1 := dgB_yes.1 hgv; have q2 := dgB_yes.1 hgb; have q3 := dgB_yes.1 hgw
      have hok : badD t ids v b wt = false := by rw [HBAD.out, JK.out, hgv, hgb, hgw]; rfl
      have hbn : Hid (I64s (rowD (nextD (getD (getP s.t) t ids) v b wt))) := Lib.hid ((Bd.get _ _ _).nextD hgv hgb hgw).row
      obtain ⟨hp1, hp2⟩ := putD_ok (s := s) hok
      have HP1 := Lib.hid hp1; have HP2 := Lib.hid hp2
      clear hok hp1 hp2 hgv hgb hgw G i0 i1 i2
      go_wp2_with fail
      obtain ⟨F1, p1, _⟩ := L1.out
      have P1 := Lib.hid p1
      clear p1
      refine (rget28_any P1.out HZ.out HF.out t HID1.out.1 HID1.out.2.1 HID1.out.2.2).mono ?_
      rintro e w2 ⟨rfl, hb2⟩
      obtain ⟨u, hu⟩ : ∃ u, u = getD (getP s.t) t ids := ⟨_, rfl⟩
      rw [← hu] at hbn HP1 ⊢
      have L2 := Lib.hid (L1.out.later hb2)
      clear hb2 hu L1 P1 HID1
      go_wp2_with fail
      refine (rsettle_any u b _).mono ?_
      rintro e w3 ⟨rfl, hb3⟩
      have L3 := Lib.hid (L2.out.later hb3)
      obtain ⟨z, hz⟩ : ∃ z, z = settleD u b := ⟨_, rfl⟩
      rw [← hz]
      have hnx : nextD u v b wt = settleD ⟨z.has, z.now, v, b + wt, true⟩ b := by rw [hz]; rfl
      rw [hnx] at hbn HP1
      clear hb3 hz hnx L2
      obtain ⟨za, zn, zx, zt, zm⟩ := z
      go_wp2_with (refine wpList_alloc_g rfl _ rfl _ _ Tryz.zeroRDV rfl ?_)
      intro R w4 h4
      go_wp2_with (refine wpList_store_row_g (t := 141) (old := #[.bool false, .int .i64 0, .int .i64 0, .int .i64 0, .bool false]) rfl 141 _ _ rfl R #[.bool za, .int .i64 zn, .int .i64 zx, .int .i64 zt, .bool zm] rfl rfl h4.out.cells Tryz.sizeRDV rfl (by simp [Value.oneCell']) ?_)
      intro w5 h5 k45 _
      go_wp2_with (refine wpList_store1_g rfl 4 _ _ rfl R 4 _ rfl rfl rfl rfl 141 _ h5 (by kernel_rfl) (by simp) #[.bool za, .int .i64 zn, .int .i64 zx, .int .i64 zt, .bool true] rfl ?_)
      intro w6 h6 k56 _
      go_wp2_with (refine wpList_store1_g rfl 3 _ _ rfl R 2 _ rfl rfl rfl rfl 141 _ h6 (by kernel_rfl) (by simp) #[.bool za, .int .i64 zn, .int .i64 v, .int .i64 zt, .bool true] rfl ?_)
      intro w7 h7 k67 _
      go_wp2_with (refine wpList_store1_g rfl 3 _ _ rfl R 3 _ rfl rfl rfl rfl 141 _ h7 (by kernel_rfl) (by simp) #[.bool za, .int .i64 zn, .int .i64 v, .int .i64 (b + wt), .bool true] rfl ?_)
      intro w8 h8 k78 _
      have hb38 : Below w3.heap.size w3 w8 := by
        have hR : w3.heap.size ≤ R := Nat.le_of_eq h4.out.eq.symm
        have s4 := h4.out.below
        have s5 := s4.trans (k45.below (B := w3.heap.size) (fun x hx e => by omega) s4.size)
        have s6 := s5.trans (k56.below (B := w3.heap.size) (fun x hx e => by omega) s5.size)
        have s7 := s6.trans (k67.below (B := w3.heap.size) (fun x hx e => by omega) s6.size)
        exact s7.trans (k78.below (B := w3.heap.size) (fun x hx e => by omega) s7.size)
      have L8 := Lib.hid (L3.out.later hb38); have HX := Lib.hid h8
      have HRW : Hid (w.heap.size ≤ R) := Lib.hid (by have h9 := L3.out.keep.size; have h10 := h4.out.eq; omega)
      clear hb38 h4 h5 h6 h7 h8 k45 k56 k67 k78 L3
      go_wp2_with (refine wpList_load_row rfl 141 _ rfl R rfl 141 _ _ _ HX.out Tryz.underlying141 rfl Tryz.sizeRDV ?_)
      refine (rsettle_any ⟨za, zn, v, b + wt, true⟩ b _).mono ?_
      rintro e w9 ⟨rfl, hb9⟩
      have L9 := Lib.hid (L8.out.later hb9); have HX9 := Lib.hid (below_at' hb9 HX.out)
      obtain ⟨y, hy⟩ : ∃ y, y = settleD ⟨za, zn, v, b + wt, true⟩ b := ⟨_, rfl⟩
      have hbn2 : Hid (I64s (rowD y)) := by rw [hy]; exact hbn
      have HP3 : Hid (putD s t ids v b wt = s.setRow (keyF t ids) (rowD y)) := by rw [hy]; exact HP1
      rw [← hy]
      clear hb9 hy L8 HX hbn HP1
      obtain ⟨ya, yn, yx, yt, ym⟩ := y
      have hbn3 : Hid (I64s [bitD ya, yn, bitD ym, yx, yt]) := hbn2
      go_wp2_with (refine wpList_store_row_g (t := 141) (old := #[.bool za, .int .i64 zn, .int .i64 v, .int .i64 (b + wt), .bool true]) rfl 141 _ _ rfl R #[.bool ya, .int .i64 yn, .int .i64 yx, .int .i64 yt, .bool ym] rfl rfl HX9.out Tryz.sizeRDV rfl (by simp [Value.oneCell']) ?_)
      intro wb hb k9b z9b
      have LB : Hid (RLiv w F wb g s) := Lib.hid (L9.out.turn HX9.out rfl HRW.out k9b)
      have hS : wb.drew.cell? ⟨R, 0, none⟩ = some (.bool ya) ∧ wb.drew.cell? ⟨R, 1, none⟩ = some (.int .i64 yn) ∧ wb.drew.cell? ⟨R, 2, none⟩ = some (.int .i64 yx) ∧ wb.drew.cell? ⟨R, 3, none⟩ = some (.int .i64 yt) ∧ wb.drew.cell? ⟨R, 4, none⟩ = some (.bool ym) := ⟨Lib.cell_of_heap hb 0, Lib.cell_of_heap hb 1, Lib.cell_of_heap hb 2, Lib.cell_of_heap hb 3, Lib.cell_of_heap hb 4⟩
      have HXB := Lib.hid hb; have HBB : Hid (Below wb.heap.size wb wb) := Lib.hid (Below.refl _ _)
      clear hb k9b z9b L9 HX9
      go_wp2_with fail
      refine wp_region_till (fun w' => w'.cell? ⟨R, 0, none⟩ = some (.bool ya) ∧ w'.cell? ⟨R, 1, none⟩ = some (.int .i64 yn) ∧ w'.cell? ⟨R, 2, none⟩ = some (.int .i64 yx) ∧ w'.cell? ⟨R, 3, none⟩ = some (.int .i64 yt) ∧ w'.cell? ⟨R, 4, none⟩ = some (.bool ym)) 15 16 (by kernel_rfl) rfl ?_
      refine till_take 0 (some 52) rfl rfl (by kernel_rfl) (by kernel_rfl) (by kernel_rfl) (by kernel_rfl) (by kernel_rfl) (by kernel_rfl) (fun _ _ _ h => h) (.inl ⟨by rfl, fun w' _ => (by go_simp; rfl)⟩) hS ?_
      go_frame
      refine till_take 1 (some 53) rfl rfl (by kernel_rfl) (by kernel_rfl) (by kernel_rfl) (by kernel_rfl) (by kernel_rfl) (by kernel_rfl) (fun _ _ _ h => h) (.inl ⟨by rfl, fun w' _ => (by go_simp; rfl)⟩) hS ?_
      go_frame
      refine till_take 2 (some 54) rfl rfl (by kernel_rfl) (by kernel_rfl) (by kernel_rfl) (by kernel_rfl) (by kernel_rfl) (by kernel_rfl) (fun _ _ _ h => h) (.inl ⟨by rfl, fun w' _ => (by go_simp; rfl)⟩) hS ?_
      go_frame
      refine till_take 3 (some 55) rfl rfl (by kernel_rfl) (by kernel_rfl) (by kernel_rfl) (by kernel_rfl) (by kernel_rfl) (by kernel_rfl) (fun _ _ _ h => h) (.inl ⟨by rfl, fun w' hS' => (by obtain ⟨hc1, hc2, hc3, hc4, hc5⟩ := hS'; go_simp; rfl)⟩) hS ?_
      go_frame
      refine till_take 5 (some 57) rfl rfl (by kernel_rfl) (by kernel_rfl) (by kernel_rfl) (by kernel_rfl) (by kernel_rfl) (by kernel_rfl) (fun _ _ _ h => h) (.inl ⟨by rfl, fun w' _ => (by go_simp; rfl)⟩) hS ?_
      go_frame
      refine till_take 6 (some 58) rfl rfl (by kernel_rfl) (by kernel_rfl) (by kernel_rfl) (by kernel_rfl) (by kernel_rfl) (by kernel_rfl) (fun _ _ _ h => h) (.inl ⟨by rfl, fun w' hS' => (by obtain ⟨hc1, hc2, hc3, hc4, hc5⟩ := hS'; go_simp; rfl)⟩) hS ?_
      go_frame
      refine till_take 7 (some 59) rfl rfl (by kernel_rfl) (by kernel_rfl) (by kernel_rfl) (by kernel_rfl) (by kernel_rfl) (by kernel_rfl) (fun _ _ _ h => h) (.inl ⟨by rfl, fun w' _ => (by go_simp; rfl)⟩) hS ?_
      go_frame
      refine till_take 8 (some 60) rfl rfl (by kernel_rfl) (by kernel_rfl) (by kernel_rfl) (by kernel_rfl) (by kernel_rfl) (by kernel_rfl) (fun _ _ _ h => h) (.inl ⟨by rfl, fun w' hS' => (by obtain ⟨hc1, hc2, hc3, hc4, hc5⟩ := hS'; go_simp; rfl)⟩) hS ?_
      go_frame
      refine till_take 10 (some 62) rfl rfl (by kernel_rfl) (by kernel_rfl) (by kernel_rfl) (by kernel_rfl) (by kernel_rfl) (by kernel_rfl) (fun _ _ _ h => h) (.inl ⟨by rfl, fun w' _ => (by go_simp; rfl)⟩) hS ?_
      go_frame
      refine till_take 11 (some 63) rfl rfl (by kernel_rfl) (by kernel_rfl) (by kernel_rfl) (by kernel_rfl) (by kernel_rfl) (by kernel_rfl) (fun _ _ _ h => h) (.inl ⟨by rfl, fun w' hS' => (by obtain ⟨hc1, hc2, hc3, hc4, hc5⟩ := hS'; go_simp; rfl)⟩) hS ?_
      go_frame
      refine till_take 12 (some 64) rfl rfl (by kernel_rfl) (by kernel_rfl) (by kernel_rfl) (by kernel_rfl) (by kernel_rfl) (by kernel_rfl) (fun _ _ _ h => h) (.inl ⟨by rfl, fun w' _ => (by go_simp; rfl)⟩) hS ?_
      go_frame
      refine till_take 13 (some 65) rfl rfl (by kernel_rfl) (by kernel_rfl) (by kernel_rfl) (by kernel_rfl) (by kernel_rfl) (by kernel_rfl) (fun _ _ _ h => h) (.inl ⟨by rfl, fun w' hS' => (by obtain ⟨hc1, hc2, hc3, hc4, hc5⟩ := hS'; go_simp; rfl)⟩) hS ?_
      go_frame
      refine till_one 4 rfl (by kernel_rfl) fun K hK => ?_
      simp only [List.getElem_toArray, List.getElem_cons_succ, List.getElem_cons_zero]
      rw [if_pos (by rfl)]
      go_simp
      refine (rbit_any ya _).mono ?_
      rintro e w8 ⟨rfl, rfl⟩
      refine hK _ _ (fun _ _ => hS) ?_
      clear hK
      refine till_one 9 rfl (by kernel_rfl) fun K hK => ?_
      simp only [List.getElem_toArray, List.getElem_cons_succ, List.getElem_cons_zero]
      rw [if_pos (by rfl)]
      go_simp
      refine (rbit_any ym _).mono ?_
      rintro e w8 ⟨rfl, rfl⟩
      refine hK _ _ (fun _ _ => hS) ?_
      clear hK
      refine till_one 14 rfl (by kernel_rfl) fun K hK => ?_
      simp only [List.getElem_toArray, List.getElem_cons_succ, List.getElem_cons_zero]
      rw [if_pos (by rfl)]
      go_simp
      obtain ⟨w2, hw2⟩ : ∃ w2, w2 = (World.alloc wb (.cells #[.int .i64 (bitD ya), .int .i64 yn, .int .i64 (bitD ym), .int .i64 yx, .int .i64 yt] 3)).drew := ⟨_, rfl⟩
      obtain ⟨Q, hQ⟩ : ∃ Q, Q = (World.heap wb).size := ⟨_, rfl⟩
      rw [← hw2, ← hQ]
      have hbx : Below (World.heap wb).size wb w2 := by rw [hw2]; exact ((Below.refl _ _).alloc (Nat.le_refl _) _).drew
      have hx2 : w2.heap[Q]? = some (.cells ([bitD ya, yn, bitD ym, yx, yt].map (Value.int .i64)).toArray 3 (0, 0)) := by rw [hw2, hQ]; exact heap_alloc_new _ _
      have HO := Lib.hid (own_lit (B := wb.heap.size) hx2 (by rw [hQ]; exact HBB.out.size) (by unfold maxLen; simp))
      have HB2 := Lib.hid (HBB.out.trans (hbx.mono HBB.out.size) : Below wb.heap.size wb w2)
      have hx3 := below_at' hbx HXB.out
      refine hK _ _ (fun _ _ => ⟨Lib.cell_of_heap hx3 0, Lib.cell_of_heap hx3 1, Lib.cell_of_heap hx3 2, Lib.cell_of_heap hx3 3, Lib.cell_of_heap hx3 4⟩) ?_
      clear hK hS
      have hS : w2.cell? ⟨R, 0, none⟩ = some (.bool ya) ∧ w2.cell? ⟨R, 1, none⟩ = some (.int .i64 yn) ∧ w2.cell? ⟨R, 2, none⟩ = some (.int .i64 yx) ∧ w2.cell? ⟨R, 3, none⟩ = some (.int .i64 yt) ∧ w2.cell? ⟨R, 4, none⟩ = some (.bool ym) := ⟨Lib.cell_of_heap hx3 0, Lib.cell_of_heap hx3 1, Lib.cell_of_heap hx3 2, Lib.cell_of_heap hx3 3, Lib.cell_of_heap hx3 4⟩
      clear hw2 hQ hbx hx2 hx3
      refine till_one 15 rfl (by kernel_rfl) fun K hK => ?_
      simp only [List.getElem_toArray, List.getElem_cons_succ, List.getElem_cons_zero]
      rw [if_pos (by rfl)]
      go_simp
      have LC := Lib.hid (LB.out.later HB2.out)
      refine (LC.out.call fun F h => rsetRow_any h HZ.out k (by simp) hbn3.out (RowRet.rd HO.out)).mono ?_
      rintro e wd ⟨rfl, LD, _⟩
      have LD := Lib.hid LD
      refine hK _ _ (fun h => absurd rfl h) ?_
      clear hK hS
      refine till_done (by kernel_rfl) ?_ _
      go_wp2_with fail
      go_ret
      rw [HP3.out, HP2.out, ← HK.out]
      exact LD.out.ret
end
end Go.Proofs.YthnjakomkdlglaaGreat
