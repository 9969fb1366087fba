/- merkle.is, Leaf, Node, Empty, Depth, why. -/
import Derived.Test.YtbfdjjaonjepnaaMerkA
namespace Go.Proofs.Ytbfdjjaonjepnaa
open Go.RowKit

/-- Is it a kind? -/
def kindB (k : Int) : Bool := decide (k = 1 ∨ k = 2)
theorem kindB_yes {k : Int} (h : k = 1 ∨ k = 2) : kindB k = true := by unfold kindB; simpa using h
theorem kindB_no {k : Int} (h1 : ¬ k = 1) (h2 : ¬ k = 2) : kindB k = false := by unfold kindB; simp [h1, h2]
theorem kind_cases (k : Int) : k = 1 ∨ k = 2 ∨ (¬ k = 1 ∧ ¬ k = 2) := by omega
set_option maxHeartbeats 1000000 in
theorem mis_any (k : Int) (w : World) : Calls Try.prog 88 #[.int .i64 k] w fun e w' => e = .returned (.bool (kindB k)) ∧ w = w' := by
  rcases kind_cases k with rfl | rfl | ⟨h1, h2⟩
  · go_enter Try.func88, Try.ntmps88
    go_wp2
    go_ret
    exact ⟨rfl, rfl⟩
  · go_enter Try.func88, Try.ntmps88
    go_wp2
    go_ret
    exact ⟨rfl, rfl⟩
  · rw [kindB_no h1 h2]
    have b1 : (k == 1) = false := by simpa using h1
    have b2 : (k == 2) = false := by simpa using h2
    go_enter Try.func88, Try.ntmps88
    go_wp2
    go_ret
    exact ⟨rfl, rfl⟩

def zero32 : List UInt8 := List.replicate 32 0
theorem zero32_length : zero32.length = 32 := rfl
def leafK (k : Int) (b : List UInt8) : List UInt8 := if k = 1 ∨ k = 2 then leafF k.toNat b else zero32
def nodeK (k : Int) (a b : List UInt8) : List UInt8 := if k = 1 ∨ k = 2 then nodeF k.toNat a b else zero32
theorem leafK_length (k : Int) (b : List UInt8) : (leafK k b).length = 32 := by unfold leafK; split; exact leafF_length _ _; rfl
theorem nodeK_length (k : Int) (a b : List UInt8) : (nodeK k a b).length = 32 := by unfold nodeK; split; exact nodeF_length _ _ _; rfl

set_option maxRecDepth 100000 in
set_option maxHeartbeats 1000000 in
theorem mleaf_any (k : Int) (b : List UInt8) (v : Value) (w : World) (h : Rd w u8E 1 v b) (hlen : b.length < 288230376151711744) :
    Calls Try.prog 56 #[.int .i64 k, v] w (Ret w (.agg (c8 (leafK k b)))) := by
  obtain ⟨ad, cap, rfl, hc1, hc2⟩ := h.shape
  have H := Lib.hid h; clear h
  have key : ∀ (f : Int), 0 ≤ f → f < 256 → leafK k b = shaF (UInt8.ofNat f.toNat :: b) → k = 1 ∨ k = 2 → 2 * k = f → Calls Try.prog 56 #[.int .i64 k, .slice ad b.length cap] w (Ret w (.agg (c8 (leafK k b)))) := by
    intro f hf hf2 he hk hkf
    have HE := Lib.hid he
    have hkb := kindB_yes hk
    have HKF := Lib.hid hkf
    have hk1 : 1 ≤ k := by omega
    have hk2 : k ≤ 2 := by omega
    clear he hk hkf
    go_enter Try.func56, Try.ntmps56
    go_wp2_with (refine wpList_alloc_g rfl _ rfl _ _ Try.zeroHash rfl ?_)
    intro R w1 h1
    go_wp2_with fail
    refine (mis_any _ _).mono ?_
    rintro e w2 ⟨rfl, rfl⟩
    go_wp2_with fail
    rw [HKF.out]
    refine (msum_any f hf hf2 [b] _ _ (texts_new1 (H.out.later h1.out.below) _ rfl) (by simp; omega)).mono ?_
    rintro e w3 ⟨rfl, hb3⟩
    simp only [List.flatten_cons, List.flatten_nil, List.append_nil]
    rw [← HE.out]
    obtain ⟨q1, q2, q3⟩ := boxed1 hb3
    have hR3 : w3.heap[R]? = some (.cells (cB 32 []) 48 (0, 0)) := (q1.block R (heap_lt h1.out.cells)).trans h1.out.cells
    have hb4 : Below w.heap.size w w3 := h1.out.below.trans (q1.mono h1.out.below.size)
    have HR3 := Lib.hid hR3; have HB4 := Lib.hid hb4; have HW := Lib.hid h1.out.eq
    clear hb3 q1 q2 q3 hR3 hb4 h1
    go_wp2_with (refine wpList_store_row_g (t := 48) (old := cB 32 []) rfl 48 _ _ rfl R (c8 (leafK k b)) rfl rfl HR3.out (Try.sizeHs _ (leafK_length _ _)) (by rw [c8_size, leafK_length]; rfl) (by rw [← cB_full 32 _ (leafK_length _ _)]; exact one_b _ _) ?_)
    intro w5 h5 k5 z5
    have H5 := Lib.hid h5
    have H6 := Lib.hid (k5.onto HB4.out (Nat.le_refl _) (by have := HW.out; omega))
    clear h5 k5 z5
    go_wp2_with fail
    exact bodyPost_ret (results_cell_row rfl _ _ R _ (c8 (leafK k b)) _ _ rfl H5.out Try.underlying48 rfl (Try.sizeHs _ (leafK_length _ _))) rfl ⟨rfl, H6.out⟩
  rcases kind_cases k with rfl | rfl | ⟨h1, h2⟩
  · exact key 2 (by omega) (by omega) rfl (by omega) rfl
  · exact key 4 (by omega) (by omega) rfl (by omega) rfl
  · have he : leafK k b = zero32 := by unfold leafK; rw [if_neg (by omega)]
    rw [he]
    have hkb := kindB_no h1 h2
    clear he key
    go_enter Try.func56, Try.ntmps56
    go_wp2_with (refine wpList_alloc_g rfl _ rfl _ _ Try.zeroHash rfl ?_)
    intro R w1 h1
    go_wp2_with fail
    refine (mis_any _ _).mono ?_
    rintro e w2 ⟨rfl, rfl⟩
    go_wp2_with (refine wpList_store_row_g (t := 48) (old := cB 32 []) rfl 48 _ _ rfl R (c8 zero32) rfl rfl h1.out.cells (Try.sizeHs _ zero32_length) (by rw [c8_size, zero32_length]; rfl) (by rw [← cB_full 32 _ zero32_length]; exact one_b _ _) ?_)
    intro w5 h5 k5 z5
    have H5 := Lib.hid h5
    have H6 := Lib.hid (k5.onto h1.out.below (Nat.le_refl _) (by have := h1.out.eq; omega))
    clear h5 k5 z5
    go_wp2_with fail
    exact bodyPost_ret (results_cell_row rfl _ _ R _ (c8 zero32) _ _ rfl H5.out Try.underlying48 rfl (Try.sizeHs _ zero32_length)) rfl ⟨rfl, H6.out⟩

set_option maxRecDepth 100000 in
set_option maxHeartbeats 1000000 in
theorem mempty_any (k : Int) (w : World) : Calls Try.prog 60 #[.int .i64 k] w (Ret w (.agg (c8 (leafK k [])))) := by
  go_enter Try.func60, Try.ntmps60
  go_wp2_with (refine wpList_alloc_g rfl _ rfl _ _ Try.zeroHash rfl ?_)
  intro R w1 h1
  go_wp2_with fail
  refine (mleaf_any k [] _ _ (Rd.nil _ _ _) (by simp)).mono ?_
  rintro e w2 ⟨rfl, hb2⟩
  have hR2 : w2.heap[R]? = some (.cells (cB 32 []) 48 (0, 0)) := (hb2.block R (heap_lt h1.out.cells)).trans h1.out.cells
  have hb4 : Below w.heap.size w w2 := h1.out.below.trans (hb2.mono h1.out.below.size)
  have HR3 := Lib.hid hR2; have HB4 := Lib.hid hb4; have HW := Lib.hid h1.out.eq
  clear hb2 hR2 hb4 h1
  go_wp2_with (refine wpList_store_row_g (t := 48) (old := cB 32 []) rfl 48 _ _ rfl R (c8 (leafK k [])) rfl rfl HR3.out (Try.sizeHs _ (leafK_length _ _)) (by rw [c8_size, leafK_length]; rfl) (by rw [← cB_full 32 _ (leafK_length _ _)]; exact one_b _ _) ?_)
  intro w5 h5 k5 z5
  have H5 := Lib.hid h5
  have H6 := Lib.hid (k5.onto HB4.out (Nat.le_refl _) (by have := HW.out; omega))
  clear h5 k5 z5
  go_wp2_with fail
  exact bodyPost_ret (results_cell_row rfl _ _ R _ (c8 (leafK k [])) _ _ rfl H5.out Try.underlying48 rfl (Try.sizeHs _ (leafK_length _ _))) rfl ⟨rfl, H6.out⟩
end Go.Proofs.Ytbfdjjaonjepnaa
