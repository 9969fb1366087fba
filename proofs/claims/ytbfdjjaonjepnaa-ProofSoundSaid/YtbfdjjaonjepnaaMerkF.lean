/- The reference's tree: Leaf. -/
import Derived.Test.YtbfdjjaonjepnaaMerkE
namespace Go.Proofs.Ytbfdjjaonjepnaa
open Go.RowKit

def leafN (k : Int) (b : List UInt8) : List (List UInt8) := if k = 1 ∨ k = 2 then [leafT k.toNat b] else []
def nodeN (k : Int) (a b : List UInt8) : List (List UInt8) := if k = 1 ∨ k = 2 then [nodeT k.toNat a b] else []
theorem Grew.from {w w1 w2 : World} {g : Nat} {a a2 : Option Nat} (h : Below w.heap.size w w1) (k : Grew w1 g a w2 a2) : Grew w g a w2 a2 := (Grew.of_below g a h).trans k
theorem Grew.to {w w1 w2 : World} {g : Nat} {a a1 : Option Nat} (h : Grew w g a w1 a1) {R : Nat} (hR : w.heap.size ≤ R) (k : Keep (· = R) w1 w2) : Grew w g a w2 a1 := ⟨h.1.then k (fun x hx => .inr (by omega)), h.2⟩
theorem Own.bytes {w : World} {B : Nat} {v : Value} {l : List UInt8} (h : Own w B 5 u8E 1 v l) : ByteBlk w v := fun _ hk => h.at hk

set_option maxRecDepth 100000 in
set_option maxHeartbeats 1000000 in
theorem tleaf_any (w : World) (g : Nat) (a : Option Nat) (texts : List (List UInt8)) (k : Int) (b : List UInt8) (u : Value) (hb : Rd w u8E 1 u b) (hl : b.length < 1000000000000) (ht : Tr w g a texts) (hn : texts.length < 1000000000) :
    Calls Try.prog 57 #[.pointer (some ⟨g, 0, none⟩), .int .i64 k, u] w (TrRet w g a (texts ++ leafN k b) (.agg (c8 (leafK k b)))) := by
  obtain ⟨ad, cap, rfl, hc1, hc2⟩ := hb.shape
  have H := Lib.hid hb; have HT := Lib.hid ht; clear hb ht
  rcases kind_cases k with rfl | rfl | ⟨h1, h2⟩
  case inr.inr =>
    have he : leafK k b = zero32 := by unfold leafK; rw [if_neg (by omega)]
    have hen : leafN k b = [] := by unfold leafN; rw [if_neg (by omega)]
    rw [he, hen, List.append_nil]
    have b1 : (k != 1) = true := by simpa using h1
    have b2 : (k != 2) = true := by simpa using h2
    clear he hen
    go_enter Try.func57, Try.ntmps57
    go_wp2_with (refine wpList_alloc_g rfl _ rfl _ _ Try.zeroHash rfl ?_)
    intro R w1 h1
    go_wp2_with (refine wpList_store_row_g (t := 48) (old := cB 32 []) rfl 48 _ _ rfl R (c8 zero32) rfl rfl h1.out.cells (Try.sizeHs _ zero32_length) (by rw [c8_size, zero32_length]; rfl) (by rw [← cB_full 32 _ zero32_length]; exact one_b _ _) ?_)
    intro w5 h5 k5 z5
    have H5 := Lib.hid h5
    have H6 := Lib.hid (k5.onto h1.out.below (Nat.le_refl _) (by have := h1.out.eq; omega))
    clear h5 k5 z5
    go_wp2_with fail
    exact bodyPost_ret (results_cell_row rfl _ _ R _ (c8 zero32) _ _ rfl H5.out Try.underlying48 rfl (Try.sizeHs _ zero32_length)) rfl ⟨rfl, a, HT.out.later H6.out, Grew.of_below g a H6.out⟩
  case inl =>
    have he : leafK 1 b = shaF (2 :: b) := rfl
    have hen : leafN 1 b = [2 :: b] := rfl
    rw [he, hen]
    clear he hen
    go_enter Try.func57, Try.ntmps57
    go_wp2_with (refine wpList_alloc_g rfl _ rfl _ _ Try.zeroHash rfl ?_)
    intro R w1 h1
    have hn1 : (w1.alloc (.cells #[.int .u8 2] 5)).heap[w1.heap.size]? = some (.cells #[.int .u8 2] 5 (0, 0)) := heap_alloc_new _ _
    have hrd1 := (H.out.later h1.out.below).alloc (.cells #[.int .u8 2] 5)
    have ho1 : Own (w1.alloc (.cells #[.int .u8 2] 5)) w.heap.size 5 u8E 1 (.slice (some ⟨w1.heap.size, 0, none⟩) 1 1) [2] := own_new1 hn1 rfl h1.out.below.size
    have HRD := Lib.hid hrd1; have HO := Lib.hid ho1
    clear hrd1 ho1 hn1
    go_wp2_with (at_builtin; refine own_apps rfl _ _ _ rfl Try.underlying43 Try.infoU8 rfl (by omega) (fun _ => rfl) u8E_one HO.out rfl _ rfl HRD.out (by unfold maxLen; simp; omega) (by simp; omega) (B := w.heap.size) (w0 := w) (h1.out.below.alloc h1.out.below.size _) (Nat.le_refl _) (by have := h1.out.below.size; simp; omega) ?_)
    intro v' w2 hown2 hb2 hgr2
    have hR2 : w2.heap[R]? = some (.cells (cB 32 []) 48 (0, 0)) := (hgr2.block R (by have := heap_lt h1.out.cells; simp; omega) (by have := heap_lt h1.out.cells; simp [Value.ownBlock]; omega)).trans ((Below.heap_alloc _ _ _ (heap_lt h1.out.cells)).trans h1.out.cells)
    have hrd2 := hown2.rd (fun _ => rfl)
    have hbb2 := hown2.bytes
    have ht2 := HT.out.later hb2
    obtain ⟨ad', cap', hv', _⟩ := hrd2.shape
    have hln : (2 :: b).length = b.length + 1 := by simp
    rw [hln] at hv'
    subst hv'
    have HR2 := Lib.hid hR2; have HRD2 := Lib.hid hrd2; have HBB2 := Lib.hid hbb2; have HT2 := Lib.hid ht2; have HB2 := Lib.hid hb2; have HWR := Lib.hid h1.out.eq
    clear hown2 hb2 hgr2 hR2 hrd2 hbb2 ht2 HRD HO h1 hln
    go_wp2_with fail
    refine (tsum_any w2 g a texts _ _ HRD2.out (by simp; omega) HT2.out HBB2.out hn).mono ?_
    rintro e w3 ⟨rfl, a3, ht3, hg3⟩
    have hR3 := hg3.1.at HR2.out (by
      have := HWR.out; have := HT.out.lt
      rintro (e | e)
      · omega
      · have := this.2 _ e; omega)
    have HR3 := Lib.hid hR3; have HT3 := Lib.hid ht3; have HG3 := Lib.hid (Grew.from HB2.out hg3)
    clear hR3 ht3 hg3 HRD2 HBB2 HT2 HR2
    go_wp2_with (refine wpList_store_row_g (t := 48) (old := cB 32 []) rfl 48 _ _ rfl R (c8 (shaF (2 :: b))) rfl rfl HR3.out (Try.sizeHs _ (shaF_length _)) (by rw [c8_size, shaF_length]; rfl) (by rw [← cB_full 32 _ (shaF_length _)]; exact one_b _ _) ?_)
    intro w5 h5 k5 z5
    have ht5 := HT3.out.keep1 k5 HR3.out (by decide)
    have hg5 := HG3.out.to (by have := HWR.out; omega) k5
    have H5 := Lib.hid h5; have HT5 := Lib.hid ht5; have HG5 := Lib.hid hg5
    clear h5 k5 z5 ht5 hg5 HT3 HG3 HR3
    go_wp2_with fail
    exact bodyPost_ret (results_cell_row rfl _ _ R _ (c8 (shaF (2 :: b))) _ _ rfl H5.out Try.underlying48 rfl (Try.sizeHs _ (shaF_length _))) rfl ⟨rfl, a3, HT5.out, HG5.out⟩
  case inr.inl =>
    have he : leafK 2 b = shaF (4 :: b) := rfl
    have hen : leafN 2 b = [4 :: b] := rfl
    rw [he, hen]
    clear he hen
    go_enter Try.func57, Try.ntmps57
    go_wp2_with (refine wpList_alloc_g rfl _ rfl _ _ Try.zeroHash rfl ?_)
    intro R w1 h1
    have hn1 : (w1.alloc (.cells #[.int .u8 4] 5)).heap[w1.heap.size]? = some (.cells #[.int .u8 4] 5 (0, 0)) := heap_alloc_new _ _
    have hrd1 := (H.out.later h1.out.below).alloc (.cells #[.int .u8 4] 5)
    have ho1 : Own (w1.alloc (.cells #[.int .u8 4] 5)) w.heap.size 5 u8E 1 (.slice (some ⟨w1.heap.size, 0, none⟩) 1 1) [4] := own_new1 hn1 rfl h1.out.below.size
    have HRD := Lib.hid hrd1; have HO := Lib.hid ho1
    clear hrd1 ho1 hn1
    go_wp2_with (at_builtin; refine own_apps rfl _ _ _ rfl Try.underlying43 Try.infoU8 rfl (by omega) (fun _ => rfl) u8E_one HO.out rfl _ rfl HRD.out (by unfold maxLen; simp; omega) (by simp; omega) (B := w.heap.size) (w0 := w) (h1.out.below.alloc h1.out.below.size _) (Nat.le_refl _) (by have := h1.out.below.size; simp; omega) ?_)
    intro v' w2 hown2 hb2 hgr2
    have hR2 : w2.heap[R]? = some (.cells (cB 32 []) 48 (0, 0)) := (hgr2.block R (by have := heap_lt h1.out.cells; simp; omega) (by have := heap_lt h1.out.cells; simp [Value.ownBlock]; omega)).trans ((Below.heap_alloc _ _ _ (heap_lt h1.out.cells)).trans h1.out.cells)
    have hrd2 := hown2.rd (fun _ => rfl)
    have hbb2 := hown2.bytes
    have ht2 := HT.out.later hb2
    obtain ⟨ad', cap', hv', _⟩ := hrd2.shape
    have hln : (4 :: b).length = b.length + 1 := by simp
    rw [hln] at hv'
    subst hv'
    have HR2 := Lib.hid hR2; have HRD2 := Lib.hid hrd2; have HBB2 := Lib.hid hbb2; have HT2 := Lib.hid ht2; have HB2 := Lib.hid hb2; have HWR := Lib.hid h1.out.eq
    clear hown2 hb2 hgr2 hR2 hrd2 hbb2 ht2 HRD HO h1 hln
    go_wp2_with fail
    refine (tsum_any w2 g a texts _ _ HRD2.out (by simp; omega) HT2.out HBB2.out hn).mono ?_
    rintro e w3 ⟨rfl, a3, ht3, hg3⟩
    have hR3 := hg3.1.at HR2.out (by
      have := HWR.out; have := HT.out.lt
      rintro (e | e)
      · omega
      · have := this.2 _ e; omega)
    have HR3 := Lib.hid hR3; have HT3 := Lib.hid ht3; have HG3 := Lib.hid (Grew.from HB2.out hg3)
    clear hR3 ht3 hg3 HRD2 HBB2 HT2 HR2
    go_wp2_with (refine wpList_store_row_g (t := 48) (old := cB 32 []) rfl 48 _ _ rfl R (c8 (shaF (4 :: b))) rfl rfl HR3.out (Try.sizeHs _ (shaF_length _)) (by rw [c8_size, shaF_length]; rfl) (by rw [← cB_full 32 _ (shaF_length _)]; exact one_b _ _) ?_)
    intro w5 h5 k5 z5
    have ht5 := HT3.out.keep1 k5 HR3.out (by decide)
    have hg5 := HG3.out.to (by have := HWR.out; omega) k5
    have H5 := Lib.hid h5; have HT5 := Lib.hid ht5; have HG5 := Lib.hid hg5
    clear h5 k5 z5 ht5 hg5 HT3 HG3 HR3
    go_wp2_with fail
    exact bodyPost_ret (results_cell_row rfl _ _ R _ (c8 (shaF (4 :: b))) _ _ rfl H5.out Try.underlying48 rfl (Try.sizeHs _ (shaF_length _))) rfl ⟨rfl, a3, HT5.out, HG5.out⟩
end Go.Proofs.Ytbfdjjaonjepnaa
