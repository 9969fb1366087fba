/- The reference's tree: Node. -/
import Derived.Test.YtbfdjjaonjepnaaMerkF
namespace Go.Proofs.Ytbfdjjaonjepnaa
open Go.RowKit

theorem Own.slice {α : Type} {w : World} {B : Nat} {e : TypeId} {enc : α → List Value} {sz : Nat} {v : Value} {l : List α} (h : Own w B e enc sz v l) : ∃ ad n cap, v = .slice ad n cap := by
  rcases h.2 with ⟨h, _⟩ | ⟨g', cap', cur, h, _⟩
  · exact ⟨_, _, _, h⟩
  · exact ⟨_, _, _, h⟩
set_option maxRecDepth 100000 in
set_option maxHeartbeats 2000000 in
theorem tnode_any (w : World) (g : Nat) (ar : Option Nat) (texts : List (List UInt8)) (k : Int) (a b : List UInt8) (ha : a.length = 32) (hb : b.length = 32) (ht : Tr w g ar texts) (hn : texts.length < 1000000000) :
    Calls Try.prog 59 #[.pointer (some ⟨g, 0, none⟩), .int .i64 k, .agg (c8 a), .agg (c8 b)] w (TrRet w g ar (texts ++ nodeN k a b) (.agg (c8 (nodeK k a b)))) := by
  have HA := Lib.hid ha; have HB := Lib.hid hb; have HT := Lib.hid ht; clear ha hb ht
  rcases kind_cases k with rfl | rfl | ⟨h1, h2⟩
  case inr.inr =>
    have he : nodeK k a b = zero32 := by unfold nodeK; rw [if_neg (by omega)]
    have hen : nodeN k a b = [] := by unfold nodeN; rw [if_neg (by omega)]
    rw [he, hen, List.append_nil]
    have b1 : (k != 1) = true := by simpa using h1
    have b2 : (k != 2) = true := by simpa using h2
    clear he hen
    go_enter Try.func59, Try.ntmps59
    go_wp2_with (refine wpList_alloc_g rfl _ rfl _ _ Try.zeroHash rfl ?_)
    intro R w1 h1
    have h0 : Below w.heap.size w w1 := ((Below.refl _ _).alloc (Nat.le_refl _) _ |>.alloc (by simp) _).trans (h1.out.below.mono (by simp; omega))
    go_wp2_with (refine wpList_store_row_g (t := 48) (old := cB 32 []) rfl 48 _ _ rfl R (c8 zero32) rfl rfl h1.out.cells (Try.sizeHs _ zero32_length) (by rw [c8_size, zero32_length]; rfl) (by rw [← cB_full 32 _ zero32_length]; exact one_b _ _) ?_)
    intro w5 h5 k5 z5
    have H5 := Lib.hid h5
    have H6 := Lib.hid (k5.onto h0 (Nat.le_refl _) (by have := h1.out.eq; simp at this; omega))
    clear h5 k5 z5 h0
    go_wp2_with fail
    exact bodyPost_ret (results_cell_row rfl _ _ R _ (c8 zero32) _ _ rfl H5.out Try.underlying48 rfl (Try.sizeHs _ zero32_length)) rfl ⟨rfl, ar, HT.out.later H6.out, Grew.of_below g ar H6.out⟩
  case inl =>
    obtain ⟨tx, htx⟩ : ∃ tx, tx = (3 : UInt8) :: (a ++ b) := ⟨_, rfl⟩
    have he : nodeK 1 a b = shaF tx := by rw [htx]; rfl
    have hen : nodeN 1 a b = [tx] := by rw [htx]; rfl
    have htl : tx.length = 65 := by rw [htx]; simp [HA.out, HB.out]
    obtain ⟨cs, hcs⟩ : ∃ cs, cs = (shaF tx).map byteV := ⟨_, rfl⟩
    have hc8 : c8 (shaF tx) = cs.toArray := by rw [hcs]; rfl
    have hc32 : cs.length = 32 := by rw [hcs, List.length_map, shaF_length]
    have hone : ∀ v ∈ cs, v.oneCell' = true := by rw [hcs]; intro v hv; obtain ⟨x, _, rfl⟩ := List.mem_map.1 hv; rfl
    have hsz : (Try.prog.info? 48).map (·.size) = some cs.length := by rw [hc32]; kernel_rfl
    have hts := fun (w : World) a' u h1 h2 h3 => tsum_any w g a' texts tx u h1 (by rw [htl]; omega) h2 h3 hn
    rw [he, hen, hc8]
    rw [hc8] at hts
    have HTS := Lib.hid hts; have HC8 := Lib.hid hc8; have HTX := Lib.hid htx; have HCS := Lib.hid hcs; have HTL := Lib.hid htl
    clear he hen htx hcs hc8 hts htl
    go_enter Try.func59, Try.ntmps59
    go_wp2_with (refine wpList_alloc_g rfl _ rfl _ _ Try.zeroHash rfl ?_)
    intro R w1 h1
    go_wp2_with fail
    have h0 : Below w.heap.size w w1 := ((Below.refl _ _).alloc (Nat.le_refl _) _ |>.alloc (by simp) _).trans (h1.out.below.mono (by simp; omega))
    have hA1 : w1.heap[w.heap.size]? = some (.cells (c8 a) 48 (0, 0)) := (h1.out.below.block _ (by simp; omega)).trans (by rw [Below.heap_alloc _ _ _ (by simp)]; exact heap_alloc_new _ _)
    have hB1 : w1.heap[w.heap.size + 1]? = some (.cells (c8 b) 48 (0, 0)) := (h1.out.below.block _ (by simp)).trans (by have := heap_alloc_new (w.alloc (.cells (c8 a) 48)) (.cells (c8 b) 48 (0, 0)); rwa [World.size_alloc] at this)
    have hn1 : (w1.alloc (.cells #[.int .u8 3] 5)).drew.heap[w1.heap.size]? = some (.cells #[.int .u8 3] 5 (0, 0)) := heap_alloc_new _ _
    have ho1 : Own (w1.alloc (.cells #[.int .u8 3] 5)).drew w1.heap.size 5 u8E 1 (.slice (some ⟨w1.heap.size, 0, none⟩) 1 1) [3] := own_new1 hn1 rfl (Nat.le_refl _)
    have hra : Rd (w1.alloc (.cells #[.int .u8 3] 5)).drew u8E 1 (.slice (some ⟨w.heap.size, 0, none⟩) 32 32) a := ((rd_box hA1 32 HA.out.symm (by omega)).alloc _).later (Below.refl _ _).drew
    have hrb : Rd w1 u8E 1 (.slice (some ⟨w.heap.size + 1, 0, none⟩) 32 32) b := rd_box hB1 32 HB.out.symm (by omega)
    have HO := Lib.hid ho1; have HRA := Lib.hid hra; have HRB := Lib.hid hrb; have HB0 := Lib.hid h0; have HWR := Lib.hid h1.out.eq
    have hz1 : w.heap.size + 3 ≤ w1.heap.size := by have := h1.out.size; simp at this; omega
    have hRlt := heap_lt h1.out.cells
    have hRne : ∀ w3 : World, Below w1.heap.size w1 w3 → ¬ (R = g ∨ ar = some R) := by
      intro _ _ e
      have h5 := HT.out.lt
      have h6 := HWR.out
      simp at h6
      rcases e with e | e
      · omega
      · have := h5.2 _ e; omega
    clear ho1 hra hrb h0 hn1 hA1 hB1
    go_region_held3 (fun _ => True) (trivial) (first
      | (refine step_own_apps rfl _ _ _ rfl Try.underlying43 Try.infoU8 rfl (by omega) (fun _ => rfl) u8E_one HO.out rfl _ rfl HRA.out (by unfold maxLen; simp [HA.out]) (by simp [HA.out]) (B := w1.heap.size) (w0 := w1) ((Below.refl _ _).alloc (Nat.le_refl _) _).drew (Nat.le_refl _) (by show _ ≤ (World.alloc _ _).heap.size; rw [World.size_alloc]; exact Nat.le_succ _) ?_; intro v2 w2 hown2 hb2 _; obtain ⟨ad2, n2, cap2, hv2⟩ := hown2.slice; subst hv2; have HOWN2 := Lib.hid hown2; have HB2 := Lib.hid hb2; clear hown2 hb2 HO HRA)
      | (refine step_own_apps rfl _ _ _ rfl Try.underlying43 Try.infoU8 rfl (by omega) (fun _ => rfl) u8E_one HOWN2.out rfl _ rfl (HRB.out.later HB2.out) (by unfold maxLen; simp [HA.out, HB.out]) (by simp [HA.out, HB.out]) (B := w1.heap.size) (w0 := w1) HB2.out (Nat.le_refl _) HB2.out.size ?_; intro v3 w3 hown3 hb3 _; obtain ⟨ad3, n3, cap3, hv3⟩ := hown3.slice; subst hv3; have HOWN3 := Lib.hid hown3; have HB3 := Lib.hid hb3; clear hown3 hb3 HOWN2 HB2)
      | (go_at_call 90; ((with_reducible refine (HTS.out _ ar _ (by have hq := HOWN3.out.rd (fun _ => rfl); rw [List.append_assoc, List.cons_append, List.nil_append] at hq; rw [HTX.out]; exact hq) (HT.out.later (HB0.out.trans (HB3.out.mono HB0.out.size))) HOWN3.out.bytes).mono ?_); rintro e w4 ⟨rfl, a4, ht4, hg4⟩; have hR4 := hg4.1.at ((HB3.out.block R hRlt).trans h1.out.cells) (hRne _ HB3.out); have hth := there_row hR4)))
    all_goals
      have h5 := setCells_row (vs := cs) hR4 (by rw [cB_size _ _ (by simp)]; exact hc32)
      have hk5 := (setCells_keep R cs 0 w4).1
      have hb03 : Below w.heap.size w w3 := HB0.out.trans (HB3.out.mono HB0.out.size)
      have ht5 := ht4.keep1 hk5 hR4 (by decide)
      have hg5 := (Grew.from hb03 hg4).to (by have := HWR.out; simp at this; omega) hk5
      have H5 := Lib.hid h5; have HT5 := Lib.hid ht5; have HG5 := Lib.hid hg5; have HS := Lib.hid hsz
      clear h5 hk5 hb03 ht5 hg5 ht4 hg4 hth hR4 hsz
      go_wp2_with fail
      exact bodyPost_ret (results_cell_row rfl _ _ R _ cs.toArray _ _ rfl H5.out Try.underlying48 rfl (by rw [List.size_toArray]; exact HS.out)) rfl ⟨rfl, a4, HT5.out, HG5.out⟩
  case inr.inl =>
    obtain ⟨tx, htx⟩ : ∃ tx, tx = (5 : UInt8) :: (a ++ b) := ⟨_, rfl⟩
    have he : nodeK 2 a b = shaF tx := by rw [htx]; rfl
    have hen : nodeN 2 a b = [tx] := by rw [htx]; rfl
    have htl : tx.length = 65 := by rw [htx]; simp [HA.out, HB.out]
    obtain ⟨cs, hcs⟩ : ∃ cs, cs = (shaF tx).map byteV := ⟨_, rfl⟩
    have hc8 : c8 (shaF tx) = cs.toArray := by rw [hcs]; rfl
    have hc32 : cs.length = 32 := by rw [hcs, List.length_map, shaF_length]
    have hone : ∀ v ∈ cs, v.oneCell' = true := by rw [hcs]; intro v hv; obtain ⟨x, _, rfl⟩ := List.mem_map.1 hv; rfl
    have hsz : (Try.prog.info? 48).map (·.size) = some cs.length := by rw [hc32]; kernel_rfl
    have hts := fun (w : World) a' u h1 h2 h3 => tsum_any w g a' texts tx u h1 (by rw [htl]; omega) h2 h3 hn
    rw [he, hen, hc8]
    rw [hc8] at hts
    have HTS := Lib.hid hts; have HC8 := Lib.hid hc8; have HTX := Lib.hid htx; have HCS := Lib.hid hcs; have HTL := Lib.hid htl
    clear he hen htx hcs hc8 hts htl
    go_enter Try.func59, Try.ntmps59
    go_wp2_with (refine wpList_alloc_g rfl _ rfl _ _ Try.zeroHash rfl ?_)
    intro R w1 h1
    go_wp2_with fail
    have h0 : Below w.heap.size w w1 := ((Below.refl _ _).alloc (Nat.le_refl _) _ |>.alloc (by simp) _).trans (h1.out.below.mono (by simp; omega))
    have hA1 : w1.heap[w.heap.size]? = some (.cells (c8 a) 48 (0, 0)) := (h1.out.below.block _ (by simp; omega)).trans (by rw [Below.heap_alloc _ _ _ (by simp)]; exact heap_alloc_new _ _)
    have hB1 : w1.heap[w.heap.size + 1]? = some (.cells (c8 b) 48 (0, 0)) := (h1.out.below.block _ (by simp)).trans (by have := heap_alloc_new (w.alloc (.cells (c8 a) 48)) (.cells (c8 b) 48 (0, 0)); rwa [World.size_alloc] at this)
    have hn1 : (w1.alloc (.cells #[.int .u8 5] 5)).drew.heap[w1.heap.size]? = some (.cells #[.int .u8 5] 5 (0, 0)) := heap_alloc_new _ _
    have ho1 : Own (w1.alloc (.cells #[.int .u8 5] 5)).drew w1.heap.size 5 u8E 1 (.slice (some ⟨w1.heap.size, 0, none⟩) 1 1) [5] := own_new1 hn1 rfl (Nat.le_refl _)
    have hra : Rd (w1.alloc (.cells #[.int .u8 5] 5)).drew u8E 1 (.slice (some ⟨w.heap.size, 0, none⟩) 32 32) a := ((rd_box hA1 32 HA.out.symm (by omega)).alloc _).later (Below.refl _ _).drew
    have hrb : Rd w1 u8E 1 (.slice (some ⟨w.heap.size + 1, 0, none⟩) 32 32) b := rd_box hB1 32 HB.out.symm (by omega)
    have HO := Lib.hid ho1; have HRA := Lib.hid hra; have HRB := Lib.hid hrb; have HB0 := Lib.hid h0; have HWR := Lib.hid h1.out.eq
    have hz1 : w.heap.size + 3 ≤ w1.heap.size := by have := h1.out.size; simp at this; omega
    have hRlt := heap_lt h1.out.cells
    have hRne : ∀ w3 : World, Below w1.heap.size w1 w3 → ¬ (R = g ∨ ar = some R) := by
      intro _ _ e
      have h5 := HT.out.lt
      have h6 := HWR.out
      simp at h6
      rcases e with e | e
      · omega
      · have := h5.2 _ e; omega
    clear ho1 hra hrb h0 hn1 hA1 hB1
    go_region_held3 (fun _ => True) (trivial) (first
      | (refine step_own_apps rfl _ _ _ rfl Try.underlying43 Try.infoU8 rfl (by omega) (fun _ => rfl) u8E_one HO.out rfl _ rfl HRA.out (by unfold maxLen; simp [HA.out]) (by simp [HA.out]) (B := w1.heap.size) (w0 := w1) ((Below.refl _ _).alloc (Nat.le_refl _) _).drew (Nat.le_refl _) (by show _ ≤ (World.alloc _ _).heap.size; rw [World.size_alloc]; exact Nat.le_succ _) ?_; intro v2 w2 hown2 hb2 _; obtain ⟨ad2, n2, cap2, hv2⟩ := hown2.slice; subst hv2; have HOWN2 := Lib.hid hown2; have HB2 := Lib.hid hb2; clear hown2 hb2 HO HRA)
      | (refine step_own_apps rfl _ _ _ rfl Try.underlying43 Try.infoU8 rfl (by omega) (fun _ => rfl) u8E_one HOWN2.out rfl _ rfl (HRB.out.later HB2.out) (by unfold maxLen; simp [HA.out, HB.out]) (by simp [HA.out, HB.out]) (B := w1.heap.size) (w0 := w1) HB2.out (Nat.le_refl _) HB2.out.size ?_; intro v3 w3 hown3 hb3 _; obtain ⟨ad3, n3, cap3, hv3⟩ := hown3.slice; subst hv3; have HOWN3 := Lib.hid hown3; have HB3 := Lib.hid hb3; clear hown3 hb3 HOWN2 HB2)
      | (go_at_call 90; ((with_reducible refine (HTS.out _ ar _ (by have hq := HOWN3.out.rd (fun _ => rfl); rw [List.append_assoc, List.cons_append, List.nil_append] at hq; rw [HTX.out]; exact hq) (HT.out.later (HB0.out.trans (HB3.out.mono HB0.out.size))) HOWN3.out.bytes).mono ?_); rintro e w4 ⟨rfl, a4, ht4, hg4⟩; have hR4 := hg4.1.at ((HB3.out.block R hRlt).trans h1.out.cells) (hRne _ HB3.out); have hth := there_row hR4)))
    all_goals
      have h5 := setCells_row (vs := cs) hR4 (by rw [cB_size _ _ (by simp)]; exact hc32)
      have hk5 := (setCells_keep R cs 0 w4).1
      have hb03 : Below w.heap.size w w3 := HB0.out.trans (HB3.out.mono HB0.out.size)
      have ht5 := ht4.keep1 hk5 hR4 (by decide)
      have hg5 := (Grew.from hb03 hg4).to (by have := HWR.out; simp at this; omega) hk5
      have H5 := Lib.hid h5; have HT5 := Lib.hid ht5; have HG5 := Lib.hid hg5; have HS := Lib.hid hsz
      clear h5 hk5 hb03 ht5 hg5 ht4 hg4 hth hR4 hsz
      go_wp2_with fail
      exact bodyPost_ret (results_cell_row rfl _ _ R _ cs.toArray _ _ rfl H5.out Try.underlying48 rfl (by rw [List.size_toArray]; exact HS.out)) rfl ⟨rfl, a4, HT5.out, HG5.out⟩
end Go.Proofs.Ytbfdjjaonjepnaa
