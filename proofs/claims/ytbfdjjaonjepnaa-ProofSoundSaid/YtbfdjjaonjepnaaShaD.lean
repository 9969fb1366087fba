/- sha.begin, sha.constants: what they hold. -/
import Derived.Test.YtbfdjjaonjepnaaShaB
namespace Go.Proofs.Ytbfdjjaonjepnaa
open Go.RowKit

theorem Try.sizeH : (Try.prog.info? 54).map (·.size) = some 8 := by kernel_rfl
theorem cW_con : (cW 64 conK).size = 64 := by kernel_rfl
theorem cW_beg : (cW 8 begV.list).size = 8 := by kernel_rfl
theorem Try.sizeCon : (Try.prog.info? 120).map (·.size) = some (cW 64 conK).size := by kernel_rfl
theorem Try.sizeBeg : (Try.prog.info? 54).map (·.size) = some (cW 8 begV.list).size := by kernel_rfl

set_option maxRecDepth 100000 in
set_option maxHeartbeats 4000000 in
theorem constants_any (w : World) : Calls Try.prog 93 #[] w (Ret w (.agg (cW 64 conK))) := by
  go_enter Try.func93, Try.ntmps93
  go_wp2_with (first | (refine wpList_store_row (t := 120) (old := cW 64 []) rfl 120 (.tmp 0) _ rfl w.heap.size (cW 64 conK) rfl (by kernel_rfl) ((heap_alloc_new _ _).trans (by kernel_rfl)) Try.sizeCon (by kernel_rfl) (one_w _ _) ?_))
  exact bodyPost_ret (results_cell_row rfl _ _ w.heap.size _ (cW 64 conK) _ _ rfl (setRow_heap _ _ _ _ _ _ ((heap_alloc_new _ _))) Try.underlying120 rfl Try.sizeCon) rfl ⟨rfl, below_setRow ((Below.refl _ _).alloc (Nat.le_refl _) _) (Nat.le_refl _) _⟩

set_option maxRecDepth 100000 in
set_option maxHeartbeats 4000000 in
theorem begin_any (w : World) : Calls Try.prog 77 #[] w (Ret w (.agg (cW 8 begV.list))) := by
  go_enter Try.func77, Try.ntmps77
  go_wp2_with (first | (refine wpList_store_row (t := 54) (old := cW 8 []) rfl 54 (.tmp 0) _ rfl w.heap.size (cW 8 begV.list) rfl (by kernel_rfl) ((heap_alloc_new _ _).trans (by kernel_rfl)) Try.sizeBeg (by kernel_rfl) (one_w _ _) ?_))
  exact bodyPost_ret (results_cell_row rfl _ _ w.heap.size _ (cW 8 begV.list) _ _ rfl (setRow_heap _ _ _ _ _ _ ((heap_alloc_new _ _))) Try.underlying54 rfl Try.sizeBeg) rfl ⟨rfl, below_setRow ((Below.refl _ _).alloc (Nat.le_refl _) _) (Nat.le_refl _) _⟩
end Go.Proofs.Ytbfdjjaonjepnaa
