/- sha.begin, sha.constants: what they hold. sha.State: is, Len of a state that no call made. -/
import Derived.Test.YtmclmccgghnglaaGreatLs2
namespace Go.Proofs.YtmclmccgghnglaaGreat
section
open Go.RowKit

theorem Tryz.sizeH : (Tryz.prog.info? 248).map (·.size) = some 8 := by kernel_rfl
theorem Tryz.sizeCon : (Tryz.prog.info? 250).map (·.size) = some (cW 64 conK).size := by kernel_rfl
theorem Tryz.sizeBeg : (Tryz.prog.info? 248).map (·.size) = some (cW 8 begV.list).size := by kernel_rfl

set_option maxRecDepth 100000 in
set_option maxHeartbeats 4000000 in
theorem constants_any (w : World) : Calls Tryz.prog 369 #[] w (Ret w (.agg (cW 64 conK))) := by
  go_enter Tryz.func369, Tryz.ntmps369
  go_wp2_with (first | (refine wpList_store_row (t := 250) (old := cW 64 []) rfl 250 (.tmp 0) _ rfl w.heap.size (cW 64 conK) rfl (by kernel_rfl) ((heap_alloc_new _ _).trans (by kernel_rfl)) Tryz.sizeCon (by kernel_rfl) (one_w _ _) ?_))
  exact bodyPost_ret (results_cell_row rfl _ _ w.heap.size _ (cW 64 conK) _ _ rfl (setRow_heap _ _ _ _ _ _ ((heap_alloc_new _ _))) Tryz.underlying250 rfl Tryz.sizeCon) rfl ⟨rfl, below_setRow ((Below.refl _ _).alloc (Nat.le_refl _) _) (Nat.le_refl _) _⟩

set_option maxRecDepth 100000 in
set_option maxHeartbeats 4000000 in
theorem begin_any (w : World) : Calls Tryz.prog 350 #[] w (Ret w (.agg (cW 8 begV.list))) := by
  go_enter Tryz.func350, Tryz.ntmps350
  go_wp2_with (first | (refine wpList_store_row (t := 248) (old := cW 8 []) rfl 248 (.tmp 0) _ rfl w.heap.size (cW 8 begV.list) rfl (by kernel_rfl) ((heap_alloc_new _ _).trans (by kernel_rfl)) Tryz.sizeBeg (by kernel_rfl) (one_w _ _) ?_))
  exact bodyPost_ret (results_cell_row rfl _ _ w.heap.size _ (cW 8 begV.list) _ _ rfl (setRow_heap _ _ _ _ _ _ ((heap_alloc_new _ _))) Tryz.underlying248 rfl Tryz.sizeBeg) rfl ⟨rfl, below_setRow ((Below.refl _ _).alloc (Nat.le_refl _) _) (Nat.le_refl _) _⟩
end
section
open Go.RowKit

theorem is_at (w : World) (g : Nat) (m : Bool) (h : w.cell? ⟨g, 0, none⟩ = some (.bool m)) : Calls Tryz.prog 351 #[.pointer (some ⟨g, 0, none⟩)] w fun e w' => e = .returned (.bool m) ∧ w = w' := by
  go_enter Tryz.func351, Tryz.ntmps351
  go_wp2
  go_ret
  exact ⟨rfl, rfl⟩
/-- A state that no call made. -/
def Off (w : World) (v : Value) : Prop := v = .pointer none ∨ ∃ g, v = .pointer (some ⟨g, 0, none⟩) ∧ w.cell? ⟨g, 0, none⟩ = some (.bool false)
end
end Go.Proofs.YtmclmccgghnglaaGreat
