/- sha.begin, sha.constants: what they hold. sha.State: is, Len of a state that no call made. -/
import Derived.Test.YtmclmccgghnglaaLcK2
namespace Go.Proofs.Ytmclmccgghnglaa
section
open Go.RowKit

theorem Try.sizeH : (Try.prog.info? 133).map (·.size) = some 8 := by kernel_rfl
theorem Try.sizeCon : (Try.prog.info? 139).map (·.size) = some (cW 64 conK).size := by kernel_rfl
theorem Try.sizeBeg : (Try.prog.info? 133).map (·.size) = some (cW 8 begV.list).size := by kernel_rfl

set_option maxRecDepth 100000 in
set_option maxHeartbeats 4000000 in
theorem constants_any (w : World) : Calls Try.prog 97 #[] w (Ret w (.agg (cW 64 conK))) := by
  go_enter Try.func97, Try.ntmps97
  go_wp2_with (first | (refine wpList_store_row (t := 139) (old := cW 64 []) rfl 139 (.tmp 0) _ rfl w.heap.size (cW 64 conK) rfl (by kernel_rfl) ((heap_alloc_new _ _).trans (by kernel_rfl)) Try.sizeCon (by kernel_rfl) (one_w _ _) ?_))
  exact bodyPost_ret (results_cell_row rfl _ _ w.heap.size _ (cW 64 conK) _ _ rfl (setRow_heap _ _ _ _ _ _ ((heap_alloc_new _ _))) Try.underlying139 rfl Try.sizeCon) rfl ⟨rfl, below_setRow ((Below.refl _ _).alloc (Nat.le_refl _) _) (Nat.le_refl _) _⟩

set_option maxRecDepth 100000 in
set_option maxHeartbeats 4000000 in
theorem begin_any (w : World) : Calls Try.prog 84 #[] w (Ret w (.agg (cW 8 begV.list))) := by
  go_enter Try.func84, Try.ntmps84
  go_wp2_with (first | (refine wpList_store_row (t := 133) (old := cW 8 []) rfl 133 (.tmp 0) _ rfl w.heap.size (cW 8 begV.list) rfl (by kernel_rfl) ((heap_alloc_new _ _).trans (by kernel_rfl)) Try.sizeBeg (by kernel_rfl) (one_w _ _) ?_))
  exact bodyPost_ret (results_cell_row rfl _ _ w.heap.size _ (cW 8 begV.list) _ _ rfl (setRow_heap _ _ _ _ _ _ ((heap_alloc_new _ _))) Try.underlying133 rfl Try.sizeBeg) rfl ⟨rfl, below_setRow ((Below.refl _ _).alloc (Nat.le_refl _) _) (Nat.le_refl _) _⟩
end
section
open Go.RowKit

theorem is_at (w : World) (g : Nat) (m : Bool) (h : w.cell? ⟨g, 0, none⟩ = some (.bool m)) : Calls Try.prog 85 #[.pointer (some ⟨g, 0, none⟩)] w fun e w' => e = .returned (.bool m) ∧ w = w' := by
  go_enter Try.func85, Try.ntmps85
  go_wp2
  go_ret
  exact ⟨rfl, rfl⟩
/-- A state that no call made. -/
def Off (w : World) (v : Value) : Prop := v = .pointer none ∨ ∃ g, v = .pointer (some ⟨g, 0, none⟩) ∧ w.cell? ⟨g, 0, none⟩ = some (.bool false)
end
end Go.Proofs.Ytmclmccgghnglaa
