/- lives: no condition. -/
import Derived.Test.YtggcmaegmkjedaaRstG
import Derived.Test.YtggcmaegmkjedaaStoW
namespace Go.Proofs.Ytggcmaegmkjedaa
open Go.RowKit

/-- A store whose blocks are all new since B. -/
def Mine (B : Nat) (w : World) (g : Nat) (s : PS) : Prop := ∃ F, St w g s F ∧ ∀ x ∈ F, B ≤ x
theorem Mine.next {w0 w w' : World} {g : Nat} {s' : PS} {F : List Nat} {v : Value} {e : Ending} (hb : Below w0.heap.size w0 w) (hf : ∀ x ∈ F, w0.heap.size ≤ x) (h : StRet w g F s' v e w') :
    e = .returned v ∧ Mine w0.heap.size w' g s' ∧ Below w0.heap.size w0 w' := by
  obtain ⟨he, F', h1, h2, h3⟩ := h
  refine ⟨he, ⟨F', h1, fun x hx => ?_⟩, hb.trans (h2.below (B := w0.heap.size) (fun q hq e => by have := hf q e; omega) hb.size)⟩
  rcases h3 x hx with h | h
  · exact hf x h
  · exact Nat.le_trans hb.size h
def LV1 : PS := ⟨[([97], [49])], [([97], [], false)]⟩
def LV3 : PS := ⟨[([97], [50])], [([97], [], false), ([97], [49], true)]⟩
theorem lv1 : PS.new.set [97] [49] = LV1 := by kernel_rfl
theorem lv2 : LV1.set [97] [49] = LV1 := by kernel_rfl
theorem lv3 : LV1.set [97] [50] = LV3 := by kernel_rfl
theorem lv4 : LV3.undo 1 = LV1 := by kernel_rfl
theorem lv5 : undoE LV3 1 = true := by kernel_rfl
theorem lv6 : getP LV1.t [97] = some [49] := by kernel_rfl

set_option maxHeartbeats 4000000 in
set_option maxRecDepth 100000 in
theorem lives_any (w : World) : Calls Try.prog 21 #[] w fun e w' => e = .returned (.bool true) ∧ Below w.heap.size w w' := by
  go_enter Try.func21, Try.ntmps21
  go_wp2_with fail
  refine (snew_any _).mono ?_
  rintro e w1 ⟨g, F, rfl, h1, hb1, hf1⟩
  have B1 := Lib.hid hb1; have S1 : Hid (Mine w.heap.size w1 g PS.new) := Lib.hid ⟨F, h1, hf1⟩
  clear h1 hb1 hf1
  go_wp2_with fail
  obtain ⟨F1, q1, p1⟩ := S1.out
  refine (sset_any q1 (by decide) (by decide) [97] [49]).mono ?_
  intro e w2 hr
  rw [lv1] at hr
  obtain ⟨rfl, S2, B2⟩ := Mine.next B1.out p1 hr
  have S2 := Lib.hid S2; have B2 := Lib.hid B2
  clear hr q1 p1 S1 B1
  go_wp2_with fail
  obtain ⟨F2, q2, p2⟩ := S2.out
  refine (smark_any q2).mono ?_
  rintro e w3 ⟨rfl, rfl⟩
  go_wp2_with fail
  refine (sset_any q2 (by decide) (by decide) [97] [49]).mono ?_
  intro e w3 hr
  rw [lv2] at hr
  obtain ⟨rfl, S3, B3⟩ := Mine.next B2.out p2 hr
  have S3 := Lib.hid S3; have B3 := Lib.hid B3
  clear hr q2 p2 S2 B2
  go_wp2_with fail
  obtain ⟨F3, q3, p3⟩ := S3.out
  refine (sset_any q3 (by decide) (by decide) [97] [50]).mono ?_
  intro e w4 hr
  rw [lv3] at hr
  obtain ⟨rfl, S4, B4⟩ := Mine.next B3.out p3 hr
  have S4 := Lib.hid S4; have B4 := Lib.hid B4
  clear hr q3 p3 S3 B3
  go_wp2_with fail
  obtain ⟨F4, q4, p4⟩ := S4.out
  refine (sundo_any q4 (by decide) 1).mono ?_
  intro e w5 hr
  rw [lv4, lv5] at hr
  obtain ⟨rfl, S5, B5⟩ := Mine.next B4.out p4 hr
  have S5 := Lib.hid S5; have B5 := Lib.hid B5
  clear hr q4 p4 S4 B4
  go_wp2_with fail
  obtain ⟨F5, q5, p5⟩ := S5.out
  refine (sget_any q5 [97]).mono ?_
  rw [lv6]
  rintro e w6 ⟨rfl, rfl⟩
  have hq : ((bs [49]).toList == [49]) = true := by rw [toList_bs]; rfl
  go_wp2_with fail
  refine (smark_any q5).mono ?_
  rintro e w6 ⟨rfl, rfl⟩
  go_wp2_with fail
  go_ret
  exact ⟨rfl, B5.out⟩
end Go.Proofs.Ytggcmaegmkjedaa
