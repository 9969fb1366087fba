/- Law 31: PoolNone. No condition. -/
import Derived.Test.YthnjakomkdlglaaGreatPolJ
import Derived.Deep.Cut
namespace Go.Proofs.YthnjakomkdlglaaGreat
open Go.RowKit

def pf0 : Txt → Option Txt := fun _ => none
theorem pf0_fit : FitF pf0 := FitF.none
theorem amtV_pf0 (k : Txt) : amtV pf0 k = 0 := by
  unfold amtV valF pf0
  exact amtF_nil
theorem Tryz.idxPt0 (p q : Value) (w : World) : (Instr.index 66 (.agg #[p, q]) (.int .i64 0)).run Tryz.prog w = .ok p w := by kernel_rfl
theorem Tryz.idxPt1 (p q : Value) (w : World) : (Instr.index 66 (.agg #[p, q]) (.int .i64 1)).run Tryz.prog w = .ok q w := by kernel_rfl

set_option maxHeartbeats 4000000 in
set_option maxRecDepth 100000 in
theorem psubmit_not {w : World} {x : Option Addr} (h : NotMade w x) (p q a b c d : Int) : Calls Tryz.prog 29 #[.pointer x, .int .i64 p, .int .i64 q, .agg #[.int .u64 a, .int .u64 b, .int .u64 c, .int .u64 d]] w (Ret w (.int .i64 1)) := by
  have H := Lib.hid h
  clear h
  go_enter Tryz.func29, Tryz.ntmps29
  go_upto_region 1 with fail
  obtain ⟨w1, hw1⟩ : ∃ w1, w1 = w.alloc (.cells #[.int .u64 a, .int .u64 b, .int .u64 c, .int .u64 d] 33) := ⟨_, rfl⟩
  rw [← hw1]
  have hb : Below w.heap.size w w1 := by rw [hw1]; exact below_new _ _
  have HB := Lib.hid hb
  have HN := Lib.hid (H.out.later hb)
  clear hw1 hb H
  go_wp2_with fail
  refine (smade_not HN.out).mono ?_
  rintro e _ ⟨rfl, rfl⟩
  go_wp2_with fail
  go_ret
  exact ⟨rfl, HB.out⟩

set_option maxHeartbeats 4000000 in
set_option maxRecDepth 100000 in
theorem ppay_not {w : World} {x : Option Addr} (h : NotMade w x) (p q a b c d : Int) : Calls Tryz.prog 30 #[.pointer x, .int .i64 p, .int .i64 q, .agg #[.int .u64 a, .int .u64 b, .int .u64 c, .int .u64 d]] w (Ret w (.int .i64 1)) := by
  have H := Lib.hid h
  clear h
  go_enter Tryz.func30, Tryz.ntmps30
  go_upto_region 1 with fail
  obtain ⟨w1, hw1⟩ : ∃ w1, w1 = w.alloc (.cells #[.int .u64 a, .int .u64 b, .int .u64 c, .int .u64 d] 33) := ⟨_, rfl⟩
  rw [← hw1]
  have hb : Below w.heap.size w w1 := by rw [hw1]; exact below_new _ _
  have HB := Lib.hid hb
  have HN := Lib.hid (H.out.later hb)
  clear hw1 hb H
  go_wp2_with fail
  refine (smade_not HN.out).mono ?_
  rintro e _ ⟨rfl, rfl⟩
  go_wp2_with fail
  go_ret
  exact ⟨rfl, HB.out⟩

set_option maxHeartbeats 8000000 in
set_option maxRecDepth 100000 in
theorem none31_any {w : World} (a : Act31) (hga : Good31 w a) : Calls Tryz.prog 5 #[.agg #[.bool a.pay, .int .i64 a.who, .int .i64 a.t, .int .u64 (uw0 a.m), .int .u64 (uw1 a.m), .int .u64 (uw2 a.m), .int .u64 (uw3 a.m)]] w (Ret w (.bool true)) := by
  have HGA := Lib.hid hga
  clear hga
  go_enter Tryz.func5, Tryz.ntmps5
  go_wp2_with fail
  obtain ⟨w0, hw0⟩ : ∃ w0, w0 = w.alloc (.cells #[.bool a.pay, .int .i64 a.who, .int .i64 a.t, .int .u64 (uw0 a.m), .int .u64 (uw1 a.m), .int .u64 (uw2 a.m), .int .u64 (uw3 a.m)] 60) := ⟨_, rfl⟩
  obtain ⟨R, hR⟩ : ∃ R, R = w.heap.size := ⟨_, rfl⟩
  obtain ⟨w3, hw3⟩ : ∃ w3, w3 = w0.alloc (.cells #[.bool false, .map none, .slice none 0 0, .slice none 0 0] 65) := ⟨_, rfl⟩
  obtain ⟨gz, hgz⟩ : ∃ gz, gz = w.heap.size + 1 := ⟨_, rfl⟩
  rw [← hw0, ← hw3, ← hgz, ← hR]
  have hs0 : w0.heap.size = w.heap.size + 1 := by rw [hw0, World.size_alloc]
  have hx0 : w0.heap[R]? = some (.cells #[.bool a.pay, .int .i64 a.who, .int .i64 a.t, .int .u64 (uw0 a.m), .int .u64 (uw1 a.m), .int .u64 (uw2 a.m), .int .u64 (uw3 a.m)] 60 (0, 0)) := by rw [hw0, hR]; exact heap_alloc_new _ _
  have hz3 : w3.heap[gz]? = some (.cells #[.bool false, .map none, .slice none 0 0, .slice none 0 0] 65 (0, 0)) := by rw [hw3, hgz, ← hs0]; exact heap_alloc_new _ _
  have hb0 : Below w.heap.size w w0 := by rw [hw0]; exact below_new _ _
  have hb3 : Below w0.heap.size w0 w3 := by rw [hw3]; exact below_new _ _
  have HB3 := Lib.hid (hb0.trans (hb3.mono hb0.size))
  have HX3 := Lib.hid (below_at' hb3 hx0)
  have HN0 : Hid (NotMade w3 none) := Lib.hid (.inl rfl)
  have HN1 : Hid (NotMade w3 (some ⟨gz, 0, none⟩)) := Lib.hid (.inr ⟨gz, _, _, rfl, hz3, rfl⟩)
  clear hw0 hR hw3 hgz hs0 hx0 hz3 hb0 hb3
  go_loopw [7] (fun vi wr => (vi = .int .i64 0 ∨ vi = .int .i64 1 ∨ vi = .int .i64 2) ∧ Hid (Below w3.heap.size w3 wr)) (fun vi _ => 2 - (intOf vi).toNat)
  case atStart => exact ⟨.inl rfl, Lib.hid (Below.refl _ _)⟩
  case round =>
    obtain ⟨hv, BW⟩ := hrel
    have hi0 := fun w => Tryz.idxPt0 (.pointer none) (.pointer (some ⟨gz, 0, none⟩)) w
    have hi1 := fun w => Tryz.idxPt1 (.pointer none) (.pointer (some ⟨gz, 0, none⟩)) w
    rcases hv with rfl | rfl | rfl
    · have q1 : wr.cell? ⟨R, 1, none⟩ = some (.int .i64 a.who) := Lib.cell_of_heap (below_at' BW.out HX3.out) 1
      have q2 : wr.cell? ⟨R, 2, none⟩ = some (.int .i64 a.t) := Lib.cell_of_heap (below_at' BW.out HX3.out) 2
      have q3 : wr.cell? ⟨R, 3, none⟩ = some (.int .u64 (uw0 a.m)) := Lib.cell_of_heap (below_at' BW.out HX3.out) 3
      have q4 : wr.cell? ⟨R, 4, none⟩ = some (.int .u64 (uw1 a.m)) := Lib.cell_of_heap (below_at' BW.out HX3.out) 4
      have q5 : wr.cell? ⟨R, 5, none⟩ = some (.int .u64 (uw2 a.m)) := Lib.cell_of_heap (below_at' BW.out HX3.out) 5
      have q6 : wr.cell? ⟨R, 6, none⟩ = some (.int .u64 (uw3 a.m)) := Lib.cell_of_heap (below_at' BW.out HX3.out) 6
      go_wp2_with fail
      clear q1 q2 q3 q4 q5 q6
      refine (psubmit_not (HN0.out.later BW.out) _ _ _ _ _ _).mono ?_
      rintro e d1 ⟨rfl, hb⟩
      have BWm := Lib.hid (BW.out.trans (hb.mono BW.out.size))
      clear hb BW
      have BW := BWm
      clear BWm
      have q1 : d1.cell? ⟨R, 1, none⟩ = some (.int .i64 a.who) := Lib.cell_of_heap (below_at' BW.out HX3.out) 1
      have q2 : d1.cell? ⟨R, 2, none⟩ = some (.int .i64 a.t) := Lib.cell_of_heap (below_at' BW.out HX3.out) 2
      have q3 : d1.cell? ⟨R, 3, none⟩ = some (.int .u64 (uw0 a.m)) := Lib.cell_of_heap (below_at' BW.out HX3.out) 3
      have q4 : d1.cell? ⟨R, 4, none⟩ = some (.int .u64 (uw1 a.m)) := Lib.cell_of_heap (below_at' BW.out HX3.out) 4
      have q5 : d1.cell? ⟨R, 5, none⟩ = some (.int .u64 (uw2 a.m)) := Lib.cell_of_heap (below_at' BW.out HX3.out) 5
      have q6 : d1.cell? ⟨R, 6, none⟩ = some (.int .u64 (uw3 a.m)) := Lib.cell_of_heap (below_at' BW.out HX3.out) 6
      go_wp2_with fail
      clear q1 q2 q3 q4 q5 q6
      refine (ppay_not (HN0.out.later BW.out) _ _ _ _ _ _).mono ?_
      rintro e d2 ⟨rfl, hb⟩
      have BWm := Lib.hid (BW.out.trans (hb.mono BW.out.size))
      clear hb BW
      have BW := BWm
      clear BWm
      have q2 : d2.cell? ⟨R, 2, none⟩ = some (.int .i64 a.t) := Lib.cell_of_heap (below_at' BW.out HX3.out) 2
      go_wp2_with fail
      clear q2
      refine (psub_any (f := pf0) (Look.of_not (HN0.out.later BW.out)) pf0_fit HGA.out.b_t).mono ?_
      rw [amtV_pf0]
      rintro e d3 ⟨ya, yb, yc, yd, hu, rfl, hb⟩
      have hzU := Lib.hid hu
      have e7 := Tryz.eqUn hu UIs.zero
      rw [decide_eq_true rfl] at e7
      clear hu
      have BWm := Lib.hid (BW.out.trans (hb.mono BW.out.size))
      clear hb BW
      have BW := BWm
      clear BWm
      have q2 : d3.cell? ⟨R, 2, none⟩ = some (.int .i64 a.t) := Lib.cell_of_heap (below_at' BW.out HX3.out) 2
      go_wp2_with fail
      clear q2
      clear e7 hzU
      refine (ppaid_any (f := pf0) (Look.of_not (HN0.out.later BW.out)) pf0_fit HGA.out.b_t).mono ?_
      rw [amtV_pf0]
      rintro e d4 ⟨ya, yb, yc, yd, hu, rfl, hb⟩
      have hzU := Lib.hid hu
      have e7 := Tryz.eqUn hu UIs.zero
      rw [decide_eq_true rfl] at e7
      clear hu
      have BWm := Lib.hid (BW.out.trans (hb.mono BW.out.size))
      clear hb BW
      have BW := BWm
      clear BWm
      have q2 : d4.cell? ⟨R, 2, none⟩ = some (.int .i64 a.t) := Lib.cell_of_heap (below_at' BW.out HX3.out) 2
      go_wp2_with fail
      clear q2
      clear e7 hzU
      refine (pleft_any (f := pf0) (Look.of_not (HN0.out.later BW.out)) pf0_fit HGA.out.b_t).mono ?_
      rw [amtV_pf0]
      rintro e d5 ⟨ya, yb, yc, yd, hu, rfl, hb⟩
      have hzU := Lib.hid hu
      have e7 := Tryz.eqUn hu UIs.zero
      rw [decide_eq_true rfl] at e7
      clear hu
      have BWm := Lib.hid (BW.out.trans (hb.mono BW.out.size))
      clear hb BW
      have BW := BWm
      clear BWm
      go_wp2_with fail
      clear e7 hzU
      go_roundw
      case rel => exact ⟨.inr (.inl rfl), BW⟩
      case measure => simp [intOf]
    · have q1 : wr.cell? ⟨R, 1, none⟩ = some (.int .i64 a.who) := Lib.cell_of_heap (below_at' BW.out HX3.out) 1
      have q2 : wr.cell? ⟨R, 2, none⟩ = some (.int .i64 a.t) := Lib.cell_of_heap (below_at' BW.out HX3.out) 2
      have q3 : wr.cell? ⟨R, 3, none⟩ = some (.int .u64 (uw0 a.m)) := Lib.cell_of_heap (below_at' BW.out HX3.out) 3
      have q4 : wr.cell? ⟨R, 4, none⟩ = some (.int .u64 (uw1 a.m)) := Lib.cell_of_heap (below_at' BW.out HX3.out) 4
      have q5 : wr.cell? ⟨R, 5, none⟩ = some (.int .u64 (uw2 a.m)) := Lib.cell_of_heap (below_at' BW.out HX3.out) 5
      have q6 : wr.cell? ⟨R, 6, none⟩ = some (.int .u64 (uw3 a.m)) := Lib.cell_of_heap (below_at' BW.out HX3.out) 6
      go_wp2_with fail
      clear q1 q2 q3 q4 q5 q6
      refine (psubmit_not (HN1.out.later BW.out) _ _ _ _ _ _).mono ?_
      rintro e d1 ⟨rfl, hb⟩
      have BWm := Lib.hid (BW.out.trans (hb.mono BW.out.size))
      clear hb BW
      have BW := BWm
      clear BWm
      have q1 : d1.cell? ⟨R, 1, none⟩ = some (.int .i64 a.who) := Lib.cell_of_heap (below_at' BW.out HX3.out) 1
      have q2 : d1.cell? ⟨R, 2, none⟩ = some (.int .i64 a.t) := Lib.cell_of_heap (below_at' BW.out HX3.out) 2
      have q3 : d1.cell? ⟨R, 3, none⟩ = some (.int .u64 (uw0 a.m)) := Lib.cell_of_heap (below_at' BW.out HX3.out) 3
      have q4 : d1.cell? ⟨R, 4, none⟩ = some (.int .u64 (uw1 a.m)) := Lib.cell_of_heap (below_at' BW.out HX3.out) 4
      have q5 : d1.cell? ⟨R, 5, none⟩ = some (.int .u64 (uw2 a.m)) := Lib.cell_of_heap (below_at' BW.out HX3.out) 5
      have q6 : d1.cell? ⟨R, 6, none⟩ = some (.int .u64 (uw3 a.m)) := Lib.cell_of_heap (below_at' BW.out HX3.out) 6
      go_wp2_with fail
      clear q1 q2 q3 q4 q5 q6
      refine (ppay_not (HN1.out.later BW.out) _ _ _ _ _ _).mono ?_
      rintro e d2 ⟨rfl, hb⟩
      have BWm := Lib.hid (BW.out.trans (hb.mono BW.out.size))
      clear hb BW
      have BW := BWm
      clear BWm
      have q2 : d2.cell? ⟨R, 2, none⟩ = some (.int .i64 a.t) := Lib.cell_of_heap (below_at' BW.out HX3.out) 2
      go_wp2_with fail
      clear q2
      refine (psub_any (f := pf0) (Look.of_not (HN1.out.later BW.out)) pf0_fit HGA.out.b_t).mono ?_
      rw [amtV_pf0]
      rintro e d3 ⟨ya, yb, yc, yd, hu, rfl, hb⟩
      have hzU := Lib.hid hu
      have e7 := Tryz.eqUn hu UIs.zero
      rw [decide_eq_true rfl] at e7
      clear hu
      have BWm := Lib.hid (BW.out.trans (hb.mono BW.out.size))
      clear hb BW
      have BW := BWm
      clear BWm
      have q2 : d3.cell? ⟨R, 2, none⟩ = some (.int .i64 a.t) := Lib.cell_of_heap (below_at' BW.out HX3.out) 2
      go_wp2_with fail
      clear q2
      clear e7 hzU
      refine (ppaid_any (f := pf0) (Look.of_not (HN1.out.later BW.out)) pf0_fit HGA.out.b_t).mono ?_
      rw [amtV_pf0]
      rintro e d4 ⟨ya, yb, yc, yd, hu, rfl, hb⟩
      have hzU := Lib.hid hu
      have e7 := Tryz.eqUn hu UIs.zero
      rw [decide_eq_true rfl] at e7
      clear hu
      have BWm := Lib.hid (BW.out.trans (hb.mono BW.out.size))
      clear hb BW
      have BW := BWm
      clear BWm
      have q2 : d4.cell? ⟨R, 2, none⟩ = some (.int .i64 a.t) := Lib.cell_of_heap (below_at' BW.out HX3.out) 2
      go_wp2_with fail
      clear q2
      clear e7 hzU
      refine (pleft_any (f := pf0) (Look.of_not (HN1.out.later BW.out)) pf0_fit HGA.out.b_t).mono ?_
      rw [amtV_pf0]
      rintro e d5 ⟨ya, yb, yc, yd, hu, rfl, hb⟩
      have hzU := Lib.hid hu
      have e7 := Tryz.eqUn hu UIs.zero
      rw [decide_eq_true rfl] at e7
      clear hu
      have BWm := Lib.hid (BW.out.trans (hb.mono BW.out.size))
      clear hb BW
      have BW := BWm
      clear BWm
      go_wp2_with fail
      clear e7 hzU
      go_roundw
      case rel => exact ⟨.inr (.inr rfl), BW⟩
      case measure => simp [intOf]
    · clear hi0 hi1
      go_wp2_with fail
      refine (lives31_any _).mono ?_
      rintro e w9 ⟨rfl, hb⟩
      have HBF := Lib.hid (HB3.out.trans ((BW.out.trans (hb.mono BW.out.size)).mono HB3.out.size))
      clear hb
      go_wp2_with fail
      go_ret
      exact ⟨rfl, HBF.out⟩
end Go.Proofs.YthnjakomkdlglaaGreat
