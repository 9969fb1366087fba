/- RootsNone: the walk. No condition. -/
import Derived.Test.YtohedljdkfmkdaaRootD
namespace Go.Proofs.Ytohedljdkfmkdaa
open Go.RowKit

theorem Try.zeroStore (w : World) : (zeroValue 60).run Try.prog w = .ok (.agg #[.bool false, .map none, .slice none 0 0, .slice none 0 0]) w := by kernel_rfl
theorem idxStore0 (p q : Value) (w : World) : (Instr.index 61 (.agg #[p, q]) (.int .i64 0)).run Try.prog w = .ok p w := by kernel_rfl
theorem idxStore1 (p q : Value) (w : World) : (Instr.index 61 (.agg #[p, q]) (.int .i64 1)).run Try.prog w = .ok q w := by kernel_rfl
theorem cntF_none : cntF (fun _ => none) = 0 := by
  unfold cntF getI
  rw [show valF (fun _ => none) kC = [] from rfl, rowF_nil]; rfl
theorem useN (i b : Int) : useE (fun _ => none) i b = 8 ∧ useH (fun _ => none) i b = z32 := use_none (by rw [rootF_none]; rfl)

set_option maxHeartbeats 8000000 in
set_option maxRecDepth 100000 in
theorem none32_any {w : World} (a : Act32) (ha : Good32 a) :
    Calls Try.prog 9 #[.agg (act32E a).toArray] w (Ret w (.bool true)) := by
  have HA := Lib.hid ha
  clear ha
  go_enter Try.func9, Try.ntmps9
  obtain ⟨w0, hw0⟩ : ∃ w0, w0 = w.alloc (.cells (act32E a).toArray 85) := ⟨_, rfl⟩
  have hz0 : w0.heap.size = w.heap.size + 1 := by rw [hw0, World.size_alloc]
  obtain ⟨R, hR⟩ : ∃ R, R = w.heap.size := ⟨_, rfl⟩
  have hx0 : w0.heap[R]? = some (.cells (act32E a).toArray 85 (0, 0)) := by rw [hw0, hR]; exact heap_alloc_new _ _
  have hb0 : Below w.heap.size w w0 := by rw [hw0]; exact below_new w _
  go_wp2_with fail
  rw [← hw0, ← hR]
  obtain ⟨w3, hw3⟩ : ∃ w3, w3 = w0.alloc (.cells #[.bool false, .map none, .slice none 0 0, .slice none 0 0] 60) := ⟨_, rfl⟩
  obtain ⟨gz, hgz⟩ : ∃ gz, gz = R + 1 := ⟨_, rfl⟩
  rw [← hw3, ← hgz]
  have hz3 : w3.heap[gz]? = some (.cells #[.bool false, .map none, .slice none 0 0, .slice none 0 0] 60 (0, 0)) := by rw [hw3, hgz, hR, ← hz0]; exact heap_alloc_new _ _
  have hb3 : Below w0.heap.size w0 w3 := by rw [hw3]; exact below_new w0 _
  have HB3 := Lib.hid (hb0.trans (hb3.mono hb0.size))
  have HX3 := Lib.hid (below_at' hb3 hx0)
  have HN0 : Hid (NotMade w3 none) := Lib.hid (.inl rfl)
  have HN1 : Hid (NotMade w3 (some ⟨gz, 0, none⟩)) := Lib.hid (.inr ⟨gz, _, _, rfl, hz3, rfl⟩)
  clear hw0 hz0 hR hx0 hb0 hw3 hgz hz3 hb3
  go_loopw [15] (fun vi wr => (vi = .int .i64 0 ∨ vi = .int .i64 1 ∨ vi = .int .i64 2) ∧ Hid (Below w3.heap.size w3 wr)) (fun vi _ => 2 - (intOf vi).toNat)
  case atStart => exact ⟨.inl rfl, Lib.hid (Below.refl _ _)⟩
  case round =>
    obtain ⟨hv, BW⟩ := hrel
    have hi0 := fun w => idxStore0 (.pointer none) (.pointer (some ⟨gz, 0, none⟩)) w
    have hi1 := fun w => idxStore1 (.pointer none) (.pointer (some ⟨gz, 0, none⟩)) w
    have HX := Lib.hid (below_at' BW.out HX3.out)
    have q2 : wr.cell? ⟨R, 2, none⟩ = some (.int .i64 a.b) := (Lib.cell_of_heap HX.out 2).trans (a32_2 a)
    have q3 : wr.cell? ⟨R, 3, none⟩ = some (.int .i64 a.wt) := (Lib.cell_of_heap HX.out 3).trans (a32_3 a)
    rcases hv with rfl | rfl | rfl
    · go_wp2_with (refine wpList_load_mid rfl 83 _ rfl R 4 rfl (a.h.map byteV) _ (a32_h HA.out.h HX.out) Try.underlying83 rfl (Try.sizeHshL HA.out.h) ?_)
      refine (post32_not (HN0.out.later BW.out) (x := a.h) a.b a.wt).mono ?_
      rintro e w4 ⟨rfl, hb⟩
      have BW4 := Lib.hid (BW.out.trans (hb.mono BW.out.size))
      clear hb q2 q3 HX BW
      have q1 : w4.cell? ⟨R, 1, none⟩ = some (.int .i64 a.i) := (Lib.cell_of_heap (below_at' BW4.out HX3.out) 1).trans (a32_1 a)
      have q2 : w4.cell? ⟨R, 2, none⟩ = some (.int .i64 a.b) := (Lib.cell_of_heap (below_at' BW4.out HX3.out) 2).trans (a32_2 a)
      go_wp2_with fail
      clear q1 q2
      refine (use32_any (Look.of_not (HN0.out.later BW4.out)) FitF.none a.b HA.out.i).mono ?_
      rw [(useN a.i a.b).1, (useN a.i a.b).2]
      rintro e w5 ⟨rfl, hb⟩
      have BW5 := Lib.hid (BW4.out.trans (hb.mono BW4.out.size))
      clear hb BW4
      go_wp2_with (refine wpList_alloc_g rfl _ rfl _ _ Try.zeroHsh rfl ?_)
      intro X w6 h4
      have HXM := Lib.hid h4.out.cells; have HBM := Lib.hid h4.out.below; have HXW : Hid (w5.heap.size ≤ X) := Lib.hid (Nat.le_of_eq h4.out.eq.symm)
      clear h4
      go_wp2_with (refine wpList_store_row_g (t := 83) (old := c8 z32) rfl 83 _ _ rfl X (c8 z32) rfl rfl HXM.out (Try.sizeHsh z32_len) rfl (c8_one _) ?_)
      intro w7 hx5 k45 z45
      have BW7 := Lib.hid (BW5.out.trans ((HBM.out.trans (k45.below (B := w5.heap.size) (fun y hy e => by have := HXW.out; omega) HBM.out.size)).mono BW5.out.size))
      clear hx5 k45 z45 HXM HBM HXW BW5
      have q1 : w7.cell? ⟨R, 1, none⟩ = some (.int .i64 a.i) := (Lib.cell_of_heap (below_at' BW7.out HX3.out) 1).trans (a32_1 a)
      have q2 : w7.cell? ⟨R, 2, none⟩ = some (.int .i64 a.b) := (Lib.cell_of_heap (below_at' BW7.out HX3.out) 2).trans (a32_2 a)
      go_wp2_with fail
      clear q1 q2
      refine (get32_any (Look.of_not (HN0.out.later BW7.out)) FitF.none HA.out.i).mono ?_
      rw [rootF_none]
      rintro e w8 ⟨rfl, hb⟩
      have BW8 := Lib.hid (BW7.out.trans (hb.mono BW7.out.size))
      clear hb BW7
      rw [show RV.none.h = z32 from rfl, show RV.none.at_ = 0 from rfl, show (RV.none.st == 1) = false from rfl, show RV.none.ok = false from rfl]
      go_wp2_with (refine wpList_alloc_g rfl _ rfl _ _ Try.zeroHsh rfl ?_)
      intro Y w9 h4
      have HXM := Lib.hid h4.out.cells; have HBM := Lib.hid h4.out.below; have HXW : Hid (w8.heap.size ≤ Y) := Lib.hid (Nat.le_of_eq h4.out.eq.symm)
      clear h4
      go_wp2_with (refine wpList_store_row_g (t := 83) (old := c8 z32) rfl 83 _ _ rfl Y (c8 z32) rfl rfl HXM.out (Try.sizeHsh z32_len) rfl (c8_one _) ?_)
      intro wa hx5 k45 z45
      have BWa := Lib.hid (BW8.out.trans ((HBM.out.trans (k45.below (B := w8.heap.size) (fun y hy e => by have := HXW.out; omega) HBM.out.size)).mono BW8.out.size))
      clear hx5 k45 z45 HXM HBM HXW BW8
      have q1 : wa.cell? ⟨R, 1, none⟩ = some (.int .i64 a.i) := (Lib.cell_of_heap (below_at' BWa.out HX3.out) 1).trans (a32_1 a)
      have q2 : wa.cell? ⟨R, 2, none⟩ = some (.int .i64 a.b) := (Lib.cell_of_heap (below_at' BWa.out HX3.out) 2).trans (a32_2 a)
      go_wp2_with fail
      clear q1 q2
      refine (dis32_not (HN0.out.later BWa.out) a.b HA.out.i).mono ?_
      rintro e wb ⟨rfl, hb⟩
      have BWb := Lib.hid (BWa.out.trans (hb.mono BWa.out.size))
      clear hb BWa
      go_wp2_with fail
      refine (cnt_any (Look.of_not (HN0.out.later BWb.out)) FitF.none).mono ?_
      rw [cntF_none]
      rintro e wc ⟨rfl, hb⟩
      have BWc := Lib.hid (BWb.out.trans (hb.mono BWb.out.size))
      clear hb BWb
      go_wp2_with fail
      go_roundw
      case rel => exact ⟨.inr (.inl rfl), BWc⟩
      case measure => simp [intOf]
    · go_wp2_with (refine wpList_load_mid rfl 83 _ rfl R 4 rfl (a.h.map byteV) _ (a32_h HA.out.h HX.out) Try.underlying83 rfl (Try.sizeHshL HA.out.h) ?_)
      refine (post32_not (HN1.out.later BW.out) (x := a.h) a.b a.wt).mono ?_
      rintro e w4 ⟨rfl, hb⟩
      have BW4 := Lib.hid (BW.out.trans (hb.mono BW.out.size))
      clear hb q2 q3 HX BW
      have q1 : w4.cell? ⟨R, 1, none⟩ = some (.int .i64 a.i) := (Lib.cell_of_heap (below_at' BW4.out HX3.out) 1).trans (a32_1 a)
      have q2 : w4.cell? ⟨R, 2, none⟩ = some (.int .i64 a.b) := (Lib.cell_of_heap (below_at' BW4.out HX3.out) 2).trans (a32_2 a)
      go_wp2_with fail
      clear q1 q2
      refine (use32_any (Look.of_not (HN1.out.later BW4.out)) FitF.none a.b HA.out.i).mono ?_
      rw [(useN a.i a.b).1, (useN a.i a.b).2]
      rintro e w5 ⟨rfl, hb⟩
      have BW5 := Lib.hid (BW4.out.trans (hb.mono BW4.out.size))
      clear hb BW4
      go_wp2_with (refine wpList_alloc_g rfl _ rfl _ _ Try.zeroHsh rfl ?_)
      intro X w6 h4
      have HXM := Lib.hid h4.out.cells; have HBM := Lib.hid h4.out.below; have HXW : Hid (w5.heap.size ≤ X) := Lib.hid (Nat.le_of_eq h4.out.eq.symm)
      clear h4
      go_wp2_with (refine wpList_store_row_g (t := 83) (old := c8 z32) rfl 83 _ _ rfl X (c8 z32) rfl rfl HXM.out (Try.sizeHsh z32_len) rfl (c8_one _) ?_)
      intro w7 hx5 k45 z45
      have BW7 := Lib.hid (BW5.out.trans ((HBM.out.trans (k45.below (B := w5.heap.size) (fun y hy e => by have := HXW.out; omega) HBM.out.size)).mono BW5.out.size))
      clear hx5 k45 z45 HXM HBM HXW BW5
      have q1 : w7.cell? ⟨R, 1, none⟩ = some (.int .i64 a.i) := (Lib.cell_of_heap (below_at' BW7.out HX3.out) 1).trans (a32_1 a)
      have q2 : w7.cell? ⟨R, 2, none⟩ = some (.int .i64 a.b) := (Lib.cell_of_heap (below_at' BW7.out HX3.out) 2).trans (a32_2 a)
      go_wp2_with fail
      clear q1 q2
      refine (get32_any (Look.of_not (HN1.out.later BW7.out)) FitF.none HA.out.i).mono ?_
      rw [rootF_none]
      rintro e w8 ⟨rfl, hb⟩
      have BW8 := Lib.hid (BW7.out.trans (hb.mono BW7.out.size))
      clear hb BW7
      rw [show RV.none.h = z32 from rfl, show RV.none.at_ = 0 from rfl, show (RV.none.st == 1) = false from rfl, show RV.none.ok = false from rfl]
      go_wp2_with (refine wpList_alloc_g rfl _ rfl _ _ Try.zeroHsh rfl ?_)
      intro Y w9 h4
      have HXM := Lib.hid h4.out.cells; have HBM := Lib.hid h4.out.below; have HXW : Hid (w8.heap.size ≤ Y) := Lib.hid (Nat.le_of_eq h4.out.eq.symm)
      clear h4
      go_wp2_with (refine wpList_store_row_g (t := 83) (old := c8 z32) rfl 83 _ _ rfl Y (c8 z32) rfl rfl HXM.out (Try.sizeHsh z32_len) rfl (c8_one _) ?_)
      intro wa hx5 k45 z45
      have BWa := Lib.hid (BW8.out.trans ((HBM.out.trans (k45.below (B := w8.heap.size) (fun y hy e => by have := HXW.out; omega) HBM.out.size)).mono BW8.out.size))
      clear hx5 k45 z45 HXM HBM HXW BW8
      have q1 : wa.cell? ⟨R, 1, none⟩ = some (.int .i64 a.i) := (Lib.cell_of_heap (below_at' BWa.out HX3.out) 1).trans (a32_1 a)
      have q2 : wa.cell? ⟨R, 2, none⟩ = some (.int .i64 a.b) := (Lib.cell_of_heap (below_at' BWa.out HX3.out) 2).trans (a32_2 a)
      go_wp2_with fail
      clear q1 q2
      refine (dis32_not (HN1.out.later BWa.out) a.b HA.out.i).mono ?_
      rintro e wb ⟨rfl, hb⟩
      have BWb := Lib.hid (BWa.out.trans (hb.mono BWa.out.size))
      clear hb BWa
      go_wp2_with fail
      refine (cnt_any (Look.of_not (HN1.out.later BWb.out)) FitF.none).mono ?_
      rw [cntF_none]
      rintro e wc ⟨rfl, hb⟩
      have BWc := Lib.hid (BWb.out.trans (hb.mono BWb.out.size))
      clear hb BWb
      go_wp2_with fail
      go_roundw
      case rel => exact ⟨.inr (.inr rfl), BWc⟩
      case measure => simp [intOf]
    · clear q2 q3
      go_wp2_with fail
      refine (lives32_any _).mono ?_
      rintro e w9 ⟨rfl, hb9⟩
      have hb39 := BW.out.trans (hb9.mono BW.out.size)
      have HBF := Lib.hid (HB3.out.trans (hb39.mono HB3.out.size))
      clear hb9 hb39
      go_wp2_with fail
      go_ret
      exact ⟨rfl, HBF.out⟩
end Go.Proofs.Ytohedljdkfmkdaa
