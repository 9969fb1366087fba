/- DelayNone: the walk. No condition. -/
import Derived.Test.YtohedljdkfmkdaaDelG
namespace Go.Proofs.Ytohedljdkfmkdaa
open Go.RowKit

theorem Try.zeroStore (w : World) : (zeroValue 60).run Try.prog w = .ok (.agg #[.bool false, .map none, .slice none 0 0, .slice none 0 0]) w := by kernel_rfl
theorem idxStore0 (p q : Value) (w : World) : (Instr.index 61 (.agg #[p, q]) (.int .i64 0)).run Try.prog w = .ok p w := by kernel_rfl
theorem idxStore1 (p q : Value) (w : World) : (Instr.index 61 (.agg #[p, q]) (.int .i64 1)).run Try.prog w = .ok q w := by kernel_rfl
theorem getD_none (t : Int) (ids : List Int) : getD (fun _ => none) t ids = DV.zero := by
  unfold getD
  rw [show valF (fun _ => none) (keyF t ids) = [] from rfl, rowF_nil]; rfl

set_option maxHeartbeats 8000000 in
set_option maxRecDepth 100000 in
theorem none28_any {w : World} (a : Act28) (hga : Good28 w a) :
    Calls Try.prog 5 #[.agg #[.slice a.ad a.ids.length a.cap, .int .i64 a.v, .int .i64 a.b, .int .i64 a.wt]] w (Ret w (.bool true)) := by
  have HGA := Lib.hid hga
  clear hga
  go_enter Try.func5, Try.ntmps5
  go_wp2_with fail
  obtain ⟨w0, hw0⟩ : ∃ w0, w0 = w.alloc (.cells #[.slice a.ad a.ids.length a.cap, .int .i64 a.v, .int .i64 a.b, .int .i64 a.wt] 45) := ⟨_, rfl⟩
  obtain ⟨R, hR⟩ : ∃ R, R = w.heap.size := ⟨_, rfl⟩
  rw [← hw0, ← hR]
  have hx0 : w0.heap[R]? = some (.cells #[.slice a.ad a.ids.length a.cap, .int .i64 a.v, .int .i64 a.b, .int .i64 a.wt] 45 (0, 0)) := by rw [hw0, hR]; exact heap_alloc_new _ _
  have hb0 : Below w.heap.size w w0 := by rw [hw0]; exact (Below.refl _ _).alloc (Nat.le_refl _) _
  have HX0 := Lib.hid hx0; have HB0 := Lib.hid hb0
  have hla := litA w0 a
  rw [show w0.heap.size = R + 1 by rw [hw0, hR, World.size_alloc]] at hla
  clear hw0 hR hx0 hb0
  refine (light28_any hla).mono ?_
  rintro e w2 ⟨r, rfl, hr, hb⟩
  have HB2 := Lib.hid ((below_new w0 (.cells #[.slice a.ad a.ids.length a.cap, .int .i64 a.v, .int .i64 a.b, .int .i64 a.wt] 45)).trans (hb.mono (below_new w0 _).size))
  have HBW := Lib.hid (HB0.out.trans (HB2.out.mono HB0.out.size))
  clear hb hla
  cases r with
  | false =>
    clear hr
    go_wp2_with fail
    refine (lives28_any _).mono ?_
    rintro e w2 ⟨rfl, hb2⟩
    have HBL := Lib.hid (HBW.out.trans (hb2.mono HBW.out.size))
    clear hb2
    go_wp2_with fail
    go_ret
    exact ⟨rfl, HBL.out⟩
  | true =>
  have hsh := (hr rfl).2 a (by simp)
  have HSH := Lib.hid hsh
  clear hr hsh
  go_wp2_with fail
  obtain ⟨w3, hw3⟩ : ∃ w3, w3 = w2.alloc (.cells #[.bool false, .map none, .slice none 0 0, .slice none 0 0] 60) := ⟨_, rfl⟩
  obtain ⟨gz, hgz⟩ : ∃ gz, gz = w2.heap.size := ⟨_, rfl⟩
  rw [← hw3, ← hgz]
  have hz3 : w3.heap[gz]? = some (.cells #[.bool false, .map none, .slice none 0 0, .slice none 0 0] 60 (0, 0)) := by rw [hw3, hgz]; exact heap_alloc_new _ _
  have hb3 : Below w2.heap.size w2 w3 := by rw [hw3]; exact below_new w2 _
  have HB3 := Lib.hid (HB2.out.trans (hb3.mono HB2.out.size))
  have HX3 := Lib.hid (below_at' HB3.out HX0.out)
  have HN0 : Hid (NotMade w3 none) := Lib.hid (.inl rfl)
  have HN1 : Hid (NotMade w3 (some ⟨gz, 0, none⟩)) := Lib.hid (.inr ⟨gz, _, _, rfl, hz3, rfl⟩)
  have HGA3 := Lib.hid (HGA.out.later (HB0.out.trans (HB3.out.mono HB0.out.size)))
  clear hw3 hgz hz3 hb3 HB2 HBW HX0
  go_loopw [12] (fun vi wr => (vi = .int .i64 0 ∨ vi = .int .i64 1 ∨ vi = .int .i64 2) ∧ Hid (Below w3.heap.size w3 wr)) (fun vi _ => 2 - (intOf vi).toNat)
  case atStart => exact ⟨.inl rfl, Lib.hid (Below.refl _ _)⟩
  case round =>
    obtain ⟨hv, BW⟩ := hrel
    have hi0 := fun w => idxStore0 (.pointer none) (.pointer (some ⟨gz, 0, none⟩)) w
    have hi1 := fun w => idxStore1 (.pointer none) (.pointer (some ⟨gz, 0, none⟩)) w
    have hx := below_at' BW.out HX3.out
    have q0 : wr.cell? ⟨R, 0, none⟩ = some (.slice a.ad a.ids.length a.cap) := Lib.cell_of_heap hx 0
    have q1 : wr.cell? ⟨R, 1, none⟩ = some (.int .i64 a.v) := Lib.cell_of_heap hx 1
    have q2 : wr.cell? ⟨R, 2, none⟩ = some (.int .i64 a.b) := Lib.cell_of_heap hx 2
    have q3 : wr.cell? ⟨R, 3, none⟩ = some (.int .i64 a.wt) := Lib.cell_of_heap hx 3
    clear hx
    rcases hv with rfl | rfl | rfl
    · go_wp2_with fail
      refine (dset_not (HN0.out.later BW.out) 25 (ids := a.ids) (by have := HSH.out; omega) HGA3.out.i64 (HGA3.out.rd.later BW.out) a.v a.b a.wt).mono ?_
      rintro e w4 ⟨rfl, hb⟩
      have BW4 := Lib.hid (BW.out.trans (hb.mono BW.out.size))
      have hx := below_at' BW4.out HX3.out
      have r0 : w4.cell? ⟨R, 0, none⟩ = some (.slice a.ad a.ids.length a.cap) := Lib.cell_of_heap hx 0
      clear hb hx q0 q1 q2 q3 BW
      go_wp2_with fail
      refine (dget_any (Look.of_not (HN0.out.later BW4.out)) FitF.none 25 (ids := a.ids) (by have := HSH.out; omega) HGA3.out.i64 (HGA3.out.rd.later BW4.out)).mono ?_
      rw [getD_none, show dvC DV.zero = #[.bool false, .int .i64 0, .int .i64 0, .int .i64 0, .bool false] from rfl]
      rintro e w5 ⟨rfl, hb⟩
      have BW5 := Lib.hid (BW4.out.trans (hb.mono BW4.out.size))
      clear hb r0 BW4
      go_wp2_with fail
      go_roundw
      case rel => exact ⟨.inr (.inl rfl), BW5⟩
      case measure => simp [intOf]
    · go_wp2_with fail
      refine (dset_not (HN1.out.later BW.out) 25 (ids := a.ids) (by have := HSH.out; omega) HGA3.out.i64 (HGA3.out.rd.later BW.out) a.v a.b a.wt).mono ?_
      rintro e w4 ⟨rfl, hb⟩
      have BW4 := Lib.hid (BW.out.trans (hb.mono BW.out.size))
      have hx := below_at' BW4.out HX3.out
      have r0 : w4.cell? ⟨R, 0, none⟩ = some (.slice a.ad a.ids.length a.cap) := Lib.cell_of_heap hx 0
      clear hb hx q0 q1 q2 q3 BW
      go_wp2_with fail
      refine (dget_any (Look.of_not (HN1.out.later BW4.out)) FitF.none 25 (ids := a.ids) (by have := HSH.out; omega) HGA3.out.i64 (HGA3.out.rd.later BW4.out)).mono ?_
      rw [getD_none, show dvC DV.zero = #[.bool false, .int .i64 0, .int .i64 0, .int .i64 0, .bool false] from rfl]
      rintro e w5 ⟨rfl, hb⟩
      have BW5 := Lib.hid (BW4.out.trans (hb.mono BW4.out.size))
      clear hb r0 BW4
      go_wp2_with fail
      go_roundw
      case rel => exact ⟨.inr (.inr rfl), BW5⟩
      case measure => simp [intOf]
    · clear q0 q1 q2 q3
      go_wp2_with fail
      refine (lives28_any _).mono ?_
      rintro e w9 ⟨rfl, hb9⟩
      have hb39 := BW.out.trans (hb9.mono BW.out.size)
      have HBF := Lib.hid (HB0.out.trans ((HB3.out.trans (hb39.mono HB3.out.size)).mono HB0.out.size))
      clear hb9 hb39
      go_wp2_with fail
      go_ret
      exact ⟨rfl, HBF.out⟩
end Go.Proofs.Ytohedljdkfmkdaa
