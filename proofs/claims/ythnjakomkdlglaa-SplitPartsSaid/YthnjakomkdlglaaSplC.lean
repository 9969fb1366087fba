/- The reference's part of an amount (code); law 34: SplitParts. No condition. -/
import Derived.Test.YthnjakomkdlglaaSplB
import Derived.Test.YthnjakomkdlglaaTimJ
import Derived.Deep.Cut
namespace Go.Proofs.Ythnjakomkdlglaa
open Go.RowKit

set_option maxHeartbeats 4000000 in
theorem rnum_any {n : Nat} (hn : n ≤ 10000) (w : World) : Calls Try.prog 34 #[.int .i64 (n : Int)] w (Ret w (.agg #[.int .u64 (n : Int), .int .u64 0, .int .u64 0, .int .u64 0])) := by
  have hw : IntKind.u64.wrap (n : Int) = (n : Int) := by rw [IntKind.wrap_u64]; omega
  have HB : Hid (Below w.heap.size w w) := Lib.hid (Below.refl _ _)
  have hnn : ¬ (n : Int) < 0 := by omega
  go_enter Try.func34, Try.ntmps34
  go_wp2_with (refine wpList_alloc_g rfl _ rfl _ _ Try.zeroUz rfl ?_)
  intro R a1 hR
  have WR : Hid (w.heap.size ≤ R) := Lib.hid (by rw [hR.out.eq]; exact (HB.out).size)
  have HRz := Lib.hid hR.out.cells; have hbR := hR.out.below
  clear hR
  have HBm := Lib.hid (HB.out.trans (hbR.mono HB.out.size))
  clear hbR HB
  have HB := HBm
  clear HBm
  have HR := HRz
  clear HRz
  go_wp2_with (refine wpList_store_row_g (t := 24) (old := u0) rfl 24 _ _ rfl R #[.int .u64 (n : Int), .int .u64 0, .int .u64 0, .int .u64 0] rfl rfl HR.out Try.sizeU rfl (one_u64 _ _ _ _) ?_)
  intro a2 hxR kR zR
  clear zR
  have HBm := Lib.hid (HB.out.trans (kR.below (B := w.heap.size) (fun y hy e => by have := WR.out; omega) HB.out.size))
  have HRm := Lib.hid hxR
  clear hxR kR HB HR
  have HB := HBm
  have HR := HRm
  clear HBm HRm
  go_wp2_with fail
  exact bodyPost_ret (results_cell_row rfl _ _ _ _ _ _ _ rfl HR.out Try.underlying24 rfl Try.sizeU) rfl ⟨rfl, HB.out⟩

theorem dg8 {n : Nat} (h : n < uMax) : (digs n).length ≤ 8 := digs_len_le (by rw [pow8]; exact h)
theorem four_boxes (w : World) (c0 c1 c2 : Array Value) (T : TypeId) (w1 : World) (hw : w1 = ((w.alloc (.cells c0 T)).alloc (.cells c1 T)).alloc (.cells c2 T)) :
    w1.heap[w.heap.size]? = some (.cells c0 T (0, 0)) ∧ w1.heap[w.heap.size + 1]? = some (.cells c1 T (0, 0)) ∧ w1.heap[w.heap.size + 1 + 1]? = some (.cells c2 T (0, 0)) ∧ Below w.heap.size w w1 := by
  obtain ⟨wa, ha⟩ : ∃ x, x = w.alloc (.cells c0 T) := ⟨_, rfl⟩
  obtain ⟨wb, hb⟩ : ∃ x, x = wa.alloc (.cells c1 T) := ⟨_, rfl⟩
  rw [← ha, ← hb] at hw
  have sa : wa.heap.size = w.heap.size + 1 := by rw [ha, World.size_alloc]
  have sb : wb.heap.size = w.heap.size + 1 + 1 := by rw [hb, World.size_alloc, sa]
  have ba : Below w.heap.size w wa := by rw [ha]; exact below_new _ _
  have bb : Below wa.heap.size wa wb := by rw [hb]; exact below_new _ _
  have bc : Below wb.heap.size wb w1 := by rw [hw]; exact below_new _ _
  have ea : wa.heap[w.heap.size]? = some (.cells c0 T (0, 0)) := by rw [ha]; exact heap_alloc_new _ _
  have eb : wb.heap[w.heap.size + 1]? = some (.cells c1 T (0, 0)) := by rw [hb, ← sa]; exact heap_alloc_new _ _
  have ec : w1.heap[w.heap.size + 1 + 1]? = some (.cells c2 T (0, 0)) := by rw [hw, ← sb]; exact heap_alloc_new _ _
  exact ⟨below_at' bc (below_at' bb ea), below_at' bc eb, ec, (ba.trans (bb.mono (by omega))).trans (bc.mono (by omega))⟩

set_option maxHeartbeats 16000000 in
set_option maxRecDepth 100000 in
theorem rdown_any {a b c f a' b' c' f' p0 p1 p2 p3 : Int} {n m d : Nat} (h : UIs a b c f n) (h' : UIs a' b' c' f' m) (h2 : UIs p0 p1 p2 p3 d) (hd0 : 0 < d) (w : World) :
    Calls Try.prog 33 #[.agg #[.int .u64 a, .int .u64 b, .int .u64 c, .int .u64 f], .agg #[.int .u64 a', .int .u64 b', .int .u64 c', .int .u64 f'], .agg #[.int .u64 p0, .int .u64 p1, .int .u64 p2, .int .u64 p3]] w (UOk w (n * m / d) (decide (n * m / d < uMax))) := by
  have HU := Lib.hid h; have HU2 := Lib.hid h'; have HU3 := Lib.hid h2; have HD0 := Lib.hid hd0
  obtain ⟨qv, hqv⟩ : ∃ v, v = n * m / d := ⟨_, rfl⟩
  have HQV := Lib.hid hqv
  rw [← hqv]
  clear h h' h2 hd0 hqv
  go_enter Try.func33, Try.ntmps33
  go_wp2_with (refine wpList_alloc_g rfl _ rfl _ _ Try.zeroUz rfl ?_)
  obtain ⟨w1, hw1⟩ : ∃ w1, w1 = ((w.alloc (.cells #[.int .u64 a, .int .u64 b, .int .u64 c, .int .u64 f] 24)).alloc (.cells #[.int .u64 a', .int .u64 b', .int .u64 c', .int .u64 f'] 24)).alloc (.cells #[.int .u64 p0, .int .u64 p1, .int .u64 p2, .int .u64 p3] 24) := ⟨_, rfl⟩
  obtain ⟨X, hX⟩ : ∃ X, X = w.heap.size := ⟨_, rfl⟩
  obtain ⟨Y, hY⟩ : ∃ Y, Y = w.heap.size + 1 := ⟨_, rfl⟩
  obtain ⟨Z, hZ⟩ : ∃ Y, Y = w.heap.size + 1 + 1 := ⟨_, rfl⟩
  rw [← hw1, ← hZ, ← hY, ← hX]
  have hbx := four_boxes w _ _ _ _ w1 hw1
  rw [← hZ, ← hY, ← hX] at hbx
  have HX := Lib.hid hbx.1; have HY := Lib.hid hbx.2.1; have HZ := Lib.hid hbx.2.2.1
  have HB : Hid (Below w.heap.size w w1) := Lib.hid (by rw [← hX]; exact hbx.2.2.2)
  clear hbx hw1 hX hY hZ
  intro R w2 hR
  have WR : Hid (w.heap.size ≤ R) := Lib.hid (by rw [hR.out.eq]; exact HB.out.size)
  have NXR : Hid (X ≠ R) := Lib.hid (by have := hR.out.eq; have := heap_lt HX.out; omega)
  have NYR : Hid (Y ≠ R) := Lib.hid (by have := hR.out.eq; have := heap_lt HY.out; omega)
  have NZR : Hid (Z ≠ R) := Lib.hid (by have := hR.out.eq; have := heap_lt HZ.out; omega)
  have HRz := Lib.hid hR.out.cells; have hbR := hR.out.below
  clear hR
  have HBm := Lib.hid (HB.out.trans (hbR.mono HB.out.size))
  have HXm := Lib.hid (below_at' hbR HX.out)
  have HYm := Lib.hid (below_at' hbR HY.out)
  have HZm := Lib.hid (below_at' hbR HZ.out)
  clear hbR HB HX HY HZ
  have HB := HBm
  have HX := HXm
  have HY := HYm
  have HZ := HZm
  clear HBm HXm HYm HZm
  have HR := HRz
  clear HRz
  have e9 := Try.eqUn HU3.out UIs.zero
  rw [decide_eq_false (by have := HD0.out; omega)] at e9
  have c0 : w2.cell? ⟨Z, 0, none⟩ = some (.int .u64 p0) := Lib.cell_of_heap HZ.out 0
  have c1 : w2.cell? ⟨Z, 1, none⟩ = some (.int .u64 p1) := Lib.cell_of_heap HZ.out 1
  have c2 : w2.cell? ⟨Z, 2, none⟩ = some (.int .u64 p2) := Lib.cell_of_heap HZ.out 2
  have c3 : w2.cell? ⟨Z, 3, none⟩ = some (.int .u64 p3) := Lib.cell_of_heap HZ.out 3
  go_wp2_with fail
  clear e9 c0 c1 c2 c3
  have HLT : Hid ((digs (n * m)).length ≤ 100000) := Lib.hid (by
    have h1 := HU.out.lt; have h2 := HU2.out.lt
    have h3 : n * m < 4294967296 ^ 16 := by
      rw [show (4294967296 : Nat) ^ 16 = uMax * uMax by decide]
      exact Nat.lt_of_le_of_lt (Nat.mul_le_mul_right m (Nat.le_of_lt h1)) (Nat.mul_lt_mul_of_pos_left h2 (by decide))
    exact Nat.le_trans (digs_len_le h3) (by decide))
  obtain ⟨a1, hwz⟩ : ∃ wz, wz = w2.drew := ⟨_, rfl⟩
  have hbz : Below w2.heap.size w2 a1 := by rw [hwz]; exact (Below.refl _ _).drew
  have HBm := Lib.hid (HB.out.trans (hbz.mono HB.out.size))
  have HXm := Lib.hid (below_at' hbz HX.out)
  have HYm := Lib.hid (below_at' hbz HY.out)
  have HZm := Lib.hid (below_at' hbz HZ.out)
  have HRm := Lib.hid (below_at' hbz HR.out)
  clear hbz HB HX HY HZ HR
  have HB := HBm
  have HX := HXm
  have HY := HYm
  have HZ := HZm
  have HR := HRm
  clear HBm HXm HYm HZm HRm
  have hS : a1.heap[X]? = some (.cells #[.int .u64 a, .int .u64 b, .int .u64 c, .int .u64 f] 24 (0, 0)) ∧ a1.heap[Y]? = some (.cells #[.int .u64 a', .int .u64 b', .int .u64 c', .int .u64 f'] 24 (0, 0)) ∧ a1.heap[Z]? = some (.cells #[.int .u64 p0, .int .u64 p1, .int .u64 p2, .int .u64 p3] 24 (0, 0)) := ⟨HX.out, HY.out, HZ.out⟩
  refine wp_region_till (fun w' => w'.heap[X]? = some (.cells #[.int .u64 a, .int .u64 b, .int .u64 c, .int .u64 f] 24 (0, 0)) ∧ w'.heap[Y]? = some (.cells #[.int .u64 a', .int .u64 b', .int .u64 c', .int .u64 f'] 24 (0, 0)) ∧ w'.heap[Z]? = some (.cells #[.int .u64 p0, .int .u64 p1, .int .u64 p2, .int .u64 p3] 24 (0, 0))) 13 13 (by kernel_rfl) rfl ?_
  rw [← hwz]
  clear hwz
  refine till_take 0 (some 15) rfl rfl (by kernel_rfl) (by kernel_rfl) (by kernel_rfl) (by kernel_rfl) (by kernel_rfl) (by kernel_rfl) (fun _ _ _ h => h) (yields_load (by rfl) 24 _ rfl (.pointer (some ⟨X, 0, none⟩)) rfl (.agg #[.int .u64 a, .int .u64 b, .int .u64 c, .int .u64 f]) (fun w' hS' => load_heap (hS'.1) Try.underlying24 rfl Try.sizeU)) hS ?_
  go_frame
  refine till_take 2 (some 17) rfl rfl (by kernel_rfl) (by kernel_rfl) (by kernel_rfl) (by kernel_rfl) (by kernel_rfl) (by kernel_rfl) (fun _ _ _ h => h) (yields_load (by rfl) 24 _ rfl (.pointer (some ⟨Y, 0, none⟩)) rfl (.agg #[.int .u64 a', .int .u64 b', .int .u64 c', .int .u64 f']) (fun w' hS' => load_heap (hS'.2.1) Try.underlying24 rfl Try.sizeU)) hS ?_
  go_frame
  refine till_take 5 (some 20) rfl rfl (by kernel_rfl) (by kernel_rfl) (by kernel_rfl) (by kernel_rfl) (by kernel_rfl) (by kernel_rfl) (fun _ _ _ h => h) (yields_load (by rfl) 24 _ rfl (.pointer (some ⟨Z, 0, none⟩)) rfl (.agg #[.int .u64 p0, .int .u64 p1, .int .u64 p2, .int .u64 p3]) (fun w' hS' => load_heap (hS'.2.2) Try.underlying24 rfl Try.sizeU)) hS ?_
  go_frame
  refine till_one 1 rfl (by kernel_rfl) fun K hK => ?_
  simp only [List.getElem_toArray, List.getElem_cons_succ, List.getElem_cons_zero]
  rw [if_pos (by rfl)]
  go_simp
  refine (of_any HU.out _).mono ?_
  rintro e a2 ⟨v1, rfl, r, hb⟩
  have V1 := Lib.hid r
  clear r
  have HBm := Lib.hid (HB.out.trans (hb.mono HB.out.size))
  have HXm := Lib.hid (below_at' hb HX.out)
  have HYm := Lib.hid (below_at' hb HY.out)
  have HZm := Lib.hid (below_at' hb HZ.out)
  have HRm := Lib.hid (below_at' hb HR.out)
  clear hb HB HX HY HZ HR
  have HB := HBm
  have HX := HXm
  have HY := HYm
  have HZ := HZm
  have HR := HRm
  clear HBm HXm HYm HZm HRm
  have hS2 : a2.heap[X]? = some (.cells #[.int .u64 a, .int .u64 b, .int .u64 c, .int .u64 f] 24 (0, 0)) ∧ a2.heap[Y]? = some (.cells #[.int .u64 a', .int .u64 b', .int .u64 c', .int .u64 f'] 24 (0, 0)) ∧ a2.heap[Z]? = some (.cells #[.int .u64 p0, .int .u64 p1, .int .u64 p2, .int .u64 p3] 24 (0, 0)) := ⟨HX.out, HY.out, HZ.out⟩
  refine hK _ _ (fun _ _ => hS2) ?_
  clear hK hS
  have hS := hS2
  clear hS2
  refine till_one 3 rfl (by kernel_rfl) fun K hK => ?_
  simp only [List.getElem_toArray, List.getElem_cons_succ, List.getElem_cons_zero]
  rw [if_pos (by rfl)]
  go_simp
  refine (of_any HU2.out _).mono ?_
  rintro e a3 ⟨v2, rfl, r, hb⟩
  have V2 := Lib.hid r
  clear r
  have HBm := Lib.hid (HB.out.trans (hb.mono HB.out.size))
  have HXm := Lib.hid (below_at' hb HX.out)
  have HYm := Lib.hid (below_at' hb HY.out)
  have HZm := Lib.hid (below_at' hb HZ.out)
  have HRm := Lib.hid (below_at' hb HR.out)
  have V1m := Lib.hid (V1.out.later hb)
  clear hb HB HX HY HZ HR V1
  have HB := HBm
  have HX := HXm
  have HY := HYm
  have HZ := HZm
  have HR := HRm
  have V1 := V1m
  clear HBm HXm HYm HZm HRm V1m
  have hS2 : a3.heap[X]? = some (.cells #[.int .u64 a, .int .u64 b, .int .u64 c, .int .u64 f] 24 (0, 0)) ∧ a3.heap[Y]? = some (.cells #[.int .u64 a', .int .u64 b', .int .u64 c', .int .u64 f'] 24 (0, 0)) ∧ a3.heap[Z]? = some (.cells #[.int .u64 p0, .int .u64 p1, .int .u64 p2, .int .u64 p3] 24 (0, 0)) := ⟨HX.out, HY.out, HZ.out⟩
  refine hK _ _ (fun _ _ => hS2) ?_
  clear hK hS
  have hS := hS2
  clear hS2
  refine till_one 4 rfl (by kernel_rfl) fun K hK => ?_
  simp only [List.getElem_toArray, List.getElem_cons_succ, List.getElem_cons_zero]
  rw [if_pos (by rfl)]
  go_simp
  refine (times_any V1.out V2.out (digs_d32 _) (digs_d32 _) (by have := dg8 HU.out.lt; omega) (by have := dg8 HU2.out.lt; omega) (dv_digs _) (dv_digs _)).mono ?_
  rintro e a4 ⟨v4, rfl, r, hb⟩
  have V4 := Lib.hid r
  clear r
  have HBm := Lib.hid (HB.out.trans (hb.mono HB.out.size))
  have HXm := Lib.hid (below_at' hb HX.out)
  have HYm := Lib.hid (below_at' hb HY.out)
  have HZm := Lib.hid (below_at' hb HZ.out)
  have HRm := Lib.hid (below_at' hb HR.out)
  have V1m := Lib.hid (V1.out.later hb)
  have V2m := Lib.hid (V2.out.later hb)
  clear hb HB HX HY HZ HR V1 V2
  have HB := HBm
  have HX := HXm
  have HY := HYm
  have HZ := HZm
  have HR := HRm
  have V1 := V1m
  have V2 := V2m
  clear HBm HXm HYm HZm HRm V1m V2m
  clear V1 V2
  have hS2 : a4.heap[X]? = some (.cells #[.int .u64 a, .int .u64 b, .int .u64 c, .int .u64 f] 24 (0, 0)) ∧ a4.heap[Y]? = some (.cells #[.int .u64 a', .int .u64 b', .int .u64 c', .int .u64 f'] 24 (0, 0)) ∧ a4.heap[Z]? = some (.cells #[.int .u64 p0, .int .u64 p1, .int .u64 p2, .int .u64 p3] 24 (0, 0)) := ⟨HX.out, HY.out, HZ.out⟩
  refine hK _ _ (fun _ _ => hS2) ?_
  clear hK hS
  have hS := hS2
  clear hS2
  refine till_one 6 rfl (by kernel_rfl) fun K hK => ?_
  simp only [List.getElem_toArray, List.getElem_cons_succ, List.getElem_cons_zero]
  rw [if_pos (by rfl)]
  go_simp
  refine (of_any HU3.out _).mono ?_
  rintro e a5 ⟨v3, rfl, r, hb⟩
  have V3 := Lib.hid r
  clear r
  have HBm := Lib.hid (HB.out.trans (hb.mono HB.out.size))
  have HXm := Lib.hid (below_at' hb HX.out)
  have HYm := Lib.hid (below_at' hb HY.out)
  have HZm := Lib.hid (below_at' hb HZ.out)
  have HRm := Lib.hid (below_at' hb HR.out)
  have V4m := Lib.hid (V4.out.later hb)
  clear hb HB HX HY HZ HR V4
  have HB := HBm
  have HX := HXm
  have HY := HYm
  have HZ := HZm
  have HR := HRm
  have V4 := V4m
  clear HBm HXm HYm HZm HRm V4m
  have hS2 : a5.heap[X]? = some (.cells #[.int .u64 a, .int .u64 b, .int .u64 c, .int .u64 f] 24 (0, 0)) ∧ a5.heap[Y]? = some (.cells #[.int .u64 a', .int .u64 b', .int .u64 c', .int .u64 f'] 24 (0, 0)) ∧ a5.heap[Z]? = some (.cells #[.int .u64 p0, .int .u64 p1, .int .u64 p2, .int .u64 p3] 24 (0, 0)) := ⟨HX.out, HY.out, HZ.out⟩
  refine hK _ _ (fun _ _ => hS2) ?_
  clear hK hS
  have hS := hS2
  clear hS2
  refine till_one 7 rfl (by kernel_rfl) fun K hK => ?_
  simp only [List.getElem_toArray, List.getElem_cons_succ, List.getElem_cons_zero]
  rw [if_pos (by rfl)]
  go_simp
  refine (quorem_any (n := n * m) (m := d) V4.out V3.out (digs_d32 _) (digs_d32 _) HLT.out (by have := dg8 HU3.out.lt; omega) (dv_digs _) (dv_digs _) HD0.out).mono ?_
  rw [← HQV.out]
  rintro e a6 ⟨v5, v6, rfl, r, _, hb⟩
  have V5 := Lib.hid r
  clear r
  have HBm := Lib.hid (HB.out.trans (hb.mono HB.out.size))
  have HXm := Lib.hid (below_at' hb HX.out)
  have HYm := Lib.hid (below_at' hb HY.out)
  have HZm := Lib.hid (below_at' hb HZ.out)
  have HRm := Lib.hid (below_at' hb HR.out)
  have V4m := Lib.hid (V4.out.later hb)
  have V3m := Lib.hid (V3.out.later hb)
  clear hb HB HX HY HZ HR V4 V3
  have HB := HBm
  have HX := HXm
  have HY := HYm
  have HZ := HZm
  have HR := HRm
  have V4 := V4m
  have V3 := V3m
  clear HBm HXm HYm HZm HRm V4m V3m
  clear V4 V3
  have hS2 : a6.heap[X]? = some (.cells #[.int .u64 a, .int .u64 b, .int .u64 c, .int .u64 f] 24 (0, 0)) ∧ a6.heap[Y]? = some (.cells #[.int .u64 a', .int .u64 b', .int .u64 c', .int .u64 f'] 24 (0, 0)) ∧ a6.heap[Z]? = some (.cells #[.int .u64 p0, .int .u64 p1, .int .u64 p2, .int .u64 p3] 24 (0, 0)) := ⟨HX.out, HY.out, HZ.out⟩
  refine hK _ _ (fun _ _ => hS2) ?_
  clear hK hS
  have hS := hS2
  clear hS2
  refine till_take 8 (some 14) rfl rfl (by kernel_rfl) (by kernel_rfl) (by kernel_rfl) (by kernel_rfl) (by kernel_rfl) (by kernel_rfl) (fun _ _ _ h => h) (.inl ⟨by rfl, fun w' _ => (by go_simp; rfl)⟩) hS ?_
  go_frame
  refine till_take 9 (some 23) rfl rfl (by kernel_rfl) (by kernel_rfl) (by kernel_rfl) (by kernel_rfl) (by kernel_rfl) (by kernel_rfl) (fun _ _ _ h => h) (.inl ⟨by rfl, fun w' _ => (by go_simp; rfl)⟩) hS ?_
  go_frame
  refine till_take 10 (some 24) rfl rfl (by kernel_rfl) (by kernel_rfl) (by kernel_rfl) (by kernel_rfl) (by kernel_rfl) (by kernel_rfl) (fun _ _ _ h => h) (.inl ⟨by rfl, fun w' _ => (by go_simp; rfl)⟩) hS ?_
  go_frame
  refine till_take 11 (some 8) rfl rfl (by kernel_rfl) (by kernel_rfl) (by kernel_rfl) (by kernel_rfl) (by kernel_rfl) (by kernel_rfl) (fun _ _ _ h => h) (.inl ⟨by rfl, fun w' _ => (by go_simp; rfl)⟩) hS ?_
  go_frame
  refine till_take 12 (some 9) rfl rfl (by kernel_rfl) (by kernel_rfl) (by kernel_rfl) (by kernel_rfl) (by kernel_rfl) (by kernel_rfl) (fun _ _ _ h => h) (.inl ⟨by rfl, fun w' _ => (by go_simp; rfl)⟩) hS ?_
  go_frame
  refine till_done (by kernel_rfl) ?_ _
  clear hS
  clear HX HY HZ
  go_wp2_with fail
  refine (toU_any (n := qv) V5.out (digs_d32 _) (dv_digs _)).mono ?_
  rintro e a7 ⟨sa, sb, sc, sd, hu, rfl, hb⟩
  have HSU := Lib.hid hu
  clear hu
  have HBm := Lib.hid (HB.out.trans (hb.mono HB.out.size))
  have HRm := Lib.hid (below_at' hb HR.out)
  have V5m := Lib.hid (V5.out.later hb)
  clear hb HB HR V5
  have HB := HBm
  have HR := HRm
  have V5 := V5m
  clear HBm HRm V5m
  clear V5
  go_wp2_with (refine wpList_store_row_g (t := 24) (old := u0) rfl 24 _ _ rfl R #[.int .u64 sa, .int .u64 sb, .int .u64 sc, .int .u64 sd] rfl rfl HR.out Try.sizeU rfl (one_u64 _ _ _ _) ?_)
  intro a8 hxR kR zR
  clear zR
  have HBm := Lib.hid (HB.out.trans (kR.below (B := w.heap.size) (fun y hy e => by have := WR.out; omega) HB.out.size))
  have HRm := Lib.hid hxR
  clear hxR kR HB HR
  have HB := HBm
  have HR := HRm
  clear HBm HRm
  go_wp2_with fail
  exact bodyPost_ret (res_row_val rfl _ _ R _ _ _ _ rfl HR.out Try.underlying24 rfl Try.sizeU _ rfl) rfl ⟨_, _, _, _, HSU.out, rfl, HB.out⟩

set_option maxHeartbeats 4000000 in
theorem sgood_bad {n : Int} (hn : n < 0 ∨ 10000 < n) (w : World) : Calls Try.prog 28 #[.int .i64 n] w fun e w' => e = .returned (.bool false) ∧ w = w' := by
  rcases hn with hn | hn
  · have h1 : ¬ 0 ≤ n := by omega
    have h2 : decide (0 ≤ n) = false := decide_eq_false h1
    go_enter Try.func28, Try.ntmps28
    go_wp2_with fail
    go_ret
    exact ⟨by first | rfl | (simp; omega), rfl⟩
  · have h1 : 0 ≤ n := by omega
    have h3 : ¬ n ≤ 10000 := by omega
    go_enter Try.func28, Try.ntmps28
    go_wp2_with fail
    go_ret
    exact ⟨by first | rfl | (simp; omega), rfl⟩

set_option maxHeartbeats 16000000 in
set_option maxRecDepth 100000 in
theorem parts_bad {n : Int} (hn : n < 0 ∨ 10000 < n) (a b c f : Int) (w : World) :
    Calls Try.prog 7 #[.int .i64 n, .agg #[.int .u64 a, .int .u64 b, .int .u64 c, .int .u64 f]] w (PartsRet w 0 0 false) := by
  have HN := Lib.hid hn
  clear hn
  go_enter Try.func7, Try.ntmps7
  go_wp2_with (refine wpList_alloc_g rfl _ rfl _ _ Try.zeroUz rfl ?_)
  obtain ⟨w1, hw1⟩ : ∃ wq, wq = w.alloc (.cells #[.int .u64 a, .int .u64 b, .int .u64 c, .int .u64 f] 24) := ⟨_, rfl⟩
  obtain ⟨X, hX⟩ : ∃ x, x = w.heap.size := ⟨_, rfl⟩
  rw [← hw1, ← hX]
  have HX : Hid (w1.heap[X]? = some (.cells #[.int .u64 a, .int .u64 b, .int .u64 c, .int .u64 f] 24 (0, 0))) := Lib.hid (by rw [hw1, hX]; exact heap_alloc_new _ _)
  have HB : Hid (Below w.heap.size w w1) := Lib.hid (by rw [hw1]; exact below_new _ _)
  clear hw1 hX
  intro P w2 hP'
  have WP : Hid (w.heap.size ≤ P) := Lib.hid (by rw [hP'.out.eq]; exact HB.out.size)
  have NXP : Hid (X ≠ P) := Lib.hid (by have := hP'.out.eq; have := heap_lt HX.out; omega)
  have HPz := Lib.hid hP'.out.cells; have hb := hP'.out.below
  clear hP'
  have HBm := Lib.hid (HB.out.trans (hb.mono HB.out.size))
  have HXm := Lib.hid (below_at' hb HX.out)
  clear hb HB HX
  have HB := HBm
  have HX := HXm
  clear HBm HXm
  have HP := HPz
  clear HPz
  go_wp2_with (refine wpList_alloc_g rfl _ rfl _ _ Try.zeroUz rfl ?_)
  intro R a1 hR
  have WR : Hid (w.heap.size ≤ R) := Lib.hid (by rw [hR.out.eq]; exact (HB.out).size)
  have NXR : Hid (X ≠ R) := Lib.hid (by have := hR.out.eq; have := heap_lt HX.out; omega)
  have NPR : Hid (P ≠ R) := Lib.hid (by have := hR.out.eq; have := heap_lt HP.out; omega)
  have HRz := Lib.hid hR.out.cells; have hbR := hR.out.below
  clear hR
  have HBm := Lib.hid (HB.out.trans (hbR.mono HB.out.size))
  have HXm := Lib.hid (below_at' hbR HX.out)
  have HPm := Lib.hid (below_at' hbR HP.out)
  clear hbR HB HX HP
  have HB := HBm
  have HX := HXm
  have HP := HPm
  clear HBm HXm HPm
  have HR := HRz
  clear HRz
  go_wp2_with fail
  refine (sgood_bad HN.out _).mono ?_
  rintro e _ ⟨rfl, rfl⟩
  go_wp2_with (refine wpList_store_row_g (t := 24) (old := u0) rfl 24 _ _ rfl P u0 rfl rfl HP.out Try.sizeU rfl (one_u64 _ _ _ _) ?_)
  intro a2 hxP kP zP
  clear zP
  have HBm := Lib.hid (HB.out.trans (kP.below (B := w.heap.size) (fun y hy e => by have := WP.out; omega) HB.out.size))
  have HXm := Lib.hid (kP.at HX.out NXP.out)
  have HRm := Lib.hid (kP.at HR.out (fun e => NPR.out e.symm))
  have HPm := Lib.hid hxP
  clear hxP kP HB HX HP HR
  have HB := HBm
  have HX := HXm
  have HP := HPm
  have HR := HRm
  clear HBm HXm HPm HRm
  go_wp2_with (refine wpList_store_row_g (t := 24) (old := u0) rfl 24 _ _ rfl R u0 rfl rfl HR.out Try.sizeU rfl (one_u64 _ _ _ _) ?_)
  intro a3 hxR kR zR
  clear zR
  have HBm := Lib.hid (HB.out.trans (kR.below (B := w.heap.size) (fun y hy e => by have := WR.out; omega) HB.out.size))
  have HXm := Lib.hid (kR.at HX.out NXR.out)
  have HPm := Lib.hid (kR.at HP.out NPR.out)
  have HRm := Lib.hid hxR
  clear hxR kR HB HX HP HR
  have HB := HBm
  have HX := HXm
  have HP := HPm
  have HR := HRm
  clear HBm HXm HPm HRm
  go_wp2_with fail
  exact bodyPost_ret (res_three rfl _ _ P R _ _ _ _ _ _ _ rfl HP.out rfl HR.out Try.underlying24 rfl Try.sizeU Try.sizeU _ rfl) rfl ⟨_, _, _, _, _, _, _, _, UIs.zero, UIs.zero, rfl, HB.out⟩

set_option maxHeartbeats 16000000 in
set_option maxRecDepth 100000 in
theorem rparts_bad {n : Int} (hn : n < 0 ∨ 10000 < n) (a b c f : Int) (w : World) :
    Calls Try.prog 8 #[.int .i64 n, .agg #[.int .u64 a, .int .u64 b, .int .u64 c, .int .u64 f]] w (PartsRet w 0 0 false) := by
  go_enter Try.func8, Try.ntmps8
  rcases hn with hn | hn
  · have d1 : decide (n < 0) = true := decide_eq_true hn
    go_wp2_with (refine wpList_alloc_g rfl _ rfl _ _ Try.zeroUz rfl ?_)
    obtain ⟨w1, hw1⟩ : ∃ wq, wq = w.alloc (.cells #[.int .u64 a, .int .u64 b, .int .u64 c, .int .u64 f] 24) := ⟨_, rfl⟩
    obtain ⟨X, hX⟩ : ∃ x, x = w.heap.size := ⟨_, rfl⟩
    rw [← hw1, ← hX]
    have HX : Hid (w1.heap[X]? = some (.cells #[.int .u64 a, .int .u64 b, .int .u64 c, .int .u64 f] 24 (0, 0))) := Lib.hid (by rw [hw1, hX]; exact heap_alloc_new _ _)
    have HB : Hid (Below w.heap.size w w1) := Lib.hid (by rw [hw1]; exact below_new _ _)
    clear hw1 hX
    intro P w2 hP'
    have WP : Hid (w.heap.size ≤ P) := Lib.hid (by rw [hP'.out.eq]; exact HB.out.size)
    have NXP : Hid (X ≠ P) := Lib.hid (by have := hP'.out.eq; have := heap_lt HX.out; omega)
    have HPz := Lib.hid hP'.out.cells; have hb := hP'.out.below
    clear hP'
    have HBm := Lib.hid (HB.out.trans (hb.mono HB.out.size))
    have HXm := Lib.hid (below_at' hb HX.out)
    clear hb HB HX
    have HB := HBm
    have HX := HXm
    clear HBm HXm
    have HP := HPz
    clear HPz
    go_wp2_with (refine wpList_alloc_g rfl _ rfl _ _ Try.zeroUz rfl ?_)
    intro R a1 hR
    have WR : Hid (w.heap.size ≤ R) := Lib.hid (by rw [hR.out.eq]; exact (HB.out).size)
    have NXR : Hid (X ≠ R) := Lib.hid (by have := hR.out.eq; have := heap_lt HX.out; omega)
    have NPR : Hid (P ≠ R) := Lib.hid (by have := hR.out.eq; have := heap_lt HP.out; omega)
    have HRz := Lib.hid hR.out.cells; have hbR := hR.out.below
    clear hR
    have HBm := Lib.hid (HB.out.trans (hbR.mono HB.out.size))
    have HXm := Lib.hid (below_at' hbR HX.out)
    have HPm := Lib.hid (below_at' hbR HP.out)
    clear hbR HB HX HP
    have HB := HBm
    have HX := HXm
    have HP := HPm
    clear HBm HXm HPm
    have HR := HRz
    clear HRz
    go_wp2_with (refine wpList_store_row_g (t := 24) (old := u0) rfl 24 _ _ rfl P u0 rfl rfl HP.out Try.sizeU rfl (one_u64 _ _ _ _) ?_)
    intro a2 hxP kP zP
    clear zP
    have HBm := Lib.hid (HB.out.trans (kP.below (B := w.heap.size) (fun y hy e => by have := WP.out; omega) HB.out.size))
    have HXm := Lib.hid (kP.at HX.out NXP.out)
    have HRm := Lib.hid (kP.at HR.out (fun e => NPR.out e.symm))
    have HPm := Lib.hid hxP
    clear hxP kP HB HX HP HR
    have HB := HBm
    have HX := HXm
    have HP := HPm
    have HR := HRm
    clear HBm HXm HPm HRm
    go_wp2_with (refine wpList_store_row_g (t := 24) (old := u0) rfl 24 _ _ rfl R u0 rfl rfl HR.out Try.sizeU rfl (one_u64 _ _ _ _) ?_)
    intro a3 hxR kR zR
    clear zR
    have HBm := Lib.hid (HB.out.trans (kR.below (B := w.heap.size) (fun y hy e => by have := WR.out; omega) HB.out.size))
    have HXm := Lib.hid (kR.at HX.out NXR.out)
    have HPm := Lib.hid (kR.at HP.out NPR.out)
    have HRm := Lib.hid hxR
    clear hxR kR HB HX HP HR
    have HB := HBm
    have HX := HXm
    have HP := HPm
    have HR := HRm
    clear HBm HXm HPm HRm
    go_wp2_with fail
    exact bodyPost_ret (res_three rfl _ _ P R _ _ _ _ _ _ _ rfl HP.out rfl HR.out Try.underlying24 rfl Try.sizeU Try.sizeU _ rfl) rfl ⟨_, _, _, _, _, _, _, _, UIs.zero, UIs.zero, rfl, HB.out⟩
  · have d0 : ¬ n < 0 := by omega
    have d1 : decide (n < 0) = false := decide_eq_false d0
    have d2 : decide (10000 < n) = true := decide_eq_true hn
    go_wp2_with (refine wpList_alloc_g rfl _ rfl _ _ Try.zeroUz rfl ?_)
    obtain ⟨w1, hw1⟩ : ∃ wq, wq = w.alloc (.cells #[.int .u64 a, .int .u64 b, .int .u64 c, .int .u64 f] 24) := ⟨_, rfl⟩
    obtain ⟨X, hX⟩ : ∃ x, x = w.heap.size := ⟨_, rfl⟩
    rw [← hw1, ← hX]
    have HX : Hid (w1.heap[X]? = some (.cells #[.int .u64 a, .int .u64 b, .int .u64 c, .int .u64 f] 24 (0, 0))) := Lib.hid (by rw [hw1, hX]; exact heap_alloc_new _ _)
    have HB : Hid (Below w.heap.size w w1) := Lib.hid (by rw [hw1]; exact below_new _ _)
    clear hw1 hX
    intro P w2 hP'
    have WP : Hid (w.heap.size ≤ P) := Lib.hid (by rw [hP'.out.eq]; exact HB.out.size)
    have NXP : Hid (X ≠ P) := Lib.hid (by have := hP'.out.eq; have := heap_lt HX.out; omega)
    have HPz := Lib.hid hP'.out.cells; have hb := hP'.out.below
    clear hP'
    have HBm := Lib.hid (HB.out.trans (hb.mono HB.out.size))
    have HXm := Lib.hid (below_at' hb HX.out)
    clear hb HB HX
    have HB := HBm
    have HX := HXm
    clear HBm HXm
    have HP := HPz
    clear HPz
    go_wp2_with (refine wpList_alloc_g rfl _ rfl _ _ Try.zeroUz rfl ?_)
    intro R a1 hR
    have WR : Hid (w.heap.size ≤ R) := Lib.hid (by rw [hR.out.eq]; exact (HB.out).size)
    have NXR : Hid (X ≠ R) := Lib.hid (by have := hR.out.eq; have := heap_lt HX.out; omega)
    have NPR : Hid (P ≠ R) := Lib.hid (by have := hR.out.eq; have := heap_lt HP.out; omega)
    have HRz := Lib.hid hR.out.cells; have hbR := hR.out.below
    clear hR
    have HBm := Lib.hid (HB.out.trans (hbR.mono HB.out.size))
    have HXm := Lib.hid (below_at' hbR HX.out)
    have HPm := Lib.hid (below_at' hbR HP.out)
    clear hbR HB HX HP
    have HB := HBm
    have HX := HXm
    have HP := HPm
    clear HBm HXm HPm
    have HR := HRz
    clear HRz
    go_wp2_with (refine wpList_store_row_g (t := 24) (old := u0) rfl 24 _ _ rfl P u0 rfl rfl HP.out Try.sizeU rfl (one_u64 _ _ _ _) ?_)
    intro a2 hxP kP zP
    clear zP
    have HBm := Lib.hid (HB.out.trans (kP.below (B := w.heap.size) (fun y hy e => by have := WP.out; omega) HB.out.size))
    have HXm := Lib.hid (kP.at HX.out NXP.out)
    have HRm := Lib.hid (kP.at HR.out (fun e => NPR.out e.symm))
    have HPm := Lib.hid hxP
    clear hxP kP HB HX HP HR
    have HB := HBm
    have HX := HXm
    have HP := HPm
    have HR := HRm
    clear HBm HXm HPm HRm
    go_wp2_with (refine wpList_store_row_g (t := 24) (old := u0) rfl 24 _ _ rfl R u0 rfl rfl HR.out Try.sizeU rfl (one_u64 _ _ _ _) ?_)
    intro a3 hxR kR zR
    clear zR
    have HBm := Lib.hid (HB.out.trans (kR.below (B := w.heap.size) (fun y hy e => by have := WR.out; omega) HB.out.size))
    have HXm := Lib.hid (kR.at HX.out NXR.out)
    have HPm := Lib.hid (kR.at HP.out NPR.out)
    have HRm := Lib.hid hxR
    clear hxR kR HB HX HP HR
    have HB := HBm
    have HX := HXm
    have HP := HPm
    have HR := HRm
    clear HBm HXm HPm HRm
    go_wp2_with fail
    exact bodyPost_ret (res_three rfl _ _ P R _ _ _ _ _ _ _ rfl HP.out rfl HR.out Try.underlying24 rfl Try.sizeU Try.sizeU _ rfl) rfl ⟨_, _, _, _, _, _, _, _, UIs.zero, UIs.zero, rfl, HB.out⟩

set_option maxHeartbeats 16000000 in
set_option maxRecDepth 100000 in
theorem rparts_any {a b c f : Int} {n x : Nat} (h : UIs a b c f x) (hn : n ≤ 10000) (w : World) :
    Calls Try.prog 8 #[.int .i64 (n : Int), .agg #[.int .u64 a, .int .u64 b, .int .u64 c, .int .u64 f]] w (PartsRet w (if x < uHalf then prt n x else 0) (if x < uHalf then x - prt n x else 0) (decide (x < uHalf))) := by
  obtain ⟨v1, hv1⟩ : ∃ v, v = if x < uHalf then prt n x else 0 := ⟨_, rfl⟩
  obtain ⟨v2, hv2⟩ : ∃ v, v = if x < uHalf then x - prt n x else 0 := ⟨_, rfl⟩
  obtain ⟨q, hq⟩ : ∃ v, v = decide (x < uHalf) := ⟨_, rfl⟩
  rw [← hv1, ← hv2, ← hq]
  have HV1 := Lib.hid hv1; have HV2 := Lib.hid hv2; have HQ := Lib.hid hq
  have HU := Lib.hid h; have HN := Lib.hid hn
  have d1 : ¬ (n : Int) < 0 := by omega
  have d2 : ¬ 10000 < n := by omega
  have d3 : decide (10000 < n) = false := decide_eq_false d2
  clear h hn hv1 hv2 hq
  go_enter Try.func8, Try.ntmps8
  go_wp2_with (refine wpList_alloc_g rfl _ rfl _ _ Try.zeroUz rfl ?_)
  obtain ⟨w1, hw1⟩ : ∃ wq, wq = w.alloc (.cells #[.int .u64 a, .int .u64 b, .int .u64 c, .int .u64 f] 24) := ⟨_, rfl⟩
  obtain ⟨X, hX⟩ : ∃ x, x = w.heap.size := ⟨_, rfl⟩
  rw [← hw1, ← hX]
  have HX : Hid (w1.heap[X]? = some (.cells #[.int .u64 a, .int .u64 b, .int .u64 c, .int .u64 f] 24 (0, 0))) := Lib.hid (by rw [hw1, hX]; exact heap_alloc_new _ _)
  have HB : Hid (Below w.heap.size w w1) := Lib.hid (by rw [hw1]; exact below_new _ _)
  clear hw1 hX
  intro P w2 hP'
  have WP : Hid (w.heap.size ≤ P) := Lib.hid (by rw [hP'.out.eq]; exact HB.out.size)
  have NXP : Hid (X ≠ P) := Lib.hid (by have := hP'.out.eq; have := heap_lt HX.out; omega)
  have HPz := Lib.hid hP'.out.cells; have hb := hP'.out.below
  clear hP'
  have HBm := Lib.hid (HB.out.trans (hb.mono HB.out.size))
  have HXm := Lib.hid (below_at' hb HX.out)
  clear hb HB HX
  have HB := HBm
  have HX := HXm
  clear HBm HXm
  have HP := HPz
  clear HPz
  go_wp2_with (refine wpList_alloc_g rfl _ rfl _ _ Try.zeroUz rfl ?_)
  intro R a1 hR
  have WR : Hid (w.heap.size ≤ R) := Lib.hid (by rw [hR.out.eq]; exact (HB.out).size)
  have NXR : Hid (X ≠ R) := Lib.hid (by have := hR.out.eq; have := heap_lt HX.out; omega)
  have NPR : Hid (P ≠ R) := Lib.hid (by have := hR.out.eq; have := heap_lt HP.out; omega)
  have HRz := Lib.hid hR.out.cells; have hbR := hR.out.below
  clear hR
  have HBm := Lib.hid (HB.out.trans (hbR.mono HB.out.size))
  have HXm := Lib.hid (below_at' hbR HX.out)
  have HPm := Lib.hid (below_at' hbR HP.out)
  clear hbR HB HX HP
  have HB := HBm
  have HX := HXm
  have HP := HPm
  clear HBm HXm HPm
  have HR := HRz
  clear HRz
  have c0 : a1.cell? ⟨X, 0, none⟩ = some (.int .u64 a) := Lib.cell_of_heap HX.out 0
  have c1 : a1.cell? ⟨X, 1, none⟩ = some (.int .u64 b) := Lib.cell_of_heap HX.out 1
  have c2 : a1.cell? ⟨X, 2, none⟩ = some (.int .u64 c) := Lib.cell_of_heap HX.out 2
  have c3 : a1.cell? ⟨X, 3, none⟩ = some (.int .u64 f) := Lib.cell_of_heap HX.out 3
  go_wp2_with fail
  clear c0 c1 c2 c3 d1 d2 d3
  refine (rmAmount_any HU.out _).mono ?_
  rw [← HQ.out]
  rintro e a2 ⟨rfl, hb⟩
  have HBm := Lib.hid (HB.out.trans (hb.mono HB.out.size))
  have HXm := Lib.hid (below_at' hb HX.out)
  have HPm := Lib.hid (below_at' hb HP.out)
  have HRm := Lib.hid (below_at' hb HR.out)
  clear hb HB HX HP HR
  have HB := HBm
  have HX := HXm
  have HP := HPm
  have HR := HRm
  clear HBm HXm HPm HRm
  cases q with
  | false =>
    have hno : ¬ x < uHalf := of_decide_eq_false HQ.out.symm
    have HZ : Hid (v1 = 0 ∧ v2 = 0) := Lib.hid ⟨by rw [HV1.out, if_neg hno], by rw [HV2.out, if_neg hno]⟩
    clear hno
    go_wp2_with (refine wpList_store_row_g (t := 24) (old := u0) rfl 24 _ _ rfl P u0 rfl rfl HP.out Try.sizeU rfl (one_u64 _ _ _ _) ?_)
    intro a3 hxP kP zP
    clear zP
    have HBm := Lib.hid (HB.out.trans (kP.below (B := w.heap.size) (fun y hy e => by have := WP.out; omega) HB.out.size))
    have HXm := Lib.hid (kP.at HX.out NXP.out)
    have HRm := Lib.hid (kP.at HR.out (fun e => NPR.out e.symm))
    have HPm := Lib.hid hxP
    clear hxP kP HB HX HP HR
    have HB := HBm
    have HX := HXm
    have HP := HPm
    have HR := HRm
    clear HBm HXm HPm HRm
    go_wp2_with (refine wpList_store_row_g (t := 24) (old := u0) rfl 24 _ _ rfl R u0 rfl rfl HR.out Try.sizeU rfl (one_u64 _ _ _ _) ?_)
    intro a4 hxR kR zR
    clear zR
    have HBm := Lib.hid (HB.out.trans (kR.below (B := w.heap.size) (fun y hy e => by have := WR.out; omega) HB.out.size))
    have HXm := Lib.hid (kR.at HX.out NXR.out)
    have HPm := Lib.hid (kR.at HP.out NPR.out)
    have HRm := Lib.hid hxR
    clear hxR kR HB HX HP HR
    have HB := HBm
    have HX := HXm
    have HP := HPm
    have HR := HRm
    clear HBm HXm HPm HRm
    go_wp2_with fail
    exact bodyPost_ret (res_three rfl _ _ P R _ _ _ _ _ _ _ rfl HP.out rfl HR.out Try.underlying24 rfl Try.sizeU Try.sizeU _ rfl) rfl ⟨_, _, _, _, _, _, _, _, by rw [HZ.out.1]; exact UIs.zero, by rw [HZ.out.2]; exact UIs.zero, rfl, HB.out⟩
  | true =>
    have hyes : x < uHalf := of_decide_eq_true HQ.out.symm
    have HZ : Hid (v1 = prt n x ∧ v2 = x - prt n x) := Lib.hid ⟨by rw [HV1.out, if_pos hyes], by rw [HV2.out, if_pos hyes]⟩
    have HXL := Lib.hid hyes
    clear hyes
    go_wp2_with fail
    obtain ⟨a3, hwz⟩ : ∃ wz, wz = a2.drew := ⟨_, rfl⟩
    have hbz : Below a2.heap.size a2 a3 := by rw [hwz]; exact (Below.refl _ _).drew
    have HBm := Lib.hid (HB.out.trans (hbz.mono HB.out.size))
    have HXm := Lib.hid (below_at' hbz HX.out)
    have HPm := Lib.hid (below_at' hbz HP.out)
    have HRm := Lib.hid (below_at' hbz HR.out)
    clear hbz HB HX HP HR
    have HB := HBm
    have HX := HXm
    have HP := HPm
    have HR := HRm
    clear HBm HXm HPm HRm
    have hS : a3.heap[X]? = some (.cells #[.int .u64 a, .int .u64 b, .int .u64 c, .int .u64 f] 24 (0, 0)) := HX.out
    refine wp_region_till (fun w' => w'.heap[X]? = some (.cells #[.int .u64 a, .int .u64 b, .int .u64 c, .int .u64 f] 24 (0, 0))) 11 11 (by kernel_rfl) rfl ?_
    rw [← hwz]
    clear hwz
    refine till_take 0 (some 25) rfl rfl (by kernel_rfl) (by kernel_rfl) (by kernel_rfl) (by kernel_rfl) (by kernel_rfl) (by kernel_rfl) (fun _ _ _ h => h) (yields_load (by rfl) 24 _ rfl (.pointer (some ⟨X, 0, none⟩)) rfl (.agg #[.int .u64 a, .int .u64 b, .int .u64 c, .int .u64 f]) (fun w' hS' => load_heap (hS') Try.underlying24 rfl Try.sizeU)) hS ?_
    go_frame
    refine till_take 1 (some 26) rfl rfl (by kernel_rfl) (by kernel_rfl) (by kernel_rfl) (by kernel_rfl) (by kernel_rfl) (by kernel_rfl) (fun _ _ _ h => h) (.inl ⟨by rfl, fun w' _ => (by go_simp; rfl)⟩) hS ?_
    go_frame
    refine till_two 2 8 rfl rfl (by kernel_rfl) (fun K hK => ?_) (fun K hK => ?_)
    · simp only [List.getElem_toArray, List.getElem_cons_succ, List.getElem_cons_zero]
      rw [if_pos (by rfl)]
      go_simp
      refine (rnum_any HN.out _).mono ?_
      rintro e a4 ⟨rfl, hb⟩
      have HBm := Lib.hid (HB.out.trans (hb.mono HB.out.size))
      have HXm := Lib.hid (below_at' hb HX.out)
      have HPm := Lib.hid (below_at' hb HP.out)
      have HRm := Lib.hid (below_at' hb HR.out)
      clear hb HB HX HP HR
      have HB := HBm
      have HX := HXm
      have HP := HPm
      have HR := HRm
      clear HBm HXm HPm HRm
      have hS2 : a4.heap[X]? = some (.cells #[.int .u64 a, .int .u64 b, .int .u64 c, .int .u64 f] 24 (0, 0)) := HX.out
      refine hK _ _ (fun _ _ => hS2) ?_
      clear hK hS
      have hS := hS2
      clear hS2
      refine till_two 3 8 rfl rfl (by kernel_rfl) (fun K hK => ?_) (fun K hK => ?_)
      · simp only [List.getElem_toArray, List.getElem_cons_succ, List.getElem_cons_zero]
        rw [if_pos (by rfl)]
        go_simp
        refine (rnum_any (n := 10000) (by decide) _).mono ?_
        rintro e a5 ⟨rfl, hb⟩
        have HBm := Lib.hid (HB.out.trans (hb.mono HB.out.size))
        have HXm := Lib.hid (below_at' hb HX.out)
        have HPm := Lib.hid (below_at' hb HP.out)
        have HRm := Lib.hid (below_at' hb HR.out)
        clear hb HB HX HP HR
        have HB := HBm
        have HX := HXm
        have HP := HPm
        have HR := HRm
        clear HBm HXm HPm HRm
        have hS2 : a5.heap[X]? = some (.cells #[.int .u64 a, .int .u64 b, .int .u64 c, .int .u64 f] 24 (0, 0)) := HX.out
        refine hK _ _ (fun _ _ => hS2) ?_
        clear hK hS
        have hS := hS2
        clear hS2
        refine till_two 4 8 rfl rfl (by kernel_rfl) (fun K hK => ?_) (fun K hK => ?_)
        · simp only [List.getElem_toArray, List.getElem_cons_succ, List.getElem_cons_zero]
          rw [if_pos (by rfl)]
          go_simp
          refine (rdown_any (m := n) (d := 10000) HU.out (small_u (by have := HN.out; omega)) (small_u (d := 10000) (by decide)) (by decide) _).mono ?_
          rw [decide_eq_true (show x * n / 10000 < uMax by have := prt_le (a := x) HN.out; unfold prt at this; have := HU.out.lt; omega)]
          rintro e a6 ⟨qa, qb, qc, qd, hq, rfl, hb⟩
          first | rw [if_pos trivial] at hq | rw [if_pos rfl] at hq
          have HQU : Hid (UIs qa qb qc qd (prt n x)) := Lib.hid hq
          clear hq
          have HBm := Lib.hid (HB.out.trans (hb.mono HB.out.size))
          have HXm := Lib.hid (below_at' hb HX.out)
          have HPm := Lib.hid (below_at' hb HP.out)
          have HRm := Lib.hid (below_at' hb HR.out)
          clear hb HB HX HP HR
          have HB := HBm
          have HX := HXm
          have HP := HPm
          have HR := HRm
          clear HBm HXm HPm HRm
          have hS2 : a6.heap[X]? = some (.cells #[.int .u64 a, .int .u64 b, .int .u64 c, .int .u64 f] 24 (0, 0)) := HX.out
          refine hK _ _ (fun _ _ => hS2) ?_
          clear hK hS
          have hS := hS2
          clear hS2
          refine till_take 5 (some 24) rfl rfl (by kernel_rfl) (by kernel_rfl) (by kernel_rfl) (by kernel_rfl) (by kernel_rfl) (by kernel_rfl) (fun _ _ _ h => h) (.inl ⟨by rfl, fun w' _ => (by go_simp; rfl)⟩) hS ?_
          go_frame
          refine till_take 6 (some 30) rfl rfl (by kernel_rfl) (by kernel_rfl) (by kernel_rfl) (by kernel_rfl) (by kernel_rfl) (by kernel_rfl) (fun _ _ _ h => h) (.inl ⟨by rfl, fun w' _ => (by go_simp; rfl)⟩) hS ?_
          go_frame
          refine till_take 7 (some 31) rfl rfl (by kernel_rfl) (by kernel_rfl) (by kernel_rfl) (by kernel_rfl) (by kernel_rfl) (by kernel_rfl) (fun _ _ _ h => h) (.inl ⟨by rfl, fun w' _ => (by go_simp; rfl)⟩) hS ?_
          go_frame
          refine till_one 8 rfl (by kernel_rfl) fun K hK => ?_
          simp only [List.getElem_toArray, List.getElem_cons_succ, List.getElem_cons_zero]
          rw [if_pos (by rfl)]
          refine wp_alloc_g 24 rfl _ _ Try.zeroUz rfl ?_
          intro Q a7 hQ
          have WQ : Hid (w.heap.size ≤ Q) := Lib.hid (by rw [hQ.out.eq]; exact (HB.out).size)
          have NXQ : Hid (X ≠ Q) := Lib.hid (by have := hQ.out.eq; have := heap_lt HX.out; omega)
          have NPQ : Hid (P ≠ Q) := Lib.hid (by have := hQ.out.eq; have := heap_lt HP.out; omega)
          have NRQ : Hid (R ≠ Q) := Lib.hid (by have := hQ.out.eq; have := heap_lt HR.out; omega)
          have HQz := Lib.hid hQ.out.cells; have hbQ := hQ.out.below
          clear hQ
          have HBm := Lib.hid (HB.out.trans (hbQ.mono HB.out.size))
          have HXm := Lib.hid (below_at' hbQ HX.out)
          have HPm := Lib.hid (below_at' hbQ HP.out)
          have HRm := Lib.hid (below_at' hbQ HR.out)
          clear hbQ HB HX HP HR
          have HB := HBm
          have HX := HXm
          have HP := HPm
          have HR := HRm
          clear HBm HXm HPm HRm
          have HQ := HQz
          clear HQz
          have hS2 : a7.heap[X]? = some (.cells #[.int .u64 a, .int .u64 b, .int .u64 c, .int .u64 f] 24 (0, 0)) := HX.out
          refine hK _ _ (fun _ _ => hS2) ?_
          clear hK hS
          have hS := hS2
          clear hS2
          refine till_one 9 rfl (by kernel_rfl) fun K hK => ?_
          simp only [List.getElem_toArray, List.getElem_cons_succ, List.getElem_cons_zero]
          rw [if_pos (by rfl)]
          refine wp_store_row_g (t := 24) (old := u0) 24 _ _ rfl Q #[.int .u64 qa, .int .u64 qb, .int .u64 qc, .int .u64 qd] rfl rfl HQ.out Try.sizeU rfl (one_u64 _ _ _ _) ?_
          intro a8 hxQ kQ zQ
          clear zQ
          have HBm := Lib.hid (HB.out.trans (kQ.below (B := w.heap.size) (fun y hy e => by have := WQ.out; omega) HB.out.size))
          have HXm := Lib.hid (kQ.at HX.out NXQ.out)
          have HPm := Lib.hid (kQ.at HP.out NPQ.out)
          have HRm := Lib.hid (kQ.at HR.out NRQ.out)
          have HQm := Lib.hid hxQ
          clear hxQ kQ HB HX HP HR HQ
          have HB := HBm
          have HX := HXm
          have HP := HPm
          have HR := HRm
          have HQ := HQm
          clear HBm HXm HPm HRm HQm
          have hS2 : a8.heap[X]? = some (.cells #[.int .u64 a, .int .u64 b, .int .u64 c, .int .u64 f] 24 (0, 0)) := HX.out
          refine hK _ _ (fun _ _ => hS2) ?_
          clear hK hS
          have hS := hS2
          clear hS2
          refine till_take 10 (some 8) rfl rfl (by kernel_rfl) (by kernel_rfl) (by kernel_rfl) (by kernel_rfl) (by kernel_rfl) (by kernel_rfl) (fun _ _ _ h => h) (.inl ⟨by rfl, fun w' _ => (by go_simp; rfl)⟩) hS ?_
          go_frame
          refine till_done (by kernel_rfl) ?_ _
          clear hS
          go_wp2_with (first
            | (refine wpList_load_row rfl 24 _ rfl X rfl 24 _ _ _ HX.out Try.underlying24 rfl Try.sizeU ?_)
            | (refine wpList_load_row rfl 24 _ rfl Q rfl 24 _ _ _ HQ.out Try.underlying24 rfl Try.sizeU ?_))
          refine (rsub_any HU.out HQU.out _).mono ?_
          rw [decide_eq_true (prt_le HN.out)]
          rintro e a9 ⟨ya, yb, yc, yd, hu, rfl, hb⟩
          first | rw [if_pos trivial] at hu | rw [if_pos rfl] at hu
          have HYU := Lib.hid hu
          clear hu
          have HBm := Lib.hid (HB.out.trans (hb.mono HB.out.size))
          have HXm := Lib.hid (below_at' hb HX.out)
          have HPm := Lib.hid (below_at' hb HP.out)
          have HRm := Lib.hid (below_at' hb HR.out)
          have HQm := Lib.hid (below_at' hb HQ.out)
          clear hb HB HX HP HR HQ
          have HB := HBm
          have HX := HXm
          have HP := HPm
          have HR := HRm
          have HQ := HQm
          clear HBm HXm HPm HRm HQm
          go_wp2_with (refine wpList_alloc_g rfl _ rfl _ _ Try.zeroUz rfl ?_)
          intro V a10 hV
          go_wp2_with (refine wpList_store_row_g (t := 24) (old := u0) rfl 24 _ _ rfl V #[.int .u64 ya, .int .u64 yb, .int .u64 yc, .int .u64 yd] rfl rfl hV.out.cells Try.sizeU rfl (one_u64 _ _ _ _) ?_)
          intro a11 hxV kV zV
          clear zV
          have hbV : Below a9.heap.size a9 a11 := hV.out.below.trans (kV.below (B := a9.heap.size) (fun x hx e => by have := hV.out.eq; omega) hV.out.below.size)
          have WV : Hid (w.heap.size ≤ V) := Lib.hid (by rw [hV.out.eq]; exact (HB.out).size)
          have NXV : Hid (X ≠ V) := Lib.hid (by have := hV.out.eq; have := heap_lt HX.out; omega)
          have NPV : Hid (P ≠ V) := Lib.hid (by have := hV.out.eq; have := heap_lt HP.out; omega)
          have NRV : Hid (R ≠ V) := Lib.hid (by have := hV.out.eq; have := heap_lt HR.out; omega)
          have NQV : Hid (Q ≠ V) := Lib.hid (by have := hV.out.eq; have := heap_lt HQ.out; omega)
          have HVz := Lib.hid hxV
          clear hV hxV kV
          have HBm := Lib.hid (HB.out.trans (hbV.mono HB.out.size))
          have HXm := Lib.hid (below_at' hbV HX.out)
          have HPm := Lib.hid (below_at' hbV HP.out)
          have HRm := Lib.hid (below_at' hbV HR.out)
          have HQm := Lib.hid (below_at' hbV HQ.out)
          clear hbV HB HX HP HR HQ
          have HB := HBm
          have HX := HXm
          have HP := HPm
          have HR := HRm
          have HQ := HQm
          clear HBm HXm HPm HRm HQm
          have HV := HVz
          clear HVz
          go_wp2_with fail
          obtain ⟨a12, hwz⟩ : ∃ wz, wz = a11.drew := ⟨_, rfl⟩
          have hbz : Below a11.heap.size a11 a12 := by rw [hwz]; exact (Below.refl _ _).drew
          have HBm := Lib.hid (HB.out.trans (hbz.mono HB.out.size))
          have HXm := Lib.hid (below_at' hbz HX.out)
          have HPm := Lib.hid (below_at' hbz HP.out)
          have HRm := Lib.hid (below_at' hbz HR.out)
          have HQm := Lib.hid (below_at' hbz HQ.out)
          have HVm := Lib.hid (below_at' hbz HV.out)
          clear hbz HB HX HP HR HQ HV
          have HB := HBm
          have HX := HXm
          have HP := HPm
          have HR := HRm
          have HQ := HQm
          have HV := HVm
          clear HBm HXm HPm HRm HQm HVm
          have hS : a12.heap[Q]? = some (.cells #[.int .u64 qa, .int .u64 qb, .int .u64 qc, .int .u64 qd] 24 (0, 0)) ∧ a12.heap[V]? = some (.cells #[.int .u64 ya, .int .u64 yb, .int .u64 yc, .int .u64 yd] 24 (0, 0)) := ⟨HQ.out, HV.out⟩
          refine wp_region_till (fun w' => w'.heap[Q]? = some (.cells #[.int .u64 qa, .int .u64 qb, .int .u64 qc, .int .u64 qd] 24 (0, 0)) ∧ w'.heap[V]? = some (.cells #[.int .u64 ya, .int .u64 yb, .int .u64 yc, .int .u64 yd] 24 (0, 0))) 5 5 (by kernel_rfl) rfl ?_
          rw [← hwz]
          clear hwz
          refine till_take 0 (some 38) rfl rfl (by kernel_rfl) (by kernel_rfl) (by kernel_rfl) (by kernel_rfl) (by kernel_rfl) (by kernel_rfl) (fun _ _ _ h => h) (yields_load (by rfl) 24 _ rfl (.pointer (some ⟨Q, 0, none⟩)) rfl (.agg #[.int .u64 qa, .int .u64 qb, .int .u64 qc, .int .u64 qd]) (fun w' hS' => load_heap (hS'.1) Try.underlying24 rfl Try.sizeU)) hS ?_
          go_frame
          refine till_take 1 (some 39) rfl rfl (by kernel_rfl) (by kernel_rfl) (by kernel_rfl) (by kernel_rfl) (by kernel_rfl) (by kernel_rfl) (fun _ _ _ h => h) (yields_load (by rfl) 24 _ rfl (.pointer (some ⟨V, 0, none⟩)) rfl (.agg #[.int .u64 ya, .int .u64 yb, .int .u64 yc, .int .u64 yd]) (fun w' hS' => load_heap (hS'.2) Try.underlying24 rfl Try.sizeU)) hS ?_
          go_frame
          refine till_one 2 rfl (by kernel_rfl) fun K hK => ?_
          simp only [List.getElem_toArray, List.getElem_cons_succ, List.getElem_cons_zero]
          rw [if_pos (by rfl)]
          refine wp_store_row_g (t := 24) (old := u0) 24 _ _ rfl P #[.int .u64 qa, .int .u64 qb, .int .u64 qc, .int .u64 qd] rfl rfl HP.out Try.sizeU rfl (one_u64 _ _ _ _) ?_
          intro a13 hxP kP zP
          clear zP
          have HBm := Lib.hid (HB.out.trans (kP.below (B := w.heap.size) (fun y hy e => by have := WP.out; omega) HB.out.size))
          have HXm := Lib.hid (kP.at HX.out NXP.out)
          have HRm := Lib.hid (kP.at HR.out (fun e => NPR.out e.symm))
          have HQm := Lib.hid (kP.at HQ.out (fun e => NPQ.out e.symm))
          have HVm := Lib.hid (kP.at HV.out (fun e => NPV.out e.symm))
          have HPm := Lib.hid hxP
          clear hxP kP HB HX HP HR HQ HV
          have HB := HBm
          have HX := HXm
          have HP := HPm
          have HR := HRm
          have HQ := HQm
          have HV := HVm
          clear HBm HXm HPm HRm HQm HVm
          have hS2 : a13.heap[Q]? = some (.cells #[.int .u64 qa, .int .u64 qb, .int .u64 qc, .int .u64 qd] 24 (0, 0)) ∧ a13.heap[V]? = some (.cells #[.int .u64 ya, .int .u64 yb, .int .u64 yc, .int .u64 yd] 24 (0, 0)) := ⟨HQ.out, HV.out⟩
          refine hK _ _ (fun _ _ => hS2) ?_
          clear hK hS
          have hS := hS2
          clear hS2
          refine till_one 3 rfl (by kernel_rfl) fun K hK => ?_
          simp only [List.getElem_toArray, List.getElem_cons_succ, List.getElem_cons_zero]
          rw [if_pos (by rfl)]
          refine wp_store_row_g (t := 24) (old := u0) 24 _ _ rfl R #[.int .u64 ya, .int .u64 yb, .int .u64 yc, .int .u64 yd] rfl rfl HR.out Try.sizeU rfl (one_u64 _ _ _ _) ?_
          intro a14 hxR kR zR
          clear zR
          have HBm := Lib.hid (HB.out.trans (kR.below (B := w.heap.size) (fun y hy e => by have := WR.out; omega) HB.out.size))
          have HXm := Lib.hid (kR.at HX.out NXR.out)
          have HPm := Lib.hid (kR.at HP.out NPR.out)
          have HQm := Lib.hid (kR.at HQ.out (fun e => NRQ.out e.symm))
          have HVm := Lib.hid (kR.at HV.out (fun e => NRV.out e.symm))
          have HRm := Lib.hid hxR
          clear hxR kR HB HX HP HR HQ HV
          have HB := HBm
          have HX := HXm
          have HP := HPm
          have HR := HRm
          have HQ := HQm
          have HV := HVm
          clear HBm HXm HPm HRm HQm HVm
          have hS2 : a14.heap[Q]? = some (.cells #[.int .u64 qa, .int .u64 qb, .int .u64 qc, .int .u64 qd] 24 (0, 0)) ∧ a14.heap[V]? = some (.cells #[.int .u64 ya, .int .u64 yb, .int .u64 yc, .int .u64 yd] 24 (0, 0)) := ⟨HQ.out, HV.out⟩
          refine hK _ _ (fun _ _ => hS2) ?_
          clear hK hS
          have hS := hS2
          clear hS2
          refine till_take 4 (some 6) rfl rfl (by kernel_rfl) (by kernel_rfl) (by kernel_rfl) (by kernel_rfl) (by kernel_rfl) (by kernel_rfl) (fun _ _ _ h => h) (.inl ⟨by rfl, fun w' _ => (by go_simp; rfl)⟩) hS ?_
          go_frame
          refine till_done (by kernel_rfl) ?_ _
          clear hS
          go_wp2_with fail
          exact bodyPost_ret (res_three rfl _ _ P R _ _ _ _ _ _ _ rfl HP.out rfl HR.out Try.underlying24 rfl Try.sizeU Try.sizeU _ rfl) rfl ⟨_, _, _, _, _, _, _, _, by rw [HZ.out.1]; exact HQU.out, by rw [HZ.out.2]; exact HYU.out, rfl, HB.out⟩
        · simp only [List.getElem_toArray, List.getElem_cons_succ, List.getElem_cons_zero]
          rw [if_pos (by rfl)]
          refine wp_alloc_g 24 rfl _ _ Try.zeroUz rfl ?_
          intro Q a6 hQ
          have WQ : Hid (w.heap.size ≤ Q) := Lib.hid (by rw [hQ.out.eq]; exact (HB.out).size)
          have NXQ : Hid (X ≠ Q) := Lib.hid (by have := hQ.out.eq; have := heap_lt HX.out; omega)
          have NPQ : Hid (P ≠ Q) := Lib.hid (by have := hQ.out.eq; have := heap_lt HP.out; omega)
          have NRQ : Hid (R ≠ Q) := Lib.hid (by have := hQ.out.eq; have := heap_lt HR.out; omega)
          have HQz := Lib.hid hQ.out.cells; have hbQ := hQ.out.below
          clear hQ
          have HBm := Lib.hid (HB.out.trans (hbQ.mono HB.out.size))
          have HXm := Lib.hid (below_at' hbQ HX.out)
          have HPm := Lib.hid (below_at' hbQ HP.out)
          have HRm := Lib.hid (below_at' hbQ HR.out)
          clear hbQ HB HX HP HR
          have HB := HBm
          have HX := HXm
          have HP := HPm
          have HR := HRm
          clear HBm HXm HPm HRm
          have HQ := HQz
          clear HQz
          have hS2 : a6.heap[X]? = some (.cells #[.int .u64 a, .int .u64 b, .int .u64 c, .int .u64 f] 24 (0, 0)) := HX.out
          refine hK _ _ (fun _ _ => hS2) ?_
          clear hK hS
          have hS := hS2
          clear hS2
          refine till_one 4 rfl (by kernel_rfl) fun K hK => ?_
          simp only [List.getElem_toArray, List.getElem_cons_succ, List.getElem_cons_zero]
          rw [if_pos (by rfl)]
          go_simp
          refine (rdown_any (m := n) (d := 10000) HU.out (small_u (by have := HN.out; omega)) (small_u (d := 10000) (by decide)) (by decide) _).mono ?_
          rw [decide_eq_true (show x * n / 10000 < uMax by have := prt_le (a := x) HN.out; unfold prt at this; have := HU.out.lt; omega)]
          rintro e a7 ⟨qa, qb, qc, qd, hq, rfl, hb⟩
          first | rw [if_pos trivial] at hq | rw [if_pos rfl] at hq
          have HQU : Hid (UIs qa qb qc qd (prt n x)) := Lib.hid hq
          clear hq
          have HBm := Lib.hid (HB.out.trans (hb.mono HB.out.size))
          have HXm := Lib.hid (below_at' hb HX.out)
          have HPm := Lib.hid (below_at' hb HP.out)
          have HRm := Lib.hid (below_at' hb HR.out)
          have HQm := Lib.hid (below_at' hb HQ.out)
          clear hb HB HX HP HR HQ
          have HB := HBm
          have HX := HXm
          have HP := HPm
          have HR := HRm
          have HQ := HQm
          clear HBm HXm HPm HRm HQm
          have hS2 : a7.heap[X]? = some (.cells #[.int .u64 a, .int .u64 b, .int .u64 c, .int .u64 f] 24 (0, 0)) := HX.out
          refine hK _ _ (fun _ _ => hS2) ?_
          clear hK hS
          have hS := hS2
          clear hS2
          refine till_take 5 (some 24) rfl rfl (by kernel_rfl) (by kernel_rfl) (by kernel_rfl) (by kernel_rfl) (by kernel_rfl) (by kernel_rfl) (fun _ _ _ h => h) (.inl ⟨by rfl, fun w' _ => (by go_simp; rfl)⟩) hS ?_
          go_frame
          refine till_take 6 (some 30) rfl rfl (by kernel_rfl) (by kernel_rfl) (by kernel_rfl) (by kernel_rfl) (by kernel_rfl) (by kernel_rfl) (fun _ _ _ h => h) (.inl ⟨by rfl, fun w' _ => (by go_simp; rfl)⟩) hS ?_
          go_frame
          refine till_take 7 (some 31) rfl rfl (by kernel_rfl) (by kernel_rfl) (by kernel_rfl) (by kernel_rfl) (by kernel_rfl) (by kernel_rfl) (fun _ _ _ h => h) (.inl ⟨by rfl, fun w' _ => (by go_simp; rfl)⟩) hS ?_
          go_frame
          refine till_one 9 rfl (by kernel_rfl) fun K hK => ?_
          simp only [List.getElem_toArray, List.getElem_cons_succ, List.getElem_cons_zero]
          rw [if_pos (by rfl)]
          refine wp_store_row_g (t := 24) (old := u0) 24 _ _ rfl Q #[.int .u64 qa, .int .u64 qb, .int .u64 qc, .int .u64 qd] rfl rfl HQ.out Try.sizeU rfl (one_u64 _ _ _ _) ?_
          intro a8 hxQ kQ zQ
          clear zQ
          have HBm := Lib.hid (HB.out.trans (kQ.below (B := w.heap.size) (fun y hy e => by have := WQ.out; omega) HB.out.size))
          have HXm := Lib.hid (kQ.at HX.out NXQ.out)
          have HPm := Lib.hid (kQ.at HP.out NPQ.out)
          have HRm := Lib.hid (kQ.at HR.out NRQ.out)
          have HQm := Lib.hid hxQ
          clear hxQ kQ HB HX HP HR HQ
          have HB := HBm
          have HX := HXm
          have HP := HPm
          have HR := HRm
          have HQ := HQm
          clear HBm HXm HPm HRm HQm
          have hS2 : a8.heap[X]? = some (.cells #[.int .u64 a, .int .u64 b, .int .u64 c, .int .u64 f] 24 (0, 0)) := HX.out
          refine hK _ _ (fun _ _ => hS2) ?_
          clear hK hS
          have hS := hS2
          clear hS2
          refine till_take 10 (some 8) rfl rfl (by kernel_rfl) (by kernel_rfl) (by kernel_rfl) (by kernel_rfl) (by kernel_rfl) (by kernel_rfl) (fun _ _ _ h => h) (.inl ⟨by rfl, fun w' _ => (by go_simp; rfl)⟩) hS ?_
          go_frame
          refine till_done (by kernel_rfl) ?_ _
          clear hS
          go_wp2_with (first
            | (refine wpList_load_row rfl 24 _ rfl X rfl 24 _ _ _ HX.out Try.underlying24 rfl Try.sizeU ?_)
            | (refine wpList_load_row rfl 24 _ rfl Q rfl 24 _ _ _ HQ.out Try.underlying24 rfl Try.sizeU ?_))
          refine (rsub_any HU.out HQU.out _).mono ?_
          rw [decide_eq_true (prt_le HN.out)]
          rintro e a9 ⟨ya, yb, yc, yd, hu, rfl, hb⟩
          first | rw [if_pos trivial] at hu | rw [if_pos rfl] at hu
          have HYU := Lib.hid hu
          clear hu
          have HBm := Lib.hid (HB.out.trans (hb.mono HB.out.size))
          have HXm := Lib.hid (below_at' hb HX.out)
          have HPm := Lib.hid (below_at' hb HP.out)
          have HRm := Lib.hid (below_at' hb HR.out)
          have HQm := Lib.hid (below_at' hb HQ.out)
          clear hb HB HX HP HR HQ
          have HB := HBm
          have HX := HXm
          have HP := HPm
          have HR := HRm
          have HQ := HQm
          clear HBm HXm HPm HRm HQm
          go_wp2_with (refine wpList_alloc_g rfl _ rfl _ _ Try.zeroUz rfl ?_)
          intro V a10 hV
          go_wp2_with (refine wpList_store_row_g (t := 24) (old := u0) rfl 24 _ _ rfl V #[.int .u64 ya, .int .u64 yb, .int .u64 yc, .int .u64 yd] rfl rfl hV.out.cells Try.sizeU rfl (one_u64 _ _ _ _) ?_)
          intro a11 hxV kV zV
          clear zV
          have hbV : Below a9.heap.size a9 a11 := hV.out.below.trans (kV.below (B := a9.heap.size) (fun x hx e => by have := hV.out.eq; omega) hV.out.below.size)
          have WV : Hid (w.heap.size ≤ V) := Lib.hid (by rw [hV.out.eq]; exact (HB.out).size)
          have NXV : Hid (X ≠ V) := Lib.hid (by have := hV.out.eq; have := heap_lt HX.out; omega)
          have NPV : Hid (P ≠ V) := Lib.hid (by have := hV.out.eq; have := heap_lt HP.out; omega)
          have NRV : Hid (R ≠ V) := Lib.hid (by have := hV.out.eq; have := heap_lt HR.out; omega)
          have NQV : Hid (Q ≠ V) := Lib.hid (by have := hV.out.eq; have := heap_lt HQ.out; omega)
          have HVz := Lib.hid hxV
          clear hV hxV kV
          have HBm := Lib.hid (HB.out.trans (hbV.mono HB.out.size))
          have HXm := Lib.hid (below_at' hbV HX.out)
          have HPm := Lib.hid (below_at' hbV HP.out)
          have HRm := Lib.hid (below_at' hbV HR.out)
          have HQm := Lib.hid (below_at' hbV HQ.out)
          clear hbV HB HX HP HR HQ
          have HB := HBm
          have HX := HXm
          have HP := HPm
          have HR := HRm
          have HQ := HQm
          clear HBm HXm HPm HRm HQm
          have HV := HVz
          clear HVz
          go_wp2_with fail
          obtain ⟨a12, hwz⟩ : ∃ wz, wz = a11.drew := ⟨_, rfl⟩
          have hbz : Below a11.heap.size a11 a12 := by rw [hwz]; exact (Below.refl _ _).drew
          have HBm := Lib.hid (HB.out.trans (hbz.mono HB.out.size))
          have HXm := Lib.hid (below_at' hbz HX.out)
          have HPm := Lib.hid (below_at' hbz HP.out)
          have HRm := Lib.hid (below_at' hbz HR.out)
          have HQm := Lib.hid (below_at' hbz HQ.out)
          have HVm := Lib.hid (below_at' hbz HV.out)
          clear hbz HB HX HP HR HQ HV
          have HB := HBm
          have HX := HXm
          have HP := HPm
          have HR := HRm
          have HQ := HQm
          have HV := HVm
          clear HBm HXm HPm HRm HQm HVm
          have hS : a12.heap[Q]? = some (.cells #[.int .u64 qa, .int .u64 qb, .int .u64 qc, .int .u64 qd] 24 (0, 0)) ∧ a12.heap[V]? = some (.cells #[.int .u64 ya, .int .u64 yb, .int .u64 yc, .int .u64 yd] 24 (0, 0)) := ⟨HQ.out, HV.out⟩
          refine wp_region_till (fun w' => w'.heap[Q]? = some (.cells #[.int .u64 qa, .int .u64 qb, .int .u64 qc, .int .u64 qd] 24 (0, 0)) ∧ w'.heap[V]? = some (.cells #[.int .u64 ya, .int .u64 yb, .int .u64 yc, .int .u64 yd] 24 (0, 0))) 5 5 (by kernel_rfl) rfl ?_
          rw [← hwz]
          clear hwz
          refine till_take 0 (some 38) rfl rfl (by kernel_rfl) (by kernel_rfl) (by kernel_rfl) (by kernel_rfl) (by kernel_rfl) (by kernel_rfl) (fun _ _ _ h => h) (yields_load (by rfl) 24 _ rfl (.pointer (some ⟨Q, 0, none⟩)) rfl (.agg #[.int .u64 qa, .int .u64 qb, .int .u64 qc, .int .u64 qd]) (fun w' hS' => load_heap (hS'.1) Try.underlying24 rfl Try.sizeU)) hS ?_
          go_frame
          refine till_take 1 (some 39) rfl rfl (by kernel_rfl) (by kernel_rfl) (by kernel_rfl) (by kernel_rfl) (by kernel_rfl) (by kernel_rfl) (fun _ _ _ h => h) (yields_load (by rfl) 24 _ rfl (.pointer (some ⟨V, 0, none⟩)) rfl (.agg #[.int .u64 ya, .int .u64 yb, .int .u64 yc, .int .u64 yd]) (fun w' hS' => load_heap (hS'.2) Try.underlying24 rfl Try.sizeU)) hS ?_
          go_frame
          refine till_one 2 rfl (by kernel_rfl) fun K hK => ?_
          simp only [List.getElem_toArray, List.getElem_cons_succ, List.getElem_cons_zero]
          rw [if_pos (by rfl)]
          refine wp_store_row_g (t := 24) (old := u0) 24 _ _ rfl P #[.int .u64 qa, .int .u64 qb, .int .u64 qc, .int .u64 qd] rfl rfl HP.out Try.sizeU rfl (one_u64 _ _ _ _) ?_
          intro a13 hxP kP zP
          clear zP
          have HBm := Lib.hid (HB.out.trans (kP.below (B := w.heap.size) (fun y hy e => by have := WP.out; omega) HB.out.size))
          have HXm := Lib.hid (kP.at HX.out NXP.out)
          have HRm := Lib.hid (kP.at HR.out (fun e => NPR.out e.symm))
          have HQm := Lib.hid (kP.at HQ.out (fun e => NPQ.out e.symm))
          have HVm := Lib.hid (kP.at HV.out (fun e => NPV.out e.symm))
          have HPm := Lib.hid hxP
          clear hxP kP HB HX HP HR HQ HV
          have HB := HBm
          have HX := HXm
          have HP := HPm
          have HR := HRm
          have HQ := HQm
          have HV := HVm
          clear HBm HXm HPm HRm HQm HVm
          have hS2 : a13.heap[Q]? = some (.cells #[.int .u64 qa, .int .u64 qb, .int .u64 qc, .int .u64 qd] 24 (0, 0)) ∧ a13.heap[V]? = some (.cells #[.int .u64 ya, .int .u64 yb, .int .u64 yc, .int .u64 yd] 24 (0, 0)) := ⟨HQ.out, HV.out⟩
          refine hK _ _ (fun _ _ => hS2) ?_
          clear hK hS
          have hS := hS2
          clear hS2
          refine till_one 3 rfl (by kernel_rfl) fun K hK => ?_
          simp only [List.getElem_toArray, List.getElem_cons_succ, List.getElem_cons_zero]
          rw [if_pos (by rfl)]
          refine wp_store_row_g (t := 24) (old := u0) 24 _ _ rfl R #[.int .u64 ya, .int .u64 yb, .int .u64 yc, .int .u64 yd] rfl rfl HR.out Try.sizeU rfl (one_u64 _ _ _ _) ?_
          intro a14 hxR kR zR
          clear zR
          have HBm := Lib.hid (HB.out.trans (kR.below (B := w.heap.size) (fun y hy e => by have := WR.out; omega) HB.out.size))
          have HXm := Lib.hid (kR.at HX.out NXR.out)
          have HPm := Lib.hid (kR.at HP.out NPR.out)
          have HQm := Lib.hid (kR.at HQ.out (fun e => NRQ.out e.symm))
          have HVm := Lib.hid (kR.at HV.out (fun e => NRV.out e.symm))
          have HRm := Lib.hid hxR
          clear hxR kR HB HX HP HR HQ HV
          have HB := HBm
          have HX := HXm
          have HP := HPm
          have HR := HRm
          have HQ := HQm
          have HV := HVm
          clear HBm HXm HPm HRm HQm HVm
          have hS2 : a14.heap[Q]? = some (.cells #[.int .u64 qa, .int .u64 qb, .int .u64 qc, .int .u64 qd] 24 (0, 0)) ∧ a14.heap[V]? = some (.cells #[.int .u64 ya, .int .u64 yb, .int .u64 yc, .int .u64 yd] 24 (0, 0)) := ⟨HQ.out, HV.out⟩
          refine hK _ _ (fun _ _ => hS2) ?_
          clear hK hS
          have hS := hS2
          clear hS2
          refine till_take 4 (some 6) rfl rfl (by kernel_rfl) (by kernel_rfl) (by kernel_rfl) (by kernel_rfl) (by kernel_rfl) (by kernel_rfl) (fun _ _ _ h => h) (.inl ⟨by rfl, fun w' _ => (by go_simp; rfl)⟩) hS ?_
          go_frame
          refine till_done (by kernel_rfl) ?_ _
          clear hS
          go_wp2_with fail
          exact bodyPost_ret (res_three rfl _ _ P R _ _ _ _ _ _ _ rfl HP.out rfl HR.out Try.underlying24 rfl Try.sizeU Try.sizeU _ rfl) rfl ⟨_, _, _, _, _, _, _, _, by rw [HZ.out.1]; exact HQU.out, by rw [HZ.out.2]; exact HYU.out, rfl, HB.out⟩
      · simp only [List.getElem_toArray, List.getElem_cons_succ, List.getElem_cons_zero]
        rw [if_pos (by rfl)]
        refine wp_alloc_g 24 rfl _ _ Try.zeroUz rfl ?_
        intro Q a5 hQ
        have WQ : Hid (w.heap.size ≤ Q) := Lib.hid (by rw [hQ.out.eq]; exact (HB.out).size)
        have NXQ : Hid (X ≠ Q) := Lib.hid (by have := hQ.out.eq; have := heap_lt HX.out; omega)
        have NPQ : Hid (P ≠ Q) := Lib.hid (by have := hQ.out.eq; have := heap_lt HP.out; omega)
        have NRQ : Hid (R ≠ Q) := Lib.hid (by have := hQ.out.eq; have := heap_lt HR.out; omega)
        have HQz := Lib.hid hQ.out.cells; have hbQ := hQ.out.below
        clear hQ
        have HBm := Lib.hid (HB.out.trans (hbQ.mono HB.out.size))
        have HXm := Lib.hid (below_at' hbQ HX.out)
        have HPm := Lib.hid (below_at' hbQ HP.out)
        have HRm := Lib.hid (below_at' hbQ HR.out)
        clear hbQ HB HX HP HR
        have HB := HBm
        have HX := HXm
        have HP := HPm
        have HR := HRm
        clear HBm HXm HPm HRm
        have HQ := HQz
        clear HQz
        have hS2 : a5.heap[X]? = some (.cells #[.int .u64 a, .int .u64 b, .int .u64 c, .int .u64 f] 24 (0, 0)) := HX.out
        refine hK _ _ (fun _ _ => hS2) ?_
        clear hK hS
        have hS := hS2
        clear hS2
        refine till_one 3 rfl (by kernel_rfl) fun K hK => ?_
        simp only [List.getElem_toArray, List.getElem_cons_succ, List.getElem_cons_zero]
        rw [if_pos (by rfl)]
        go_simp
        refine (rnum_any (n := 10000) (by decide) _).mono ?_
        rintro e a6 ⟨rfl, hb⟩
        have HBm := Lib.hid (HB.out.trans (hb.mono HB.out.size))
        have HXm := Lib.hid (below_at' hb HX.out)
        have HPm := Lib.hid (below_at' hb HP.out)
        have HRm := Lib.hid (below_at' hb HR.out)
        have HQm := Lib.hid (below_at' hb HQ.out)
        clear hb HB HX HP HR HQ
        have HB := HBm
        have HX := HXm
        have HP := HPm
        have HR := HRm
        have HQ := HQm
        clear HBm HXm HPm HRm HQm
        have hS2 : a6.heap[X]? = some (.cells #[.int .u64 a, .int .u64 b, .int .u64 c, .int .u64 f] 24 (0, 0)) := HX.out
        refine hK _ _ (fun _ _ => hS2) ?_
        clear hK hS
        have hS := hS2
        clear hS2
        refine till_one 4 rfl (by kernel_rfl) fun K hK => ?_
        simp only [List.getElem_toArray, List.getElem_cons_succ, List.getElem_cons_zero]
        rw [if_pos (by rfl)]
        go_simp
        refine (rdown_any (m := n) (d := 10000) HU.out (small_u (by have := HN.out; omega)) (small_u (d := 10000) (by decide)) (by decide) _).mono ?_
        rw [decide_eq_true (show x * n / 10000 < uMax by have := prt_le (a := x) HN.out; unfold prt at this; have := HU.out.lt; omega)]
        rintro e a7 ⟨qa, qb, qc, qd, hq, rfl, hb⟩
        first | rw [if_pos trivial] at hq | rw [if_pos rfl] at hq
        have HQU : Hid (UIs qa qb qc qd (prt n x)) := Lib.hid hq
        clear hq
        have HBm := Lib.hid (HB.out.trans (hb.mono HB.out.size))
        have HXm := Lib.hid (below_at' hb HX.out)
        have HPm := Lib.hid (below_at' hb HP.out)
        have HRm := Lib.hid (below_at' hb HR.out)
        have HQm := Lib.hid (below_at' hb HQ.out)
        clear hb HB HX HP HR HQ
        have HB := HBm
        have HX := HXm
        have HP := HPm
        have HR := HRm
        have HQ := HQm
        clear HBm HXm HPm HRm HQm
        have hS2 : a7.heap[X]? = some (.cells #[.int .u64 a, .int .u64 b, .int .u64 c, .int .u64 f] 24 (0, 0)) := HX.out
        refine hK _ _ (fun _ _ => hS2) ?_
        clear hK hS
        have hS := hS2
        clear hS2
        refine till_take 5 (some 24) rfl rfl (by kernel_rfl) (by kernel_rfl) (by kernel_rfl) (by kernel_rfl) (by kernel_rfl) (by kernel_rfl) (fun _ _ _ h => h) (.inl ⟨by rfl, fun w' _ => (by go_simp; rfl)⟩) hS ?_
        go_frame
        refine till_take 6 (some 30) rfl rfl (by kernel_rfl) (by kernel_rfl) (by kernel_rfl) (by kernel_rfl) (by kernel_rfl) (by kernel_rfl) (fun _ _ _ h => h) (.inl ⟨by rfl, fun w' _ => (by go_simp; rfl)⟩) hS ?_
        go_frame
        refine till_take 7 (some 31) rfl rfl (by kernel_rfl) (by kernel_rfl) (by kernel_rfl) (by kernel_rfl) (by kernel_rfl) (by kernel_rfl) (fun _ _ _ h => h) (.inl ⟨by rfl, fun w' _ => (by go_simp; rfl)⟩) hS ?_
        go_frame
        refine till_one 9 rfl (by kernel_rfl) fun K hK => ?_
        simp only [List.getElem_toArray, List.getElem_cons_succ, List.getElem_cons_zero]
        rw [if_pos (by rfl)]
        refine wp_store_row_g (t := 24) (old := u0) 24 _ _ rfl Q #[.int .u64 qa, .int .u64 qb, .int .u64 qc, .int .u64 qd] rfl rfl HQ.out Try.sizeU rfl (one_u64 _ _ _ _) ?_
        intro a8 hxQ kQ zQ
        clear zQ
        have HBm := Lib.hid (HB.out.trans (kQ.below (B := w.heap.size) (fun y hy e => by have := WQ.out; omega) HB.out.size))
        have HXm := Lib.hid (kQ.at HX.out NXQ.out)
        have HPm := Lib.hid (kQ.at HP.out NPQ.out)
        have HRm := Lib.hid (kQ.at HR.out NRQ.out)
        have HQm := Lib.hid hxQ
        clear hxQ kQ HB HX HP HR HQ
        have HB := HBm
        have HX := HXm
        have HP := HPm
        have HR := HRm
        have HQ := HQm
        clear HBm HXm HPm HRm HQm
        have hS2 : a8.heap[X]? = some (.cells #[.int .u64 a, .int .u64 b, .int .u64 c, .int .u64 f] 24 (0, 0)) := HX.out
        refine hK _ _ (fun _ _ => hS2) ?_
        clear hK hS
        have hS := hS2
        clear hS2
        refine till_take 10 (some 8) rfl rfl (by kernel_rfl) (by kernel_rfl) (by kernel_rfl) (by kernel_rfl) (by kernel_rfl) (by kernel_rfl) (fun _ _ _ h => h) (.inl ⟨by rfl, fun w' _ => (by go_simp; rfl)⟩) hS ?_
        go_frame
        refine till_done (by kernel_rfl) ?_ _
        clear hS
        go_wp2_with (first
          | (refine wpList_load_row rfl 24 _ rfl X rfl 24 _ _ _ HX.out Try.underlying24 rfl Try.sizeU ?_)
          | (refine wpList_load_row rfl 24 _ rfl Q rfl 24 _ _ _ HQ.out Try.underlying24 rfl Try.sizeU ?_))
        refine (rsub_any HU.out HQU.out _).mono ?_
        rw [decide_eq_true (prt_le HN.out)]
        rintro e a9 ⟨ya, yb, yc, yd, hu, rfl, hb⟩
        first | rw [if_pos trivial] at hu | rw [if_pos rfl] at hu
        have HYU := Lib.hid hu
        clear hu
        have HBm := Lib.hid (HB.out.trans (hb.mono HB.out.size))
        have HXm := Lib.hid (below_at' hb HX.out)
        have HPm := Lib.hid (below_at' hb HP.out)
        have HRm := Lib.hid (below_at' hb HR.out)
        have HQm := Lib.hid (below_at' hb HQ.out)
        clear hb HB HX HP HR HQ
        have HB := HBm
        have HX := HXm
        have HP := HPm
        have HR := HRm
        have HQ := HQm
        clear HBm HXm HPm HRm HQm
        go_wp2_with (refine wpList_alloc_g rfl _ rfl _ _ Try.zeroUz rfl ?_)
        intro V a10 hV
        go_wp2_with (refine wpList_store_row_g (t := 24) (old := u0) rfl 24 _ _ rfl V #[.int .u64 ya, .int .u64 yb, .int .u64 yc, .int .u64 yd] rfl rfl hV.out.cells Try.sizeU rfl (one_u64 _ _ _ _) ?_)
        intro a11 hxV kV zV
        clear zV
        have hbV : Below a9.heap.size a9 a11 := hV.out.below.trans (kV.below (B := a9.heap.size) (fun x hx e => by have := hV.out.eq; omega) hV.out.below.size)
        have WV : Hid (w.heap.size ≤ V) := Lib.hid (by rw [hV.out.eq]; exact (HB.out).size)
        have NXV : Hid (X ≠ V) := Lib.hid (by have := hV.out.eq; have := heap_lt HX.out; omega)
        have NPV : Hid (P ≠ V) := Lib.hid (by have := hV.out.eq; have := heap_lt HP.out; omega)
        have NRV : Hid (R ≠ V) := Lib.hid (by have := hV.out.eq; have := heap_lt HR.out; omega)
        have NQV : Hid (Q ≠ V) := Lib.hid (by have := hV.out.eq; have := heap_lt HQ.out; omega)
        have HVz := Lib.hid hxV
        clear hV hxV kV
        have HBm := Lib.hid (HB.out.trans (hbV.mono HB.out.size))
        have HXm := Lib.hid (below_at' hbV HX.out)
        have HPm := Lib.hid (below_at' hbV HP.out)
        have HRm := Lib.hid (below_at' hbV HR.out)
        have HQm := Lib.hid (below_at' hbV HQ.out)
        clear hbV HB HX HP HR HQ
        have HB := HBm
        have HX := HXm
        have HP := HPm
        have HR := HRm
        have HQ := HQm
        clear HBm HXm HPm HRm HQm
        have HV := HVz
        clear HVz
        go_wp2_with fail
        obtain ⟨a12, hwz⟩ : ∃ wz, wz = a11.drew := ⟨_, rfl⟩
        have hbz : Below a11.heap.size a11 a12 := by rw [hwz]; exact (Below.refl _ _).drew
        have HBm := Lib.hid (HB.out.trans (hbz.mono HB.out.size))
        have HXm := Lib.hid (below_at' hbz HX.out)
        have HPm := Lib.hid (below_at' hbz HP.out)
        have HRm := Lib.hid (below_at' hbz HR.out)
        have HQm := Lib.hid (below_at' hbz HQ.out)
        have HVm := Lib.hid (below_at' hbz HV.out)
        clear hbz HB HX HP HR HQ HV
        have HB := HBm
        have HX := HXm
        have HP := HPm
        have HR := HRm
        have HQ := HQm
        have HV := HVm
        clear HBm HXm HPm HRm HQm HVm
        have hS : a12.heap[Q]? = some (.cells #[.int .u64 qa, .int .u64 qb, .int .u64 qc, .int .u64 qd] 24 (0, 0)) ∧ a12.heap[V]? = some (.cells #[.int .u64 ya, .int .u64 yb, .int .u64 yc, .int .u64 yd] 24 (0, 0)) := ⟨HQ.out, HV.out⟩
        refine wp_region_till (fun w' => w'.heap[Q]? = some (.cells #[.int .u64 qa, .int .u64 qb, .int .u64 qc, .int .u64 qd] 24 (0, 0)) ∧ w'.heap[V]? = some (.cells #[.int .u64 ya, .int .u64 yb, .int .u64 yc, .int .u64 yd] 24 (0, 0))) 5 5 (by kernel_rfl) rfl ?_
        rw [← hwz]
        clear hwz
        refine till_take 0 (some 38) rfl rfl (by kernel_rfl) (by kernel_rfl) (by kernel_rfl) (by kernel_rfl) (by kernel_rfl) (by kernel_rfl) (fun _ _ _ h => h) (yields_load (by rfl) 24 _ rfl (.pointer (some ⟨Q, 0, none⟩)) rfl (.agg #[.int .u64 qa, .int .u64 qb, .int .u64 qc, .int .u64 qd]) (fun w' hS' => load_heap (hS'.1) Try.underlying24 rfl Try.sizeU)) hS ?_
        go_frame
        refine till_take 1 (some 39) rfl rfl (by kernel_rfl) (by kernel_rfl) (by kernel_rfl) (by kernel_rfl) (by kernel_rfl) (by kernel_rfl) (fun _ _ _ h => h) (yields_load (by rfl) 24 _ rfl (.pointer (some ⟨V, 0, none⟩)) rfl (.agg #[.int .u64 ya, .int .u64 yb, .int .u64 yc, .int .u64 yd]) (fun w' hS' => load_heap (hS'.2) Try.underlying24 rfl Try.sizeU)) hS ?_
        go_frame
        refine till_one 2 rfl (by kernel_rfl) fun K hK => ?_
        simp only [List.getElem_toArray, List.getElem_cons_succ, List.getElem_cons_zero]
        rw [if_pos (by rfl)]
        refine wp_store_row_g (t := 24) (old := u0) 24 _ _ rfl P #[.int .u64 qa, .int .u64 qb, .int .u64 qc, .int .u64 qd] rfl rfl HP.out Try.sizeU rfl (one_u64 _ _ _ _) ?_
        intro a13 hxP kP zP
        clear zP
        have HBm := Lib.hid (HB.out.trans (kP.below (B := w.heap.size) (fun y hy e => by have := WP.out; omega) HB.out.size))
        have HXm := Lib.hid (kP.at HX.out NXP.out)
        have HRm := Lib.hid (kP.at HR.out (fun e => NPR.out e.symm))
        have HQm := Lib.hid (kP.at HQ.out (fun e => NPQ.out e.symm))
        have HVm := Lib.hid (kP.at HV.out (fun e => NPV.out e.symm))
        have HPm := Lib.hid hxP
        clear hxP kP HB HX HP HR HQ HV
        have HB := HBm
        have HX := HXm
        have HP := HPm
        have HR := HRm
        have HQ := HQm
        have HV := HVm
        clear HBm HXm HPm HRm HQm HVm
        have hS2 : a13.heap[Q]? = some (.cells #[.int .u64 qa, .int .u64 qb, .int .u64 qc, .int .u64 qd] 24 (0, 0)) ∧ a13.heap[V]? = some (.cells #[.int .u64 ya, .int .u64 yb, .int .u64 yc, .int .u64 yd] 24 (0, 0)) := ⟨HQ.out, HV.out⟩
        refine hK _ _ (fun _ _ => hS2) ?_
        clear hK hS
        have hS := hS2
        clear hS2
        refine till_one 3 rfl (by kernel_rfl) fun K hK => ?_
        simp only [List.getElem_toArray, List.getElem_cons_succ, List.getElem_cons_zero]
        rw [if_pos (by rfl)]
        refine wp_store_row_g (t := 24) (old := u0) 24 _ _ rfl R #[.int .u64 ya, .int .u64 yb, .int .u64 yc, .int .u64 yd] rfl rfl HR.out Try.sizeU rfl (one_u64 _ _ _ _) ?_
        intro a14 hxR kR zR
        clear zR
        have HBm := Lib.hid (HB.out.trans (kR.below (B := w.heap.size) (fun y hy e => by have := WR.out; omega) HB.out.size))
        have HXm := Lib.hid (kR.at HX.out NXR.out)
        have HPm := Lib.hid (kR.at HP.out NPR.out)
        have HQm := Lib.hid (kR.at HQ.out (fun e => NRQ.out e.symm))
        have HVm := Lib.hid (kR.at HV.out (fun e => NRV.out e.symm))
        have HRm := Lib.hid hxR
        clear hxR kR HB HX HP HR HQ HV
        have HB := HBm
        have HX := HXm
        have HP := HPm
        have HR := HRm
        have HQ := HQm
        have HV := HVm
        clear HBm HXm HPm HRm HQm HVm
        have hS2 : a14.heap[Q]? = some (.cells #[.int .u64 qa, .int .u64 qb, .int .u64 qc, .int .u64 qd] 24 (0, 0)) ∧ a14.heap[V]? = some (.cells #[.int .u64 ya, .int .u64 yb, .int .u64 yc, .int .u64 yd] 24 (0, 0)) := ⟨HQ.out, HV.out⟩
        refine hK _ _ (fun _ _ => hS2) ?_
        clear hK hS
        have hS := hS2
        clear hS2
        refine till_take 4 (some 6) rfl rfl (by kernel_rfl) (by kernel_rfl) (by kernel_rfl) (by kernel_rfl) (by kernel_rfl) (by kernel_rfl) (fun _ _ _ h => h) (.inl ⟨by rfl, fun w' _ => (by go_simp; rfl)⟩) hS ?_
        go_frame
        refine till_done (by kernel_rfl) ?_ _
        clear hS
        go_wp2_with fail
        exact bodyPost_ret (res_three rfl _ _ P R _ _ _ _ _ _ _ rfl HP.out rfl HR.out Try.underlying24 rfl Try.sizeU Try.sizeU _ rfl) rfl ⟨_, _, _, _, _, _, _, _, by rw [HZ.out.1]; exact HQU.out, by rw [HZ.out.2]; exact HYU.out, rfl, HB.out⟩
    · simp only [List.getElem_toArray, List.getElem_cons_succ, List.getElem_cons_zero]
      rw [if_pos (by rfl)]
      refine wp_alloc_g 24 rfl _ _ Try.zeroUz rfl ?_
      intro Q a4 hQ
      have WQ : Hid (w.heap.size ≤ Q) := Lib.hid (by rw [hQ.out.eq]; exact (HB.out).size)
      have NXQ : Hid (X ≠ Q) := Lib.hid (by have := hQ.out.eq; have := heap_lt HX.out; omega)
      have NPQ : Hid (P ≠ Q) := Lib.hid (by have := hQ.out.eq; have := heap_lt HP.out; omega)
      have NRQ : Hid (R ≠ Q) := Lib.hid (by have := hQ.out.eq; have := heap_lt HR.out; omega)
      have HQz := Lib.hid hQ.out.cells; have hbQ := hQ.out.below
      clear hQ
      have HBm := Lib.hid (HB.out.trans (hbQ.mono HB.out.size))
      have HXm := Lib.hid (below_at' hbQ HX.out)
      have HPm := Lib.hid (below_at' hbQ HP.out)
      have HRm := Lib.hid (below_at' hbQ HR.out)
      clear hbQ HB HX HP HR
      have HB := HBm
      have HX := HXm
      have HP := HPm
      have HR := HRm
      clear HBm HXm HPm HRm
      have HQ := HQz
      clear HQz
      have hS2 : a4.heap[X]? = some (.cells #[.int .u64 a, .int .u64 b, .int .u64 c, .int .u64 f] 24 (0, 0)) := HX.out
      refine hK _ _ (fun _ _ => hS2) ?_
      clear hK hS
      have hS := hS2
      clear hS2
      refine till_one 2 rfl (by kernel_rfl) fun K hK => ?_
      simp only [List.getElem_toArray, List.getElem_cons_succ, List.getElem_cons_zero]
      rw [if_pos (by rfl)]
      go_simp
      refine (rnum_any HN.out _).mono ?_
      rintro e a5 ⟨rfl, hb⟩
      have HBm := Lib.hid (HB.out.trans (hb.mono HB.out.size))
      have HXm := Lib.hid (below_at' hb HX.out)
      have HPm := Lib.hid (below_at' hb HP.out)
      have HRm := Lib.hid (below_at' hb HR.out)
      have HQm := Lib.hid (below_at' hb HQ.out)
      clear hb HB HX HP HR HQ
      have HB := HBm
      have HX := HXm
      have HP := HPm
      have HR := HRm
      have HQ := HQm
      clear HBm HXm HPm HRm HQm
      have hS2 : a5.heap[X]? = some (.cells #[.int .u64 a, .int .u64 b, .int .u64 c, .int .u64 f] 24 (0, 0)) := HX.out
      refine hK _ _ (fun _ _ => hS2) ?_
      clear hK hS
      have hS := hS2
      clear hS2
      refine till_one 3 rfl (by kernel_rfl) fun K hK => ?_
      simp only [List.getElem_toArray, List.getElem_cons_succ, List.getElem_cons_zero]
      rw [if_pos (by rfl)]
      go_simp
      refine (rnum_any (n := 10000) (by decide) _).mono ?_
      rintro e a6 ⟨rfl, hb⟩
      have HBm := Lib.hid (HB.out.trans (hb.mono HB.out.size))
      have HXm := Lib.hid (below_at' hb HX.out)
      have HPm := Lib.hid (below_at' hb HP.out)
      have HRm := Lib.hid (below_at' hb HR.out)
      have HQm := Lib.hid (below_at' hb HQ.out)
      clear hb HB HX HP HR HQ
      have HB := HBm
      have HX := HXm
      have HP := HPm
      have HR := HRm
      have HQ := HQm
      clear HBm HXm HPm HRm HQm
      have hS2 : a6.heap[X]? = some (.cells #[.int .u64 a, .int .u64 b, .int .u64 c, .int .u64 f] 24 (0, 0)) := HX.out
      refine hK _ _ (fun _ _ => hS2) ?_
      clear hK hS
      have hS := hS2
      clear hS2
      refine till_one 4 rfl (by kernel_rfl) fun K hK => ?_
      simp only [List.getElem_toArray, List.getElem_cons_succ, List.getElem_cons_zero]
      rw [if_pos (by rfl)]
      go_simp
      refine (rdown_any (m := n) (d := 10000) HU.out (small_u (by have := HN.out; omega)) (small_u (d := 10000) (by decide)) (by decide) _).mono ?_
      rw [decide_eq_true (show x * n / 10000 < uMax by have := prt_le (a := x) HN.out; unfold prt at this; have := HU.out.lt; omega)]
      rintro e a7 ⟨qa, qb, qc, qd, hq, rfl, hb⟩
      first | rw [if_pos trivial] at hq | rw [if_pos rfl] at hq
      have HQU : Hid (UIs qa qb qc qd (prt n x)) := Lib.hid hq
      clear hq
      have HBm := Lib.hid (HB.out.trans (hb.mono HB.out.size))
      have HXm := Lib.hid (below_at' hb HX.out)
      have HPm := Lib.hid (below_at' hb HP.out)
      have HRm := Lib.hid (below_at' hb HR.out)
      have HQm := Lib.hid (below_at' hb HQ.out)
      clear hb HB HX HP HR HQ
      have HB := HBm
      have HX := HXm
      have HP := HPm
      have HR := HRm
      have HQ := HQm
      clear HBm HXm HPm HRm HQm
      have hS2 : a7.heap[X]? = some (.cells #[.int .u64 a, .int .u64 b, .int .u64 c, .int .u64 f] 24 (0, 0)) := HX.out
      refine hK _ _ (fun _ _ => hS2) ?_
      clear hK hS
      have hS := hS2
      clear hS2
      refine till_take 5 (some 24) rfl rfl (by kernel_rfl) (by kernel_rfl) (by kernel_rfl) (by kernel_rfl) (by kernel_rfl) (by kernel_rfl) (fun _ _ _ h => h) (.inl ⟨by rfl, fun w' _ => (by go_simp; rfl)⟩) hS ?_
      go_frame
      refine till_take 6 (some 30) rfl rfl (by kernel_rfl) (by kernel_rfl) (by kernel_rfl) (by kernel_rfl) (by kernel_rfl) (by kernel_rfl) (fun _ _ _ h => h) (.inl ⟨by rfl, fun w' _ => (by go_simp; rfl)⟩) hS ?_
      go_frame
      refine till_take 7 (some 31) rfl rfl (by kernel_rfl) (by kernel_rfl) (by kernel_rfl) (by kernel_rfl) (by kernel_rfl) (by kernel_rfl) (fun _ _ _ h => h) (.inl ⟨by rfl, fun w' _ => (by go_simp; rfl)⟩) hS ?_
      go_frame
      refine till_one 9 rfl (by kernel_rfl) fun K hK => ?_
      simp only [List.getElem_toArray, List.getElem_cons_succ, List.getElem_cons_zero]
      rw [if_pos (by rfl)]
      refine wp_store_row_g (t := 24) (old := u0) 24 _ _ rfl Q #[.int .u64 qa, .int .u64 qb, .int .u64 qc, .int .u64 qd] rfl rfl HQ.out Try.sizeU rfl (one_u64 _ _ _ _) ?_
      intro a8 hxQ kQ zQ
      clear zQ
      have HBm := Lib.hid (HB.out.trans (kQ.below (B := w.heap.size) (fun y hy e => by have := WQ.out; omega) HB.out.size))
      have HXm := Lib.hid (kQ.at HX.out NXQ.out)
      have HPm := Lib.hid (kQ.at HP.out NPQ.out)
      have HRm := Lib.hid (kQ.at HR.out NRQ.out)
      have HQm := Lib.hid hxQ
      clear hxQ kQ HB HX HP HR HQ
      have HB := HBm
      have HX := HXm
      have HP := HPm
      have HR := HRm
      have HQ := HQm
      clear HBm HXm HPm HRm HQm
      have hS2 : a8.heap[X]? = some (.cells #[.int .u64 a, .int .u64 b, .int .u64 c, .int .u64 f] 24 (0, 0)) := HX.out
      refine hK _ _ (fun _ _ => hS2) ?_
      clear hK hS
      have hS := hS2
      clear hS2
      refine till_take 10 (some 8) rfl rfl (by kernel_rfl) (by kernel_rfl) (by kernel_rfl) (by kernel_rfl) (by kernel_rfl) (by kernel_rfl) (fun _ _ _ h => h) (.inl ⟨by rfl, fun w' _ => (by go_simp; rfl)⟩) hS ?_
      go_frame
      refine till_done (by kernel_rfl) ?_ _
      clear hS
      go_wp2_with (first
        | (refine wpList_load_row rfl 24 _ rfl X rfl 24 _ _ _ HX.out Try.underlying24 rfl Try.sizeU ?_)
        | (refine wpList_load_row rfl 24 _ rfl Q rfl 24 _ _ _ HQ.out Try.underlying24 rfl Try.sizeU ?_))
      refine (rsub_any HU.out HQU.out _).mono ?_
      rw [decide_eq_true (prt_le HN.out)]
      rintro e a9 ⟨ya, yb, yc, yd, hu, rfl, hb⟩
      first | rw [if_pos trivial] at hu | rw [if_pos rfl] at hu
      have HYU := Lib.hid hu
      clear hu
      have HBm := Lib.hid (HB.out.trans (hb.mono HB.out.size))
      have HXm := Lib.hid (below_at' hb HX.out)
      have HPm := Lib.hid (below_at' hb HP.out)
      have HRm := Lib.hid (below_at' hb HR.out)
      have HQm := Lib.hid (below_at' hb HQ.out)
      clear hb HB HX HP HR HQ
      have HB := HBm
      have HX := HXm
      have HP := HPm
      have HR := HRm
      have HQ := HQm
      clear HBm HXm HPm HRm HQm
      go_wp2_with (refine wpList_alloc_g rfl _ rfl _ _ Try.zeroUz rfl ?_)
      intro V a10 hV
      go_wp2_with (refine wpList_store_row_g (t := 24) (old := u0) rfl 24 _ _ rfl V #[.int .u64 ya, .int .u64 yb, .int .u64 yc, .int .u64 yd] rfl rfl hV.out.cells Try.sizeU rfl (one_u64 _ _ _ _) ?_)
      intro a11 hxV kV zV
      clear zV
      have hbV : Below a9.heap.size a9 a11 := hV.out.below.trans (kV.below (B := a9.heap.size) (fun x hx e => by have := hV.out.eq; omega) hV.out.below.size)
      have WV : Hid (w.heap.size ≤ V) := Lib.hid (by rw [hV.out.eq]; exact (HB.out).size)
      have NXV : Hid (X ≠ V) := Lib.hid (by have := hV.out.eq; have := heap_lt HX.out; omega)
      have NPV : Hid (P ≠ V) := Lib.hid (by have := hV.out.eq; have := heap_lt HP.out; omega)
      have NRV : Hid (R ≠ V) := Lib.hid (by have := hV.out.eq; have := heap_lt HR.out; omega)
      have NQV : Hid (Q ≠ V) := Lib.hid (by have := hV.out.eq; have := heap_lt HQ.out; omega)
      have HVz := Lib.hid hxV
      clear hV hxV kV
      have HBm := Lib.hid (HB.out.trans (hbV.mono HB.out.size))
      have HXm := Lib.hid (below_at' hbV HX.out)
      have HPm := Lib.hid (below_at' hbV HP.out)
      have HRm := Lib.hid (below_at' hbV HR.out)
      have HQm := Lib.hid (below_at' hbV HQ.out)
      clear hbV HB HX HP HR HQ
      have HB := HBm
      have HX := HXm
      have HP := HPm
      have HR := HRm
      have HQ := HQm
      clear HBm HXm HPm HRm HQm
      have HV := HVz
      clear HVz
      go_wp2_with fail
      obtain ⟨a12, hwz⟩ : ∃ wz, wz = a11.drew := ⟨_, rfl⟩
      have hbz : Below a11.heap.size a11 a12 := by rw [hwz]; exact (Below.refl _ _).drew
      have HBm := Lib.hid (HB.out.trans (hbz.mono HB.out.size))
      have HXm := Lib.hid (below_at' hbz HX.out)
      have HPm := Lib.hid (below_at' hbz HP.out)
      have HRm := Lib.hid (below_at' hbz HR.out)
      have HQm := Lib.hid (below_at' hbz HQ.out)
      have HVm := Lib.hid (below_at' hbz HV.out)
      clear hbz HB HX HP HR HQ HV
      have HB := HBm
      have HX := HXm
      have HP := HPm
      have HR := HRm
      have HQ := HQm
      have HV := HVm
      clear HBm HXm HPm HRm HQm HVm
      have hS : a12.heap[Q]? = some (.cells #[.int .u64 qa, .int .u64 qb, .int .u64 qc, .int .u64 qd] 24 (0, 0)) ∧ a12.heap[V]? = some (.cells #[.int .u64 ya, .int .u64 yb, .int .u64 yc, .int .u64 yd] 24 (0, 0)) := ⟨HQ.out, HV.out⟩
      refine wp_region_till (fun w' => w'.heap[Q]? = some (.cells #[.int .u64 qa, .int .u64 qb, .int .u64 qc, .int .u64 qd] 24 (0, 0)) ∧ w'.heap[V]? = some (.cells #[.int .u64 ya, .int .u64 yb, .int .u64 yc, .int .u64 yd] 24 (0, 0))) 5 5 (by kernel_rfl) rfl ?_
      rw [← hwz]
      clear hwz
      refine till_take 0 (some 38) rfl rfl (by kernel_rfl) (by kernel_rfl) (by kernel_rfl) (by kernel_rfl) (by kernel_rfl) (by kernel_rfl) (fun _ _ _ h => h) (yields_load (by rfl) 24 _ rfl (.pointer (some ⟨Q, 0, none⟩)) rfl (.agg #[.int .u64 qa, .int .u64 qb, .int .u64 qc, .int .u64 qd]) (fun w' hS' => load_heap (hS'.1) Try.underlying24 rfl Try.sizeU)) hS ?_
      go_frame
      refine till_take 1 (some 39) rfl rfl (by kernel_rfl) (by kernel_rfl) (by kernel_rfl) (by kernel_rfl) (by kernel_rfl) (by kernel_rfl) (fun _ _ _ h => h) (yields_load (by rfl) 24 _ rfl (.pointer (some ⟨V, 0, none⟩)) rfl (.agg #[.int .u64 ya, .int .u64 yb, .int .u64 yc, .int .u64 yd]) (fun w' hS' => load_heap (hS'.2) Try.underlying24 rfl Try.sizeU)) hS ?_
      go_frame
      refine till_one 2 rfl (by kernel_rfl) fun K hK => ?_
      simp only [List.getElem_toArray, List.getElem_cons_succ, List.getElem_cons_zero]
      rw [if_pos (by rfl)]
      refine wp_store_row_g (t := 24) (old := u0) 24 _ _ rfl P #[.int .u64 qa, .int .u64 qb, .int .u64 qc, .int .u64 qd] rfl rfl HP.out Try.sizeU rfl (one_u64 _ _ _ _) ?_
      intro a13 hxP kP zP
      clear zP
      have HBm := Lib.hid (HB.out.trans (kP.below (B := w.heap.size) (fun y hy e => by have := WP.out; omega) HB.out.size))
      have HXm := Lib.hid (kP.at HX.out NXP.out)
      have HRm := Lib.hid (kP.at HR.out (fun e => NPR.out e.symm))
      have HQm := Lib.hid (kP.at HQ.out (fun e => NPQ.out e.symm))
      have HVm := Lib.hid (kP.at HV.out (fun e => NPV.out e.symm))
      have HPm := Lib.hid hxP
      clear hxP kP HB HX HP HR HQ HV
      have HB := HBm
      have HX := HXm
      have HP := HPm
      have HR := HRm
      have HQ := HQm
      have HV := HVm
      clear HBm HXm HPm HRm HQm HVm
      have hS2 : a13.heap[Q]? = some (.cells #[.int .u64 qa, .int .u64 qb, .int .u64 qc, .int .u64 qd] 24 (0, 0)) ∧ a13.heap[V]? = some (.cells #[.int .u64 ya, .int .u64 yb, .int .u64 yc, .int .u64 yd] 24 (0, 0)) := ⟨HQ.out, HV.out⟩
      refine hK _ _ (fun _ _ => hS2) ?_
      clear hK hS
      have hS := hS2
      clear hS2
      refine till_one 3 rfl (by kernel_rfl) fun K hK => ?_
      simp only [List.getElem_toArray, List.getElem_cons_succ, List.getElem_cons_zero]
      rw [if_pos (by rfl)]
      refine wp_store_row_g (t := 24) (old := u0) 24 _ _ rfl R #[.int .u64 ya, .int .u64 yb, .int .u64 yc, .int .u64 yd] rfl rfl HR.out Try.sizeU rfl (one_u64 _ _ _ _) ?_
      intro a14 hxR kR zR
      clear zR
      have HBm := Lib.hid (HB.out.trans (kR.below (B := w.heap.size) (fun y hy e => by have := WR.out; omega) HB.out.size))
      have HXm := Lib.hid (kR.at HX.out NXR.out)
      have HPm := Lib.hid (kR.at HP.out NPR.out)
      have HQm := Lib.hid (kR.at HQ.out (fun e => NRQ.out e.symm))
      have HVm := Lib.hid (kR.at HV.out (fun e => NRV.out e.symm))
      have HRm := Lib.hid hxR
      clear hxR kR HB HX HP HR HQ HV
      have HB := HBm
      have HX := HXm
      have HP := HPm
      have HR := HRm
      have HQ := HQm
      have HV := HVm
      clear HBm HXm HPm HRm HQm HVm
      have hS2 : a14.heap[Q]? = some (.cells #[.int .u64 qa, .int .u64 qb, .int .u64 qc, .int .u64 qd] 24 (0, 0)) ∧ a14.heap[V]? = some (.cells #[.int .u64 ya, .int .u64 yb, .int .u64 yc, .int .u64 yd] 24 (0, 0)) := ⟨HQ.out, HV.out⟩
      refine hK _ _ (fun _ _ => hS2) ?_
      clear hK hS
      have hS := hS2
      clear hS2
      refine till_take 4 (some 6) rfl rfl (by kernel_rfl) (by kernel_rfl) (by kernel_rfl) (by kernel_rfl) (by kernel_rfl) (by kernel_rfl) (fun _ _ _ h => h) (.inl ⟨by rfl, fun w' _ => (by go_simp; rfl)⟩) hS ?_
      go_frame
      refine till_done (by kernel_rfl) ?_ _
      clear hS
      go_wp2_with fail
      exact bodyPost_ret (res_three rfl _ _ P R _ _ _ _ _ _ _ rfl HP.out rfl HR.out Try.underlying24 rfl Try.sizeU Try.sizeU _ rfl) rfl ⟨_, _, _, _, _, _, _, _, by rw [HZ.out.1]; exact HQU.out, by rw [HZ.out.2]; exact HYU.out, rfl, HB.out⟩

set_option maxHeartbeats 16000000 in
set_option maxRecDepth 100000 in
theorem parts34_any {n : Int} {x : Nat} (hx : x < uMax) (w : World) : Calls Try.prog 3 #[.int .i64 n, .agg #[.int .u64 (uw0 x), .int .u64 (uw1 x), .int .u64 (uw2 x), .int .u64 (uw3 x)]] w (Ret w (.bool true)) := by
  have HU := Lib.hid (uw_is hx)
  obtain ⟨y1, y2, yq, hp, hr⟩ : ∃ y1 y2 yq, Hid (∀ w, Calls Try.prog 7 #[.int .i64 n, .agg #[.int .u64 (uw0 x), .int .u64 (uw1 x), .int .u64 (uw2 x), .int .u64 (uw3 x)]] w (PartsRet w y1 y2 yq)) ∧ Hid (∀ w, Calls Try.prog 8 #[.int .i64 n, .agg #[.int .u64 (uw0 x), .int .u64 (uw1 x), .int .u64 (uw2 x), .int .u64 (uw3 x)]] w (PartsRet w y1 y2 yq)) := by
    by_cases hb : n < 0 ∨ 10000 < n
    · exact ⟨0, 0, false, Lib.hid (fun w => parts_bad hb _ _ _ _ w), Lib.hid (fun w => rparts_bad hb _ _ _ _ w)⟩
    · obtain ⟨k, rfl⟩ := Int.eq_ofNat_of_zero_le (show 0 ≤ n by omega)
      exact ⟨_, _, _, Lib.hid (fun w => parts_any HU.out (by omega) w), Lib.hid (fun w => rparts_any HU.out (by omega) w)⟩
  clear hx
  go_enter Try.func3, Try.ntmps3
  go_upto_region 1 with fail
  obtain ⟨w1, hw1⟩ : ∃ wq, wq = w.alloc (.cells #[.int .u64 (uw0 x), .int .u64 (uw1 x), .int .u64 (uw2 x), .int .u64 (uw3 x)] 24) := ⟨_, rfl⟩
  obtain ⟨X, hX⟩ : ∃ x, x = w.heap.size := ⟨_, rfl⟩
  rw [← hw1, ← hX]
  have HX : Hid (w1.heap[X]? = some (.cells #[.int .u64 (uw0 x), .int .u64 (uw1 x), .int .u64 (uw2 x), .int .u64 (uw3 x)] 24 (0, 0))) := Lib.hid (by rw [hw1, hX]; exact heap_alloc_new _ _)
  have HB : Hid (Below w.heap.size w w1) := Lib.hid (by rw [hw1]; exact below_new _ _)
  clear hw1 hX
  go_wp2_with (refine wpList_load_row rfl 24 _ rfl X rfl 24 _ _ _ HX.out Try.underlying24 rfl Try.sizeU ?_)
  refine (hp.out _).mono ?_
  rintro e a1 ⟨ua, ub, uc, ud, va, vb, vc, vd, h1, h2, rfl, hb⟩
  have HPU := Lib.hid h1; have HQU := Lib.hid h2
  clear h1 h2
  have HBm := Lib.hid (HB.out.trans (hb.mono HB.out.size))
  have HXm := Lib.hid (below_at' hb HX.out)
  clear hb HB HX
  have HB := HBm
  have HX := HXm
  clear HBm HXm
  go_wp2_with (refine wpList_alloc_g rfl _ rfl _ _ Try.zeroUz rfl ?_)
  intro P a2 hP
  have WP : Hid (w.heap.size ≤ P) := Lib.hid (by rw [hP.out.eq]; exact (HB.out).size)
  have NXP : Hid (X ≠ P) := Lib.hid (by have := hP.out.eq; have := heap_lt HX.out; omega)
  have HPz := Lib.hid hP.out.cells; have hbP := hP.out.below
  clear hP
  have HBm := Lib.hid (HB.out.trans (hbP.mono HB.out.size))
  have HXm := Lib.hid (below_at' hbP HX.out)
  clear hbP HB HX
  have HB := HBm
  have HX := HXm
  clear HBm HXm
  have HP := HPz
  clear HPz
  go_wp2_with (refine wpList_alloc_g rfl _ rfl _ _ Try.zeroUz rfl ?_)
  intro Q a3 hQ
  have WQ : Hid (w.heap.size ≤ Q) := Lib.hid (by rw [hQ.out.eq]; exact (HB.out).size)
  have NXQ : Hid (X ≠ Q) := Lib.hid (by have := hQ.out.eq; have := heap_lt HX.out; omega)
  have NPQ : Hid (P ≠ Q) := Lib.hid (by have := hQ.out.eq; have := heap_lt HP.out; omega)
  have HQz := Lib.hid hQ.out.cells; have hbQ := hQ.out.below
  clear hQ
  have HBm := Lib.hid (HB.out.trans (hbQ.mono HB.out.size))
  have HXm := Lib.hid (below_at' hbQ HX.out)
  have HPm := Lib.hid (below_at' hbQ HP.out)
  clear hbQ HB HX HP
  have HB := HBm
  have HX := HXm
  have HP := HPm
  clear HBm HXm HPm
  have HQ := HQz
  clear HQz
  go_wp2_with (refine wpList_store_row_g (t := 24) (old := u0) rfl 24 _ _ rfl P #[.int .u64 ua, .int .u64 ub, .int .u64 uc, .int .u64 ud] rfl rfl HP.out Try.sizeU rfl (one_u64 _ _ _ _) ?_)
  intro a4 hxP kP zP
  clear zP
  have HBm := Lib.hid (HB.out.trans (kP.below (B := w.heap.size) (fun y hy e => by have := WP.out; omega) HB.out.size))
  have HXm := Lib.hid (kP.at HX.out NXP.out)
  have HQm := Lib.hid (kP.at HQ.out (fun e => NPQ.out e.symm))
  have HPm := Lib.hid hxP
  clear hxP kP HB HX HP HQ
  have HB := HBm
  have HX := HXm
  have HP := HPm
  have HQ := HQm
  clear HBm HXm HPm HQm
  go_wp2_with (refine wpList_store_row_g (t := 24) (old := u0) rfl 24 _ _ rfl Q #[.int .u64 va, .int .u64 vb, .int .u64 vc, .int .u64 vd] rfl rfl HQ.out Try.sizeU rfl (one_u64 _ _ _ _) ?_)
  intro a5 hxQ kQ zQ
  clear zQ
  have HBm := Lib.hid (HB.out.trans (kQ.below (B := w.heap.size) (fun y hy e => by have := WQ.out; omega) HB.out.size))
  have HXm := Lib.hid (kQ.at HX.out NXQ.out)
  have HPm := Lib.hid (kQ.at HP.out NPQ.out)
  have HQm := Lib.hid hxQ
  clear hxQ kQ HB HX HP HQ
  have HB := HBm
  have HX := HXm
  have HP := HPm
  have HQ := HQm
  clear HBm HXm HPm HQm
  go_wp2_with (refine wpList_load_row rfl 24 _ rfl X rfl 24 _ _ _ HX.out Try.underlying24 rfl Try.sizeU ?_)
  refine (hr.out _).mono ?_
  rintro e a6 ⟨ia, ib, ic, id, ja, jb, jc, jd, h1, h2, rfl, hb⟩
  have HRU := Lib.hid h1; have HSU := Lib.hid h2
  clear h1 h2
  have HBm := Lib.hid (HB.out.trans (hb.mono HB.out.size))
  have HXm := Lib.hid (below_at' hb HX.out)
  have HPm := Lib.hid (below_at' hb HP.out)
  have HQm := Lib.hid (below_at' hb HQ.out)
  clear hb HB HX HP HQ
  have HB := HBm
  have HX := HXm
  have HP := HPm
  have HQ := HQm
  clear HBm HXm HPm HQm
  go_wp2_with (refine wpList_alloc_g rfl _ rfl _ _ Try.zeroUz rfl ?_)
  intro R a7 hR
  have WR : Hid (w.heap.size ≤ R) := Lib.hid (by rw [hR.out.eq]; exact (HB.out).size)
  have NXR : Hid (X ≠ R) := Lib.hid (by have := hR.out.eq; have := heap_lt HX.out; omega)
  have NPR : Hid (P ≠ R) := Lib.hid (by have := hR.out.eq; have := heap_lt HP.out; omega)
  have NQR : Hid (Q ≠ R) := Lib.hid (by have := hR.out.eq; have := heap_lt HQ.out; omega)
  have HRz := Lib.hid hR.out.cells; have hbR := hR.out.below
  clear hR
  have HBm := Lib.hid (HB.out.trans (hbR.mono HB.out.size))
  have HXm := Lib.hid (below_at' hbR HX.out)
  have HPm := Lib.hid (below_at' hbR HP.out)
  have HQm := Lib.hid (below_at' hbR HQ.out)
  clear hbR HB HX HP HQ
  have HB := HBm
  have HX := HXm
  have HP := HPm
  have HQ := HQm
  clear HBm HXm HPm HQm
  have HR := HRz
  clear HRz
  go_wp2_with (refine wpList_alloc_g rfl _ rfl _ _ Try.zeroUz rfl ?_)
  intro S a8 hS
  have WS : Hid (w.heap.size ≤ S) := Lib.hid (by rw [hS.out.eq]; exact (HB.out).size)
  have NXS : Hid (X ≠ S) := Lib.hid (by have := hS.out.eq; have := heap_lt HX.out; omega)
  have NPS : Hid (P ≠ S) := Lib.hid (by have := hS.out.eq; have := heap_lt HP.out; omega)
  have NQS : Hid (Q ≠ S) := Lib.hid (by have := hS.out.eq; have := heap_lt HQ.out; omega)
  have NRS : Hid (R ≠ S) := Lib.hid (by have := hS.out.eq; have := heap_lt HR.out; omega)
  have HSz := Lib.hid hS.out.cells; have hbS := hS.out.below
  clear hS
  have HBm := Lib.hid (HB.out.trans (hbS.mono HB.out.size))
  have HXm := Lib.hid (below_at' hbS HX.out)
  have HPm := Lib.hid (below_at' hbS HP.out)
  have HQm := Lib.hid (below_at' hbS HQ.out)
  have HRm := Lib.hid (below_at' hbS HR.out)
  clear hbS HB HX HP HQ HR
  have HB := HBm
  have HX := HXm
  have HP := HPm
  have HQ := HQm
  have HR := HRm
  clear HBm HXm HPm HQm HRm
  have HS := HSz
  clear HSz
  go_wp2_with (refine wpList_store_row_g (t := 24) (old := u0) rfl 24 _ _ rfl R #[.int .u64 ia, .int .u64 ib, .int .u64 ic, .int .u64 id] rfl rfl HR.out Try.sizeU rfl (one_u64 _ _ _ _) ?_)
  intro a9 hxR kR zR
  clear zR
  have HBm := Lib.hid (HB.out.trans (kR.below (B := w.heap.size) (fun y hy e => by have := WR.out; omega) HB.out.size))
  have HXm := Lib.hid (kR.at HX.out NXR.out)
  have HPm := Lib.hid (kR.at HP.out NPR.out)
  have HQm := Lib.hid (kR.at HQ.out NQR.out)
  have HSm := Lib.hid (kR.at HS.out (fun e => NRS.out e.symm))
  have HRm := Lib.hid hxR
  clear hxR kR HB HX HP HQ HR HS
  have HB := HBm
  have HX := HXm
  have HP := HPm
  have HQ := HQm
  have HR := HRm
  have HS := HSm
  clear HBm HXm HPm HQm HRm HSm
  go_wp2_with (refine wpList_store_row_g (t := 24) (old := u0) rfl 24 _ _ rfl S #[.int .u64 ja, .int .u64 jb, .int .u64 jc, .int .u64 jd] rfl rfl HS.out Try.sizeU rfl (one_u64 _ _ _ _) ?_)
  intro a10 hxS kS zS
  clear zS
  have HBm := Lib.hid (HB.out.trans (kS.below (B := w.heap.size) (fun y hy e => by have := WS.out; omega) HB.out.size))
  have HXm := Lib.hid (kS.at HX.out NXS.out)
  have HPm := Lib.hid (kS.at HP.out NPS.out)
  have HQm := Lib.hid (kS.at HQ.out NQS.out)
  have HRm := Lib.hid (kS.at HR.out NRS.out)
  have HSm := Lib.hid hxS
  clear hxS kS HB HX HP HQ HR HS
  have HB := HBm
  have HX := HXm
  have HP := HPm
  have HQ := HQm
  have HR := HRm
  have HS := HSm
  clear HBm HXm HPm HQm HRm HSm
  have e1 := Try.eqUn HPU.out HRU.out
  have e2 := Try.eqUn HQU.out HSU.out
  rw [decide_eq_true rfl] at e1 e2
  have cP0 : a10.cell? ⟨P, 0, none⟩ = some (.int .u64 ua) := Lib.cell_of_heap HP.out 0
  have cP1 : a10.cell? ⟨P, 1, none⟩ = some (.int .u64 ub) := Lib.cell_of_heap HP.out 1
  have cP2 : a10.cell? ⟨P, 2, none⟩ = some (.int .u64 uc) := Lib.cell_of_heap HP.out 2
  have cP3 : a10.cell? ⟨P, 3, none⟩ = some (.int .u64 ud) := Lib.cell_of_heap HP.out 3
  have cQ0 : a10.cell? ⟨Q, 0, none⟩ = some (.int .u64 va) := Lib.cell_of_heap HQ.out 0
  have cQ1 : a10.cell? ⟨Q, 1, none⟩ = some (.int .u64 vb) := Lib.cell_of_heap HQ.out 1
  have cQ2 : a10.cell? ⟨Q, 2, none⟩ = some (.int .u64 vc) := Lib.cell_of_heap HQ.out 2
  have cQ3 : a10.cell? ⟨Q, 3, none⟩ = some (.int .u64 vd) := Lib.cell_of_heap HQ.out 3
  have cR0 : a10.cell? ⟨R, 0, none⟩ = some (.int .u64 ia) := Lib.cell_of_heap HR.out 0
  have cR1 : a10.cell? ⟨R, 1, none⟩ = some (.int .u64 ib) := Lib.cell_of_heap HR.out 1
  have cR2 : a10.cell? ⟨R, 2, none⟩ = some (.int .u64 ic) := Lib.cell_of_heap HR.out 2
  have cR3 : a10.cell? ⟨R, 3, none⟩ = some (.int .u64 id) := Lib.cell_of_heap HR.out 3
  have cS0 : a10.cell? ⟨S, 0, none⟩ = some (.int .u64 ja) := Lib.cell_of_heap HS.out 0
  have cS1 : a10.cell? ⟨S, 1, none⟩ = some (.int .u64 jb) := Lib.cell_of_heap HS.out 1
  have cS2 : a10.cell? ⟨S, 2, none⟩ = some (.int .u64 jc) := Lib.cell_of_heap HS.out 2
  have cS3 : a10.cell? ⟨S, 3, none⟩ = some (.int .u64 jd) := Lib.cell_of_heap HS.out 3
  cases yq with
  | false =>
    go_wp2_with fail
    refine (lives34_any _).mono ?_
    rintro e wz ⟨rfl, hb⟩
    have HBF := Lib.hid (HB.out.trans (hb.mono HB.out.size))
    clear hb
    go_wp2_with fail
    go_ret
    exact ⟨rfl, HBF.out⟩
  | true =>
    go_wp2_with fail
    refine (lives34_any _).mono ?_
    rintro e wz ⟨rfl, hb⟩
    have HBF := Lib.hid (HB.out.trans (hb.mono HB.out.size))
    clear hb
    go_wp2_with fail
    go_ret
    exact ⟨rfl, HBF.out⟩
end Go.Proofs.Ythnjakomkdlglaa
