/- Quo, Down (code). No condition. -/
import Derived.Test.YthnjakomkdlglaaGreatMulJ
namespace Go.Proofs.YthnjakomkdlglaaGreat
open Go.RowKit

theorem box3 (w : World) (c0 c1 c2 : Array Value) (T0 T1 T2 : TypeId) (w1 : World) (hw : w1 = ((w.alloc (.cells c0 T0)).alloc (.cells c1 T1)).alloc (.cells c2 T2)) :
    w1.heap[w.heap.size]? = some (.cells c0 T0 (0, 0)) ∧ w1.heap[w.heap.size + 1]? = some (.cells c1 T1 (0, 0)) ∧ w1.heap[w.heap.size + 1 + 1]? = some (.cells c2 T2 (0, 0)) ∧ Below w.heap.size w w1 := by
  obtain ⟨wa, ha⟩ : ∃ x, x = (w.alloc (.cells c0 T0)).alloc (.cells c1 T1) := ⟨_, rfl⟩
  obtain ⟨h1, h2, h3, h4⟩ := box2 w c0 c1 T0 T1 wa ha
  rw [← ha] at hw
  have hb : Below wa.heap.size wa w1 := by rw [hw]; exact below_new _ _
  refine ⟨below_at' hb h1, below_at' hb h2, ?_, h3.trans (hb.mono h3.size)⟩
  rw [hw, show w.heap.size + 1 + 1 = wa.heap.size by omega]
  exact heap_alloc_new _ _

set_option maxHeartbeats 16000000 in
set_option maxRecDepth 100000 in
theorem quo_any {h0 h1 h2 h3 l0 l1 l2 l3 : Int} {n d : Nat} (hh : UIs h0 h1 h2 h3 0) (hl : UIs l0 l1 l2 l3 n) (hd0 : 0 < d) (hd : d < 4294967296) (w : World) :
    Calls Tryz.prog 188 #[.agg #[.int .u64 h0, .int .u64 h1, .int .u64 h2, .int .u64 h3, .int .u64 l0, .int .u64 l1, .int .u64 l2, .int .u64 l3], .agg #[.int .u64 (d : Int), .int .u64 0, .int .u64 0, .int .u64 0]] w (DivRet w n d) := by
  have HL := Lib.hid hl; have HD := Lib.hid (And.intro hd0 hd)
  have e0 := Tryz.eqUn hh UIs.zero
  rw [decide_eq_true rfl] at e0
  clear hh hl hd0 hd
  go_enter Tryz.func188, Tryz.ntmps188
  go_wp2_with (refine wpList_alloc_g rfl _ rfl _ _ Tryz.zeroUz rfl ?_)
  obtain ⟨w1, hw1⟩ : ∃ wq, wq = (w.alloc (.cells #[.int .u64 h0, .int .u64 h1, .int .u64 h2, .int .u64 h3, .int .u64 l0, .int .u64 l1, .int .u64 l2, .int .u64 l3] 228)).alloc (.cells #[.int .u64 (d : Int), .int .u64 0, .int .u64 0, .int .u64 0] 33) := ⟨_, rfl⟩
  obtain ⟨X, hX⟩ : ∃ x, x = w.heap.size := ⟨_, rfl⟩
  obtain ⟨Y, hY⟩ : ∃ x, x = w.heap.size + 1 := ⟨_, rfl⟩
  rw [← hw1, ← hY, ← hX]
  have hbx := box2 w _ _ _ _ w1 hw1
  rw [← hY, ← hX] at hbx
  have HX := Lib.hid hbx.1; have HY := Lib.hid hbx.2.1
  have HB : Hid (Below w.heap.size w w1) := Lib.hid (by rw [← hX]; exact hbx.2.2.1)
  clear hbx hw1 hX hY
  intro P w2 hP'
  have WP : Hid (w.heap.size ≤ P) := Lib.hid (by rw [hP'.out.eq]; exact HB.out.size)
  have NXP : Hid (X ≠ P) := Lib.hid (by have := hP'.out.eq; have := heap_lt HX.out; omega)
  have NYP : Hid (Y ≠ P) := Lib.hid (by have := hP'.out.eq; have := heap_lt HY.out; omega)
  have HPz := Lib.hid hP'.out.cells; have hb := hP'.out.below
  clear hP'
  have HBm := Lib.hid (HB.out.trans (hb.mono HB.out.size))
  have HXm := Lib.hid (below_at' hb HX.out)
  have HYm := Lib.hid (below_at' hb HY.out)
  clear hb HB HX HY
  have HB := HBm
  have HX := HXm
  have HY := HYm
  clear HBm HXm HYm
  have HP := HPz
  clear HPz
  go_wp2_with (refine wpList_alloc_g rfl _ rfl _ _ Tryz.zeroUz rfl ?_)
  intro R a1 hR
  have WR : Hid (w.heap.size ≤ R) := Lib.hid (by rw [hR.out.eq]; exact (HB.out).size)
  have NXR : Hid (X ≠ R) := Lib.hid (by have := hR.out.eq; have := heap_lt HX.out; omega)
  have NYR : Hid (Y ≠ R) := Lib.hid (by have := hR.out.eq; have := heap_lt HY.out; omega)
  have NPR : Hid (P ≠ R) := Lib.hid (by have := hR.out.eq; have := heap_lt HP.out; omega)
  have HRz := Lib.hid hR.out.cells; have hbR := hR.out.below
  clear hR
  have HBm := Lib.hid (HB.out.trans (hbR.mono HB.out.size))
  have HXm := Lib.hid (below_at' hbR HX.out)
  have HYm := Lib.hid (below_at' hbR HY.out)
  have HPm := Lib.hid (below_at' hbR HP.out)
  clear hbR HB HX HY HP
  have HB := HBm
  have HX := HXm
  have HY := HYm
  have HP := HPm
  clear HBm HXm HYm HPm
  have HR := HRz
  clear HRz
  go_wp2_with (first
    | (refine wpList_load_mid rfl 33 _ rfl X 0 rfl [.int .u64 h0, .int .u64 h1, .int .u64 h2, .int .u64 h3] _ (range_of_heap HX.out 0 _ rfl) Tryz.underlying33 rfl Tryz.sizeU ?_)
    | (refine wpList_load_mid rfl 33 _ rfl X 4 rfl [.int .u64 l0, .int .u64 l1, .int .u64 l2, .int .u64 l3] _ (range_of_heap HX.out 4 _ rfl) Tryz.underlying33 rfl Tryz.sizeU ?_)
    | (refine wpList_load_row rfl 33 _ rfl Y rfl 33 _ _ _ HY.out Tryz.underlying33 rfl Tryz.sizeU ?_))
  refine (udiv_any HL.out HD.out.1 HD.out.2 _).mono ?_
  rintro e a2 ⟨qa, qb, qc, qd, ra, rb, rc, rd, hq, hr, rfl, hb⟩
  have HQU := Lib.hid hq; have HRU := Lib.hid hr
  clear hq hr e0
  have HBm := Lib.hid (HB.out.trans (hb.mono HB.out.size))
  have HXm := Lib.hid (below_at' hb HX.out)
  have HYm := Lib.hid (below_at' hb HY.out)
  have HPm := Lib.hid (below_at' hb HP.out)
  have HRm := Lib.hid (below_at' hb HR.out)
  clear hb HB HX HY HP HR
  have HB := HBm
  have HX := HXm
  have HY := HYm
  have HP := HPm
  have HR := HRm
  clear HBm HXm HYm HPm HRm
  go_wp2_with (refine wpList_store_row_g (t := 33) (old := u0) rfl 33 _ _ rfl P #[.int .u64 qa, .int .u64 qb, .int .u64 qc, .int .u64 qd] rfl rfl HP.out Tryz.sizeU rfl (one_u64 _ _ _ _) ?_)
  intro a3 hxP kP zP
  clear zP
  have HBm := Lib.hid (HB.out.trans (kP.below (B := w.heap.size) (fun y hy e => by have := WP.out; omega) HB.out.size))
  have HXm := Lib.hid (kP.at HX.out NXP.out)
  have HYm := Lib.hid (kP.at HY.out NYP.out)
  have HRm := Lib.hid (kP.at HR.out (fun e => NPR.out e.symm))
  have HPm := Lib.hid hxP
  clear hxP kP HB HX HY HP HR
  have HB := HBm
  have HX := HXm
  have HY := HYm
  have HP := HPm
  have HR := HRm
  clear HBm HXm HYm HPm HRm
  go_wp2_with (refine wpList_store_row_g (t := 33) (old := u0) rfl 33 _ _ rfl R #[.int .u64 ra, .int .u64 rb, .int .u64 rc, .int .u64 rd] rfl rfl HR.out Tryz.sizeU rfl (one_u64 _ _ _ _) ?_)
  intro a4 hxR kR zR
  clear zR
  have HBm := Lib.hid (HB.out.trans (kR.below (B := w.heap.size) (fun y hy e => by have := WR.out; omega) HB.out.size))
  have HXm := Lib.hid (kR.at HX.out NXR.out)
  have HYm := Lib.hid (kR.at HY.out NYR.out)
  have HPm := Lib.hid (kR.at HP.out NPR.out)
  have HRm := Lib.hid hxR
  clear hxR kR HB HX HY HP HR
  have HB := HBm
  have HX := HXm
  have HY := HYm
  have HP := HPm
  have HR := HRm
  clear HBm HXm HYm HPm HRm
  go_wp2_with fail
  exact bodyPost_ret (res_three rfl _ _ P R _ _ _ _ _ _ _ rfl HP.out rfl HR.out Tryz.underlying33 rfl Tryz.sizeU Tryz.sizeU _ rfl) rfl ⟨_, _, _, _, _, _, _, _, HQU.out, HRU.out, rfl, HB.out⟩

/-- What Down says here. -/
def DownRet (w : World) (v : Nat) (e : Ending) (w' : World) : Prop := ∃ q0 q1 q2 q3 : Int, UIs q0 q1 q2 q3 v ∧ e = .returned (.tuple #[.agg #[.int .u64 q0, .int .u64 q1, .int .u64 q2, .int .u64 q3], .bool true]) ∧ Below w.heap.size w w'
set_option maxHeartbeats 16000000 in
set_option maxRecDepth 100000 in
theorem down_any {a b c f a' b' c' f' : Int} {n m d : Nat} (h : UIs a b c f n) (h' : UIs a' b' c' f' m) (hnm : n * m < uMax) (hd0 : 0 < d) (hd : d < 4294967296) (w : World) :
    Calls Tryz.prog 148 #[.agg #[.int .u64 a, .int .u64 b, .int .u64 c, .int .u64 f], .agg #[.int .u64 a', .int .u64 b', .int .u64 c', .int .u64 f'], .agg #[.int .u64 (d : Int), .int .u64 0, .int .u64 0, .int .u64 0]] w (DownRet w (n * m / d)) := by
  have HU := Lib.hid h; have HVV := Lib.hid h'; have HD := Lib.hid (And.intro hd0 hd)
  have HM : Hid (n * m / uMax = 0 ∧ n * m % uMax = n * m) := Lib.hid ⟨Nat.div_eq_of_lt hnm, Nat.mod_eq_of_lt hnm⟩
  clear h h' hnm hd0 hd
  go_enter Tryz.func148, Tryz.ntmps148
  go_wp2_with (refine wpList_alloc_g rfl _ rfl _ _ Tryz.zeroUz rfl ?_)
  obtain ⟨w1, hw1⟩ : ∃ wq, wq = ((w.alloc (.cells #[.int .u64 a, .int .u64 b, .int .u64 c, .int .u64 f] 33)).alloc (.cells #[.int .u64 a', .int .u64 b', .int .u64 c', .int .u64 f'] 33)).alloc (.cells #[.int .u64 (d : Int), .int .u64 0, .int .u64 0, .int .u64 0] 33) := ⟨_, rfl⟩
  obtain ⟨X, hX⟩ : ∃ x, x = w.heap.size := ⟨_, rfl⟩
  obtain ⟨Y, hY⟩ : ∃ x, x = w.heap.size + 1 := ⟨_, rfl⟩
  obtain ⟨Z, hZ⟩ : ∃ x, x = w.heap.size + 1 + 1 := ⟨_, rfl⟩
  rw [← hw1, ← hZ, ← hY, ← hX]
  have hbx := box3 w _ _ _ _ _ _ w1 hw1
  rw [← hZ, ← hY, ← hX] at hbx
  have HX := Lib.hid hbx.1; have HY := Lib.hid hbx.2.1; have HZ := Lib.hid hbx.2.2.1
  have HB : Hid (Below w.heap.size w w1) := Lib.hid (by rw [← hX]; exact hbx.2.2.2)
  clear hbx hw1 hX hY hZ
  intro P w2 hP'
  have WP : Hid (w.heap.size ≤ P) := Lib.hid (by rw [hP'.out.eq]; exact HB.out.size)
  have HPz := Lib.hid hP'.out.cells; have hb := hP'.out.below
  have NXP : Hid (X ≠ P) := Lib.hid (by have := hP'.out.eq; have := heap_lt HX.out; omega)
  have NYP : Hid (Y ≠ P) := Lib.hid (by have := hP'.out.eq; have := heap_lt HY.out; omega)
  have NZP : Hid (Z ≠ P) := Lib.hid (by have := hP'.out.eq; have := heap_lt HZ.out; omega)
  clear hP'
  have HBm := Lib.hid (HB.out.trans (hb.mono HB.out.size))
  have HXm := Lib.hid (below_at' hb HX.out)
  have HYm := Lib.hid (below_at' hb HY.out)
  have HZm := Lib.hid (below_at' hb HZ.out)
  clear hb HB HX HY HZ
  have HB := HBm
  have HX := HXm
  have HY := HYm
  have HZ := HZm
  clear HBm HXm HYm HZm
  have HP := HPz
  clear HPz
  go_wp2_with fail
  obtain ⟨a1, hwz⟩ : ∃ wz, wz = w2.drew := ⟨_, rfl⟩
  have hbz : Below w2.heap.size w2 a1 := by rw [hwz]; exact (Below.refl _ _).drew
  have HBm := Lib.hid (HB.out.trans (hbz.mono HB.out.size))
  have HXm := Lib.hid (below_at' hbz HX.out)
  have HYm := Lib.hid (below_at' hbz HY.out)
  have HZm := Lib.hid (below_at' hbz HZ.out)
  have HPm := Lib.hid (below_at' hbz HP.out)
  clear hbz HB HX HY HZ HP
  have HB := HBm
  have HX := HXm
  have HY := HYm
  have HZ := HZm
  have HP := HPm
  clear HBm HXm HYm HZm HPm
  have hS : a1.heap[X]? = some (.cells #[.int .u64 a, .int .u64 b, .int .u64 c, .int .u64 f] 33 (0, 0)) ∧ a1.heap[Y]? = some (.cells #[.int .u64 a', .int .u64 b', .int .u64 c', .int .u64 f'] 33 (0, 0)) ∧ a1.heap[Z]? = some (.cells #[.int .u64 (d : Int), .int .u64 0, .int .u64 0, .int .u64 0] 33 (0, 0)) := ⟨HX.out, HY.out, HZ.out⟩
  refine wp_region_till (fun w' => w'.heap[X]? = some (.cells #[.int .u64 a, .int .u64 b, .int .u64 c, .int .u64 f] 33 (0, 0)) ∧ w'.heap[Y]? = some (.cells #[.int .u64 a', .int .u64 b', .int .u64 c', .int .u64 f'] 33 (0, 0)) ∧ w'.heap[Z]? = some (.cells #[.int .u64 (d : Int), .int .u64 0, .int .u64 0, .int .u64 0] 33 (0, 0))) 14 14 (by kernel_rfl) rfl ?_
  rw [← hwz]
  clear hwz
  refine till_take 0 (some 12) rfl rfl (by kernel_rfl) (by kernel_rfl) (by kernel_rfl) (by kernel_rfl) (by kernel_rfl) (by kernel_rfl) (fun _ _ _ h => h) (yields_load (by rfl) 33 _ rfl (.pointer (some ⟨X, 0, none⟩)) rfl (.agg #[.int .u64 a, .int .u64 b, .int .u64 c, .int .u64 f]) (fun w' hS' => load_heap (hS'.1) Tryz.underlying33 rfl Tryz.sizeU)) hS ?_
  go_frame
  refine till_take 1 (some 13) rfl rfl (by kernel_rfl) (by kernel_rfl) (by kernel_rfl) (by kernel_rfl) (by kernel_rfl) (by kernel_rfl) (fun _ _ _ h => h) (yields_load (by rfl) 33 _ rfl (.pointer (some ⟨Y, 0, none⟩)) rfl (.agg #[.int .u64 a', .int .u64 b', .int .u64 c', .int .u64 f']) (fun w' hS' => load_heap (hS'.2.1) Tryz.underlying33 rfl Tryz.sizeU)) hS ?_
  go_frame
  refine till_take 3 (some 15) rfl rfl (by kernel_rfl) (by kernel_rfl) (by kernel_rfl) (by kernel_rfl) (by kernel_rfl) (by kernel_rfl) (fun _ _ _ h => h) (yields_load (by rfl) 33 _ rfl (.pointer (some ⟨Z, 0, none⟩)) rfl (.agg #[.int .u64 (d : Int), .int .u64 0, .int .u64 0, .int .u64 0]) (fun w' hS' => load_heap (hS'.2.2) Tryz.underlying33 rfl Tryz.sizeU)) hS ?_
  go_frame
  refine till_three 2 9 10 rfl rfl rfl (by kernel_rfl) (fun K hK => ?_) (fun K hK => ?_) (fun K hK => ?_)
  · simp only [List.getElem_toArray, List.getElem_cons_succ, List.getElem_cons_zero]
    rw [if_pos (by rfl)]
    go_simp
    refine (mul_any HU.out HVV.out _).mono ?_
    rintro e a2 ⟨h0, h1, h2, h3, l0, l1, l2, l3, hh, hl, rfl, hb⟩
    rw [HM.out.1] at hh
    rw [HM.out.2] at hl
    have HHH := Lib.hid hh; have HLL := Lib.hid hl
    clear hh hl
    have HBm := Lib.hid (HB.out.trans (hb.mono HB.out.size))
    have HXm := Lib.hid (below_at' hb HX.out)
    have HYm := Lib.hid (below_at' hb HY.out)
    have HZm := Lib.hid (below_at' hb HZ.out)
    have HPm := Lib.hid (below_at' hb HP.out)
    clear hb HB HX HY HZ HP
    have HB := HBm
    have HX := HXm
    have HY := HYm
    have HZ := HZm
    have HP := HPm
    clear HBm HXm HYm HZm HPm
    have hS2 : a2.heap[X]? = some (.cells #[.int .u64 a, .int .u64 b, .int .u64 c, .int .u64 f] 33 (0, 0)) ∧ a2.heap[Y]? = some (.cells #[.int .u64 a', .int .u64 b', .int .u64 c', .int .u64 f'] 33 (0, 0)) ∧ a2.heap[Z]? = some (.cells #[.int .u64 (d : Int), .int .u64 0, .int .u64 0, .int .u64 0] 33 (0, 0)) := ⟨HX.out, HY.out, HZ.out⟩
    refine hK _ _ (fun _ _ => hS2) ?_
    clear hK hS
    have hS := hS2
    clear hS2
    refine till_three 4 9 10 rfl rfl rfl (by kernel_rfl) (fun K hK => ?_) (fun K hK => ?_) (fun K hK => ?_)
    · simp only [List.getElem_toArray, List.getElem_cons_succ, List.getElem_cons_zero]
      rw [if_pos (by rfl)]
      go_simp
      refine (quo_any HHH.out HLL.out HD.out.1 HD.out.2 _).mono ?_
      rintro e a3 ⟨qa, qb, qc, qd, ra, rb, rc, rd, hq, hr, rfl, hb⟩
      have HQU := Lib.hid hq
      clear hq hr
      have HBm := Lib.hid (HB.out.trans (hb.mono HB.out.size))
      have HXm := Lib.hid (below_at' hb HX.out)
      have HYm := Lib.hid (below_at' hb HY.out)
      have HZm := Lib.hid (below_at' hb HZ.out)
      have HPm := Lib.hid (below_at' hb HP.out)
      clear hb HB HX HY HZ HP
      have HB := HBm
      have HX := HXm
      have HY := HYm
      have HZ := HZm
      have HP := HPm
      clear HBm HXm HYm HZm HPm
      have hS2 : a3.heap[X]? = some (.cells #[.int .u64 a, .int .u64 b, .int .u64 c, .int .u64 f] 33 (0, 0)) ∧ a3.heap[Y]? = some (.cells #[.int .u64 a', .int .u64 b', .int .u64 c', .int .u64 f'] 33 (0, 0)) ∧ a3.heap[Z]? = some (.cells #[.int .u64 (d : Int), .int .u64 0, .int .u64 0, .int .u64 0] 33 (0, 0)) := ⟨HX.out, HY.out, HZ.out⟩
      refine hK _ _ (fun _ _ => hS2) ?_
      clear hK hS
      have hS := hS2
      clear hS2
      refine till_take 5 (some 11) rfl rfl (by kernel_rfl) (by kernel_rfl) (by kernel_rfl) (by kernel_rfl) (by kernel_rfl) (by kernel_rfl) (fun _ _ _ h => h) (.inl ⟨by rfl, fun w' _ => (by go_simp; rfl)⟩) hS ?_
      go_frame
      refine till_take 6 (some 17) rfl rfl (by kernel_rfl) (by kernel_rfl) (by kernel_rfl) (by kernel_rfl) (by kernel_rfl) (by kernel_rfl) (fun _ _ _ h => h) (.inl ⟨by rfl, fun w' _ => (by go_simp; rfl)⟩) hS ?_
      go_frame
      refine till_take 7 (some 18) rfl rfl (by kernel_rfl) (by kernel_rfl) (by kernel_rfl) (by kernel_rfl) (by kernel_rfl) (by kernel_rfl) (fun _ _ _ h => h) (.inl ⟨by rfl, fun w' _ => (by go_simp; rfl)⟩) hS ?_
      go_frame
      refine till_take 8 (some 19) rfl rfl (by kernel_rfl) (by kernel_rfl) (by kernel_rfl) (by kernel_rfl) (by kernel_rfl) (by kernel_rfl) (fun _ _ _ h => h) (.inl ⟨by rfl, fun w' _ => (by go_simp; rfl)⟩) hS ?_
      go_frame
      refine till_two 9 10 rfl rfl (by kernel_rfl) (fun K hK => ?_) (fun K hK => ?_)
      · simp only [List.getElem_toArray, List.getElem_cons_succ, List.getElem_cons_zero]
        rw [if_pos (by rfl)]
        refine wp_alloc_g 33 rfl _ _ Tryz.zeroUz rfl ?_
        intro Q a4 hQ
        have WQ : Hid (w.heap.size ≤ Q) := Lib.hid (by rw [hQ.out.eq]; exact (HB.out).size)
        have NXQ : Hid (X ≠ Q) := Lib.hid (by have := hQ.out.eq; have := heap_lt HX.out; omega)
        have NYQ : Hid (Y ≠ Q) := Lib.hid (by have := hQ.out.eq; have := heap_lt HY.out; omega)
        have NZQ : Hid (Z ≠ Q) := Lib.hid (by have := hQ.out.eq; have := heap_lt HZ.out; omega)
        have NPQ : Hid (P ≠ Q) := Lib.hid (by have := hQ.out.eq; have := heap_lt HP.out; omega)
        have HQz := Lib.hid hQ.out.cells; have hbQ := hQ.out.below
        clear hQ
        have HBm := Lib.hid (HB.out.trans (hbQ.mono HB.out.size))
        have HXm := Lib.hid (below_at' hbQ HX.out)
        have HYm := Lib.hid (below_at' hbQ HY.out)
        have HZm := Lib.hid (below_at' hbQ HZ.out)
        have HPm := Lib.hid (below_at' hbQ HP.out)
        clear hbQ HB HX HY HZ HP
        have HB := HBm
        have HX := HXm
        have HY := HYm
        have HZ := HZm
        have HP := HPm
        clear HBm HXm HYm HZm HPm
        have HQ := HQz
        clear HQz
        have hS2 : a4.heap[X]? = some (.cells #[.int .u64 a, .int .u64 b, .int .u64 c, .int .u64 f] 33 (0, 0)) ∧ a4.heap[Y]? = some (.cells #[.int .u64 a', .int .u64 b', .int .u64 c', .int .u64 f'] 33 (0, 0)) ∧ a4.heap[Z]? = some (.cells #[.int .u64 (d : Int), .int .u64 0, .int .u64 0, .int .u64 0] 33 (0, 0)) := ⟨HX.out, HY.out, HZ.out⟩
        refine hK _ _ (fun _ _ => hS2) ?_
        clear hK hS
        have hS := hS2
        clear hS2
        refine till_one 10 rfl (by kernel_rfl) fun K hK => ?_
        simp only [List.getElem_toArray, List.getElem_cons_succ, List.getElem_cons_zero]
        rw [if_pos (by rfl)]
        refine wp_alloc_g 33 rfl _ _ Tryz.zeroUz rfl ?_
        intro V a5 hV
        have WV : Hid (w.heap.size ≤ V) := Lib.hid (by rw [hV.out.eq]; exact (HB.out).size)
        have NXV : Hid (X ≠ V) := Lib.hid (by have := hV.out.eq; have := heap_lt HX.out; omega)
        have NYV : Hid (Y ≠ V) := Lib.hid (by have := hV.out.eq; have := heap_lt HY.out; omega)
        have NZV : Hid (Z ≠ V) := Lib.hid (by have := hV.out.eq; have := heap_lt HZ.out; omega)
        have NPV : Hid (P ≠ V) := Lib.hid (by have := hV.out.eq; have := heap_lt HP.out; omega)
        have NQV : Hid (Q ≠ V) := Lib.hid (by have := hV.out.eq; have := heap_lt HQ.out; omega)
        have HVz := Lib.hid hV.out.cells; have hbV := hV.out.below
        clear hV
        have HBm := Lib.hid (HB.out.trans (hbV.mono HB.out.size))
        have HXm := Lib.hid (below_at' hbV HX.out)
        have HYm := Lib.hid (below_at' hbV HY.out)
        have HZm := Lib.hid (below_at' hbV HZ.out)
        have HPm := Lib.hid (below_at' hbV HP.out)
        have HQm := Lib.hid (below_at' hbV HQ.out)
        clear hbV HB HX HY HZ HP HQ
        have HB := HBm
        have HX := HXm
        have HY := HYm
        have HZ := HZm
        have HP := HPm
        have HQ := HQm
        clear HBm HXm HYm HZm HPm HQm
        have HV := HVz
        clear HVz
        have hS2 : a5.heap[X]? = some (.cells #[.int .u64 a, .int .u64 b, .int .u64 c, .int .u64 f] 33 (0, 0)) ∧ a5.heap[Y]? = some (.cells #[.int .u64 a', .int .u64 b', .int .u64 c', .int .u64 f'] 33 (0, 0)) ∧ a5.heap[Z]? = some (.cells #[.int .u64 (d : Int), .int .u64 0, .int .u64 0, .int .u64 0] 33 (0, 0)) := ⟨HX.out, HY.out, HZ.out⟩
        refine hK _ _ (fun _ _ => hS2) ?_
        clear hK hS
        have hS := hS2
        clear hS2
        refine till_one 11 rfl (by kernel_rfl) fun K hK => ?_
        simp only [List.getElem_toArray, List.getElem_cons_succ, List.getElem_cons_zero]
        rw [if_pos (by rfl)]
        refine wp_store_row_g (t := 33) (old := u0) 33 _ _ rfl Q #[.int .u64 qa, .int .u64 qb, .int .u64 qc, .int .u64 qd] rfl rfl HQ.out Tryz.sizeU rfl (one_u64 _ _ _ _) ?_
        intro a6 hxQ kQ zQ
        clear zQ
        have HBm := Lib.hid (HB.out.trans (kQ.below (B := w.heap.size) (fun y hy e => by have := WQ.out; omega) HB.out.size))
        have HXm := Lib.hid (kQ.at HX.out NXQ.out)
        have HYm := Lib.hid (kQ.at HY.out NYQ.out)
        have HZm := Lib.hid (kQ.at HZ.out NZQ.out)
        have HPm := Lib.hid (kQ.at HP.out NPQ.out)
        have HVm := Lib.hid (kQ.at HV.out (fun e => NQV.out e.symm))
        have HQm := Lib.hid hxQ
        clear hxQ kQ HB HX HY HZ HP HQ HV
        have HB := HBm
        have HX := HXm
        have HY := HYm
        have HZ := HZm
        have HP := HPm
        have HQ := HQm
        have HV := HVm
        clear HBm HXm HYm HZm HPm HQm HVm
        have hS2 : a6.heap[X]? = some (.cells #[.int .u64 a, .int .u64 b, .int .u64 c, .int .u64 f] 33 (0, 0)) ∧ a6.heap[Y]? = some (.cells #[.int .u64 a', .int .u64 b', .int .u64 c', .int .u64 f'] 33 (0, 0)) ∧ a6.heap[Z]? = some (.cells #[.int .u64 (d : Int), .int .u64 0, .int .u64 0, .int .u64 0] 33 (0, 0)) := ⟨HX.out, HY.out, HZ.out⟩
        refine hK _ _ (fun _ _ => hS2) ?_
        clear hK hS
        have hS := hS2
        clear hS2
        refine till_one 12 rfl (by kernel_rfl) fun K hK => ?_
        simp only [List.getElem_toArray, List.getElem_cons_succ, List.getElem_cons_zero]
        rw [if_pos (by rfl)]
        refine wp_store_row_g (t := 33) (old := u0) 33 _ _ rfl V #[.int .u64 ra, .int .u64 rb, .int .u64 rc, .int .u64 rd] rfl rfl HV.out Tryz.sizeU rfl (one_u64 _ _ _ _) ?_
        intro a7 hxV kV zV
        clear zV
        have HBm := Lib.hid (HB.out.trans (kV.below (B := w.heap.size) (fun y hy e => by have := WV.out; omega) HB.out.size))
        have HXm := Lib.hid (kV.at HX.out NXV.out)
        have HYm := Lib.hid (kV.at HY.out NYV.out)
        have HZm := Lib.hid (kV.at HZ.out NZV.out)
        have HPm := Lib.hid (kV.at HP.out NPV.out)
        have HQm := Lib.hid (kV.at HQ.out NQV.out)
        have HVm := Lib.hid hxV
        clear hxV kV HB HX HY HZ HP HQ HV
        have HB := HBm
        have HX := HXm
        have HY := HYm
        have HZ := HZm
        have HP := HPm
        have HQ := HQm
        have HV := HVm
        clear HBm HXm HYm HZm HPm HQm HVm
        have hS2 : a7.heap[X]? = some (.cells #[.int .u64 a, .int .u64 b, .int .u64 c, .int .u64 f] 33 (0, 0)) ∧ a7.heap[Y]? = some (.cells #[.int .u64 a', .int .u64 b', .int .u64 c', .int .u64 f'] 33 (0, 0)) ∧ a7.heap[Z]? = some (.cells #[.int .u64 (d : Int), .int .u64 0, .int .u64 0, .int .u64 0] 33 (0, 0)) := ⟨HX.out, HY.out, HZ.out⟩
        refine hK _ _ (fun _ _ => hS2) ?_
        clear hK hS
        have hS := hS2
        clear hS2
        refine till_take 13 (some 10) rfl rfl (by kernel_rfl) (by kernel_rfl) (by kernel_rfl) (by kernel_rfl) (by kernel_rfl) (by kernel_rfl) (fun _ _ _ h => h) (.inl ⟨by rfl, fun w' _ => (by go_simp; rfl)⟩) hS ?_
        go_frame
        refine till_done (by kernel_rfl) ?_ _
        clear hS
        go_wp2_with (first
          | (refine wpList_load_row rfl 33 _ rfl Q rfl 33 _ _ _ HQ.out Tryz.underlying33 rfl Tryz.sizeU ?_)
          | (refine wpList_store_row_g (t := 33) (old := u0) rfl 33 _ _ rfl P #[.int .u64 qa, .int .u64 qb, .int .u64 qc, .int .u64 qd] rfl rfl HP.out Tryz.sizeU rfl (one_u64 _ _ _ _) ?_))
        intro a8 hxP kP zP
        clear zP
        have HBm := Lib.hid (HB.out.trans (kP.below (B := w.heap.size) (fun y hy e => by have := WP.out; omega) HB.out.size))
        have HXm := Lib.hid (kP.at HX.out NXP.out)
        have HYm := Lib.hid (kP.at HY.out NYP.out)
        have HZm := Lib.hid (kP.at HZ.out NZP.out)
        have HQm := Lib.hid (kP.at HQ.out (fun e => NPQ.out e.symm))
        have HVm := Lib.hid (kP.at HV.out (fun e => NPV.out e.symm))
        have HPm := Lib.hid hxP
        clear hxP kP HB HX HY HZ HP HQ HV
        have HB := HBm
        have HX := HXm
        have HY := HYm
        have HZ := HZm
        have HP := HPm
        have HQ := HQm
        have HV := HVm
        clear HBm HXm HYm HZm HPm HQm HVm
        go_wp2_with fail
        exact bodyPost_ret (res_row_val rfl _ _ P _ _ _ _ rfl HP.out Tryz.underlying33 rfl Tryz.sizeU _ rfl) rfl ⟨_, _, _, _, HQU.out, rfl, HB.out⟩
      · simp only [List.getElem_toArray, List.getElem_cons_succ, List.getElem_cons_zero]
        rw [if_pos (by rfl)]
        refine wp_alloc_g 33 rfl _ _ Tryz.zeroUz rfl ?_
        intro V a4 hV
        have WV : Hid (w.heap.size ≤ V) := Lib.hid (by rw [hV.out.eq]; exact (HB.out).size)
        have NXV : Hid (X ≠ V) := Lib.hid (by have := hV.out.eq; have := heap_lt HX.out; omega)
        have NYV : Hid (Y ≠ V) := Lib.hid (by have := hV.out.eq; have := heap_lt HY.out; omega)
        have NZV : Hid (Z ≠ V) := Lib.hid (by have := hV.out.eq; have := heap_lt HZ.out; omega)
        have NPV : Hid (P ≠ V) := Lib.hid (by have := hV.out.eq; have := heap_lt HP.out; omega)
        have HVz := Lib.hid hV.out.cells; have hbV := hV.out.below
        clear hV
        have HBm := Lib.hid (HB.out.trans (hbV.mono HB.out.size))
        have HXm := Lib.hid (below_at' hbV HX.out)
        have HYm := Lib.hid (below_at' hbV HY.out)
        have HZm := Lib.hid (below_at' hbV HZ.out)
        have HPm := Lib.hid (below_at' hbV HP.out)
        clear hbV HB HX HY HZ HP
        have HB := HBm
        have HX := HXm
        have HY := HYm
        have HZ := HZm
        have HP := HPm
        clear HBm HXm HYm HZm HPm
        have HV := HVz
        clear HVz
        have hS2 : a4.heap[X]? = some (.cells #[.int .u64 a, .int .u64 b, .int .u64 c, .int .u64 f] 33 (0, 0)) ∧ a4.heap[Y]? = some (.cells #[.int .u64 a', .int .u64 b', .int .u64 c', .int .u64 f'] 33 (0, 0)) ∧ a4.heap[Z]? = some (.cells #[.int .u64 (d : Int), .int .u64 0, .int .u64 0, .int .u64 0] 33 (0, 0)) := ⟨HX.out, HY.out, HZ.out⟩
        refine hK _ _ (fun _ _ => hS2) ?_
        clear hK hS
        have hS := hS2
        clear hS2
        refine till_one 9 rfl (by kernel_rfl) fun K hK => ?_
        simp only [List.getElem_toArray, List.getElem_cons_succ, List.getElem_cons_zero]
        rw [if_pos (by rfl)]
        refine wp_alloc_g 33 rfl _ _ Tryz.zeroUz rfl ?_
        intro Q a5 hQ
        have WQ : Hid (w.heap.size ≤ Q) := Lib.hid (by rw [hQ.out.eq]; exact (HB.out).size)
        have NXQ : Hid (X ≠ Q) := Lib.hid (by have := hQ.out.eq; have := heap_lt HX.out; omega)
        have NYQ : Hid (Y ≠ Q) := Lib.hid (by have := hQ.out.eq; have := heap_lt HY.out; omega)
        have NZQ : Hid (Z ≠ Q) := Lib.hid (by have := hQ.out.eq; have := heap_lt HZ.out; omega)
        have NPQ : Hid (P ≠ Q) := Lib.hid (by have := hQ.out.eq; have := heap_lt HP.out; omega)
        have NVQ : Hid (V ≠ Q) := Lib.hid (by have := hQ.out.eq; have := heap_lt HV.out; omega)
        have HQz := Lib.hid hQ.out.cells; have hbQ := hQ.out.below
        clear hQ
        have HBm := Lib.hid (HB.out.trans (hbQ.mono HB.out.size))
        have HXm := Lib.hid (below_at' hbQ HX.out)
        have HYm := Lib.hid (below_at' hbQ HY.out)
        have HZm := Lib.hid (below_at' hbQ HZ.out)
        have HPm := Lib.hid (below_at' hbQ HP.out)
        have HVm := Lib.hid (below_at' hbQ HV.out)
        clear hbQ HB HX HY HZ HP HV
        have HB := HBm
        have HX := HXm
        have HY := HYm
        have HZ := HZm
        have HP := HPm
        have HV := HVm
        clear HBm HXm HYm HZm HPm HVm
        have HQ := HQz
        clear HQz
        have hS2 : a5.heap[X]? = some (.cells #[.int .u64 a, .int .u64 b, .int .u64 c, .int .u64 f] 33 (0, 0)) ∧ a5.heap[Y]? = some (.cells #[.int .u64 a', .int .u64 b', .int .u64 c', .int .u64 f'] 33 (0, 0)) ∧ a5.heap[Z]? = some (.cells #[.int .u64 (d : Int), .int .u64 0, .int .u64 0, .int .u64 0] 33 (0, 0)) := ⟨HX.out, HY.out, HZ.out⟩
        refine hK _ _ (fun _ _ => hS2) ?_
        clear hK hS
        have hS := hS2
        clear hS2
        refine till_one 11 rfl (by kernel_rfl) fun K hK => ?_
        simp only [List.getElem_toArray, List.getElem_cons_succ, List.getElem_cons_zero]
        rw [if_pos (by rfl)]
        refine wp_store_row_g (t := 33) (old := u0) 33 _ _ rfl Q #[.int .u64 qa, .int .u64 qb, .int .u64 qc, .int .u64 qd] rfl rfl HQ.out Tryz.sizeU rfl (one_u64 _ _ _ _) ?_
        intro a6 hxQ kQ zQ
        clear zQ
        have HBm := Lib.hid (HB.out.trans (kQ.below (B := w.heap.size) (fun y hy e => by have := WQ.out; omega) HB.out.size))
        have HXm := Lib.hid (kQ.at HX.out NXQ.out)
        have HYm := Lib.hid (kQ.at HY.out NYQ.out)
        have HZm := Lib.hid (kQ.at HZ.out NZQ.out)
        have HPm := Lib.hid (kQ.at HP.out NPQ.out)
        have HVm := Lib.hid (kQ.at HV.out NVQ.out)
        have HQm := Lib.hid hxQ
        clear hxQ kQ HB HX HY HZ HP HV HQ
        have HB := HBm
        have HX := HXm
        have HY := HYm
        have HZ := HZm
        have HP := HPm
        have HV := HVm
        have HQ := HQm
        clear HBm HXm HYm HZm HPm HVm HQm
        have hS2 : a6.heap[X]? = some (.cells #[.int .u64 a, .int .u64 b, .int .u64 c, .int .u64 f] 33 (0, 0)) ∧ a6.heap[Y]? = some (.cells #[.int .u64 a', .int .u64 b', .int .u64 c', .int .u64 f'] 33 (0, 0)) ∧ a6.heap[Z]? = some (.cells #[.int .u64 (d : Int), .int .u64 0, .int .u64 0, .int .u64 0] 33 (0, 0)) := ⟨HX.out, HY.out, HZ.out⟩
        refine hK _ _ (fun _ _ => hS2) ?_
        clear hK hS
        have hS := hS2
        clear hS2
        refine till_one 12 rfl (by kernel_rfl) fun K hK => ?_
        simp only [List.getElem_toArray, List.getElem_cons_succ, List.getElem_cons_zero]
        rw [if_pos (by rfl)]
        refine wp_store_row_g (t := 33) (old := u0) 33 _ _ rfl V #[.int .u64 ra, .int .u64 rb, .int .u64 rc, .int .u64 rd] rfl rfl HV.out Tryz.sizeU rfl (one_u64 _ _ _ _) ?_
        intro a7 hxV kV zV
        clear zV
        have HBm := Lib.hid (HB.out.trans (kV.below (B := w.heap.size) (fun y hy e => by have := WV.out; omega) HB.out.size))
        have HXm := Lib.hid (kV.at HX.out NXV.out)
        have HYm := Lib.hid (kV.at HY.out NYV.out)
        have HZm := Lib.hid (kV.at HZ.out NZV.out)
        have HPm := Lib.hid (kV.at HP.out NPV.out)
        have HQm := Lib.hid (kV.at HQ.out (fun e => NVQ.out e.symm))
        have HVm := Lib.hid hxV
        clear hxV kV HB HX HY HZ HP HV HQ
        have HB := HBm
        have HX := HXm
        have HY := HYm
        have HZ := HZm
        have HP := HPm
        have HV := HVm
        have HQ := HQm
        clear HBm HXm HYm HZm HPm HVm HQm
        have hS2 : a7.heap[X]? = some (.cells #[.int .u64 a, .int .u64 b, .int .u64 c, .int .u64 f] 33 (0, 0)) ∧ a7.heap[Y]? = some (.cells #[.int .u64 a', .int .u64 b', .int .u64 c', .int .u64 f'] 33 (0, 0)) ∧ a7.heap[Z]? = some (.cells #[.int .u64 (d : Int), .int .u64 0, .int .u64 0, .int .u64 0] 33 (0, 0)) := ⟨HX.out, HY.out, HZ.out⟩
        refine hK _ _ (fun _ _ => hS2) ?_
        clear hK hS
        have hS := hS2
        clear hS2
        refine till_take 13 (some 10) rfl rfl (by kernel_rfl) (by kernel_rfl) (by kernel_rfl) (by kernel_rfl) (by kernel_rfl) (by kernel_rfl) (fun _ _ _ h => h) (.inl ⟨by rfl, fun w' _ => (by go_simp; rfl)⟩) hS ?_
        go_frame
        refine till_done (by kernel_rfl) ?_ _
        clear hS
        go_wp2_with (first
          | (refine wpList_load_row rfl 33 _ rfl Q rfl 33 _ _ _ HQ.out Tryz.underlying33 rfl Tryz.sizeU ?_)
          | (refine wpList_store_row_g (t := 33) (old := u0) rfl 33 _ _ rfl P #[.int .u64 qa, .int .u64 qb, .int .u64 qc, .int .u64 qd] rfl rfl HP.out Tryz.sizeU rfl (one_u64 _ _ _ _) ?_))
        intro a8 hxP kP zP
        clear zP
        have HBm := Lib.hid (HB.out.trans (kP.below (B := w.heap.size) (fun y hy e => by have := WP.out; omega) HB.out.size))
        have HXm := Lib.hid (kP.at HX.out NXP.out)
        have HYm := Lib.hid (kP.at HY.out NYP.out)
        have HZm := Lib.hid (kP.at HZ.out NZP.out)
        have HVm := Lib.hid (kP.at HV.out (fun e => NPV.out e.symm))
        have HQm := Lib.hid (kP.at HQ.out (fun e => NPQ.out e.symm))
        have HPm := Lib.hid hxP
        clear hxP kP HB HX HY HZ HP HV HQ
        have HB := HBm
        have HX := HXm
        have HY := HYm
        have HZ := HZm
        have HP := HPm
        have HV := HVm
        have HQ := HQm
        clear HBm HXm HYm HZm HPm HVm HQm
        go_wp2_with fail
        exact bodyPost_ret (res_row_val rfl _ _ P _ _ _ _ rfl HP.out Tryz.underlying33 rfl Tryz.sizeU _ rfl) rfl ⟨_, _, _, _, HQU.out, rfl, HB.out⟩
    · simp only [List.getElem_toArray, List.getElem_cons_succ, List.getElem_cons_zero]
      rw [if_pos (by rfl)]
      refine wp_alloc_g 33 rfl _ _ Tryz.zeroUz rfl ?_
      intro Q a3 hQ
      have WQ : Hid (w.heap.size ≤ Q) := Lib.hid (by rw [hQ.out.eq]; exact (HB.out).size)
      have NXQ : Hid (X ≠ Q) := Lib.hid (by have := hQ.out.eq; have := heap_lt HX.out; omega)
      have NYQ : Hid (Y ≠ Q) := Lib.hid (by have := hQ.out.eq; have := heap_lt HY.out; omega)
      have NZQ : Hid (Z ≠ Q) := Lib.hid (by have := hQ.out.eq; have := heap_lt HZ.out; omega)
      have NPQ : Hid (P ≠ Q) := Lib.hid (by have := hQ.out.eq; have := heap_lt HP.out; omega)
      have HQz := Lib.hid hQ.out.cells; have hbQ := hQ.out.below
      clear hQ
      have HBm := Lib.hid (HB.out.trans (hbQ.mono HB.out.size))
      have HXm := Lib.hid (below_at' hbQ HX.out)
      have HYm := Lib.hid (below_at' hbQ HY.out)
      have HZm := Lib.hid (below_at' hbQ HZ.out)
      have HPm := Lib.hid (below_at' hbQ HP.out)
      clear hbQ HB HX HY HZ HP
      have HB := HBm
      have HX := HXm
      have HY := HYm
      have HZ := HZm
      have HP := HPm
      clear HBm HXm HYm HZm HPm
      have HQ := HQz
      clear HQz
      have hS2 : a3.heap[X]? = some (.cells #[.int .u64 a, .int .u64 b, .int .u64 c, .int .u64 f] 33 (0, 0)) ∧ a3.heap[Y]? = some (.cells #[.int .u64 a', .int .u64 b', .int .u64 c', .int .u64 f'] 33 (0, 0)) ∧ a3.heap[Z]? = some (.cells #[.int .u64 (d : Int), .int .u64 0, .int .u64 0, .int .u64 0] 33 (0, 0)) := ⟨HX.out, HY.out, HZ.out⟩
      refine hK _ _ (fun _ _ => hS2) ?_
      clear hK hS
      have hS := hS2
      clear hS2
      refine till_two 4 10 rfl rfl (by kernel_rfl) (fun K hK => ?_) (fun K hK => ?_)
      · simp only [List.getElem_toArray, List.getElem_cons_succ, List.getElem_cons_zero]
        rw [if_pos (by rfl)]
        go_simp
        refine (quo_any HHH.out HLL.out HD.out.1 HD.out.2 _).mono ?_
        rintro e a4 ⟨qa, qb, qc, qd, ra, rb, rc, rd, hq, hr, rfl, hb⟩
        have HQU := Lib.hid hq
        clear hq hr
        have HBm := Lib.hid (HB.out.trans (hb.mono HB.out.size))
        have HXm := Lib.hid (below_at' hb HX.out)
        have HYm := Lib.hid (below_at' hb HY.out)
        have HZm := Lib.hid (below_at' hb HZ.out)
        have HPm := Lib.hid (below_at' hb HP.out)
        have HQm := Lib.hid (below_at' hb HQ.out)
        clear hb HB HX HY HZ HP HQ
        have HB := HBm
        have HX := HXm
        have HY := HYm
        have HZ := HZm
        have HP := HPm
        have HQ := HQm
        clear HBm HXm HYm HZm HPm HQm
        have hS2 : a4.heap[X]? = some (.cells #[.int .u64 a, .int .u64 b, .int .u64 c, .int .u64 f] 33 (0, 0)) ∧ a4.heap[Y]? = some (.cells #[.int .u64 a', .int .u64 b', .int .u64 c', .int .u64 f'] 33 (0, 0)) ∧ a4.heap[Z]? = some (.cells #[.int .u64 (d : Int), .int .u64 0, .int .u64 0, .int .u64 0] 33 (0, 0)) := ⟨HX.out, HY.out, HZ.out⟩
        refine hK _ _ (fun _ _ => hS2) ?_
        clear hK hS
        have hS := hS2
        clear hS2
        refine till_take 5 (some 11) rfl rfl (by kernel_rfl) (by kernel_rfl) (by kernel_rfl) (by kernel_rfl) (by kernel_rfl) (by kernel_rfl) (fun _ _ _ h => h) (.inl ⟨by rfl, fun w' _ => (by go_simp; rfl)⟩) hS ?_
        go_frame
        refine till_take 6 (some 17) rfl rfl (by kernel_rfl) (by kernel_rfl) (by kernel_rfl) (by kernel_rfl) (by kernel_rfl) (by kernel_rfl) (fun _ _ _ h => h) (.inl ⟨by rfl, fun w' _ => (by go_simp; rfl)⟩) hS ?_
        go_frame
        refine till_take 7 (some 18) rfl rfl (by kernel_rfl) (by kernel_rfl) (by kernel_rfl) (by kernel_rfl) (by kernel_rfl) (by kernel_rfl) (fun _ _ _ h => h) (.inl ⟨by rfl, fun w' _ => (by go_simp; rfl)⟩) hS ?_
        go_frame
        refine till_take 8 (some 19) rfl rfl (by kernel_rfl) (by kernel_rfl) (by kernel_rfl) (by kernel_rfl) (by kernel_rfl) (by kernel_rfl) (fun _ _ _ h => h) (.inl ⟨by rfl, fun w' _ => (by go_simp; rfl)⟩) hS ?_
        go_frame
        refine till_one 10 rfl (by kernel_rfl) fun K hK => ?_
        simp only [List.getElem_toArray, List.getElem_cons_succ, List.getElem_cons_zero]
        rw [if_pos (by rfl)]
        refine wp_alloc_g 33 rfl _ _ Tryz.zeroUz rfl ?_
        intro V a5 hV
        have WV : Hid (w.heap.size ≤ V) := Lib.hid (by rw [hV.out.eq]; exact (HB.out).size)
        have NXV : Hid (X ≠ V) := Lib.hid (by have := hV.out.eq; have := heap_lt HX.out; omega)
        have NYV : Hid (Y ≠ V) := Lib.hid (by have := hV.out.eq; have := heap_lt HY.out; omega)
        have NZV : Hid (Z ≠ V) := Lib.hid (by have := hV.out.eq; have := heap_lt HZ.out; omega)
        have NPV : Hid (P ≠ V) := Lib.hid (by have := hV.out.eq; have := heap_lt HP.out; omega)
        have NQV : Hid (Q ≠ V) := Lib.hid (by have := hV.out.eq; have := heap_lt HQ.out; omega)
        have HVz := Lib.hid hV.out.cells; have hbV := hV.out.below
        clear hV
        have HBm := Lib.hid (HB.out.trans (hbV.mono HB.out.size))
        have HXm := Lib.hid (below_at' hbV HX.out)
        have HYm := Lib.hid (below_at' hbV HY.out)
        have HZm := Lib.hid (below_at' hbV HZ.out)
        have HPm := Lib.hid (below_at' hbV HP.out)
        have HQm := Lib.hid (below_at' hbV HQ.out)
        clear hbV HB HX HY HZ HP HQ
        have HB := HBm
        have HX := HXm
        have HY := HYm
        have HZ := HZm
        have HP := HPm
        have HQ := HQm
        clear HBm HXm HYm HZm HPm HQm
        have HV := HVz
        clear HVz
        have hS2 : a5.heap[X]? = some (.cells #[.int .u64 a, .int .u64 b, .int .u64 c, .int .u64 f] 33 (0, 0)) ∧ a5.heap[Y]? = some (.cells #[.int .u64 a', .int .u64 b', .int .u64 c', .int .u64 f'] 33 (0, 0)) ∧ a5.heap[Z]? = some (.cells #[.int .u64 (d : Int), .int .u64 0, .int .u64 0, .int .u64 0] 33 (0, 0)) := ⟨HX.out, HY.out, HZ.out⟩
        refine hK _ _ (fun _ _ => hS2) ?_
        clear hK hS
        have hS := hS2
        clear hS2
        refine till_one 11 rfl (by kernel_rfl) fun K hK => ?_
        simp only [List.getElem_toArray, List.getElem_cons_succ, List.getElem_cons_zero]
        rw [if_pos (by rfl)]
        refine wp_store_row_g (t := 33) (old := u0) 33 _ _ rfl Q #[.int .u64 qa, .int .u64 qb, .int .u64 qc, .int .u64 qd] rfl rfl HQ.out Tryz.sizeU rfl (one_u64 _ _ _ _) ?_
        intro a6 hxQ kQ zQ
        clear zQ
        have HBm := Lib.hid (HB.out.trans (kQ.below (B := w.heap.size) (fun y hy e => by have := WQ.out; omega) HB.out.size))
        have HXm := Lib.hid (kQ.at HX.out NXQ.out)
        have HYm := Lib.hid (kQ.at HY.out NYQ.out)
        have HZm := Lib.hid (kQ.at HZ.out NZQ.out)
        have HPm := Lib.hid (kQ.at HP.out NPQ.out)
        have HVm := Lib.hid (kQ.at HV.out (fun e => NQV.out e.symm))
        have HQm := Lib.hid hxQ
        clear hxQ kQ HB HX HY HZ HP HQ HV
        have HB := HBm
        have HX := HXm
        have HY := HYm
        have HZ := HZm
        have HP := HPm
        have HQ := HQm
        have HV := HVm
        clear HBm HXm HYm HZm HPm HQm HVm
        have hS2 : a6.heap[X]? = some (.cells #[.int .u64 a, .int .u64 b, .int .u64 c, .int .u64 f] 33 (0, 0)) ∧ a6.heap[Y]? = some (.cells #[.int .u64 a', .int .u64 b', .int .u64 c', .int .u64 f'] 33 (0, 0)) ∧ a6.heap[Z]? = some (.cells #[.int .u64 (d : Int), .int .u64 0, .int .u64 0, .int .u64 0] 33 (0, 0)) := ⟨HX.out, HY.out, HZ.out⟩
        refine hK _ _ (fun _ _ => hS2) ?_
        clear hK hS
        have hS := hS2
        clear hS2
        refine till_one 12 rfl (by kernel_rfl) fun K hK => ?_
        simp only [List.getElem_toArray, List.getElem_cons_succ, List.getElem_cons_zero]
        rw [if_pos (by rfl)]
        refine wp_store_row_g (t := 33) (old := u0) 33 _ _ rfl V #[.int .u64 ra, .int .u64 rb, .int .u64 rc, .int .u64 rd] rfl rfl HV.out Tryz.sizeU rfl (one_u64 _ _ _ _) ?_
        intro a7 hxV kV zV
        clear zV
        have HBm := Lib.hid (HB.out.trans (kV.below (B := w.heap.size) (fun y hy e => by have := WV.out; omega) HB.out.size))
        have HXm := Lib.hid (kV.at HX.out NXV.out)
        have HYm := Lib.hid (kV.at HY.out NYV.out)
        have HZm := Lib.hid (kV.at HZ.out NZV.out)
        have HPm := Lib.hid (kV.at HP.out NPV.out)
        have HQm := Lib.hid (kV.at HQ.out NQV.out)
        have HVm := Lib.hid hxV
        clear hxV kV HB HX HY HZ HP HQ HV
        have HB := HBm
        have HX := HXm
        have HY := HYm
        have HZ := HZm
        have HP := HPm
        have HQ := HQm
        have HV := HVm
        clear HBm HXm HYm HZm HPm HQm HVm
        have hS2 : a7.heap[X]? = some (.cells #[.int .u64 a, .int .u64 b, .int .u64 c, .int .u64 f] 33 (0, 0)) ∧ a7.heap[Y]? = some (.cells #[.int .u64 a', .int .u64 b', .int .u64 c', .int .u64 f'] 33 (0, 0)) ∧ a7.heap[Z]? = some (.cells #[.int .u64 (d : Int), .int .u64 0, .int .u64 0, .int .u64 0] 33 (0, 0)) := ⟨HX.out, HY.out, HZ.out⟩
        refine hK _ _ (fun _ _ => hS2) ?_
        clear hK hS
        have hS := hS2
        clear hS2
        refine till_take 13 (some 10) rfl rfl (by kernel_rfl) (by kernel_rfl) (by kernel_rfl) (by kernel_rfl) (by kernel_rfl) (by kernel_rfl) (fun _ _ _ h => h) (.inl ⟨by rfl, fun w' _ => (by go_simp; rfl)⟩) hS ?_
        go_frame
        refine till_done (by kernel_rfl) ?_ _
        clear hS
        go_wp2_with (first
          | (refine wpList_load_row rfl 33 _ rfl Q rfl 33 _ _ _ HQ.out Tryz.underlying33 rfl Tryz.sizeU ?_)
          | (refine wpList_store_row_g (t := 33) (old := u0) rfl 33 _ _ rfl P #[.int .u64 qa, .int .u64 qb, .int .u64 qc, .int .u64 qd] rfl rfl HP.out Tryz.sizeU rfl (one_u64 _ _ _ _) ?_))
        intro a8 hxP kP zP
        clear zP
        have HBm := Lib.hid (HB.out.trans (kP.below (B := w.heap.size) (fun y hy e => by have := WP.out; omega) HB.out.size))
        have HXm := Lib.hid (kP.at HX.out NXP.out)
        have HYm := Lib.hid (kP.at HY.out NYP.out)
        have HZm := Lib.hid (kP.at HZ.out NZP.out)
        have HQm := Lib.hid (kP.at HQ.out (fun e => NPQ.out e.symm))
        have HVm := Lib.hid (kP.at HV.out (fun e => NPV.out e.symm))
        have HPm := Lib.hid hxP
        clear hxP kP HB HX HY HZ HP HQ HV
        have HB := HBm
        have HX := HXm
        have HY := HYm
        have HZ := HZm
        have HP := HPm
        have HQ := HQm
        have HV := HVm
        clear HBm HXm HYm HZm HPm HQm HVm
        go_wp2_with fail
        exact bodyPost_ret (res_row_val rfl _ _ P _ _ _ _ rfl HP.out Tryz.underlying33 rfl Tryz.sizeU _ rfl) rfl ⟨_, _, _, _, HQU.out, rfl, HB.out⟩
      · simp only [List.getElem_toArray, List.getElem_cons_succ, List.getElem_cons_zero]
        rw [if_pos (by rfl)]
        refine wp_alloc_g 33 rfl _ _ Tryz.zeroUz rfl ?_
        intro V a4 hV
        have WV : Hid (w.heap.size ≤ V) := Lib.hid (by rw [hV.out.eq]; exact (HB.out).size)
        have NXV : Hid (X ≠ V) := Lib.hid (by have := hV.out.eq; have := heap_lt HX.out; omega)
        have NYV : Hid (Y ≠ V) := Lib.hid (by have := hV.out.eq; have := heap_lt HY.out; omega)
        have NZV : Hid (Z ≠ V) := Lib.hid (by have := hV.out.eq; have := heap_lt HZ.out; omega)
        have NPV : Hid (P ≠ V) := Lib.hid (by have := hV.out.eq; have := heap_lt HP.out; omega)
        have NQV : Hid (Q ≠ V) := Lib.hid (by have := hV.out.eq; have := heap_lt HQ.out; omega)
        have HVz := Lib.hid hV.out.cells; have hbV := hV.out.below
        clear hV
        have HBm := Lib.hid (HB.out.trans (hbV.mono HB.out.size))
        have HXm := Lib.hid (below_at' hbV HX.out)
        have HYm := Lib.hid (below_at' hbV HY.out)
        have HZm := Lib.hid (below_at' hbV HZ.out)
        have HPm := Lib.hid (below_at' hbV HP.out)
        have HQm := Lib.hid (below_at' hbV HQ.out)
        clear hbV HB HX HY HZ HP HQ
        have HB := HBm
        have HX := HXm
        have HY := HYm
        have HZ := HZm
        have HP := HPm
        have HQ := HQm
        clear HBm HXm HYm HZm HPm HQm
        have HV := HVz
        clear HVz
        have hS2 : a4.heap[X]? = some (.cells #[.int .u64 a, .int .u64 b, .int .u64 c, .int .u64 f] 33 (0, 0)) ∧ a4.heap[Y]? = some (.cells #[.int .u64 a', .int .u64 b', .int .u64 c', .int .u64 f'] 33 (0, 0)) ∧ a4.heap[Z]? = some (.cells #[.int .u64 (d : Int), .int .u64 0, .int .u64 0, .int .u64 0] 33 (0, 0)) := ⟨HX.out, HY.out, HZ.out⟩
        refine hK _ _ (fun _ _ => hS2) ?_
        clear hK hS
        have hS := hS2
        clear hS2
        refine till_one 4 rfl (by kernel_rfl) fun K hK => ?_
        simp only [List.getElem_toArray, List.getElem_cons_succ, List.getElem_cons_zero]
        rw [if_pos (by rfl)]
        go_simp
        refine (quo_any HHH.out HLL.out HD.out.1 HD.out.2 _).mono ?_
        rintro e a5 ⟨qa, qb, qc, qd, ra, rb, rc, rd, hq, hr, rfl, hb⟩
        have HQU := Lib.hid hq
        clear hq hr
        have HBm := Lib.hid (HB.out.trans (hb.mono HB.out.size))
        have HXm := Lib.hid (below_at' hb HX.out)
        have HYm := Lib.hid (below_at' hb HY.out)
        have HZm := Lib.hid (below_at' hb HZ.out)
        have HPm := Lib.hid (below_at' hb HP.out)
        have HQm := Lib.hid (below_at' hb HQ.out)
        have HVm := Lib.hid (below_at' hb HV.out)
        clear hb HB HX HY HZ HP HQ HV
        have HB := HBm
        have HX := HXm
        have HY := HYm
        have HZ := HZm
        have HP := HPm
        have HQ := HQm
        have HV := HVm
        clear HBm HXm HYm HZm HPm HQm HVm
        have hS2 : a5.heap[X]? = some (.cells #[.int .u64 a, .int .u64 b, .int .u64 c, .int .u64 f] 33 (0, 0)) ∧ a5.heap[Y]? = some (.cells #[.int .u64 a', .int .u64 b', .int .u64 c', .int .u64 f'] 33 (0, 0)) ∧ a5.heap[Z]? = some (.cells #[.int .u64 (d : Int), .int .u64 0, .int .u64 0, .int .u64 0] 33 (0, 0)) := ⟨HX.out, HY.out, HZ.out⟩
        refine hK _ _ (fun _ _ => hS2) ?_
        clear hK hS
        have hS := hS2
        clear hS2
        refine till_take 5 (some 11) rfl rfl (by kernel_rfl) (by kernel_rfl) (by kernel_rfl) (by kernel_rfl) (by kernel_rfl) (by kernel_rfl) (fun _ _ _ h => h) (.inl ⟨by rfl, fun w' _ => (by go_simp; rfl)⟩) hS ?_
        go_frame
        refine till_take 6 (some 17) rfl rfl (by kernel_rfl) (by kernel_rfl) (by kernel_rfl) (by kernel_rfl) (by kernel_rfl) (by kernel_rfl) (fun _ _ _ h => h) (.inl ⟨by rfl, fun w' _ => (by go_simp; rfl)⟩) hS ?_
        go_frame
        refine till_take 7 (some 18) rfl rfl (by kernel_rfl) (by kernel_rfl) (by kernel_rfl) (by kernel_rfl) (by kernel_rfl) (by kernel_rfl) (fun _ _ _ h => h) (.inl ⟨by rfl, fun w' _ => (by go_simp; rfl)⟩) hS ?_
        go_frame
        refine till_take 8 (some 19) rfl rfl (by kernel_rfl) (by kernel_rfl) (by kernel_rfl) (by kernel_rfl) (by kernel_rfl) (by kernel_rfl) (fun _ _ _ h => h) (.inl ⟨by rfl, fun w' _ => (by go_simp; rfl)⟩) hS ?_
        go_frame
        refine till_one 11 rfl (by kernel_rfl) fun K hK => ?_
        simp only [List.getElem_toArray, List.getElem_cons_succ, List.getElem_cons_zero]
        rw [if_pos (by rfl)]
        refine wp_store_row_g (t := 33) (old := u0) 33 _ _ rfl Q #[.int .u64 qa, .int .u64 qb, .int .u64 qc, .int .u64 qd] rfl rfl HQ.out Tryz.sizeU rfl (one_u64 _ _ _ _) ?_
        intro a6 hxQ kQ zQ
        clear zQ
        have HBm := Lib.hid (HB.out.trans (kQ.below (B := w.heap.size) (fun y hy e => by have := WQ.out; omega) HB.out.size))
        have HXm := Lib.hid (kQ.at HX.out NXQ.out)
        have HYm := Lib.hid (kQ.at HY.out NYQ.out)
        have HZm := Lib.hid (kQ.at HZ.out NZQ.out)
        have HPm := Lib.hid (kQ.at HP.out NPQ.out)
        have HVm := Lib.hid (kQ.at HV.out (fun e => NQV.out e.symm))
        have HQm := Lib.hid hxQ
        clear hxQ kQ HB HX HY HZ HP HQ HV
        have HB := HBm
        have HX := HXm
        have HY := HYm
        have HZ := HZm
        have HP := HPm
        have HQ := HQm
        have HV := HVm
        clear HBm HXm HYm HZm HPm HQm HVm
        have hS2 : a6.heap[X]? = some (.cells #[.int .u64 a, .int .u64 b, .int .u64 c, .int .u64 f] 33 (0, 0)) ∧ a6.heap[Y]? = some (.cells #[.int .u64 a', .int .u64 b', .int .u64 c', .int .u64 f'] 33 (0, 0)) ∧ a6.heap[Z]? = some (.cells #[.int .u64 (d : Int), .int .u64 0, .int .u64 0, .int .u64 0] 33 (0, 0)) := ⟨HX.out, HY.out, HZ.out⟩
        refine hK _ _ (fun _ _ => hS2) ?_
        clear hK hS
        have hS := hS2
        clear hS2
        refine till_one 12 rfl (by kernel_rfl) fun K hK => ?_
        simp only [List.getElem_toArray, List.getElem_cons_succ, List.getElem_cons_zero]
        rw [if_pos (by rfl)]
        refine wp_store_row_g (t := 33) (old := u0) 33 _ _ rfl V #[.int .u64 ra, .int .u64 rb, .int .u64 rc, .int .u64 rd] rfl rfl HV.out Tryz.sizeU rfl (one_u64 _ _ _ _) ?_
        intro a7 hxV kV zV
        clear zV
        have HBm := Lib.hid (HB.out.trans (kV.below (B := w.heap.size) (fun y hy e => by have := WV.out; omega) HB.out.size))
        have HXm := Lib.hid (kV.at HX.out NXV.out)
        have HYm := Lib.hid (kV.at HY.out NYV.out)
        have HZm := Lib.hid (kV.at HZ.out NZV.out)
        have HPm := Lib.hid (kV.at HP.out NPV.out)
        have HQm := Lib.hid (kV.at HQ.out NQV.out)
        have HVm := Lib.hid hxV
        clear hxV kV HB HX HY HZ HP HQ HV
        have HB := HBm
        have HX := HXm
        have HY := HYm
        have HZ := HZm
        have HP := HPm
        have HQ := HQm
        have HV := HVm
        clear HBm HXm HYm HZm HPm HQm HVm
        have hS2 : a7.heap[X]? = some (.cells #[.int .u64 a, .int .u64 b, .int .u64 c, .int .u64 f] 33 (0, 0)) ∧ a7.heap[Y]? = some (.cells #[.int .u64 a', .int .u64 b', .int .u64 c', .int .u64 f'] 33 (0, 0)) ∧ a7.heap[Z]? = some (.cells #[.int .u64 (d : Int), .int .u64 0, .int .u64 0, .int .u64 0] 33 (0, 0)) := ⟨HX.out, HY.out, HZ.out⟩
        refine hK _ _ (fun _ _ => hS2) ?_
        clear hK hS
        have hS := hS2
        clear hS2
        refine till_take 13 (some 10) rfl rfl (by kernel_rfl) (by kernel_rfl) (by kernel_rfl) (by kernel_rfl) (by kernel_rfl) (by kernel_rfl) (fun _ _ _ h => h) (.inl ⟨by rfl, fun w' _ => (by go_simp; rfl)⟩) hS ?_
        go_frame
        refine till_done (by kernel_rfl) ?_ _
        clear hS
        go_wp2_with (first
          | (refine wpList_load_row rfl 33 _ rfl Q rfl 33 _ _ _ HQ.out Tryz.underlying33 rfl Tryz.sizeU ?_)
          | (refine wpList_store_row_g (t := 33) (old := u0) rfl 33 _ _ rfl P #[.int .u64 qa, .int .u64 qb, .int .u64 qc, .int .u64 qd] rfl rfl HP.out Tryz.sizeU rfl (one_u64 _ _ _ _) ?_))
        intro a8 hxP kP zP
        clear zP
        have HBm := Lib.hid (HB.out.trans (kP.below (B := w.heap.size) (fun y hy e => by have := WP.out; omega) HB.out.size))
        have HXm := Lib.hid (kP.at HX.out NXP.out)
        have HYm := Lib.hid (kP.at HY.out NYP.out)
        have HZm := Lib.hid (kP.at HZ.out NZP.out)
        have HQm := Lib.hid (kP.at HQ.out (fun e => NPQ.out e.symm))
        have HVm := Lib.hid (kP.at HV.out (fun e => NPV.out e.symm))
        have HPm := Lib.hid hxP
        clear hxP kP HB HX HY HZ HP HQ HV
        have HB := HBm
        have HX := HXm
        have HY := HYm
        have HZ := HZm
        have HP := HPm
        have HQ := HQm
        have HV := HVm
        clear HBm HXm HYm HZm HPm HQm HVm
        go_wp2_with fail
        exact bodyPost_ret (res_row_val rfl _ _ P _ _ _ _ rfl HP.out Tryz.underlying33 rfl Tryz.sizeU _ rfl) rfl ⟨_, _, _, _, HQU.out, rfl, HB.out⟩
    · simp only [List.getElem_toArray, List.getElem_cons_succ, List.getElem_cons_zero]
      rw [if_pos (by rfl)]
      refine wp_alloc_g 33 rfl _ _ Tryz.zeroUz rfl ?_
      intro V a3 hV
      have WV : Hid (w.heap.size ≤ V) := Lib.hid (by rw [hV.out.eq]; exact (HB.out).size)
      have NXV : Hid (X ≠ V) := Lib.hid (by have := hV.out.eq; have := heap_lt HX.out; omega)
      have NYV : Hid (Y ≠ V) := Lib.hid (by have := hV.out.eq; have := heap_lt HY.out; omega)
      have NZV : Hid (Z ≠ V) := Lib.hid (by have := hV.out.eq; have := heap_lt HZ.out; omega)
      have NPV : Hid (P ≠ V) := Lib.hid (by have := hV.out.eq; have := heap_lt HP.out; omega)
      have HVz := Lib.hid hV.out.cells; have hbV := hV.out.below
      clear hV
      have HBm := Lib.hid (HB.out.trans (hbV.mono HB.out.size))
      have HXm := Lib.hid (below_at' hbV HX.out)
      have HYm := Lib.hid (below_at' hbV HY.out)
      have HZm := Lib.hid (below_at' hbV HZ.out)
      have HPm := Lib.hid (below_at' hbV HP.out)
      clear hbV HB HX HY HZ HP
      have HB := HBm
      have HX := HXm
      have HY := HYm
      have HZ := HZm
      have HP := HPm
      clear HBm HXm HYm HZm HPm
      have HV := HVz
      clear HVz
      have hS2 : a3.heap[X]? = some (.cells #[.int .u64 a, .int .u64 b, .int .u64 c, .int .u64 f] 33 (0, 0)) ∧ a3.heap[Y]? = some (.cells #[.int .u64 a', .int .u64 b', .int .u64 c', .int .u64 f'] 33 (0, 0)) ∧ a3.heap[Z]? = some (.cells #[.int .u64 (d : Int), .int .u64 0, .int .u64 0, .int .u64 0] 33 (0, 0)) := ⟨HX.out, HY.out, HZ.out⟩
      refine hK _ _ (fun _ _ => hS2) ?_
      clear hK hS
      have hS := hS2
      clear hS2
      refine till_two 4 9 rfl rfl (by kernel_rfl) (fun K hK => ?_) (fun K hK => ?_)
      · simp only [List.getElem_toArray, List.getElem_cons_succ, List.getElem_cons_zero]
        rw [if_pos (by rfl)]
        go_simp
        refine (quo_any HHH.out HLL.out HD.out.1 HD.out.2 _).mono ?_
        rintro e a4 ⟨qa, qb, qc, qd, ra, rb, rc, rd, hq, hr, rfl, hb⟩
        have HQU := Lib.hid hq
        clear hq hr
        have HBm := Lib.hid (HB.out.trans (hb.mono HB.out.size))
        have HXm := Lib.hid (below_at' hb HX.out)
        have HYm := Lib.hid (below_at' hb HY.out)
        have HZm := Lib.hid (below_at' hb HZ.out)
        have HPm := Lib.hid (below_at' hb HP.out)
        have HVm := Lib.hid (below_at' hb HV.out)
        clear hb HB HX HY HZ HP HV
        have HB := HBm
        have HX := HXm
        have HY := HYm
        have HZ := HZm
        have HP := HPm
        have HV := HVm
        clear HBm HXm HYm HZm HPm HVm
        have hS2 : a4.heap[X]? = some (.cells #[.int .u64 a, .int .u64 b, .int .u64 c, .int .u64 f] 33 (0, 0)) ∧ a4.heap[Y]? = some (.cells #[.int .u64 a', .int .u64 b', .int .u64 c', .int .u64 f'] 33 (0, 0)) ∧ a4.heap[Z]? = some (.cells #[.int .u64 (d : Int), .int .u64 0, .int .u64 0, .int .u64 0] 33 (0, 0)) := ⟨HX.out, HY.out, HZ.out⟩
        refine hK _ _ (fun _ _ => hS2) ?_
        clear hK hS
        have hS := hS2
        clear hS2
        refine till_take 5 (some 11) rfl rfl (by kernel_rfl) (by kernel_rfl) (by kernel_rfl) (by kernel_rfl) (by kernel_rfl) (by kernel_rfl) (fun _ _ _ h => h) (.inl ⟨by rfl, fun w' _ => (by go_simp; rfl)⟩) hS ?_
        go_frame
        refine till_take 6 (some 17) rfl rfl (by kernel_rfl) (by kernel_rfl) (by kernel_rfl) (by kernel_rfl) (by kernel_rfl) (by kernel_rfl) (fun _ _ _ h => h) (.inl ⟨by rfl, fun w' _ => (by go_simp; rfl)⟩) hS ?_
        go_frame
        refine till_take 7 (some 18) rfl rfl (by kernel_rfl) (by kernel_rfl) (by kernel_rfl) (by kernel_rfl) (by kernel_rfl) (by kernel_rfl) (fun _ _ _ h => h) (.inl ⟨by rfl, fun w' _ => (by go_simp; rfl)⟩) hS ?_
        go_frame
        refine till_take 8 (some 19) rfl rfl (by kernel_rfl) (by kernel_rfl) (by kernel_rfl) (by kernel_rfl) (by kernel_rfl) (by kernel_rfl) (fun _ _ _ h => h) (.inl ⟨by rfl, fun w' _ => (by go_simp; rfl)⟩) hS ?_
        go_frame
        refine till_one 9 rfl (by kernel_rfl) fun K hK => ?_
        simp only [List.getElem_toArray, List.getElem_cons_succ, List.getElem_cons_zero]
        rw [if_pos (by rfl)]
        refine wp_alloc_g 33 rfl _ _ Tryz.zeroUz rfl ?_
        intro Q a5 hQ
        have WQ : Hid (w.heap.size ≤ Q) := Lib.hid (by rw [hQ.out.eq]; exact (HB.out).size)
        have NXQ : Hid (X ≠ Q) := Lib.hid (by have := hQ.out.eq; have := heap_lt HX.out; omega)
        have NYQ : Hid (Y ≠ Q) := Lib.hid (by have := hQ.out.eq; have := heap_lt HY.out; omega)
        have NZQ : Hid (Z ≠ Q) := Lib.hid (by have := hQ.out.eq; have := heap_lt HZ.out; omega)
        have NPQ : Hid (P ≠ Q) := Lib.hid (by have := hQ.out.eq; have := heap_lt HP.out; omega)
        have NVQ : Hid (V ≠ Q) := Lib.hid (by have := hQ.out.eq; have := heap_lt HV.out; omega)
        have HQz := Lib.hid hQ.out.cells; have hbQ := hQ.out.below
        clear hQ
        have HBm := Lib.hid (HB.out.trans (hbQ.mono HB.out.size))
        have HXm := Lib.hid (below_at' hbQ HX.out)
        have HYm := Lib.hid (below_at' hbQ HY.out)
        have HZm := Lib.hid (below_at' hbQ HZ.out)
        have HPm := Lib.hid (below_at' hbQ HP.out)
        have HVm := Lib.hid (below_at' hbQ HV.out)
        clear hbQ HB HX HY HZ HP HV
        have HB := HBm
        have HX := HXm
        have HY := HYm
        have HZ := HZm
        have HP := HPm
        have HV := HVm
        clear HBm HXm HYm HZm HPm HVm
        have HQ := HQz
        clear HQz
        have hS2 : a5.heap[X]? = some (.cells #[.int .u64 a, .int .u64 b, .int .u64 c, .int .u64 f] 33 (0, 0)) ∧ a5.heap[Y]? = some (.cells #[.int .u64 a', .int .u64 b', .int .u64 c', .int .u64 f'] 33 (0, 0)) ∧ a5.heap[Z]? = some (.cells #[.int .u64 (d : Int), .int .u64 0, .int .u64 0, .int .u64 0] 33 (0, 0)) := ⟨HX.out, HY.out, HZ.out⟩
        refine hK _ _ (fun _ _ => hS2) ?_
        clear hK hS
        have hS := hS2
        clear hS2
        refine till_one 11 rfl (by kernel_rfl) fun K hK => ?_
        simp only [List.getElem_toArray, List.getElem_cons_succ, List.getElem_cons_zero]
        rw [if_pos (by rfl)]
        refine wp_store_row_g (t := 33) (old := u0) 33 _ _ rfl Q #[.int .u64 qa, .int .u64 qb, .int .u64 qc, .int .u64 qd] rfl rfl HQ.out Tryz.sizeU rfl (one_u64 _ _ _ _) ?_
        intro a6 hxQ kQ zQ
        clear zQ
        have HBm := Lib.hid (HB.out.trans (kQ.below (B := w.heap.size) (fun y hy e => by have := WQ.out; omega) HB.out.size))
        have HXm := Lib.hid (kQ.at HX.out NXQ.out)
        have HYm := Lib.hid (kQ.at HY.out NYQ.out)
        have HZm := Lib.hid (kQ.at HZ.out NZQ.out)
        have HPm := Lib.hid (kQ.at HP.out NPQ.out)
        have HVm := Lib.hid (kQ.at HV.out NVQ.out)
        have HQm := Lib.hid hxQ
        clear hxQ kQ HB HX HY HZ HP HV HQ
        have HB := HBm
        have HX := HXm
        have HY := HYm
        have HZ := HZm
        have HP := HPm
        have HV := HVm
        have HQ := HQm
        clear HBm HXm HYm HZm HPm HVm HQm
        have hS2 : a6.heap[X]? = some (.cells #[.int .u64 a, .int .u64 b, .int .u64 c, .int .u64 f] 33 (0, 0)) ∧ a6.heap[Y]? = some (.cells #[.int .u64 a', .int .u64 b', .int .u64 c', .int .u64 f'] 33 (0, 0)) ∧ a6.heap[Z]? = some (.cells #[.int .u64 (d : Int), .int .u64 0, .int .u64 0, .int .u64 0] 33 (0, 0)) := ⟨HX.out, HY.out, HZ.out⟩
        refine hK _ _ (fun _ _ => hS2) ?_
        clear hK hS
        have hS := hS2
        clear hS2
        refine till_one 12 rfl (by kernel_rfl) fun K hK => ?_
        simp only [List.getElem_toArray, List.getElem_cons_succ, List.getElem_cons_zero]
        rw [if_pos (by rfl)]
        refine wp_store_row_g (t := 33) (old := u0) 33 _ _ rfl V #[.int .u64 ra, .int .u64 rb, .int .u64 rc, .int .u64 rd] rfl rfl HV.out Tryz.sizeU rfl (one_u64 _ _ _ _) ?_
        intro a7 hxV kV zV
        clear zV
        have HBm := Lib.hid (HB.out.trans (kV.below (B := w.heap.size) (fun y hy e => by have := WV.out; omega) HB.out.size))
        have HXm := Lib.hid (kV.at HX.out NXV.out)
        have HYm := Lib.hid (kV.at HY.out NYV.out)
        have HZm := Lib.hid (kV.at HZ.out NZV.out)
        have HPm := Lib.hid (kV.at HP.out NPV.out)
        have HQm := Lib.hid (kV.at HQ.out (fun e => NVQ.out e.symm))
        have HVm := Lib.hid hxV
        clear hxV kV HB HX HY HZ HP HV HQ
        have HB := HBm
        have HX := HXm
        have HY := HYm
        have HZ := HZm
        have HP := HPm
        have HV := HVm
        have HQ := HQm
        clear HBm HXm HYm HZm HPm HVm HQm
        have hS2 : a7.heap[X]? = some (.cells #[.int .u64 a, .int .u64 b, .int .u64 c, .int .u64 f] 33 (0, 0)) ∧ a7.heap[Y]? = some (.cells #[.int .u64 a', .int .u64 b', .int .u64 c', .int .u64 f'] 33 (0, 0)) ∧ a7.heap[Z]? = some (.cells #[.int .u64 (d : Int), .int .u64 0, .int .u64 0, .int .u64 0] 33 (0, 0)) := ⟨HX.out, HY.out, HZ.out⟩
        refine hK _ _ (fun _ _ => hS2) ?_
        clear hK hS
        have hS := hS2
        clear hS2
        refine till_take 13 (some 10) rfl rfl (by kernel_rfl) (by kernel_rfl) (by kernel_rfl) (by kernel_rfl) (by kernel_rfl) (by kernel_rfl) (fun _ _ _ h => h) (.inl ⟨by rfl, fun w' _ => (by go_simp; rfl)⟩) hS ?_
        go_frame
        refine till_done (by kernel_rfl) ?_ _
        clear hS
        go_wp2_with (first
          | (refine wpList_load_row rfl 33 _ rfl Q rfl 33 _ _ _ HQ.out Tryz.underlying33 rfl Tryz.sizeU ?_)
          | (refine wpList_store_row_g (t := 33) (old := u0) rfl 33 _ _ rfl P #[.int .u64 qa, .int .u64 qb, .int .u64 qc, .int .u64 qd] rfl rfl HP.out Tryz.sizeU rfl (one_u64 _ _ _ _) ?_))
        intro a8 hxP kP zP
        clear zP
        have HBm := Lib.hid (HB.out.trans (kP.below (B := w.heap.size) (fun y hy e => by have := WP.out; omega) HB.out.size))
        have HXm := Lib.hid (kP.at HX.out NXP.out)
        have HYm := Lib.hid (kP.at HY.out NYP.out)
        have HZm := Lib.hid (kP.at HZ.out NZP.out)
        have HVm := Lib.hid (kP.at HV.out (fun e => NPV.out e.symm))
        have HQm := Lib.hid (kP.at HQ.out (fun e => NPQ.out e.symm))
        have HPm := Lib.hid hxP
        clear hxP kP HB HX HY HZ HP HV HQ
        have HB := HBm
        have HX := HXm
        have HY := HYm
        have HZ := HZm
        have HP := HPm
        have HV := HVm
        have HQ := HQm
        clear HBm HXm HYm HZm HPm HVm HQm
        go_wp2_with fail
        exact bodyPost_ret (res_row_val rfl _ _ P _ _ _ _ rfl HP.out Tryz.underlying33 rfl Tryz.sizeU _ rfl) rfl ⟨_, _, _, _, HQU.out, rfl, HB.out⟩
      · simp only [List.getElem_toArray, List.getElem_cons_succ, List.getElem_cons_zero]
        rw [if_pos (by rfl)]
        refine wp_alloc_g 33 rfl _ _ Tryz.zeroUz rfl ?_
        intro Q a4 hQ
        have WQ : Hid (w.heap.size ≤ Q) := Lib.hid (by rw [hQ.out.eq]; exact (HB.out).size)
        have NXQ : Hid (X ≠ Q) := Lib.hid (by have := hQ.out.eq; have := heap_lt HX.out; omega)
        have NYQ : Hid (Y ≠ Q) := Lib.hid (by have := hQ.out.eq; have := heap_lt HY.out; omega)
        have NZQ : Hid (Z ≠ Q) := Lib.hid (by have := hQ.out.eq; have := heap_lt HZ.out; omega)
        have NPQ : Hid (P ≠ Q) := Lib.hid (by have := hQ.out.eq; have := heap_lt HP.out; omega)
        have NVQ : Hid (V ≠ Q) := Lib.hid (by have := hQ.out.eq; have := heap_lt HV.out; omega)
        have HQz := Lib.hid hQ.out.cells; have hbQ := hQ.out.below
        clear hQ
        have HBm := Lib.hid (HB.out.trans (hbQ.mono HB.out.size))
        have HXm := Lib.hid (below_at' hbQ HX.out)
        have HYm := Lib.hid (below_at' hbQ HY.out)
        have HZm := Lib.hid (below_at' hbQ HZ.out)
        have HPm := Lib.hid (below_at' hbQ HP.out)
        have HVm := Lib.hid (below_at' hbQ HV.out)
        clear hbQ HB HX HY HZ HP HV
        have HB := HBm
        have HX := HXm
        have HY := HYm
        have HZ := HZm
        have HP := HPm
        have HV := HVm
        clear HBm HXm HYm HZm HPm HVm
        have HQ := HQz
        clear HQz
        have hS2 : a4.heap[X]? = some (.cells #[.int .u64 a, .int .u64 b, .int .u64 c, .int .u64 f] 33 (0, 0)) ∧ a4.heap[Y]? = some (.cells #[.int .u64 a', .int .u64 b', .int .u64 c', .int .u64 f'] 33 (0, 0)) ∧ a4.heap[Z]? = some (.cells #[.int .u64 (d : Int), .int .u64 0, .int .u64 0, .int .u64 0] 33 (0, 0)) := ⟨HX.out, HY.out, HZ.out⟩
        refine hK _ _ (fun _ _ => hS2) ?_
        clear hK hS
        have hS := hS2
        clear hS2
        refine till_one 4 rfl (by kernel_rfl) fun K hK => ?_
        simp only [List.getElem_toArray, List.getElem_cons_succ, List.getElem_cons_zero]
        rw [if_pos (by rfl)]
        go_simp
        refine (quo_any HHH.out HLL.out HD.out.1 HD.out.2 _).mono ?_
        rintro e a5 ⟨qa, qb, qc, qd, ra, rb, rc, rd, hq, hr, rfl, hb⟩
        have HQU := Lib.hid hq
        clear hq hr
        have HBm := Lib.hid (HB.out.trans (hb.mono HB.out.size))
        have HXm := Lib.hid (below_at' hb HX.out)
        have HYm := Lib.hid (below_at' hb HY.out)
        have HZm := Lib.hid (below_at' hb HZ.out)
        have HPm := Lib.hid (below_at' hb HP.out)
        have HVm := Lib.hid (below_at' hb HV.out)
        have HQm := Lib.hid (below_at' hb HQ.out)
        clear hb HB HX HY HZ HP HV HQ
        have HB := HBm
        have HX := HXm
        have HY := HYm
        have HZ := HZm
        have HP := HPm
        have HV := HVm
        have HQ := HQm
        clear HBm HXm HYm HZm HPm HVm HQm
        have hS2 : a5.heap[X]? = some (.cells #[.int .u64 a, .int .u64 b, .int .u64 c, .int .u64 f] 33 (0, 0)) ∧ a5.heap[Y]? = some (.cells #[.int .u64 a', .int .u64 b', .int .u64 c', .int .u64 f'] 33 (0, 0)) ∧ a5.heap[Z]? = some (.cells #[.int .u64 (d : Int), .int .u64 0, .int .u64 0, .int .u64 0] 33 (0, 0)) := ⟨HX.out, HY.out, HZ.out⟩
        refine hK _ _ (fun _ _ => hS2) ?_
        clear hK hS
        have hS := hS2
        clear hS2
        refine till_take 5 (some 11) rfl rfl (by kernel_rfl) (by kernel_rfl) (by kernel_rfl) (by kernel_rfl) (by kernel_rfl) (by kernel_rfl) (fun _ _ _ h => h) (.inl ⟨by rfl, fun w' _ => (by go_simp; rfl)⟩) hS ?_
        go_frame
        refine till_take 6 (some 17) rfl rfl (by kernel_rfl) (by kernel_rfl) (by kernel_rfl) (by kernel_rfl) (by kernel_rfl) (by kernel_rfl) (fun _ _ _ h => h) (.inl ⟨by rfl, fun w' _ => (by go_simp; rfl)⟩) hS ?_
        go_frame
        refine till_take 7 (some 18) rfl rfl (by kernel_rfl) (by kernel_rfl) (by kernel_rfl) (by kernel_rfl) (by kernel_rfl) (by kernel_rfl) (fun _ _ _ h => h) (.inl ⟨by rfl, fun w' _ => (by go_simp; rfl)⟩) hS ?_
        go_frame
        refine till_take 8 (some 19) rfl rfl (by kernel_rfl) (by kernel_rfl) (by kernel_rfl) (by kernel_rfl) (by kernel_rfl) (by kernel_rfl) (fun _ _ _ h => h) (.inl ⟨by rfl, fun w' _ => (by go_simp; rfl)⟩) hS ?_
        go_frame
        refine till_one 11 rfl (by kernel_rfl) fun K hK => ?_
        simp only [List.getElem_toArray, List.getElem_cons_succ, List.getElem_cons_zero]
        rw [if_pos (by rfl)]
        refine wp_store_row_g (t := 33) (old := u0) 33 _ _ rfl Q #[.int .u64 qa, .int .u64 qb, .int .u64 qc, .int .u64 qd] rfl rfl HQ.out Tryz.sizeU rfl (one_u64 _ _ _ _) ?_
        intro a6 hxQ kQ zQ
        clear zQ
        have HBm := Lib.hid (HB.out.trans (kQ.below (B := w.heap.size) (fun y hy e => by have := WQ.out; omega) HB.out.size))
        have HXm := Lib.hid (kQ.at HX.out NXQ.out)
        have HYm := Lib.hid (kQ.at HY.out NYQ.out)
        have HZm := Lib.hid (kQ.at HZ.out NZQ.out)
        have HPm := Lib.hid (kQ.at HP.out NPQ.out)
        have HVm := Lib.hid (kQ.at HV.out NVQ.out)
        have HQm := Lib.hid hxQ
        clear hxQ kQ HB HX HY HZ HP HV HQ
        have HB := HBm
        have HX := HXm
        have HY := HYm
        have HZ := HZm
        have HP := HPm
        have HV := HVm
        have HQ := HQm
        clear HBm HXm HYm HZm HPm HVm HQm
        have hS2 : a6.heap[X]? = some (.cells #[.int .u64 a, .int .u64 b, .int .u64 c, .int .u64 f] 33 (0, 0)) ∧ a6.heap[Y]? = some (.cells #[.int .u64 a', .int .u64 b', .int .u64 c', .int .u64 f'] 33 (0, 0)) ∧ a6.heap[Z]? = some (.cells #[.int .u64 (d : Int), .int .u64 0, .int .u64 0, .int .u64 0] 33 (0, 0)) := ⟨HX.out, HY.out, HZ.out⟩
        refine hK _ _ (fun _ _ => hS2) ?_
        clear hK hS
        have hS := hS2
        clear hS2
        refine till_one 12 rfl (by kernel_rfl) fun K hK => ?_
        simp only [List.getElem_toArray, List.getElem_cons_succ, List.getElem_cons_zero]
        rw [if_pos (by rfl)]
        refine wp_store_row_g (t := 33) (old := u0) 33 _ _ rfl V #[.int .u64 ra, .int .u64 rb, .int .u64 rc, .int .u64 rd] rfl rfl HV.out Tryz.sizeU rfl (one_u64 _ _ _ _) ?_
        intro a7 hxV kV zV
        clear zV
        have HBm := Lib.hid (HB.out.trans (kV.below (B := w.heap.size) (fun y hy e => by have := WV.out; omega) HB.out.size))
        have HXm := Lib.hid (kV.at HX.out NXV.out)
        have HYm := Lib.hid (kV.at HY.out NYV.out)
        have HZm := Lib.hid (kV.at HZ.out NZV.out)
        have HPm := Lib.hid (kV.at HP.out NPV.out)
        have HQm := Lib.hid (kV.at HQ.out (fun e => NVQ.out e.symm))
        have HVm := Lib.hid hxV
        clear hxV kV HB HX HY HZ HP HV HQ
        have HB := HBm
        have HX := HXm
        have HY := HYm
        have HZ := HZm
        have HP := HPm
        have HV := HVm
        have HQ := HQm
        clear HBm HXm HYm HZm HPm HVm HQm
        have hS2 : a7.heap[X]? = some (.cells #[.int .u64 a, .int .u64 b, .int .u64 c, .int .u64 f] 33 (0, 0)) ∧ a7.heap[Y]? = some (.cells #[.int .u64 a', .int .u64 b', .int .u64 c', .int .u64 f'] 33 (0, 0)) ∧ a7.heap[Z]? = some (.cells #[.int .u64 (d : Int), .int .u64 0, .int .u64 0, .int .u64 0] 33 (0, 0)) := ⟨HX.out, HY.out, HZ.out⟩
        refine hK _ _ (fun _ _ => hS2) ?_
        clear hK hS
        have hS := hS2
        clear hS2
        refine till_take 13 (some 10) rfl rfl (by kernel_rfl) (by kernel_rfl) (by kernel_rfl) (by kernel_rfl) (by kernel_rfl) (by kernel_rfl) (fun _ _ _ h => h) (.inl ⟨by rfl, fun w' _ => (by go_simp; rfl)⟩) hS ?_
        go_frame
        refine till_done (by kernel_rfl) ?_ _
        clear hS
        go_wp2_with (first
          | (refine wpList_load_row rfl 33 _ rfl Q rfl 33 _ _ _ HQ.out Tryz.underlying33 rfl Tryz.sizeU ?_)
          | (refine wpList_store_row_g (t := 33) (old := u0) rfl 33 _ _ rfl P #[.int .u64 qa, .int .u64 qb, .int .u64 qc, .int .u64 qd] rfl rfl HP.out Tryz.sizeU rfl (one_u64 _ _ _ _) ?_))
        intro a8 hxP kP zP
        clear zP
        have HBm := Lib.hid (HB.out.trans (kP.below (B := w.heap.size) (fun y hy e => by have := WP.out; omega) HB.out.size))
        have HXm := Lib.hid (kP.at HX.out NXP.out)
        have HYm := Lib.hid (kP.at HY.out NYP.out)
        have HZm := Lib.hid (kP.at HZ.out NZP.out)
        have HVm := Lib.hid (kP.at HV.out (fun e => NPV.out e.symm))
        have HQm := Lib.hid (kP.at HQ.out (fun e => NPQ.out e.symm))
        have HPm := Lib.hid hxP
        clear hxP kP HB HX HY HZ HP HV HQ
        have HB := HBm
        have HX := HXm
        have HY := HYm
        have HZ := HZm
        have HP := HPm
        have HV := HVm
        have HQ := HQm
        clear HBm HXm HYm HZm HPm HVm HQm
        go_wp2_with fail
        exact bodyPost_ret (res_row_val rfl _ _ P _ _ _ _ rfl HP.out Tryz.underlying33 rfl Tryz.sizeU _ rfl) rfl ⟨_, _, _, _, HQU.out, rfl, HB.out⟩
  · simp only [List.getElem_toArray, List.getElem_cons_succ, List.getElem_cons_zero]
    rw [if_pos (by rfl)]
    refine wp_alloc_g 33 rfl _ _ Tryz.zeroUz rfl ?_
    intro Q a2 hQ
    have WQ : Hid (w.heap.size ≤ Q) := Lib.hid (by rw [hQ.out.eq]; exact (HB.out).size)
    have NXQ : Hid (X ≠ Q) := Lib.hid (by have := hQ.out.eq; have := heap_lt HX.out; omega)
    have NYQ : Hid (Y ≠ Q) := Lib.hid (by have := hQ.out.eq; have := heap_lt HY.out; omega)
    have NZQ : Hid (Z ≠ Q) := Lib.hid (by have := hQ.out.eq; have := heap_lt HZ.out; omega)
    have NPQ : Hid (P ≠ Q) := Lib.hid (by have := hQ.out.eq; have := heap_lt HP.out; omega)
    have HQz := Lib.hid hQ.out.cells; have hbQ := hQ.out.below
    clear hQ
    have HBm := Lib.hid (HB.out.trans (hbQ.mono HB.out.size))
    have HXm := Lib.hid (below_at' hbQ HX.out)
    have HYm := Lib.hid (below_at' hbQ HY.out)
    have HZm := Lib.hid (below_at' hbQ HZ.out)
    have HPm := Lib.hid (below_at' hbQ HP.out)
    clear hbQ HB HX HY HZ HP
    have HB := HBm
    have HX := HXm
    have HY := HYm
    have HZ := HZm
    have HP := HPm
    clear HBm HXm HYm HZm HPm
    have HQ := HQz
    clear HQz
    have hS2 : a2.heap[X]? = some (.cells #[.int .u64 a, .int .u64 b, .int .u64 c, .int .u64 f] 33 (0, 0)) ∧ a2.heap[Y]? = some (.cells #[.int .u64 a', .int .u64 b', .int .u64 c', .int .u64 f'] 33 (0, 0)) ∧ a2.heap[Z]? = some (.cells #[.int .u64 (d : Int), .int .u64 0, .int .u64 0, .int .u64 0] 33 (0, 0)) := ⟨HX.out, HY.out, HZ.out⟩
    refine hK _ _ (fun _ _ => hS2) ?_
    clear hK hS
    have hS := hS2
    clear hS2
    refine till_two 2 10 rfl rfl (by kernel_rfl) (fun K hK => ?_) (fun K hK => ?_)
    · simp only [List.getElem_toArray, List.getElem_cons_succ, List.getElem_cons_zero]
      rw [if_pos (by rfl)]
      go_simp
      refine (mul_any HU.out HVV.out _).mono ?_
      rintro e a3 ⟨h0, h1, h2, h3, l0, l1, l2, l3, hh, hl, rfl, hb⟩
      rw [HM.out.1] at hh
      rw [HM.out.2] at hl
      have HHH := Lib.hid hh; have HLL := Lib.hid hl
      clear hh hl
      have HBm := Lib.hid (HB.out.trans (hb.mono HB.out.size))
      have HXm := Lib.hid (below_at' hb HX.out)
      have HYm := Lib.hid (below_at' hb HY.out)
      have HZm := Lib.hid (below_at' hb HZ.out)
      have HPm := Lib.hid (below_at' hb HP.out)
      have HQm := Lib.hid (below_at' hb HQ.out)
      clear hb HB HX HY HZ HP HQ
      have HB := HBm
      have HX := HXm
      have HY := HYm
      have HZ := HZm
      have HP := HPm
      have HQ := HQm
      clear HBm HXm HYm HZm HPm HQm
      have hS2 : a3.heap[X]? = some (.cells #[.int .u64 a, .int .u64 b, .int .u64 c, .int .u64 f] 33 (0, 0)) ∧ a3.heap[Y]? = some (.cells #[.int .u64 a', .int .u64 b', .int .u64 c', .int .u64 f'] 33 (0, 0)) ∧ a3.heap[Z]? = some (.cells #[.int .u64 (d : Int), .int .u64 0, .int .u64 0, .int .u64 0] 33 (0, 0)) := ⟨HX.out, HY.out, HZ.out⟩
      refine hK _ _ (fun _ _ => hS2) ?_
      clear hK hS
      have hS := hS2
      clear hS2
      refine till_two 4 10 rfl rfl (by kernel_rfl) (fun K hK => ?_) (fun K hK => ?_)
      · simp only [List.getElem_toArray, List.getElem_cons_succ, List.getElem_cons_zero]
        rw [if_pos (by rfl)]
        go_simp
        refine (quo_any HHH.out HLL.out HD.out.1 HD.out.2 _).mono ?_
        rintro e a4 ⟨qa, qb, qc, qd, ra, rb, rc, rd, hq, hr, rfl, hb⟩
        have HQU := Lib.hid hq
        clear hq hr
        have HBm := Lib.hid (HB.out.trans (hb.mono HB.out.size))
        have HXm := Lib.hid (below_at' hb HX.out)
        have HYm := Lib.hid (below_at' hb HY.out)
        have HZm := Lib.hid (below_at' hb HZ.out)
        have HPm := Lib.hid (below_at' hb HP.out)
        have HQm := Lib.hid (below_at' hb HQ.out)
        clear hb HB HX HY HZ HP HQ
        have HB := HBm
        have HX := HXm
        have HY := HYm
        have HZ := HZm
        have HP := HPm
        have HQ := HQm
        clear HBm HXm HYm HZm HPm HQm
        have hS2 : a4.heap[X]? = some (.cells #[.int .u64 a, .int .u64 b, .int .u64 c, .int .u64 f] 33 (0, 0)) ∧ a4.heap[Y]? = some (.cells #[.int .u64 a', .int .u64 b', .int .u64 c', .int .u64 f'] 33 (0, 0)) ∧ a4.heap[Z]? = some (.cells #[.int .u64 (d : Int), .int .u64 0, .int .u64 0, .int .u64 0] 33 (0, 0)) := ⟨HX.out, HY.out, HZ.out⟩
        refine hK _ _ (fun _ _ => hS2) ?_
        clear hK hS
        have hS := hS2
        clear hS2
        refine till_take 5 (some 11) rfl rfl (by kernel_rfl) (by kernel_rfl) (by kernel_rfl) (by kernel_rfl) (by kernel_rfl) (by kernel_rfl) (fun _ _ _ h => h) (.inl ⟨by rfl, fun w' _ => (by go_simp; rfl)⟩) hS ?_
        go_frame
        refine till_take 6 (some 17) rfl rfl (by kernel_rfl) (by kernel_rfl) (by kernel_rfl) (by kernel_rfl) (by kernel_rfl) (by kernel_rfl) (fun _ _ _ h => h) (.inl ⟨by rfl, fun w' _ => (by go_simp; rfl)⟩) hS ?_
        go_frame
        refine till_take 7 (some 18) rfl rfl (by kernel_rfl) (by kernel_rfl) (by kernel_rfl) (by kernel_rfl) (by kernel_rfl) (by kernel_rfl) (fun _ _ _ h => h) (.inl ⟨by rfl, fun w' _ => (by go_simp; rfl)⟩) hS ?_
        go_frame
        refine till_take 8 (some 19) rfl rfl (by kernel_rfl) (by kernel_rfl) (by kernel_rfl) (by kernel_rfl) (by kernel_rfl) (by kernel_rfl) (fun _ _ _ h => h) (.inl ⟨by rfl, fun w' _ => (by go_simp; rfl)⟩) hS ?_
        go_frame
        refine till_one 10 rfl (by kernel_rfl) fun K hK => ?_
        simp only [List.getElem_toArray, List.getElem_cons_succ, List.getElem_cons_zero]
        rw [if_pos (by rfl)]
        refine wp_alloc_g 33 rfl _ _ Tryz.zeroUz rfl ?_
        intro V a5 hV
        have WV : Hid (w.heap.size ≤ V) := Lib.hid (by rw [hV.out.eq]; exact (HB.out).size)
        have NXV : Hid (X ≠ V) := Lib.hid (by have := hV.out.eq; have := heap_lt HX.out; omega)
        have NYV : Hid (Y ≠ V) := Lib.hid (by have := hV.out.eq; have := heap_lt HY.out; omega)
        have NZV : Hid (Z ≠ V) := Lib.hid (by have := hV.out.eq; have := heap_lt HZ.out; omega)
        have NPV : Hid (P ≠ V) := Lib.hid (by have := hV.out.eq; have := heap_lt HP.out; omega)
        have NQV : Hid (Q ≠ V) := Lib.hid (by have := hV.out.eq; have := heap_lt HQ.out; omega)
        have HVz := Lib.hid hV.out.cells; have hbV := hV.out.below
        clear hV
        have HBm := Lib.hid (HB.out.trans (hbV.mono HB.out.size))
        have HXm := Lib.hid (below_at' hbV HX.out)
        have HYm := Lib.hid (below_at' hbV HY.out)
        have HZm := Lib.hid (below_at' hbV HZ.out)
        have HPm := Lib.hid (below_at' hbV HP.out)
        have HQm := Lib.hid (below_at' hbV HQ.out)
        clear hbV HB HX HY HZ HP HQ
        have HB := HBm
        have HX := HXm
        have HY := HYm
        have HZ := HZm
        have HP := HPm
        have HQ := HQm
        clear HBm HXm HYm HZm HPm HQm
        have HV := HVz
        clear HVz
        have hS2 : a5.heap[X]? = some (.cells #[.int .u64 a, .int .u64 b, .int .u64 c, .int .u64 f] 33 (0, 0)) ∧ a5.heap[Y]? = some (.cells #[.int .u64 a', .int .u64 b', .int .u64 c', .int .u64 f'] 33 (0, 0)) ∧ a5.heap[Z]? = some (.cells #[.int .u64 (d : Int), .int .u64 0, .int .u64 0, .int .u64 0] 33 (0, 0)) := ⟨HX.out, HY.out, HZ.out⟩
        refine hK _ _ (fun _ _ => hS2) ?_
        clear hK hS
        have hS := hS2
        clear hS2
        refine till_one 11 rfl (by kernel_rfl) fun K hK => ?_
        simp only [List.getElem_toArray, List.getElem_cons_succ, List.getElem_cons_zero]
        rw [if_pos (by rfl)]
        refine wp_store_row_g (t := 33) (old := u0) 33 _ _ rfl Q #[.int .u64 qa, .int .u64 qb, .int .u64 qc, .int .u64 qd] rfl rfl HQ.out Tryz.sizeU rfl (one_u64 _ _ _ _) ?_
        intro a6 hxQ kQ zQ
        clear zQ
        have HBm := Lib.hid (HB.out.trans (kQ.below (B := w.heap.size) (fun y hy e => by have := WQ.out; omega) HB.out.size))
        have HXm := Lib.hid (kQ.at HX.out NXQ.out)
        have HYm := Lib.hid (kQ.at HY.out NYQ.out)
        have HZm := Lib.hid (kQ.at HZ.out NZQ.out)
        have HPm := Lib.hid (kQ.at HP.out NPQ.out)
        have HVm := Lib.hid (kQ.at HV.out (fun e => NQV.out e.symm))
        have HQm := Lib.hid hxQ
        clear hxQ kQ HB HX HY HZ HP HQ HV
        have HB := HBm
        have HX := HXm
        have HY := HYm
        have HZ := HZm
        have HP := HPm
        have HQ := HQm
        have HV := HVm
        clear HBm HXm HYm HZm HPm HQm HVm
        have hS2 : a6.heap[X]? = some (.cells #[.int .u64 a, .int .u64 b, .int .u64 c, .int .u64 f] 33 (0, 0)) ∧ a6.heap[Y]? = some (.cells #[.int .u64 a', .int .u64 b', .int .u64 c', .int .u64 f'] 33 (0, 0)) ∧ a6.heap[Z]? = some (.cells #[.int .u64 (d : Int), .int .u64 0, .int .u64 0, .int .u64 0] 33 (0, 0)) := ⟨HX.out, HY.out, HZ.out⟩
        refine hK _ _ (fun _ _ => hS2) ?_
        clear hK hS
        have hS := hS2
        clear hS2
        refine till_one 12 rfl (by kernel_rfl) fun K hK => ?_
        simp only [List.getElem_toArray, List.getElem_cons_succ, List.getElem_cons_zero]
        rw [if_pos (by rfl)]
        refine wp_store_row_g (t := 33) (old := u0) 33 _ _ rfl V #[.int .u64 ra, .int .u64 rb, .int .u64 rc, .int .u64 rd] rfl rfl HV.out Tryz.sizeU rfl (one_u64 _ _ _ _) ?_
        intro a7 hxV kV zV
        clear zV
        have HBm := Lib.hid (HB.out.trans (kV.below (B := w.heap.size) (fun y hy e => by have := WV.out; omega) HB.out.size))
        have HXm := Lib.hid (kV.at HX.out NXV.out)
        have HYm := Lib.hid (kV.at HY.out NYV.out)
        have HZm := Lib.hid (kV.at HZ.out NZV.out)
        have HPm := Lib.hid (kV.at HP.out NPV.out)
        have HQm := Lib.hid (kV.at HQ.out NQV.out)
        have HVm := Lib.hid hxV
        clear hxV kV HB HX HY HZ HP HQ HV
        have HB := HBm
        have HX := HXm
        have HY := HYm
        have HZ := HZm
        have HP := HPm
        have HQ := HQm
        have HV := HVm
        clear HBm HXm HYm HZm HPm HQm HVm
        have hS2 : a7.heap[X]? = some (.cells #[.int .u64 a, .int .u64 b, .int .u64 c, .int .u64 f] 33 (0, 0)) ∧ a7.heap[Y]? = some (.cells #[.int .u64 a', .int .u64 b', .int .u64 c', .int .u64 f'] 33 (0, 0)) ∧ a7.heap[Z]? = some (.cells #[.int .u64 (d : Int), .int .u64 0, .int .u64 0, .int .u64 0] 33 (0, 0)) := ⟨HX.out, HY.out, HZ.out⟩
        refine hK _ _ (fun _ _ => hS2) ?_
        clear hK hS
        have hS := hS2
        clear hS2
        refine till_take 13 (some 10) rfl rfl (by kernel_rfl) (by kernel_rfl) (by kernel_rfl) (by kernel_rfl) (by kernel_rfl) (by kernel_rfl) (fun _ _ _ h => h) (.inl ⟨by rfl, fun w' _ => (by go_simp; rfl)⟩) hS ?_
        go_frame
        refine till_done (by kernel_rfl) ?_ _
        clear hS
        go_wp2_with (first
          | (refine wpList_load_row rfl 33 _ rfl Q rfl 33 _ _ _ HQ.out Tryz.underlying33 rfl Tryz.sizeU ?_)
          | (refine wpList_store_row_g (t := 33) (old := u0) rfl 33 _ _ rfl P #[.int .u64 qa, .int .u64 qb, .int .u64 qc, .int .u64 qd] rfl rfl HP.out Tryz.sizeU rfl (one_u64 _ _ _ _) ?_))
        intro a8 hxP kP zP
        clear zP
        have HBm := Lib.hid (HB.out.trans (kP.below (B := w.heap.size) (fun y hy e => by have := WP.out; omega) HB.out.size))
        have HXm := Lib.hid (kP.at HX.out NXP.out)
        have HYm := Lib.hid (kP.at HY.out NYP.out)
        have HZm := Lib.hid (kP.at HZ.out NZP.out)
        have HQm := Lib.hid (kP.at HQ.out (fun e => NPQ.out e.symm))
        have HVm := Lib.hid (kP.at HV.out (fun e => NPV.out e.symm))
        have HPm := Lib.hid hxP
        clear hxP kP HB HX HY HZ HP HQ HV
        have HB := HBm
        have HX := HXm
        have HY := HYm
        have HZ := HZm
        have HP := HPm
        have HQ := HQm
        have HV := HVm
        clear HBm HXm HYm HZm HPm HQm HVm
        go_wp2_with fail
        exact bodyPost_ret (res_row_val rfl _ _ P _ _ _ _ rfl HP.out Tryz.underlying33 rfl Tryz.sizeU _ rfl) rfl ⟨_, _, _, _, HQU.out, rfl, HB.out⟩
      · simp only [List.getElem_toArray, List.getElem_cons_succ, List.getElem_cons_zero]
        rw [if_pos (by rfl)]
        refine wp_alloc_g 33 rfl _ _ Tryz.zeroUz rfl ?_
        intro V a4 hV
        have WV : Hid (w.heap.size ≤ V) := Lib.hid (by rw [hV.out.eq]; exact (HB.out).size)
        have NXV : Hid (X ≠ V) := Lib.hid (by have := hV.out.eq; have := heap_lt HX.out; omega)
        have NYV : Hid (Y ≠ V) := Lib.hid (by have := hV.out.eq; have := heap_lt HY.out; omega)
        have NZV : Hid (Z ≠ V) := Lib.hid (by have := hV.out.eq; have := heap_lt HZ.out; omega)
        have NPV : Hid (P ≠ V) := Lib.hid (by have := hV.out.eq; have := heap_lt HP.out; omega)
        have NQV : Hid (Q ≠ V) := Lib.hid (by have := hV.out.eq; have := heap_lt HQ.out; omega)
        have HVz := Lib.hid hV.out.cells; have hbV := hV.out.below
        clear hV
        have HBm := Lib.hid (HB.out.trans (hbV.mono HB.out.size))
        have HXm := Lib.hid (below_at' hbV HX.out)
        have HYm := Lib.hid (below_at' hbV HY.out)
        have HZm := Lib.hid (below_at' hbV HZ.out)
        have HPm := Lib.hid (below_at' hbV HP.out)
        have HQm := Lib.hid (below_at' hbV HQ.out)
        clear hbV HB HX HY HZ HP HQ
        have HB := HBm
        have HX := HXm
        have HY := HYm
        have HZ := HZm
        have HP := HPm
        have HQ := HQm
        clear HBm HXm HYm HZm HPm HQm
        have HV := HVz
        clear HVz
        have hS2 : a4.heap[X]? = some (.cells #[.int .u64 a, .int .u64 b, .int .u64 c, .int .u64 f] 33 (0, 0)) ∧ a4.heap[Y]? = some (.cells #[.int .u64 a', .int .u64 b', .int .u64 c', .int .u64 f'] 33 (0, 0)) ∧ a4.heap[Z]? = some (.cells #[.int .u64 (d : Int), .int .u64 0, .int .u64 0, .int .u64 0] 33 (0, 0)) := ⟨HX.out, HY.out, HZ.out⟩
        refine hK _ _ (fun _ _ => hS2) ?_
        clear hK hS
        have hS := hS2
        clear hS2
        refine till_one 4 rfl (by kernel_rfl) fun K hK => ?_
        simp only [List.getElem_toArray, List.getElem_cons_succ, List.getElem_cons_zero]
        rw [if_pos (by rfl)]
        go_simp
        refine (quo_any HHH.out HLL.out HD.out.1 HD.out.2 _).mono ?_
        rintro e a5 ⟨qa, qb, qc, qd, ra, rb, rc, rd, hq, hr, rfl, hb⟩
        have HQU := Lib.hid hq
        clear hq hr
        have HBm := Lib.hid (HB.out.trans (hb.mono HB.out.size))
        have HXm := Lib.hid (below_at' hb HX.out)
        have HYm := Lib.hid (below_at' hb HY.out)
        have HZm := Lib.hid (below_at' hb HZ.out)
        have HPm := Lib.hid (below_at' hb HP.out)
        have HQm := Lib.hid (below_at' hb HQ.out)
        have HVm := Lib.hid (below_at' hb HV.out)
        clear hb HB HX HY HZ HP HQ HV
        have HB := HBm
        have HX := HXm
        have HY := HYm
        have HZ := HZm
        have HP := HPm
        have HQ := HQm
        have HV := HVm
        clear HBm HXm HYm HZm HPm HQm HVm
        have hS2 : a5.heap[X]? = some (.cells #[.int .u64 a, .int .u64 b, .int .u64 c, .int .u64 f] 33 (0, 0)) ∧ a5.heap[Y]? = some (.cells #[.int .u64 a', .int .u64 b', .int .u64 c', .int .u64 f'] 33 (0, 0)) ∧ a5.heap[Z]? = some (.cells #[.int .u64 (d : Int), .int .u64 0, .int .u64 0, .int .u64 0] 33 (0, 0)) := ⟨HX.out, HY.out, HZ.out⟩
        refine hK _ _ (fun _ _ => hS2) ?_
        clear hK hS
        have hS := hS2
        clear hS2
        refine till_take 5 (some 11) rfl rfl (by kernel_rfl) (by kernel_rfl) (by kernel_rfl) (by kernel_rfl) (by kernel_rfl) (by kernel_rfl) (fun _ _ _ h => h) (.inl ⟨by rfl, fun w' _ => (by go_simp; rfl)⟩) hS ?_
        go_frame
        refine till_take 6 (some 17) rfl rfl (by kernel_rfl) (by kernel_rfl) (by kernel_rfl) (by kernel_rfl) (by kernel_rfl) (by kernel_rfl) (fun _ _ _ h => h) (.inl ⟨by rfl, fun w' _ => (by go_simp; rfl)⟩) hS ?_
        go_frame
        refine till_take 7 (some 18) rfl rfl (by kernel_rfl) (by kernel_rfl) (by kernel_rfl) (by kernel_rfl) (by kernel_rfl) (by kernel_rfl) (fun _ _ _ h => h) (.inl ⟨by rfl, fun w' _ => (by go_simp; rfl)⟩) hS ?_
        go_frame
        refine till_take 8 (some 19) rfl rfl (by kernel_rfl) (by kernel_rfl) (by kernel_rfl) (by kernel_rfl) (by kernel_rfl) (by kernel_rfl) (fun _ _ _ h => h) (.inl ⟨by rfl, fun w' _ => (by go_simp; rfl)⟩) hS ?_
        go_frame
        refine till_one 11 rfl (by kernel_rfl) fun K hK => ?_
        simp only [List.getElem_toArray, List.getElem_cons_succ, List.getElem_cons_zero]
        rw [if_pos (by rfl)]
        refine wp_store_row_g (t := 33) (old := u0) 33 _ _ rfl Q #[.int .u64 qa, .int .u64 qb, .int .u64 qc, .int .u64 qd] rfl rfl HQ.out Tryz.sizeU rfl (one_u64 _ _ _ _) ?_
        intro a6 hxQ kQ zQ
        clear zQ
        have HBm := Lib.hid (HB.out.trans (kQ.below (B := w.heap.size) (fun y hy e => by have := WQ.out; omega) HB.out.size))
        have HXm := Lib.hid (kQ.at HX.out NXQ.out)
        have HYm := Lib.hid (kQ.at HY.out NYQ.out)
        have HZm := Lib.hid (kQ.at HZ.out NZQ.out)
        have HPm := Lib.hid (kQ.at HP.out NPQ.out)
        have HVm := Lib.hid (kQ.at HV.out (fun e => NQV.out e.symm))
        have HQm := Lib.hid hxQ
        clear hxQ kQ HB HX HY HZ HP HQ HV
        have HB := HBm
        have HX := HXm
        have HY := HYm
        have HZ := HZm
        have HP := HPm
        have HQ := HQm
        have HV := HVm
        clear HBm HXm HYm HZm HPm HQm HVm
        have hS2 : a6.heap[X]? = some (.cells #[.int .u64 a, .int .u64 b, .int .u64 c, .int .u64 f] 33 (0, 0)) ∧ a6.heap[Y]? = some (.cells #[.int .u64 a', .int .u64 b', .int .u64 c', .int .u64 f'] 33 (0, 0)) ∧ a6.heap[Z]? = some (.cells #[.int .u64 (d : Int), .int .u64 0, .int .u64 0, .int .u64 0] 33 (0, 0)) := ⟨HX.out, HY.out, HZ.out⟩
        refine hK _ _ (fun _ _ => hS2) ?_
        clear hK hS
        have hS := hS2
        clear hS2
        refine till_one 12 rfl (by kernel_rfl) fun K hK => ?_
        simp only [List.getElem_toArray, List.getElem_cons_succ, List.getElem_cons_zero]
        rw [if_pos (by rfl)]
        refine wp_store_row_g (t := 33) (old := u0) 33 _ _ rfl V #[.int .u64 ra, .int .u64 rb, .int .u64 rc, .int .u64 rd] rfl rfl HV.out Tryz.sizeU rfl (one_u64 _ _ _ _) ?_
        intro a7 hxV kV zV
        clear zV
        have HBm := Lib.hid (HB.out.trans (kV.below (B := w.heap.size) (fun y hy e => by have := WV.out; omega) HB.out.size))
        have HXm := Lib.hid (kV.at HX.out NXV.out)
        have HYm := Lib.hid (kV.at HY.out NYV.out)
        have HZm := Lib.hid (kV.at HZ.out NZV.out)
        have HPm := Lib.hid (kV.at HP.out NPV.out)
        have HQm := Lib.hid (kV.at HQ.out NQV.out)
        have HVm := Lib.hid hxV
        clear hxV kV HB HX HY HZ HP HQ HV
        have HB := HBm
        have HX := HXm
        have HY := HYm
        have HZ := HZm
        have HP := HPm
        have HQ := HQm
        have HV := HVm
        clear HBm HXm HYm HZm HPm HQm HVm
        have hS2 : a7.heap[X]? = some (.cells #[.int .u64 a, .int .u64 b, .int .u64 c, .int .u64 f] 33 (0, 0)) ∧ a7.heap[Y]? = some (.cells #[.int .u64 a', .int .u64 b', .int .u64 c', .int .u64 f'] 33 (0, 0)) ∧ a7.heap[Z]? = some (.cells #[.int .u64 (d : Int), .int .u64 0, .int .u64 0, .int .u64 0] 33 (0, 0)) := ⟨HX.out, HY.out, HZ.out⟩
        refine hK _ _ (fun _ _ => hS2) ?_
        clear hK hS
        have hS := hS2
        clear hS2
        refine till_take 13 (some 10) rfl rfl (by kernel_rfl) (by kernel_rfl) (by kernel_rfl) (by kernel_rfl) (by kernel_rfl) (by kernel_rfl) (fun _ _ _ h => h) (.inl ⟨by rfl, fun w' _ => (by go_simp; rfl)⟩) hS ?_
        go_frame
        refine till_done (by kernel_rfl) ?_ _
        clear hS
        go_wp2_with (first
          | (refine wpList_load_row rfl 33 _ rfl Q rfl 33 _ _ _ HQ.out Tryz.underlying33 rfl Tryz.sizeU ?_)
          | (refine wpList_store_row_g (t := 33) (old := u0) rfl 33 _ _ rfl P #[.int .u64 qa, .int .u64 qb, .int .u64 qc, .int .u64 qd] rfl rfl HP.out Tryz.sizeU rfl (one_u64 _ _ _ _) ?_))
        intro a8 hxP kP zP
        clear zP
        have HBm := Lib.hid (HB.out.trans (kP.below (B := w.heap.size) (fun y hy e => by have := WP.out; omega) HB.out.size))
        have HXm := Lib.hid (kP.at HX.out NXP.out)
        have HYm := Lib.hid (kP.at HY.out NYP.out)
        have HZm := Lib.hid (kP.at HZ.out NZP.out)
        have HQm := Lib.hid (kP.at HQ.out (fun e => NPQ.out e.symm))
        have HVm := Lib.hid (kP.at HV.out (fun e => NPV.out e.symm))
        have HPm := Lib.hid hxP
        clear hxP kP HB HX HY HZ HP HQ HV
        have HB := HBm
        have HX := HXm
        have HY := HYm
        have HZ := HZm
        have HP := HPm
        have HQ := HQm
        have HV := HVm
        clear HBm HXm HYm HZm HPm HQm HVm
        go_wp2_with fail
        exact bodyPost_ret (res_row_val rfl _ _ P _ _ _ _ rfl HP.out Tryz.underlying33 rfl Tryz.sizeU _ rfl) rfl ⟨_, _, _, _, HQU.out, rfl, HB.out⟩
    · simp only [List.getElem_toArray, List.getElem_cons_succ, List.getElem_cons_zero]
      rw [if_pos (by rfl)]
      refine wp_alloc_g 33 rfl _ _ Tryz.zeroUz rfl ?_
      intro V a3 hV
      have WV : Hid (w.heap.size ≤ V) := Lib.hid (by rw [hV.out.eq]; exact (HB.out).size)
      have NXV : Hid (X ≠ V) := Lib.hid (by have := hV.out.eq; have := heap_lt HX.out; omega)
      have NYV : Hid (Y ≠ V) := Lib.hid (by have := hV.out.eq; have := heap_lt HY.out; omega)
      have NZV : Hid (Z ≠ V) := Lib.hid (by have := hV.out.eq; have := heap_lt HZ.out; omega)
      have NPV : Hid (P ≠ V) := Lib.hid (by have := hV.out.eq; have := heap_lt HP.out; omega)
      have NQV : Hid (Q ≠ V) := Lib.hid (by have := hV.out.eq; have := heap_lt HQ.out; omega)
      have HVz := Lib.hid hV.out.cells; have hbV := hV.out.below
      clear hV
      have HBm := Lib.hid (HB.out.trans (hbV.mono HB.out.size))
      have HXm := Lib.hid (below_at' hbV HX.out)
      have HYm := Lib.hid (below_at' hbV HY.out)
      have HZm := Lib.hid (below_at' hbV HZ.out)
      have HPm := Lib.hid (below_at' hbV HP.out)
      have HQm := Lib.hid (below_at' hbV HQ.out)
      clear hbV HB HX HY HZ HP HQ
      have HB := HBm
      have HX := HXm
      have HY := HYm
      have HZ := HZm
      have HP := HPm
      have HQ := HQm
      clear HBm HXm HYm HZm HPm HQm
      have HV := HVz
      clear HVz
      have hS2 : a3.heap[X]? = some (.cells #[.int .u64 a, .int .u64 b, .int .u64 c, .int .u64 f] 33 (0, 0)) ∧ a3.heap[Y]? = some (.cells #[.int .u64 a', .int .u64 b', .int .u64 c', .int .u64 f'] 33 (0, 0)) ∧ a3.heap[Z]? = some (.cells #[.int .u64 (d : Int), .int .u64 0, .int .u64 0, .int .u64 0] 33 (0, 0)) := ⟨HX.out, HY.out, HZ.out⟩
      refine hK _ _ (fun _ _ => hS2) ?_
      clear hK hS
      have hS := hS2
      clear hS2
      refine till_one 2 rfl (by kernel_rfl) fun K hK => ?_
      simp only [List.getElem_toArray, List.getElem_cons_succ, List.getElem_cons_zero]
      rw [if_pos (by rfl)]
      go_simp
      refine (mul_any HU.out HVV.out _).mono ?_
      rintro e a4 ⟨h0, h1, h2, h3, l0, l1, l2, l3, hh, hl, rfl, hb⟩
      rw [HM.out.1] at hh
      rw [HM.out.2] at hl
      have HHH := Lib.hid hh; have HLL := Lib.hid hl
      clear hh hl
      have HBm := Lib.hid (HB.out.trans (hb.mono HB.out.size))
      have HXm := Lib.hid (below_at' hb HX.out)
      have HYm := Lib.hid (below_at' hb HY.out)
      have HZm := Lib.hid (below_at' hb HZ.out)
      have HPm := Lib.hid (below_at' hb HP.out)
      have HQm := Lib.hid (below_at' hb HQ.out)
      have HVm := Lib.hid (below_at' hb HV.out)
      clear hb HB HX HY HZ HP HQ HV
      have HB := HBm
      have HX := HXm
      have HY := HYm
      have HZ := HZm
      have HP := HPm
      have HQ := HQm
      have HV := HVm
      clear HBm HXm HYm HZm HPm HQm HVm
      have hS2 : a4.heap[X]? = some (.cells #[.int .u64 a, .int .u64 b, .int .u64 c, .int .u64 f] 33 (0, 0)) ∧ a4.heap[Y]? = some (.cells #[.int .u64 a', .int .u64 b', .int .u64 c', .int .u64 f'] 33 (0, 0)) ∧ a4.heap[Z]? = some (.cells #[.int .u64 (d : Int), .int .u64 0, .int .u64 0, .int .u64 0] 33 (0, 0)) := ⟨HX.out, HY.out, HZ.out⟩
      refine hK _ _ (fun _ _ => hS2) ?_
      clear hK hS
      have hS := hS2
      clear hS2
      refine till_one 4 rfl (by kernel_rfl) fun K hK => ?_
      simp only [List.getElem_toArray, List.getElem_cons_succ, List.getElem_cons_zero]
      rw [if_pos (by rfl)]
      go_simp
      refine (quo_any HHH.out HLL.out HD.out.1 HD.out.2 _).mono ?_
      rintro e a5 ⟨qa, qb, qc, qd, ra, rb, rc, rd, hq, hr, rfl, hb⟩
      have HQU := Lib.hid hq
      clear hq hr
      have HBm := Lib.hid (HB.out.trans (hb.mono HB.out.size))
      have HXm := Lib.hid (below_at' hb HX.out)
      have HYm := Lib.hid (below_at' hb HY.out)
      have HZm := Lib.hid (below_at' hb HZ.out)
      have HPm := Lib.hid (below_at' hb HP.out)
      have HQm := Lib.hid (below_at' hb HQ.out)
      have HVm := Lib.hid (below_at' hb HV.out)
      clear hb HB HX HY HZ HP HQ HV
      have HB := HBm
      have HX := HXm
      have HY := HYm
      have HZ := HZm
      have HP := HPm
      have HQ := HQm
      have HV := HVm
      clear HBm HXm HYm HZm HPm HQm HVm
      have hS2 : a5.heap[X]? = some (.cells #[.int .u64 a, .int .u64 b, .int .u64 c, .int .u64 f] 33 (0, 0)) ∧ a5.heap[Y]? = some (.cells #[.int .u64 a', .int .u64 b', .int .u64 c', .int .u64 f'] 33 (0, 0)) ∧ a5.heap[Z]? = some (.cells #[.int .u64 (d : Int), .int .u64 0, .int .u64 0, .int .u64 0] 33 (0, 0)) := ⟨HX.out, HY.out, HZ.out⟩
      refine hK _ _ (fun _ _ => hS2) ?_
      clear hK hS
      have hS := hS2
      clear hS2
      refine till_take 5 (some 11) rfl rfl (by kernel_rfl) (by kernel_rfl) (by kernel_rfl) (by kernel_rfl) (by kernel_rfl) (by kernel_rfl) (fun _ _ _ h => h) (.inl ⟨by rfl, fun w' _ => (by go_simp; rfl)⟩) hS ?_
      go_frame
      refine till_take 6 (some 17) rfl rfl (by kernel_rfl) (by kernel_rfl) (by kernel_rfl) (by kernel_rfl) (by kernel_rfl) (by kernel_rfl) (fun _ _ _ h => h) (.inl ⟨by rfl, fun w' _ => (by go_simp; rfl)⟩) hS ?_
      go_frame
      refine till_take 7 (some 18) rfl rfl (by kernel_rfl) (by kernel_rfl) (by kernel_rfl) (by kernel_rfl) (by kernel_rfl) (by kernel_rfl) (fun _ _ _ h => h) (.inl ⟨by rfl, fun w' _ => (by go_simp; rfl)⟩) hS ?_
      go_frame
      refine till_take 8 (some 19) rfl rfl (by kernel_rfl) (by kernel_rfl) (by kernel_rfl) (by kernel_rfl) (by kernel_rfl) (by kernel_rfl) (fun _ _ _ h => h) (.inl ⟨by rfl, fun w' _ => (by go_simp; rfl)⟩) hS ?_
      go_frame
      refine till_one 11 rfl (by kernel_rfl) fun K hK => ?_
      simp only [List.getElem_toArray, List.getElem_cons_succ, List.getElem_cons_zero]
      rw [if_pos (by rfl)]
      refine wp_store_row_g (t := 33) (old := u0) 33 _ _ rfl Q #[.int .u64 qa, .int .u64 qb, .int .u64 qc, .int .u64 qd] rfl rfl HQ.out Tryz.sizeU rfl (one_u64 _ _ _ _) ?_
      intro a6 hxQ kQ zQ
      clear zQ
      have HBm := Lib.hid (HB.out.trans (kQ.below (B := w.heap.size) (fun y hy e => by have := WQ.out; omega) HB.out.size))
      have HXm := Lib.hid (kQ.at HX.out NXQ.out)
      have HYm := Lib.hid (kQ.at HY.out NYQ.out)
      have HZm := Lib.hid (kQ.at HZ.out NZQ.out)
      have HPm := Lib.hid (kQ.at HP.out NPQ.out)
      have HVm := Lib.hid (kQ.at HV.out (fun e => NQV.out e.symm))
      have HQm := Lib.hid hxQ
      clear hxQ kQ HB HX HY HZ HP HQ HV
      have HB := HBm
      have HX := HXm
      have HY := HYm
      have HZ := HZm
      have HP := HPm
      have HQ := HQm
      have HV := HVm
      clear HBm HXm HYm HZm HPm HQm HVm
      have hS2 : a6.heap[X]? = some (.cells #[.int .u64 a, .int .u64 b, .int .u64 c, .int .u64 f] 33 (0, 0)) ∧ a6.heap[Y]? = some (.cells #[.int .u64 a', .int .u64 b', .int .u64 c', .int .u64 f'] 33 (0, 0)) ∧ a6.heap[Z]? = some (.cells #[.int .u64 (d : Int), .int .u64 0, .int .u64 0, .int .u64 0] 33 (0, 0)) := ⟨HX.out, HY.out, HZ.out⟩
      refine hK _ _ (fun _ _ => hS2) ?_
      clear hK hS
      have hS := hS2
      clear hS2
      refine till_one 12 rfl (by kernel_rfl) fun K hK => ?_
      simp only [List.getElem_toArray, List.getElem_cons_succ, List.getElem_cons_zero]
      rw [if_pos (by rfl)]
      refine wp_store_row_g (t := 33) (old := u0) 33 _ _ rfl V #[.int .u64 ra, .int .u64 rb, .int .u64 rc, .int .u64 rd] rfl rfl HV.out Tryz.sizeU rfl (one_u64 _ _ _ _) ?_
      intro a7 hxV kV zV
      clear zV
      have HBm := Lib.hid (HB.out.trans (kV.below (B := w.heap.size) (fun y hy e => by have := WV.out; omega) HB.out.size))
      have HXm := Lib.hid (kV.at HX.out NXV.out)
      have HYm := Lib.hid (kV.at HY.out NYV.out)
      have HZm := Lib.hid (kV.at HZ.out NZV.out)
      have HPm := Lib.hid (kV.at HP.out NPV.out)
      have HQm := Lib.hid (kV.at HQ.out NQV.out)
      have HVm := Lib.hid hxV
      clear hxV kV HB HX HY HZ HP HQ HV
      have HB := HBm
      have HX := HXm
      have HY := HYm
      have HZ := HZm
      have HP := HPm
      have HQ := HQm
      have HV := HVm
      clear HBm HXm HYm HZm HPm HQm HVm
      have hS2 : a7.heap[X]? = some (.cells #[.int .u64 a, .int .u64 b, .int .u64 c, .int .u64 f] 33 (0, 0)) ∧ a7.heap[Y]? = some (.cells #[.int .u64 a', .int .u64 b', .int .u64 c', .int .u64 f'] 33 (0, 0)) ∧ a7.heap[Z]? = some (.cells #[.int .u64 (d : Int), .int .u64 0, .int .u64 0, .int .u64 0] 33 (0, 0)) := ⟨HX.out, HY.out, HZ.out⟩
      refine hK _ _ (fun _ _ => hS2) ?_
      clear hK hS
      have hS := hS2
      clear hS2
      refine till_take 13 (some 10) rfl rfl (by kernel_rfl) (by kernel_rfl) (by kernel_rfl) (by kernel_rfl) (by kernel_rfl) (by kernel_rfl) (fun _ _ _ h => h) (.inl ⟨by rfl, fun w' _ => (by go_simp; rfl)⟩) hS ?_
      go_frame
      refine till_done (by kernel_rfl) ?_ _
      clear hS
      go_wp2_with (first
        | (refine wpList_load_row rfl 33 _ rfl Q rfl 33 _ _ _ HQ.out Tryz.underlying33 rfl Tryz.sizeU ?_)
        | (refine wpList_store_row_g (t := 33) (old := u0) rfl 33 _ _ rfl P #[.int .u64 qa, .int .u64 qb, .int .u64 qc, .int .u64 qd] rfl rfl HP.out Tryz.sizeU rfl (one_u64 _ _ _ _) ?_))
      intro a8 hxP kP zP
      clear zP
      have HBm := Lib.hid (HB.out.trans (kP.below (B := w.heap.size) (fun y hy e => by have := WP.out; omega) HB.out.size))
      have HXm := Lib.hid (kP.at HX.out NXP.out)
      have HYm := Lib.hid (kP.at HY.out NYP.out)
      have HZm := Lib.hid (kP.at HZ.out NZP.out)
      have HQm := Lib.hid (kP.at HQ.out (fun e => NPQ.out e.symm))
      have HVm := Lib.hid (kP.at HV.out (fun e => NPV.out e.symm))
      have HPm := Lib.hid hxP
      clear hxP kP HB HX HY HZ HP HQ HV
      have HB := HBm
      have HX := HXm
      have HY := HYm
      have HZ := HZm
      have HP := HPm
      have HQ := HQm
      have HV := HVm
      clear HBm HXm HYm HZm HPm HQm HVm
      go_wp2_with fail
      exact bodyPost_ret (res_row_val rfl _ _ P _ _ _ _ rfl HP.out Tryz.underlying33 rfl Tryz.sizeU _ rfl) rfl ⟨_, _, _, _, HQU.out, rfl, HB.out⟩
  · simp only [List.getElem_toArray, List.getElem_cons_succ, List.getElem_cons_zero]
    rw [if_pos (by rfl)]
    refine wp_alloc_g 33 rfl _ _ Tryz.zeroUz rfl ?_
    intro V a2 hV
    have WV : Hid (w.heap.size ≤ V) := Lib.hid (by rw [hV.out.eq]; exact (HB.out).size)
    have NXV : Hid (X ≠ V) := Lib.hid (by have := hV.out.eq; have := heap_lt HX.out; omega)
    have NYV : Hid (Y ≠ V) := Lib.hid (by have := hV.out.eq; have := heap_lt HY.out; omega)
    have NZV : Hid (Z ≠ V) := Lib.hid (by have := hV.out.eq; have := heap_lt HZ.out; omega)
    have NPV : Hid (P ≠ V) := Lib.hid (by have := hV.out.eq; have := heap_lt HP.out; omega)
    have HVz := Lib.hid hV.out.cells; have hbV := hV.out.below
    clear hV
    have HBm := Lib.hid (HB.out.trans (hbV.mono HB.out.size))
    have HXm := Lib.hid (below_at' hbV HX.out)
    have HYm := Lib.hid (below_at' hbV HY.out)
    have HZm := Lib.hid (below_at' hbV HZ.out)
    have HPm := Lib.hid (below_at' hbV HP.out)
    clear hbV HB HX HY HZ HP
    have HB := HBm
    have HX := HXm
    have HY := HYm
    have HZ := HZm
    have HP := HPm
    clear HBm HXm HYm HZm HPm
    have HV := HVz
    clear HVz
    have hS2 : a2.heap[X]? = some (.cells #[.int .u64 a, .int .u64 b, .int .u64 c, .int .u64 f] 33 (0, 0)) ∧ a2.heap[Y]? = some (.cells #[.int .u64 a', .int .u64 b', .int .u64 c', .int .u64 f'] 33 (0, 0)) ∧ a2.heap[Z]? = some (.cells #[.int .u64 (d : Int), .int .u64 0, .int .u64 0, .int .u64 0] 33 (0, 0)) := ⟨HX.out, HY.out, HZ.out⟩
    refine hK _ _ (fun _ _ => hS2) ?_
    clear hK hS
    have hS := hS2
    clear hS2
    refine till_two 2 9 rfl rfl (by kernel_rfl) (fun K hK => ?_) (fun K hK => ?_)
    · simp only [List.getElem_toArray, List.getElem_cons_succ, List.getElem_cons_zero]
      rw [if_pos (by rfl)]
      go_simp
      refine (mul_any HU.out HVV.out _).mono ?_
      rintro e a3 ⟨h0, h1, h2, h3, l0, l1, l2, l3, hh, hl, rfl, hb⟩
      rw [HM.out.1] at hh
      rw [HM.out.2] at hl
      have HHH := Lib.hid hh; have HLL := Lib.hid hl
      clear hh hl
      have HBm := Lib.hid (HB.out.trans (hb.mono HB.out.size))
      have HXm := Lib.hid (below_at' hb HX.out)
      have HYm := Lib.hid (below_at' hb HY.out)
      have HZm := Lib.hid (below_at' hb HZ.out)
      have HPm := Lib.hid (below_at' hb HP.out)
      have HVm := Lib.hid (below_at' hb HV.out)
      clear hb HB HX HY HZ HP HV
      have HB := HBm
      have HX := HXm
      have HY := HYm
      have HZ := HZm
      have HP := HPm
      have HV := HVm
      clear HBm HXm HYm HZm HPm HVm
      have hS2 : a3.heap[X]? = some (.cells #[.int .u64 a, .int .u64 b, .int .u64 c, .int .u64 f] 33 (0, 0)) ∧ a3.heap[Y]? = some (.cells #[.int .u64 a', .int .u64 b', .int .u64 c', .int .u64 f'] 33 (0, 0)) ∧ a3.heap[Z]? = some (.cells #[.int .u64 (d : Int), .int .u64 0, .int .u64 0, .int .u64 0] 33 (0, 0)) := ⟨HX.out, HY.out, HZ.out⟩
      refine hK _ _ (fun _ _ => hS2) ?_
      clear hK hS
      have hS := hS2
      clear hS2
      refine till_two 4 9 rfl rfl (by kernel_rfl) (fun K hK => ?_) (fun K hK => ?_)
      · simp only [List.getElem_toArray, List.getElem_cons_succ, List.getElem_cons_zero]
        rw [if_pos (by rfl)]
        go_simp
        refine (quo_any HHH.out HLL.out HD.out.1 HD.out.2 _).mono ?_
        rintro e a4 ⟨qa, qb, qc, qd, ra, rb, rc, rd, hq, hr, rfl, hb⟩
        have HQU := Lib.hid hq
        clear hq hr
        have HBm := Lib.hid (HB.out.trans (hb.mono HB.out.size))
        have HXm := Lib.hid (below_at' hb HX.out)
        have HYm := Lib.hid (below_at' hb HY.out)
        have HZm := Lib.hid (below_at' hb HZ.out)
        have HPm := Lib.hid (below_at' hb HP.out)
        have HVm := Lib.hid (below_at' hb HV.out)
        clear hb HB HX HY HZ HP HV
        have HB := HBm
        have HX := HXm
        have HY := HYm
        have HZ := HZm
        have HP := HPm
        have HV := HVm
        clear HBm HXm HYm HZm HPm HVm
        have hS2 : a4.heap[X]? = some (.cells #[.int .u64 a, .int .u64 b, .int .u64 c, .int .u64 f] 33 (0, 0)) ∧ a4.heap[Y]? = some (.cells #[.int .u64 a', .int .u64 b', .int .u64 c', .int .u64 f'] 33 (0, 0)) ∧ a4.heap[Z]? = some (.cells #[.int .u64 (d : Int), .int .u64 0, .int .u64 0, .int .u64 0] 33 (0, 0)) := ⟨HX.out, HY.out, HZ.out⟩
        refine hK _ _ (fun _ _ => hS2) ?_
        clear hK hS
        have hS := hS2
        clear hS2
        refine till_take 5 (some 11) rfl rfl (by kernel_rfl) (by kernel_rfl) (by kernel_rfl) (by kernel_rfl) (by kernel_rfl) (by kernel_rfl) (fun _ _ _ h => h) (.inl ⟨by rfl, fun w' _ => (by go_simp; rfl)⟩) hS ?_
        go_frame
        refine till_take 6 (some 17) rfl rfl (by kernel_rfl) (by kernel_rfl) (by kernel_rfl) (by kernel_rfl) (by kernel_rfl) (by kernel_rfl) (fun _ _ _ h => h) (.inl ⟨by rfl, fun w' _ => (by go_simp; rfl)⟩) hS ?_
        go_frame
        refine till_take 7 (some 18) rfl rfl (by kernel_rfl) (by kernel_rfl) (by kernel_rfl) (by kernel_rfl) (by kernel_rfl) (by kernel_rfl) (fun _ _ _ h => h) (.inl ⟨by rfl, fun w' _ => (by go_simp; rfl)⟩) hS ?_
        go_frame
        refine till_take 8 (some 19) rfl rfl (by kernel_rfl) (by kernel_rfl) (by kernel_rfl) (by kernel_rfl) (by kernel_rfl) (by kernel_rfl) (fun _ _ _ h => h) (.inl ⟨by rfl, fun w' _ => (by go_simp; rfl)⟩) hS ?_
        go_frame
        refine till_one 9 rfl (by kernel_rfl) fun K hK => ?_
        simp only [List.getElem_toArray, List.getElem_cons_succ, List.getElem_cons_zero]
        rw [if_pos (by rfl)]
        refine wp_alloc_g 33 rfl _ _ Tryz.zeroUz rfl ?_
        intro Q a5 hQ
        have WQ : Hid (w.heap.size ≤ Q) := Lib.hid (by rw [hQ.out.eq]; exact (HB.out).size)
        have NXQ : Hid (X ≠ Q) := Lib.hid (by have := hQ.out.eq; have := heap_lt HX.out; omega)
        have NYQ : Hid (Y ≠ Q) := Lib.hid (by have := hQ.out.eq; have := heap_lt HY.out; omega)
        have NZQ : Hid (Z ≠ Q) := Lib.hid (by have := hQ.out.eq; have := heap_lt HZ.out; omega)
        have NPQ : Hid (P ≠ Q) := Lib.hid (by have := hQ.out.eq; have := heap_lt HP.out; omega)
        have NVQ : Hid (V ≠ Q) := Lib.hid (by have := hQ.out.eq; have := heap_lt HV.out; omega)
        have HQz := Lib.hid hQ.out.cells; have hbQ := hQ.out.below
        clear hQ
        have HBm := Lib.hid (HB.out.trans (hbQ.mono HB.out.size))
        have HXm := Lib.hid (below_at' hbQ HX.out)
        have HYm := Lib.hid (below_at' hbQ HY.out)
        have HZm := Lib.hid (below_at' hbQ HZ.out)
        have HPm := Lib.hid (below_at' hbQ HP.out)
        have HVm := Lib.hid (below_at' hbQ HV.out)
        clear hbQ HB HX HY HZ HP HV
        have HB := HBm
        have HX := HXm
        have HY := HYm
        have HZ := HZm
        have HP := HPm
        have HV := HVm
        clear HBm HXm HYm HZm HPm HVm
        have HQ := HQz
        clear HQz
        have hS2 : a5.heap[X]? = some (.cells #[.int .u64 a, .int .u64 b, .int .u64 c, .int .u64 f] 33 (0, 0)) ∧ a5.heap[Y]? = some (.cells #[.int .u64 a', .int .u64 b', .int .u64 c', .int .u64 f'] 33 (0, 0)) ∧ a5.heap[Z]? = some (.cells #[.int .u64 (d : Int), .int .u64 0, .int .u64 0, .int .u64 0] 33 (0, 0)) := ⟨HX.out, HY.out, HZ.out⟩
        refine hK _ _ (fun _ _ => hS2) ?_
        clear hK hS
        have hS := hS2
        clear hS2
        refine till_one 11 rfl (by kernel_rfl) fun K hK => ?_
        simp only [List.getElem_toArray, List.getElem_cons_succ, List.getElem_cons_zero]
        rw [if_pos (by rfl)]
        refine wp_store_row_g (t := 33) (old := u0) 33 _ _ rfl Q #[.int .u64 qa, .int .u64 qb, .int .u64 qc, .int .u64 qd] rfl rfl HQ.out Tryz.sizeU rfl (one_u64 _ _ _ _) ?_
        intro a6 hxQ kQ zQ
        clear zQ
        have HBm := Lib.hid (HB.out.trans (kQ.below (B := w.heap.size) (fun y hy e => by have := WQ.out; omega) HB.out.size))
        have HXm := Lib.hid (kQ.at HX.out NXQ.out)
        have HYm := Lib.hid (kQ.at HY.out NYQ.out)
        have HZm := Lib.hid (kQ.at HZ.out NZQ.out)
        have HPm := Lib.hid (kQ.at HP.out NPQ.out)
        have HVm := Lib.hid (kQ.at HV.out NVQ.out)
        have HQm := Lib.hid hxQ
        clear hxQ kQ HB HX HY HZ HP HV HQ
        have HB := HBm
        have HX := HXm
        have HY := HYm
        have HZ := HZm
        have HP := HPm
        have HV := HVm
        have HQ := HQm
        clear HBm HXm HYm HZm HPm HVm HQm
        have hS2 : a6.heap[X]? = some (.cells #[.int .u64 a, .int .u64 b, .int .u64 c, .int .u64 f] 33 (0, 0)) ∧ a6.heap[Y]? = some (.cells #[.int .u64 a', .int .u64 b', .int .u64 c', .int .u64 f'] 33 (0, 0)) ∧ a6.heap[Z]? = some (.cells #[.int .u64 (d : Int), .int .u64 0, .int .u64 0, .int .u64 0] 33 (0, 0)) := ⟨HX.out, HY.out, HZ.out⟩
        refine hK _ _ (fun _ _ => hS2) ?_
        clear hK hS
        have hS := hS2
        clear hS2
        refine till_one 12 rfl (by kernel_rfl) fun K hK => ?_
        simp only [List.getElem_toArray, List.getElem_cons_succ, List.getElem_cons_zero]
        rw [if_pos (by rfl)]
        refine wp_store_row_g (t := 33) (old := u0) 33 _ _ rfl V #[.int .u64 ra, .int .u64 rb, .int .u64 rc, .int .u64 rd] rfl rfl HV.out Tryz.sizeU rfl (one_u64 _ _ _ _) ?_
        intro a7 hxV kV zV
        clear zV
        have HBm := Lib.hid (HB.out.trans (kV.below (B := w.heap.size) (fun y hy e => by have := WV.out; omega) HB.out.size))
        have HXm := Lib.hid (kV.at HX.out NXV.out)
        have HYm := Lib.hid (kV.at HY.out NYV.out)
        have HZm := Lib.hid (kV.at HZ.out NZV.out)
        have HPm := Lib.hid (kV.at HP.out NPV.out)
        have HQm := Lib.hid (kV.at HQ.out (fun e => NVQ.out e.symm))
        have HVm := Lib.hid hxV
        clear hxV kV HB HX HY HZ HP HV HQ
        have HB := HBm
        have HX := HXm
        have HY := HYm
        have HZ := HZm
        have HP := HPm
        have HV := HVm
        have HQ := HQm
        clear HBm HXm HYm HZm HPm HVm HQm
        have hS2 : a7.heap[X]? = some (.cells #[.int .u64 a, .int .u64 b, .int .u64 c, .int .u64 f] 33 (0, 0)) ∧ a7.heap[Y]? = some (.cells #[.int .u64 a', .int .u64 b', .int .u64 c', .int .u64 f'] 33 (0, 0)) ∧ a7.heap[Z]? = some (.cells #[.int .u64 (d : Int), .int .u64 0, .int .u64 0, .int .u64 0] 33 (0, 0)) := ⟨HX.out, HY.out, HZ.out⟩
        refine hK _ _ (fun _ _ => hS2) ?_
        clear hK hS
        have hS := hS2
        clear hS2
        refine till_take 13 (some 10) rfl rfl (by kernel_rfl) (by kernel_rfl) (by kernel_rfl) (by kernel_rfl) (by kernel_rfl) (by kernel_rfl) (fun _ _ _ h => h) (.inl ⟨by rfl, fun w' _ => (by go_simp; rfl)⟩) hS ?_
        go_frame
        refine till_done (by kernel_rfl) ?_ _
        clear hS
        go_wp2_with (first
          | (refine wpList_load_row rfl 33 _ rfl Q rfl 33 _ _ _ HQ.out Tryz.underlying33 rfl Tryz.sizeU ?_)
          | (refine wpList_store_row_g (t := 33) (old := u0) rfl 33 _ _ rfl P #[.int .u64 qa, .int .u64 qb, .int .u64 qc, .int .u64 qd] rfl rfl HP.out Tryz.sizeU rfl (one_u64 _ _ _ _) ?_))
        intro a8 hxP kP zP
        clear zP
        have HBm := Lib.hid (HB.out.trans (kP.below (B := w.heap.size) (fun y hy e => by have := WP.out; omega) HB.out.size))
        have HXm := Lib.hid (kP.at HX.out NXP.out)
        have HYm := Lib.hid (kP.at HY.out NYP.out)
        have HZm := Lib.hid (kP.at HZ.out NZP.out)
        have HVm := Lib.hid (kP.at HV.out (fun e => NPV.out e.symm))
        have HQm := Lib.hid (kP.at HQ.out (fun e => NPQ.out e.symm))
        have HPm := Lib.hid hxP
        clear hxP kP HB HX HY HZ HP HV HQ
        have HB := HBm
        have HX := HXm
        have HY := HYm
        have HZ := HZm
        have HP := HPm
        have HV := HVm
        have HQ := HQm
        clear HBm HXm HYm HZm HPm HVm HQm
        go_wp2_with fail
        exact bodyPost_ret (res_row_val rfl _ _ P _ _ _ _ rfl HP.out Tryz.underlying33 rfl Tryz.sizeU _ rfl) rfl ⟨_, _, _, _, HQU.out, rfl, HB.out⟩
      · simp only [List.getElem_toArray, List.getElem_cons_succ, List.getElem_cons_zero]
        rw [if_pos (by rfl)]
        refine wp_alloc_g 33 rfl _ _ Tryz.zeroUz rfl ?_
        intro Q a4 hQ
        have WQ : Hid (w.heap.size ≤ Q) := Lib.hid (by rw [hQ.out.eq]; exact (HB.out).size)
        have NXQ : Hid (X ≠ Q) := Lib.hid (by have := hQ.out.eq; have := heap_lt HX.out; omega)
        have NYQ : Hid (Y ≠ Q) := Lib.hid (by have := hQ.out.eq; have := heap_lt HY.out; omega)
        have NZQ : Hid (Z ≠ Q) := Lib.hid (by have := hQ.out.eq; have := heap_lt HZ.out; omega)
        have NPQ : Hid (P ≠ Q) := Lib.hid (by have := hQ.out.eq; have := heap_lt HP.out; omega)
        have NVQ : Hid (V ≠ Q) := Lib.hid (by have := hQ.out.eq; have := heap_lt HV.out; omega)
        have HQz := Lib.hid hQ.out.cells; have hbQ := hQ.out.below
        clear hQ
        have HBm := Lib.hid (HB.out.trans (hbQ.mono HB.out.size))
        have HXm := Lib.hid (below_at' hbQ HX.out)
        have HYm := Lib.hid (below_at' hbQ HY.out)
        have HZm := Lib.hid (below_at' hbQ HZ.out)
        have HPm := Lib.hid (below_at' hbQ HP.out)
        have HVm := Lib.hid (below_at' hbQ HV.out)
        clear hbQ HB HX HY HZ HP HV
        have HB := HBm
        have HX := HXm
        have HY := HYm
        have HZ := HZm
        have HP := HPm
        have HV := HVm
        clear HBm HXm HYm HZm HPm HVm
        have HQ := HQz
        clear HQz
        have hS2 : a4.heap[X]? = some (.cells #[.int .u64 a, .int .u64 b, .int .u64 c, .int .u64 f] 33 (0, 0)) ∧ a4.heap[Y]? = some (.cells #[.int .u64 a', .int .u64 b', .int .u64 c', .int .u64 f'] 33 (0, 0)) ∧ a4.heap[Z]? = some (.cells #[.int .u64 (d : Int), .int .u64 0, .int .u64 0, .int .u64 0] 33 (0, 0)) := ⟨HX.out, HY.out, HZ.out⟩
        refine hK _ _ (fun _ _ => hS2) ?_
        clear hK hS
        have hS := hS2
        clear hS2
        refine till_one 4 rfl (by kernel_rfl) fun K hK => ?_
        simp only [List.getElem_toArray, List.getElem_cons_succ, List.getElem_cons_zero]
        rw [if_pos (by rfl)]
        go_simp
        refine (quo_any HHH.out HLL.out HD.out.1 HD.out.2 _).mono ?_
        rintro e a5 ⟨qa, qb, qc, qd, ra, rb, rc, rd, hq, hr, rfl, hb⟩
        have HQU := Lib.hid hq
        clear hq hr
        have HBm := Lib.hid (HB.out.trans (hb.mono HB.out.size))
        have HXm := Lib.hid (below_at' hb HX.out)
        have HYm := Lib.hid (below_at' hb HY.out)
        have HZm := Lib.hid (below_at' hb HZ.out)
        have HPm := Lib.hid (below_at' hb HP.out)
        have HVm := Lib.hid (below_at' hb HV.out)
        have HQm := Lib.hid (below_at' hb HQ.out)
        clear hb HB HX HY HZ HP HV HQ
        have HB := HBm
        have HX := HXm
        have HY := HYm
        have HZ := HZm
        have HP := HPm
        have HV := HVm
        have HQ := HQm
        clear HBm HXm HYm HZm HPm HVm HQm
        have hS2 : a5.heap[X]? = some (.cells #[.int .u64 a, .int .u64 b, .int .u64 c, .int .u64 f] 33 (0, 0)) ∧ a5.heap[Y]? = some (.cells #[.int .u64 a', .int .u64 b', .int .u64 c', .int .u64 f'] 33 (0, 0)) ∧ a5.heap[Z]? = some (.cells #[.int .u64 (d : Int), .int .u64 0, .int .u64 0, .int .u64 0] 33 (0, 0)) := ⟨HX.out, HY.out, HZ.out⟩
        refine hK _ _ (fun _ _ => hS2) ?_
        clear hK hS
        have hS := hS2
        clear hS2
        refine till_take 5 (some 11) rfl rfl (by kernel_rfl) (by kernel_rfl) (by kernel_rfl) (by kernel_rfl) (by kernel_rfl) (by kernel_rfl) (fun _ _ _ h => h) (.inl ⟨by rfl, fun w' _ => (by go_simp; rfl)⟩) hS ?_
        go_frame
        refine till_take 6 (some 17) rfl rfl (by kernel_rfl) (by kernel_rfl) (by kernel_rfl) (by kernel_rfl) (by kernel_rfl) (by kernel_rfl) (fun _ _ _ h => h) (.inl ⟨by rfl, fun w' _ => (by go_simp; rfl)⟩) hS ?_
        go_frame
        refine till_take 7 (some 18) rfl rfl (by kernel_rfl) (by kernel_rfl) (by kernel_rfl) (by kernel_rfl) (by kernel_rfl) (by kernel_rfl) (fun _ _ _ h => h) (.inl ⟨by rfl, fun w' _ => (by go_simp; rfl)⟩) hS ?_
        go_frame
        refine till_take 8 (some 19) rfl rfl (by kernel_rfl) (by kernel_rfl) (by kernel_rfl) (by kernel_rfl) (by kernel_rfl) (by kernel_rfl) (fun _ _ _ h => h) (.inl ⟨by rfl, fun w' _ => (by go_simp; rfl)⟩) hS ?_
        go_frame
        refine till_one 11 rfl (by kernel_rfl) fun K hK => ?_
        simp only [List.getElem_toArray, List.getElem_cons_succ, List.getElem_cons_zero]
        rw [if_pos (by rfl)]
        refine wp_store_row_g (t := 33) (old := u0) 33 _ _ rfl Q #[.int .u64 qa, .int .u64 qb, .int .u64 qc, .int .u64 qd] rfl rfl HQ.out Tryz.sizeU rfl (one_u64 _ _ _ _) ?_
        intro a6 hxQ kQ zQ
        clear zQ
        have HBm := Lib.hid (HB.out.trans (kQ.below (B := w.heap.size) (fun y hy e => by have := WQ.out; omega) HB.out.size))
        have HXm := Lib.hid (kQ.at HX.out NXQ.out)
        have HYm := Lib.hid (kQ.at HY.out NYQ.out)
        have HZm := Lib.hid (kQ.at HZ.out NZQ.out)
        have HPm := Lib.hid (kQ.at HP.out NPQ.out)
        have HVm := Lib.hid (kQ.at HV.out NVQ.out)
        have HQm := Lib.hid hxQ
        clear hxQ kQ HB HX HY HZ HP HV HQ
        have HB := HBm
        have HX := HXm
        have HY := HYm
        have HZ := HZm
        have HP := HPm
        have HV := HVm
        have HQ := HQm
        clear HBm HXm HYm HZm HPm HVm HQm
        have hS2 : a6.heap[X]? = some (.cells #[.int .u64 a, .int .u64 b, .int .u64 c, .int .u64 f] 33 (0, 0)) ∧ a6.heap[Y]? = some (.cells #[.int .u64 a', .int .u64 b', .int .u64 c', .int .u64 f'] 33 (0, 0)) ∧ a6.heap[Z]? = some (.cells #[.int .u64 (d : Int), .int .u64 0, .int .u64 0, .int .u64 0] 33 (0, 0)) := ⟨HX.out, HY.out, HZ.out⟩
        refine hK _ _ (fun _ _ => hS2) ?_
        clear hK hS
        have hS := hS2
        clear hS2
        refine till_one 12 rfl (by kernel_rfl) fun K hK => ?_
        simp only [List.getElem_toArray, List.getElem_cons_succ, List.getElem_cons_zero]
        rw [if_pos (by rfl)]
        refine wp_store_row_g (t := 33) (old := u0) 33 _ _ rfl V #[.int .u64 ra, .int .u64 rb, .int .u64 rc, .int .u64 rd] rfl rfl HV.out Tryz.sizeU rfl (one_u64 _ _ _ _) ?_
        intro a7 hxV kV zV
        clear zV
        have HBm := Lib.hid (HB.out.trans (kV.below (B := w.heap.size) (fun y hy e => by have := WV.out; omega) HB.out.size))
        have HXm := Lib.hid (kV.at HX.out NXV.out)
        have HYm := Lib.hid (kV.at HY.out NYV.out)
        have HZm := Lib.hid (kV.at HZ.out NZV.out)
        have HPm := Lib.hid (kV.at HP.out NPV.out)
        have HQm := Lib.hid (kV.at HQ.out (fun e => NVQ.out e.symm))
        have HVm := Lib.hid hxV
        clear hxV kV HB HX HY HZ HP HV HQ
        have HB := HBm
        have HX := HXm
        have HY := HYm
        have HZ := HZm
        have HP := HPm
        have HV := HVm
        have HQ := HQm
        clear HBm HXm HYm HZm HPm HVm HQm
        have hS2 : a7.heap[X]? = some (.cells #[.int .u64 a, .int .u64 b, .int .u64 c, .int .u64 f] 33 (0, 0)) ∧ a7.heap[Y]? = some (.cells #[.int .u64 a', .int .u64 b', .int .u64 c', .int .u64 f'] 33 (0, 0)) ∧ a7.heap[Z]? = some (.cells #[.int .u64 (d : Int), .int .u64 0, .int .u64 0, .int .u64 0] 33 (0, 0)) := ⟨HX.out, HY.out, HZ.out⟩
        refine hK _ _ (fun _ _ => hS2) ?_
        clear hK hS
        have hS := hS2
        clear hS2
        refine till_take 13 (some 10) rfl rfl (by kernel_rfl) (by kernel_rfl) (by kernel_rfl) (by kernel_rfl) (by kernel_rfl) (by kernel_rfl) (fun _ _ _ h => h) (.inl ⟨by rfl, fun w' _ => (by go_simp; rfl)⟩) hS ?_
        go_frame
        refine till_done (by kernel_rfl) ?_ _
        clear hS
        go_wp2_with (first
          | (refine wpList_load_row rfl 33 _ rfl Q rfl 33 _ _ _ HQ.out Tryz.underlying33 rfl Tryz.sizeU ?_)
          | (refine wpList_store_row_g (t := 33) (old := u0) rfl 33 _ _ rfl P #[.int .u64 qa, .int .u64 qb, .int .u64 qc, .int .u64 qd] rfl rfl HP.out Tryz.sizeU rfl (one_u64 _ _ _ _) ?_))
        intro a8 hxP kP zP
        clear zP
        have HBm := Lib.hid (HB.out.trans (kP.below (B := w.heap.size) (fun y hy e => by have := WP.out; omega) HB.out.size))
        have HXm := Lib.hid (kP.at HX.out NXP.out)
        have HYm := Lib.hid (kP.at HY.out NYP.out)
        have HZm := Lib.hid (kP.at HZ.out NZP.out)
        have HVm := Lib.hid (kP.at HV.out (fun e => NPV.out e.symm))
        have HQm := Lib.hid (kP.at HQ.out (fun e => NPQ.out e.symm))
        have HPm := Lib.hid hxP
        clear hxP kP HB HX HY HZ HP HV HQ
        have HB := HBm
        have HX := HXm
        have HY := HYm
        have HZ := HZm
        have HP := HPm
        have HV := HVm
        have HQ := HQm
        clear HBm HXm HYm HZm HPm HVm HQm
        go_wp2_with fail
        exact bodyPost_ret (res_row_val rfl _ _ P _ _ _ _ rfl HP.out Tryz.underlying33 rfl Tryz.sizeU _ rfl) rfl ⟨_, _, _, _, HQU.out, rfl, HB.out⟩
    · simp only [List.getElem_toArray, List.getElem_cons_succ, List.getElem_cons_zero]
      rw [if_pos (by rfl)]
      refine wp_alloc_g 33 rfl _ _ Tryz.zeroUz rfl ?_
      intro Q a3 hQ
      have WQ : Hid (w.heap.size ≤ Q) := Lib.hid (by rw [hQ.out.eq]; exact (HB.out).size)
      have NXQ : Hid (X ≠ Q) := Lib.hid (by have := hQ.out.eq; have := heap_lt HX.out; omega)
      have NYQ : Hid (Y ≠ Q) := Lib.hid (by have := hQ.out.eq; have := heap_lt HY.out; omega)
      have NZQ : Hid (Z ≠ Q) := Lib.hid (by have := hQ.out.eq; have := heap_lt HZ.out; omega)
      have NPQ : Hid (P ≠ Q) := Lib.hid (by have := hQ.out.eq; have := heap_lt HP.out; omega)
      have NVQ : Hid (V ≠ Q) := Lib.hid (by have := hQ.out.eq; have := heap_lt HV.out; omega)
      have HQz := Lib.hid hQ.out.cells; have hbQ := hQ.out.below
      clear hQ
      have HBm := Lib.hid (HB.out.trans (hbQ.mono HB.out.size))
      have HXm := Lib.hid (below_at' hbQ HX.out)
      have HYm := Lib.hid (below_at' hbQ HY.out)
      have HZm := Lib.hid (below_at' hbQ HZ.out)
      have HPm := Lib.hid (below_at' hbQ HP.out)
      have HVm := Lib.hid (below_at' hbQ HV.out)
      clear hbQ HB HX HY HZ HP HV
      have HB := HBm
      have HX := HXm
      have HY := HYm
      have HZ := HZm
      have HP := HPm
      have HV := HVm
      clear HBm HXm HYm HZm HPm HVm
      have HQ := HQz
      clear HQz
      have hS2 : a3.heap[X]? = some (.cells #[.int .u64 a, .int .u64 b, .int .u64 c, .int .u64 f] 33 (0, 0)) ∧ a3.heap[Y]? = some (.cells #[.int .u64 a', .int .u64 b', .int .u64 c', .int .u64 f'] 33 (0, 0)) ∧ a3.heap[Z]? = some (.cells #[.int .u64 (d : Int), .int .u64 0, .int .u64 0, .int .u64 0] 33 (0, 0)) := ⟨HX.out, HY.out, HZ.out⟩
      refine hK _ _ (fun _ _ => hS2) ?_
      clear hK hS
      have hS := hS2
      clear hS2
      refine till_one 2 rfl (by kernel_rfl) fun K hK => ?_
      simp only [List.getElem_toArray, List.getElem_cons_succ, List.getElem_cons_zero]
      rw [if_pos (by rfl)]
      go_simp
      refine (mul_any HU.out HVV.out _).mono ?_
      rintro e a4 ⟨h0, h1, h2, h3, l0, l1, l2, l3, hh, hl, rfl, hb⟩
      rw [HM.out.1] at hh
      rw [HM.out.2] at hl
      have HHH := Lib.hid hh; have HLL := Lib.hid hl
      clear hh hl
      have HBm := Lib.hid (HB.out.trans (hb.mono HB.out.size))
      have HXm := Lib.hid (below_at' hb HX.out)
      have HYm := Lib.hid (below_at' hb HY.out)
      have HZm := Lib.hid (below_at' hb HZ.out)
      have HPm := Lib.hid (below_at' hb HP.out)
      have HVm := Lib.hid (below_at' hb HV.out)
      have HQm := Lib.hid (below_at' hb HQ.out)
      clear hb HB HX HY HZ HP HV HQ
      have HB := HBm
      have HX := HXm
      have HY := HYm
      have HZ := HZm
      have HP := HPm
      have HV := HVm
      have HQ := HQm
      clear HBm HXm HYm HZm HPm HVm HQm
      have hS2 : a4.heap[X]? = some (.cells #[.int .u64 a, .int .u64 b, .int .u64 c, .int .u64 f] 33 (0, 0)) ∧ a4.heap[Y]? = some (.cells #[.int .u64 a', .int .u64 b', .int .u64 c', .int .u64 f'] 33 (0, 0)) ∧ a4.heap[Z]? = some (.cells #[.int .u64 (d : Int), .int .u64 0, .int .u64 0, .int .u64 0] 33 (0, 0)) := ⟨HX.out, HY.out, HZ.out⟩
      refine hK _ _ (fun _ _ => hS2) ?_
      clear hK hS
      have hS := hS2
      clear hS2
      refine till_one 4 rfl (by kernel_rfl) fun K hK => ?_
      simp only [List.getElem_toArray, List.getElem_cons_succ, List.getElem_cons_zero]
      rw [if_pos (by rfl)]
      go_simp
      refine (quo_any HHH.out HLL.out HD.out.1 HD.out.2 _).mono ?_
      rintro e a5 ⟨qa, qb, qc, qd, ra, rb, rc, rd, hq, hr, rfl, hb⟩
      have HQU := Lib.hid hq
      clear hq hr
      have HBm := Lib.hid (HB.out.trans (hb.mono HB.out.size))
      have HXm := Lib.hid (below_at' hb HX.out)
      have HYm := Lib.hid (below_at' hb HY.out)
      have HZm := Lib.hid (below_at' hb HZ.out)
      have HPm := Lib.hid (below_at' hb HP.out)
      have HVm := Lib.hid (below_at' hb HV.out)
      have HQm := Lib.hid (below_at' hb HQ.out)
      clear hb HB HX HY HZ HP HV HQ
      have HB := HBm
      have HX := HXm
      have HY := HYm
      have HZ := HZm
      have HP := HPm
      have HV := HVm
      have HQ := HQm
      clear HBm HXm HYm HZm HPm HVm HQm
      have hS2 : a5.heap[X]? = some (.cells #[.int .u64 a, .int .u64 b, .int .u64 c, .int .u64 f] 33 (0, 0)) ∧ a5.heap[Y]? = some (.cells #[.int .u64 a', .int .u64 b', .int .u64 c', .int .u64 f'] 33 (0, 0)) ∧ a5.heap[Z]? = some (.cells #[.int .u64 (d : Int), .int .u64 0, .int .u64 0, .int .u64 0] 33 (0, 0)) := ⟨HX.out, HY.out, HZ.out⟩
      refine hK _ _ (fun _ _ => hS2) ?_
      clear hK hS
      have hS := hS2
      clear hS2
      refine till_take 5 (some 11) rfl rfl (by kernel_rfl) (by kernel_rfl) (by kernel_rfl) (by kernel_rfl) (by kernel_rfl) (by kernel_rfl) (fun _ _ _ h => h) (.inl ⟨by rfl, fun w' _ => (by go_simp; rfl)⟩) hS ?_
      go_frame
      refine till_take 6 (some 17) rfl rfl (by kernel_rfl) (by kernel_rfl) (by kernel_rfl) (by kernel_rfl) (by kernel_rfl) (by kernel_rfl) (fun _ _ _ h => h) (.inl ⟨by rfl, fun w' _ => (by go_simp; rfl)⟩) hS ?_
      go_frame
      refine till_take 7 (some 18) rfl rfl (by kernel_rfl) (by kernel_rfl) (by kernel_rfl) (by kernel_rfl) (by kernel_rfl) (by kernel_rfl) (fun _ _ _ h => h) (.inl ⟨by rfl, fun w' _ => (by go_simp; rfl)⟩) hS ?_
      go_frame
      refine till_take 8 (some 19) rfl rfl (by kernel_rfl) (by kernel_rfl) (by kernel_rfl) (by kernel_rfl) (by kernel_rfl) (by kernel_rfl) (fun _ _ _ h => h) (.inl ⟨by rfl, fun w' _ => (by go_simp; rfl)⟩) hS ?_
      go_frame
      refine till_one 11 rfl (by kernel_rfl) fun K hK => ?_
      simp only [List.getElem_toArray, List.getElem_cons_succ, List.getElem_cons_zero]
      rw [if_pos (by rfl)]
      refine wp_store_row_g (t := 33) (old := u0) 33 _ _ rfl Q #[.int .u64 qa, .int .u64 qb, .int .u64 qc, .int .u64 qd] rfl rfl HQ.out Tryz.sizeU rfl (one_u64 _ _ _ _) ?_
      intro a6 hxQ kQ zQ
      clear zQ
      have HBm := Lib.hid (HB.out.trans (kQ.below (B := w.heap.size) (fun y hy e => by have := WQ.out; omega) HB.out.size))
      have HXm := Lib.hid (kQ.at HX.out NXQ.out)
      have HYm := Lib.hid (kQ.at HY.out NYQ.out)
      have HZm := Lib.hid (kQ.at HZ.out NZQ.out)
      have HPm := Lib.hid (kQ.at HP.out NPQ.out)
      have HVm := Lib.hid (kQ.at HV.out NVQ.out)
      have HQm := Lib.hid hxQ
      clear hxQ kQ HB HX HY HZ HP HV HQ
      have HB := HBm
      have HX := HXm
      have HY := HYm
      have HZ := HZm
      have HP := HPm
      have HV := HVm
      have HQ := HQm
      clear HBm HXm HYm HZm HPm HVm HQm
      have hS2 : a6.heap[X]? = some (.cells #[.int .u64 a, .int .u64 b, .int .u64 c, .int .u64 f] 33 (0, 0)) ∧ a6.heap[Y]? = some (.cells #[.int .u64 a', .int .u64 b', .int .u64 c', .int .u64 f'] 33 (0, 0)) ∧ a6.heap[Z]? = some (.cells #[.int .u64 (d : Int), .int .u64 0, .int .u64 0, .int .u64 0] 33 (0, 0)) := ⟨HX.out, HY.out, HZ.out⟩
      refine hK _ _ (fun _ _ => hS2) ?_
      clear hK hS
      have hS := hS2
      clear hS2
      refine till_one 12 rfl (by kernel_rfl) fun K hK => ?_
      simp only [List.getElem_toArray, List.getElem_cons_succ, List.getElem_cons_zero]
      rw [if_pos (by rfl)]
      refine wp_store_row_g (t := 33) (old := u0) 33 _ _ rfl V #[.int .u64 ra, .int .u64 rb, .int .u64 rc, .int .u64 rd] rfl rfl HV.out Tryz.sizeU rfl (one_u64 _ _ _ _) ?_
      intro a7 hxV kV zV
      clear zV
      have HBm := Lib.hid (HB.out.trans (kV.below (B := w.heap.size) (fun y hy e => by have := WV.out; omega) HB.out.size))
      have HXm := Lib.hid (kV.at HX.out NXV.out)
      have HYm := Lib.hid (kV.at HY.out NYV.out)
      have HZm := Lib.hid (kV.at HZ.out NZV.out)
      have HPm := Lib.hid (kV.at HP.out NPV.out)
      have HQm := Lib.hid (kV.at HQ.out (fun e => NVQ.out e.symm))
      have HVm := Lib.hid hxV
      clear hxV kV HB HX HY HZ HP HV HQ
      have HB := HBm
      have HX := HXm
      have HY := HYm
      have HZ := HZm
      have HP := HPm
      have HV := HVm
      have HQ := HQm
      clear HBm HXm HYm HZm HPm HVm HQm
      have hS2 : a7.heap[X]? = some (.cells #[.int .u64 a, .int .u64 b, .int .u64 c, .int .u64 f] 33 (0, 0)) ∧ a7.heap[Y]? = some (.cells #[.int .u64 a', .int .u64 b', .int .u64 c', .int .u64 f'] 33 (0, 0)) ∧ a7.heap[Z]? = some (.cells #[.int .u64 (d : Int), .int .u64 0, .int .u64 0, .int .u64 0] 33 (0, 0)) := ⟨HX.out, HY.out, HZ.out⟩
      refine hK _ _ (fun _ _ => hS2) ?_
      clear hK hS
      have hS := hS2
      clear hS2
      refine till_take 13 (some 10) rfl rfl (by kernel_rfl) (by kernel_rfl) (by kernel_rfl) (by kernel_rfl) (by kernel_rfl) (by kernel_rfl) (fun _ _ _ h => h) (.inl ⟨by rfl, fun w' _ => (by go_simp; rfl)⟩) hS ?_
      go_frame
      refine till_done (by kernel_rfl) ?_ _
      clear hS
      go_wp2_with (first
        | (refine wpList_load_row rfl 33 _ rfl Q rfl 33 _ _ _ HQ.out Tryz.underlying33 rfl Tryz.sizeU ?_)
        | (refine wpList_store_row_g (t := 33) (old := u0) rfl 33 _ _ rfl P #[.int .u64 qa, .int .u64 qb, .int .u64 qc, .int .u64 qd] rfl rfl HP.out Tryz.sizeU rfl (one_u64 _ _ _ _) ?_))
      intro a8 hxP kP zP
      clear zP
      have HBm := Lib.hid (HB.out.trans (kP.below (B := w.heap.size) (fun y hy e => by have := WP.out; omega) HB.out.size))
      have HXm := Lib.hid (kP.at HX.out NXP.out)
      have HYm := Lib.hid (kP.at HY.out NYP.out)
      have HZm := Lib.hid (kP.at HZ.out NZP.out)
      have HVm := Lib.hid (kP.at HV.out (fun e => NPV.out e.symm))
      have HQm := Lib.hid (kP.at HQ.out (fun e => NPQ.out e.symm))
      have HPm := Lib.hid hxP
      clear hxP kP HB HX HY HZ HP HV HQ
      have HB := HBm
      have HX := HXm
      have HY := HYm
      have HZ := HZm
      have HP := HPm
      have HV := HVm
      have HQ := HQm
      clear HBm HXm HYm HZm HPm HVm HQm
      go_wp2_with fail
      exact bodyPost_ret (res_row_val rfl _ _ P _ _ _ _ rfl HP.out Tryz.underlying33 rfl Tryz.sizeU _ rfl) rfl ⟨_, _, _, _, HQU.out, rfl, HB.out⟩
end Go.Proofs.YthnjakomkdlglaaGreat
