/- Div by a number of 32 bits, Quo (code). No condition. -/
import Derived.Test.YteaigmoldlbjdaaMulD
namespace Go.Proofs.Yteaigmoldlbjdaa
open Go.RowKit

theorem results_three {fn : Func} {p q u : Tmp} {ty : TypeId} (h : fn.results = #[.cell p ty, .cell q ty, .tmp u]) (tmps : Array Value) (P : Program) (w : World) :
    (results fn tmps).run P w =
      ((asAddr (tmps.getD p undef)).run P w).andThen fun a w₁ => ((loadVar ty a).run P w₁).andThen fun v w₂ => ((asAddr (tmps.getD q undef)).run P w₂).andThen fun a' w₃ => ((loadVar ty a').run P w₃).andThen fun v' w₄ => .ok (.tuple #[v, v', tmps.getD u undef]) w₄ := by
  simp only [results, h]
  simp [Sem.run_bind, Result.andThen]
theorem res_three {P : Program} {fn : Func} {p q u : Tmp} {ty : TypeId} (h : fn.results = #[.cell p ty, .cell q ty, .tmp u]) (tmps : Array Value) (w : World) (g g' : Nat) (t t' : TypeId) (cs cs' : Array Value) (fr fr' : Nat × Nat) (d : TypeDesc)
    (hp : tmps.getD p undef = .pointer (some ⟨g, 0, none⟩)) (hg : w.heap[g]? = some (.cells cs t fr)) (hp' : tmps.getD q undef = .pointer (some ⟨g', 0, none⟩)) (hg' : w.heap[g']? = some (.cells cs' t' fr'))
    (hu : P.underlying ty = some d) (hd : (match d with | .struct _ | .array _ _ => true | _ => false) = true) (hi : (P.info? ty).map (·.size) = some cs.size) (hi' : (P.info? ty).map (·.size) = some cs'.size) (v : Value) (hv : tmps.getD u undef = v) :
    (results fn tmps).run P w = .ok (.tuple #[.agg cs, .agg cs', v]) w := by
  subst hv
  rw [results_three h, hp, hp']
  have h1 := run_loadVar_row (P := P) w g t ty cs fr d hg hu hd hi
  have h2 := run_loadVar_row (P := P) w g' t' ty cs' fr' d hg' hu hd hi'
  simp [asAddr, h1, h2, Result.andThen]

theorem small_u {d : Nat} (hd : d < 4294967296) : UIs (d : Int) 0 0 0 d := by unfold UIs; omega
/-- What Div says. -/
def DivRet (w : World) (n d : Nat) (e : Ending) (w' : World) : Prop := ∃ q0 q1 q2 q3 r0 r1 r2 r3 : Int, UIs q0 q1 q2 q3 (n / d) ∧ UIs r0 r1 r2 r3 (n % d) ∧ e = .returned (.tuple #[.agg #[.int .u64 q0, .int .u64 q1, .int .u64 q2, .int .u64 q3], .agg #[.int .u64 r0, .int .u64 r1, .int .u64 r2, .int .u64 r3], .bool true]) ∧ Below w.heap.size w w'

set_option maxHeartbeats 16000000 in
set_option maxRecDepth 100000 in
theorem udiv_any {a b c f : Int} {n d : Nat} (h : UIs a b c f n) (hd0 : 0 < d) (hd : d < 4294967296) (w : World) :
    Calls Try.prog 101 #[.agg #[.int .u64 a, .int .u64 b, .int .u64 c, .int .u64 f], .agg #[.int .u64 (d : Int), .int .u64 0, .int .u64 0, .int .u64 0]] w (DivRet w n d) := by
  have HU := Lib.hid h; have HD := Lib.hid (And.intro hd0 hd); have HUD := Lib.hid (small_u hd)
  have e0 := Try.eqUn HUD.out UIs.zero
  rw [decide_eq_false (by omega)] at e0
  have e1 := Try.eqUn HUD.out HUD.out
  rw [decide_eq_true rfl] at e1
  clear h hd0 hd
  go_enter Try.func101, Try.ntmps101
  go_wp2_with (refine wpList_alloc_g rfl _ rfl _ _ Try.zeroUz rfl ?_)
  obtain ⟨w1, hw1⟩ : ∃ wq, wq = (w.alloc (.cells #[.int .u64 a, .int .u64 b, .int .u64 c, .int .u64 f] 24)).alloc (.cells #[.int .u64 (d : Int), .int .u64 0, .int .u64 0, .int .u64 0] 24) := ⟨_, rfl⟩
  obtain ⟨X, hX⟩ : ∃ x, x = w.heap.size := ⟨_, rfl⟩
  obtain ⟨Y, hY⟩ : ∃ x, x = w.heap.size + 1 := ⟨_, rfl⟩
  rw [← hw1, ← hY, ← hX]
  have hbx := box2 w _ _ _ _ w1 hw1
  rw [← hY, ← hX] at hbx
  have HX := Lib.hid hbx.1; have HY := Lib.hid hbx.2.1
  have HB : Hid (Below w.heap.size w w1) := Lib.hid (by rw [← hX]; exact hbx.2.2.1)
  clear hbx hw1 hX hY
  intro P w2 hP'
  have WP : Hid (w.heap.size ≤ P) := Lib.hid (by rw [hP'.out.eq]; exact HB.out.size)
  have NXP : Hid (X ≠ P) := Lib.hid (by have := hP'.out.eq; have := heap_lt HX.out; omega)
  have NYP : Hid (Y ≠ P) := Lib.hid (by have := hP'.out.eq; have := heap_lt HY.out; omega)
  have HPz := Lib.hid hP'.out.cells; have hb := hP'.out.below
  clear hP'
  have HBm := Lib.hid (HB.out.trans (hb.mono HB.out.size))
  have HXm := Lib.hid (below_at' hb HX.out)
  have HYm := Lib.hid (below_at' hb HY.out)
  clear hb HB HX HY
  have HB := HBm
  have HX := HXm
  have HY := HYm
  clear HBm HXm HYm
  have HP := HPz
  clear HPz
  go_wp2_with (refine wpList_alloc_g rfl _ rfl _ _ Try.zeroUz rfl ?_)
  intro R a1 hR
  have WR : Hid (w.heap.size ≤ R) := Lib.hid (by rw [hR.out.eq]; exact (HB.out).size)
  have NXR : Hid (X ≠ R) := Lib.hid (by have := hR.out.eq; have := heap_lt HX.out; omega)
  have NYR : Hid (Y ≠ R) := Lib.hid (by have := hR.out.eq; have := heap_lt HY.out; omega)
  have NPR : Hid (P ≠ R) := Lib.hid (by have := hR.out.eq; have := heap_lt HP.out; omega)
  have HRz := Lib.hid hR.out.cells; have hbR := hR.out.below
  clear hR
  have HBm := Lib.hid (HB.out.trans (hbR.mono HB.out.size))
  have HXm := Lib.hid (below_at' hbR HX.out)
  have HYm := Lib.hid (below_at' hbR HY.out)
  have HPm := Lib.hid (below_at' hbR HP.out)
  clear hbR HB HX HY HP
  have HB := HBm
  have HX := HXm
  have HY := HYm
  have HP := HPm
  clear HBm HXm HYm HPm
  have HR := HRz
  clear HRz
  go_wp2_with (first
    | (refine wpList_load_row rfl 24 _ rfl Y rfl 24 _ _ _ HY.out Try.underlying24 rfl Try.sizeU ?_)
    | (refine wpList_load_row rfl 24 _ rfl X rfl 24 _ _ _ HX.out Try.underlying24 rfl Try.sizeU ?_))
  obtain ⟨cv, hcv⟩ : ∃ v, v = cmpW n d := ⟨_, rfl⟩
  have HCV := Lib.hid hcv
  refine (ucmpP_any HU.out HUD.out _).mono ?_
  rw [← hcv]
  clear hcv
  rintro e a2 ⟨rfl, hb⟩
  have HBm := Lib.hid (HB.out.trans (hb.mono HB.out.size))
  have HXm := Lib.hid (below_at' hb HX.out)
  have HYm := Lib.hid (below_at' hb HY.out)
  have HPm := Lib.hid (below_at' hb HP.out)
  have HRm := Lib.hid (below_at' hb HR.out)
  clear hb HB HX HY HP HR
  have HB := HBm
  have HX := HXm
  have HY := HYm
  have HP := HPm
  have HR := HRm
  clear HBm HXm HYm HPm HRm
  by_cases hlt : cv < 0
  · have HLT : Hid (n < d) := Lib.hid ((cmpW_neg n d).1 (by rw [← HCV.out]; exact hlt))
    have hl2 : decide (cv < 0) = true := decide_eq_true hlt
    go_wp2_with fail
    obtain ⟨a3, hwz⟩ : ∃ wz, wz = a2.drew := ⟨_, rfl⟩
    have hbz : Below a2.heap.size a2 a3 := by rw [hwz]; exact (Below.refl _ _).drew
    have HBm := Lib.hid (HB.out.trans (hbz.mono HB.out.size))
    have HXm := Lib.hid (below_at' hbz HX.out)
    have HYm := Lib.hid (below_at' hbz HY.out)
    have HPm := Lib.hid (below_at' hbz HP.out)
    have HRm := Lib.hid (below_at' hbz HR.out)
    clear hbz HB HX HY HP HR
    have HB := HBm
    have HX := HXm
    have HY := HYm
    have HP := HPm
    have HR := HRm
    clear HBm HXm HYm HPm HRm
    have hS : a3.heap[X]? = some (.cells #[.int .u64 a, .int .u64 b, .int .u64 c, .int .u64 f] 24 (0, 0)) := HX.out
    refine wp_region_till (fun w' => w'.heap[X]? = some (.cells #[.int .u64 a, .int .u64 b, .int .u64 c, .int .u64 f] 24 (0, 0))) 5 5 (by kernel_rfl) rfl ?_
    rw [← hwz]
    clear hwz
    refine till_take 0 (some 26) rfl rfl (by kernel_rfl) (by kernel_rfl) (by kernel_rfl) (by kernel_rfl) (by kernel_rfl) (by kernel_rfl) (fun _ _ _ h => h) (.inl ⟨by rfl, fun w' _ => (by go_simp; rfl)⟩) hS ?_
    go_frame
    refine till_take 1 (some 27) rfl rfl (by kernel_rfl) (by kernel_rfl) (by kernel_rfl) (by kernel_rfl) (by kernel_rfl) (by kernel_rfl) (fun _ _ _ h => h) (yields_load (by rfl) 24 _ rfl (.pointer (some ⟨X, 0, none⟩)) rfl (.agg #[.int .u64 a, .int .u64 b, .int .u64 c, .int .u64 f]) (fun w' hS' => load_heap (hS') Try.underlying24 rfl Try.sizeU)) hS ?_
    go_frame
    refine till_one 2 rfl (by kernel_rfl) fun K hK => ?_
    simp only [List.getElem_toArray, List.getElem_cons_succ, List.getElem_cons_zero]
    rw [if_pos (by rfl)]
    refine wp_store_row_g (t := 24) (old := u0) 24 _ _ rfl P u0 rfl rfl HP.out Try.sizeU rfl (one_u64 _ _ _ _) ?_
    intro a4 hxP kP zP
    clear zP
    have HBm := Lib.hid (HB.out.trans (kP.below (B := w.heap.size) (fun y hy e => by have := WP.out; omega) HB.out.size))
    have HXm := Lib.hid (kP.at HX.out NXP.out)
    have HYm := Lib.hid (kP.at HY.out NYP.out)
    have HRm := Lib.hid (kP.at HR.out (fun e => NPR.out e.symm))
    have HPm := Lib.hid hxP
    clear hxP kP HB HX HY HP HR
    have HB := HBm
    have HX := HXm
    have HY := HYm
    have HP := HPm
    have HR := HRm
    clear HBm HXm HYm HPm HRm
    have hS2 : a4.heap[X]? = some (.cells #[.int .u64 a, .int .u64 b, .int .u64 c, .int .u64 f] 24 (0, 0)) := HX.out
    refine hK _ _ (fun _ _ => hS2) ?_
    clear hK hS
    have hS := hS2
    clear hS2
    refine till_one 3 rfl (by kernel_rfl) fun K hK => ?_
    simp only [List.getElem_toArray, List.getElem_cons_succ, List.getElem_cons_zero]
    rw [if_pos (by rfl)]
    refine wp_store_row_g (t := 24) (old := u0) 24 _ _ rfl R #[.int .u64 a, .int .u64 b, .int .u64 c, .int .u64 f] rfl rfl HR.out Try.sizeU rfl (one_u64 _ _ _ _) ?_
    intro a5 hxR kR zR
    clear zR
    have HBm := Lib.hid (HB.out.trans (kR.below (B := w.heap.size) (fun y hy e => by have := WR.out; omega) HB.out.size))
    have HXm := Lib.hid (kR.at HX.out NXR.out)
    have HYm := Lib.hid (kR.at HY.out NYR.out)
    have HPm := Lib.hid (kR.at HP.out NPR.out)
    have HRm := Lib.hid hxR
    clear hxR kR HB HX HY HP HR
    have HB := HBm
    have HX := HXm
    have HY := HYm
    have HP := HPm
    have HR := HRm
    clear HBm HXm HYm HPm HRm
    have hS2 : a5.heap[X]? = some (.cells #[.int .u64 a, .int .u64 b, .int .u64 c, .int .u64 f] 24 (0, 0)) := HX.out
    refine hK _ _ (fun _ _ => hS2) ?_
    clear hK hS
    have hS := hS2
    clear hS2
    refine till_take 4 (some 6) rfl rfl (by kernel_rfl) (by kernel_rfl) (by kernel_rfl) (by kernel_rfl) (by kernel_rfl) (by kernel_rfl) (fun _ _ _ h => h) (.inl ⟨by rfl, fun w' _ => (by go_simp; rfl)⟩) hS ?_
    go_frame
    refine till_done (by kernel_rfl) ?_ _
    clear hS
    go_wp2_with fail
    exact bodyPost_ret (res_three rfl _ _ P R _ _ u0 _ _ _ _ rfl HP.out rfl HR.out Try.underlying24 rfl Try.sizeU Try.sizeU _ rfl) rfl ⟨0, 0, 0, 0, _, _, _, _, by rw [Nat.div_eq_of_lt HLT.out]; exact UIs.zero, by rw [Nat.mod_eq_of_lt HLT.out]; exact HU.out, rfl, HB.out⟩
  · have hl2 : decide (cv < 0) = false := decide_eq_false hlt
    have hdl : ((d : Int) ≤ 4294967295) := by have := HD.out; omega
    have hdl2 : decide ((d : Int) ≤ 4294967295) = true := decide_eq_true hdl
    have c0 : a2.cell? ⟨Y, 0, none⟩ = some (.int .u64 (d : Int)) := Lib.cell_of_heap HY.out 0
    go_wp2_with (first
      | (refine wpList_load_row rfl 24 _ rfl Y rfl 24 _ _ _ HY.out Try.underlying24 rfl Try.sizeU ?_)
      | (refine wpList_load_row rfl 24 _ rfl X rfl 24 _ _ _ HX.out Try.underlying24 rfl Try.sizeU ?_))
    clear c0 e0 e1 hdl hdl2
    refine (small_any HU.out HD.out.1 HD.out.2 _).mono ?_
    rintro e a3 ⟨qa, qb, qc, qd, hq, rfl, hb⟩
    have HQU := Lib.hid hq
    clear hq
    have HBm := Lib.hid (HB.out.trans (hb.mono HB.out.size))
    have HXm := Lib.hid (below_at' hb HX.out)
    have HYm := Lib.hid (below_at' hb HY.out)
    have HPm := Lib.hid (below_at' hb HP.out)
    have HRm := Lib.hid (below_at' hb HR.out)
    clear hb HB HX HY HP HR
    have HB := HBm
    have HX := HXm
    have HY := HYm
    have HP := HPm
    have HR := HRm
    clear HBm HXm HYm HPm HRm
    obtain ⟨rv, hrv⟩ : ∃ v, v = n % d := ⟨_, rfl⟩
    rw [← hrv]
    have HRV := Lib.hid hrv
    clear hrv
    go_wp2_with (refine wpList_alloc_g rfl _ rfl _ _ Try.zeroUz rfl ?_)
    intro Q a4 hQ
    go_wp2_with (refine wpList_store_row_g (t := 24) (old := u0) rfl 24 _ _ rfl Q #[.int .u64 qa, .int .u64 qb, .int .u64 qc, .int .u64 qd] rfl rfl hQ.out.cells Try.sizeU rfl (one_u64 _ _ _ _) ?_)
    intro a5 hxQ kQ zQ
    clear zQ
    have hbQ : Below a3.heap.size a3 a5 := hQ.out.below.trans (kQ.below (B := a3.heap.size) (fun x hx e => by have := hQ.out.eq; omega) hQ.out.below.size)
    have WQ : Hid (w.heap.size ≤ Q) := Lib.hid (by rw [hQ.out.eq]; exact (HB.out).size)
    have NXQ : Hid (X ≠ Q) := Lib.hid (by have := hQ.out.eq; have := heap_lt HX.out; omega)
    have NYQ : Hid (Y ≠ Q) := Lib.hid (by have := hQ.out.eq; have := heap_lt HY.out; omega)
    have NPQ : Hid (P ≠ Q) := Lib.hid (by have := hQ.out.eq; have := heap_lt HP.out; omega)
    have NRQ : Hid (R ≠ Q) := Lib.hid (by have := hQ.out.eq; have := heap_lt HR.out; omega)
    have HQz := Lib.hid hxQ
    clear hQ hxQ kQ
    have HBm := Lib.hid (HB.out.trans (hbQ.mono HB.out.size))
    have HXm := Lib.hid (below_at' hbQ HX.out)
    have HYm := Lib.hid (below_at' hbQ HY.out)
    have HPm := Lib.hid (below_at' hbQ HP.out)
    have HRm := Lib.hid (below_at' hbQ HR.out)
    clear hbQ HB HX HY HP HR
    have HB := HBm
    have HX := HXm
    have HY := HYm
    have HP := HPm
    have HR := HRm
    clear HBm HXm HYm HPm HRm
    have HQ := HQz
    clear HQz
    go_wp2_with fail
    obtain ⟨a6, hwz⟩ : ∃ wz, wz = a5.drew := ⟨_, rfl⟩
    have hbz : Below a5.heap.size a5 a6 := by rw [hwz]; exact (Below.refl _ _).drew
    have HBm := Lib.hid (HB.out.trans (hbz.mono HB.out.size))
    have HXm := Lib.hid (below_at' hbz HX.out)
    have HYm := Lib.hid (below_at' hbz HY.out)
    have HPm := Lib.hid (below_at' hbz HP.out)
    have HRm := Lib.hid (below_at' hbz HR.out)
    have HQm := Lib.hid (below_at' hbz HQ.out)
    clear hbz HB HX HY HP HR HQ
    have HB := HBm
    have HX := HXm
    have HY := HYm
    have HP := HPm
    have HR := HRm
    have HQ := HQm
    clear HBm HXm HYm HPm HRm HQm
    have hS : a6.heap[Q]? = some (.cells #[.int .u64 qa, .int .u64 qb, .int .u64 qc, .int .u64 qd] 24 (0, 0)) := HQ.out
    refine wp_region_till (fun w' => w'.heap[Q]? = some (.cells #[.int .u64 qa, .int .u64 qb, .int .u64 qc, .int .u64 qd] 24 (0, 0))) 6 6 (by kernel_rfl) rfl ?_
    rw [← hwz]
    clear hwz
    refine till_take 0 (some 46) rfl rfl (by kernel_rfl) (by kernel_rfl) (by kernel_rfl) (by kernel_rfl) (by kernel_rfl) (by kernel_rfl) (fun _ _ _ h => h) (yields_load (by rfl) 24 _ rfl (.pointer (some ⟨Q, 0, none⟩)) rfl (.agg #[.int .u64 qa, .int .u64 qb, .int .u64 qc, .int .u64 qd]) (fun w' hS' => load_heap (hS') Try.underlying24 rfl Try.sizeU)) hS ?_
    go_frame
    refine till_take 1 (some 47) rfl rfl (by kernel_rfl) (by kernel_rfl) (by kernel_rfl) (by kernel_rfl) (by kernel_rfl) (by kernel_rfl) (fun _ _ _ h => h) (.inl ⟨by rfl, fun w' _ => (by go_simp; rfl)⟩) hS ?_
    go_frame
    refine till_one 2 rfl (by kernel_rfl) fun K hK => ?_
    simp only [List.getElem_toArray, List.getElem_cons_succ, List.getElem_cons_zero]
    rw [if_pos (by rfl)]
    go_simp
    refine (uof_any (A := rv) (by rw [HRV.out]; have := Nat.mod_lt n HD.out.1; have := HD.out.2; omega) _).mono ?_
    rintro e a7 ⟨ra, rb, rc, rd, hr, rfl, hb⟩
    have HRU := Lib.hid hr
    clear hr
    have HBm := Lib.hid (HB.out.trans (hb.mono HB.out.size))
    have HXm := Lib.hid (below_at' hb HX.out)
    have HYm := Lib.hid (below_at' hb HY.out)
    have HPm := Lib.hid (below_at' hb HP.out)
    have HRm := Lib.hid (below_at' hb HR.out)
    have HQm := Lib.hid (below_at' hb HQ.out)
    clear hb HB HX HY HP HR HQ
    have HB := HBm
    have HX := HXm
    have HY := HYm
    have HP := HPm
    have HR := HRm
    have HQ := HQm
    clear HBm HXm HYm HPm HRm HQm
    have hS2 : a7.heap[Q]? = some (.cells #[.int .u64 qa, .int .u64 qb, .int .u64 qc, .int .u64 qd] 24 (0, 0)) := HQ.out
    refine hK _ _ (fun _ _ => hS2) ?_
    clear hK hS
    have hS := hS2
    clear hS2
    refine till_one 3 rfl (by kernel_rfl) fun K hK => ?_
    simp only [List.getElem_toArray, List.getElem_cons_succ, List.getElem_cons_zero]
    rw [if_pos (by rfl)]
    refine wp_store_row_g (t := 24) (old := u0) 24 _ _ rfl P #[.int .u64 qa, .int .u64 qb, .int .u64 qc, .int .u64 qd] rfl rfl HP.out Try.sizeU rfl (one_u64 _ _ _ _) ?_
    intro a8 hxP kP zP
    clear zP
    have HBm := Lib.hid (HB.out.trans (kP.below (B := w.heap.size) (fun y hy e => by have := WP.out; omega) HB.out.size))
    have HXm := Lib.hid (kP.at HX.out NXP.out)
    have HYm := Lib.hid (kP.at HY.out NYP.out)
    have HRm := Lib.hid (kP.at HR.out (fun e => NPR.out e.symm))
    have HQm := Lib.hid (kP.at HQ.out (fun e => NPQ.out e.symm))
    have HPm := Lib.hid hxP
    clear hxP kP HB HX HY HP HR HQ
    have HB := HBm
    have HX := HXm
    have HY := HYm
    have HP := HPm
    have HR := HRm
    have HQ := HQm
    clear HBm HXm HYm HPm HRm HQm
    have hS2 : a8.heap[Q]? = some (.cells #[.int .u64 qa, .int .u64 qb, .int .u64 qc, .int .u64 qd] 24 (0, 0)) := HQ.out
    refine hK _ _ (fun _ _ => hS2) ?_
    clear hK hS
    have hS := hS2
    clear hS2
    refine till_one 4 rfl (by kernel_rfl) fun K hK => ?_
    simp only [List.getElem_toArray, List.getElem_cons_succ, List.getElem_cons_zero]
    rw [if_pos (by rfl)]
    refine wp_store_row_g (t := 24) (old := u0) 24 _ _ rfl R #[.int .u64 ra, .int .u64 rb, .int .u64 rc, .int .u64 rd] rfl rfl HR.out Try.sizeU rfl (one_u64 _ _ _ _) ?_
    intro a9 hxR kR zR
    clear zR
    have HBm := Lib.hid (HB.out.trans (kR.below (B := w.heap.size) (fun y hy e => by have := WR.out; omega) HB.out.size))
    have HXm := Lib.hid (kR.at HX.out NXR.out)
    have HYm := Lib.hid (kR.at HY.out NYR.out)
    have HPm := Lib.hid (kR.at HP.out NPR.out)
    have HQm := Lib.hid (kR.at HQ.out (fun e => NRQ.out e.symm))
    have HRm := Lib.hid hxR
    clear hxR kR HB HX HY HP HR HQ
    have HB := HBm
    have HX := HXm
    have HY := HYm
    have HP := HPm
    have HR := HRm
    have HQ := HQm
    clear HBm HXm HYm HPm HRm HQm
    have hS2 : a9.heap[Q]? = some (.cells #[.int .u64 qa, .int .u64 qb, .int .u64 qc, .int .u64 qd] 24 (0, 0)) := HQ.out
    refine hK _ _ (fun _ _ => hS2) ?_
    clear hK hS
    have hS := hS2
    clear hS2
    refine till_take 5 (some 6) rfl rfl (by kernel_rfl) (by kernel_rfl) (by kernel_rfl) (by kernel_rfl) (by kernel_rfl) (by kernel_rfl) (fun _ _ _ h => h) (.inl ⟨by rfl, fun w' _ => (by go_simp; rfl)⟩) hS ?_
    go_frame
    refine till_done (by kernel_rfl) ?_ _
    clear hS
    go_wp2_with fail
    exact bodyPost_ret (res_three rfl _ _ P R _ _ _ _ _ _ _ rfl HP.out rfl HR.out Try.underlying24 rfl Try.sizeU Try.sizeU _ rfl) rfl ⟨_, _, _, _, _, _, _, _, HQU.out, by rw [← HRV.out]; exact HRU.out, rfl, HB.out⟩
end Go.Proofs.Yteaigmoldlbjdaa
