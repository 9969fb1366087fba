/- Both parts of an amount (code). No condition. -/
import Derived.Test.YthnjakomkdlglaaGreatMulF
namespace Go.Proofs.YthnjakomkdlglaaGreat
open Go.RowKit

set_option maxHeartbeats 4000000 in
theorem pnum_any {n : Nat} (hn : n ≤ 10000) (w : World) : Calls Tryz.prog 147 #[.int .i64 (n : Int)] w (Ret w (.agg #[.int .u64 (n : Int), .int .u64 0, .int .u64 0, .int .u64 0])) := by
  have HN := Lib.hid hn
  have hw : IntKind.u64.wrap (n : Int) = (n : Int) := by rw [IntKind.wrap_u64]; omega
  have HB : Hid (Below w.heap.size w w) := Lib.hid (Below.refl _ _)
  clear hn
  go_enter Tryz.func147, Tryz.ntmps147
  go_wp2_with (refine wpList_alloc_g rfl _ rfl _ _ Tryz.zeroUz rfl ?_)
  intro R a1 hR
  have WR : Hid (w.heap.size ≤ R) := Lib.hid (by rw [hR.out.eq]; exact (HB.out).size)
  have HRz := Lib.hid hR.out.cells; have hbR := hR.out.below
  clear hR
  have HBm := Lib.hid (HB.out.trans (hbR.mono HB.out.size))
  clear hbR HB
  have HB := HBm
  clear HBm
  have HR := HRz
  clear HRz
  go_wp2_with fail
  refine (uof_any (A := n) (by have := HN.out; omega) _).mono ?_
  rintro e a2 ⟨xa, xb, xc, xd, hu, rfl, hb⟩
  have HE : Hid (xa = (n : Int) ∧ xb = 0 ∧ xc = 0 ∧ xd = 0) := Lib.hid (by have h9 := HN.out; unfold UIs at hu; omega)
  clear hu
  obtain ⟨rfl, rfl, rfl, rfl⟩ := HE.out
  clear HE
  have HBm := Lib.hid (HB.out.trans (hb.mono HB.out.size))
  have HRm := Lib.hid (below_at' hb HR.out)
  clear hb HB HR
  have HB := HBm
  have HR := HRm
  clear HBm HRm
  go_wp2_with (refine wpList_store_row_g (t := 33) (old := u0) rfl 33 _ _ rfl R #[.int .u64 (n : Int), .int .u64 0, .int .u64 0, .int .u64 0] rfl rfl HR.out Tryz.sizeU rfl (one_u64 _ _ _ _) ?_)
  intro a3 hxR kR zR
  clear zR
  have HBm := Lib.hid (HB.out.trans (kR.below (B := w.heap.size) (fun y hy e => by have := WR.out; omega) HB.out.size))
  have HRm := Lib.hid hxR
  clear hxR kR HB HR
  have HB := HBm
  have HR := HRm
  clear HBm HRm
  go_wp2_with fail
  exact bodyPost_ret (results_cell_row rfl _ _ _ _ _ _ _ rfl HR.out Tryz.underlying33 rfl Tryz.sizeU) rfl ⟨rfl, HB.out⟩

set_option maxHeartbeats 4000000 in
theorem sgood_any {n : Nat} (hn : n ≤ 10000) (w : World) : Calls Tryz.prog 96 #[.int .i64 (n : Int)] w fun e w' => e = .returned (.bool true) ∧ w = w' := by
  go_enter Tryz.func96, Tryz.ntmps96
  go_wp2_with fail
  go_ret
  exact ⟨by first | rfl | (simp; omega), rfl⟩
/-- What Parts says. -/
def PartsRet (w : World) (v1 v2 : Nat) (ok : Bool) (e : Ending) (w' : World) : Prop := ∃ p0 p1 p2 p3 q0 q1 q2 q3 : Int, UIs p0 p1 p2 p3 v1 ∧ UIs q0 q1 q2 q3 v2 ∧ e = .returned (.tuple #[.agg #[.int .u64 p0, .int .u64 p1, .int .u64 p2, .int .u64 p3], .agg #[.int .u64 q0, .int .u64 q1, .int .u64 q2, .int .u64 q3], .bool ok]) ∧ Below w.heap.size w w'
def prt (n a : Nat) : Nat := a * n / 10000
theorem prt_le {n a : Nat} (hn : n ≤ 10000) : prt n a ≤ a := by
  unfold prt
  have := Nat.mul_le_mul_left a hn
  omega

set_option maxHeartbeats 16000000 in
set_option maxRecDepth 100000 in
theorem parts_any {a b c f : Int} {n x : Nat} (h : UIs a b c f x) (hn : n ≤ 10000) (w : World) :
    Calls Tryz.prog 92 #[.int .i64 (n : Int), .agg #[.int .u64 a, .int .u64 b, .int .u64 c, .int .u64 f]] w (PartsRet w (if x < uHalf then prt n x else 0) (if x < uHalf then x - prt n x else 0) (decide (x < uHalf))) := by
  obtain ⟨v1, hv1⟩ : ∃ v, v = if x < uHalf then prt n x else 0 := ⟨_, rfl⟩
  obtain ⟨v2, hv2⟩ : ∃ v, v = if x < uHalf then x - prt n x else 0 := ⟨_, rfl⟩
  obtain ⟨q, hq⟩ : ∃ v, v = decide (x < uHalf) := ⟨_, rfl⟩
  rw [← hv1, ← hv2, ← hq]
  have HV1 := Lib.hid hv1; have HV2 := Lib.hid hv2; have HQ := Lib.hid hq
  have HU := Lib.hid h; have HN := Lib.hid hn
  clear h hn hv1 hv2 hq
  go_enter Tryz.func92, Tryz.ntmps92
  go_wp2_with (refine wpList_alloc_g rfl _ rfl _ _ Tryz.zeroUz rfl ?_)
  obtain ⟨w1, hw1⟩ : ∃ wq, wq = w.alloc (.cells #[.int .u64 a, .int .u64 b, .int .u64 c, .int .u64 f] 33) := ⟨_, rfl⟩
  obtain ⟨X, hX⟩ : ∃ x, x = w.heap.size := ⟨_, rfl⟩
  rw [← hw1, ← hX]
  have HX : Hid (w1.heap[X]? = some (.cells #[.int .u64 a, .int .u64 b, .int .u64 c, .int .u64 f] 33 (0, 0))) := Lib.hid (by rw [hw1, hX]; exact heap_alloc_new _ _)
  have HB : Hid (Below w.heap.size w w1) := Lib.hid (by rw [hw1]; exact below_new _ _)
  clear hw1 hX
  intro P w2 hP'
  have WP : Hid (w.heap.size ≤ P) := Lib.hid (by rw [hP'.out.eq]; exact HB.out.size)
  have NXP : Hid (X ≠ P) := Lib.hid (by have := hP'.out.eq; have := heap_lt HX.out; omega)
  have HPz := Lib.hid hP'.out.cells; have hb := hP'.out.below
  clear hP'
  have HBm := Lib.hid (HB.out.trans (hb.mono HB.out.size))
  have HXm := Lib.hid (below_at' hb HX.out)
  clear hb HB HX
  have HB := HBm
  have HX := HXm
  clear HBm HXm
  have HP := HPz
  clear HPz
  go_wp2_with (refine wpList_alloc_g rfl _ rfl _ _ Tryz.zeroUz rfl ?_)
  intro R a1 hR
  have WR : Hid (w.heap.size ≤ R) := Lib.hid (by rw [hR.out.eq]; exact (HB.out).size)
  have NXR : Hid (X ≠ R) := Lib.hid (by have := hR.out.eq; have := heap_lt HX.out; omega)
  have NPR : Hid (P ≠ R) := Lib.hid (by have := hR.out.eq; have := heap_lt HP.out; omega)
  have HRz := Lib.hid hR.out.cells; have hbR := hR.out.below
  clear hR
  have HBm := Lib.hid (HB.out.trans (hbR.mono HB.out.size))
  have HXm := Lib.hid (below_at' hbR HX.out)
  have HPm := Lib.hid (below_at' hbR HP.out)
  clear hbR HB HX HP
  have HB := HBm
  have HX := HXm
  have HP := HPm
  clear HBm HXm HPm
  have HR := HRz
  clear HRz
  go_wp2_with fail
  refine (sgood_any HN.out _).mono ?_
  rintro e _ ⟨rfl, rfl⟩
  have c0 : a1.cell? ⟨X, 0, none⟩ = some (.int .u64 a) := Lib.cell_of_heap HX.out 0
  have c1 : a1.cell? ⟨X, 1, none⟩ = some (.int .u64 b) := Lib.cell_of_heap HX.out 1
  have c2 : a1.cell? ⟨X, 2, none⟩ = some (.int .u64 c) := Lib.cell_of_heap HX.out 2
  have c3 : a1.cell? ⟨X, 3, none⟩ = some (.int .u64 f) := Lib.cell_of_heap HX.out 3
  go_wp2_with fail
  clear c0 c1 c2 c3
  refine (wamount_any HU.out _).mono ?_
  rw [← HQ.out]
  rintro e a2 ⟨rfl, hb⟩
  have HBm := Lib.hid (HB.out.trans (hb.mono HB.out.size))
  have HXm := Lib.hid (below_at' hb HX.out)
  have HPm := Lib.hid (below_at' hb HP.out)
  have HRm := Lib.hid (below_at' hb HR.out)
  clear hb HB HX HP HR
  have HB := HBm
  have HX := HXm
  have HP := HPm
  have HR := HRm
  clear HBm HXm HPm HRm
  cases q with
  | false =>
    have hno : ¬ x < uHalf := of_decide_eq_false HQ.out.symm
    have HZ : Hid (v1 = 0 ∧ v2 = 0) := Lib.hid ⟨by rw [HV1.out, if_neg hno], by rw [HV2.out, if_neg hno]⟩
    clear hno
    go_wp2_with (refine wpList_store_row_g (t := 33) (old := u0) rfl 33 _ _ rfl P u0 rfl rfl HP.out Tryz.sizeU rfl (one_u64 _ _ _ _) ?_)
    intro a3 hxP kP zP
    clear zP
    have HBm := Lib.hid (HB.out.trans (kP.below (B := w.heap.size) (fun y hy e => by have := WP.out; omega) HB.out.size))
    have HXm := Lib.hid (kP.at HX.out NXP.out)
    have HRm := Lib.hid (kP.at HR.out (fun e => NPR.out e.symm))
    have HPm := Lib.hid hxP
    clear hxP kP HB HX HP HR
    have HB := HBm
    have HX := HXm
    have HP := HPm
    have HR := HRm
    clear HBm HXm HPm HRm
    go_wp2_with (refine wpList_store_row_g (t := 33) (old := u0) rfl 33 _ _ rfl R u0 rfl rfl HR.out Tryz.sizeU rfl (one_u64 _ _ _ _) ?_)
    intro a4 hxR kR zR
    clear zR
    have HBm := Lib.hid (HB.out.trans (kR.below (B := w.heap.size) (fun y hy e => by have := WR.out; omega) HB.out.size))
    have HXm := Lib.hid (kR.at HX.out NXR.out)
    have HPm := Lib.hid (kR.at HP.out NPR.out)
    have HRm := Lib.hid hxR
    clear hxR kR HB HX HP HR
    have HB := HBm
    have HX := HXm
    have HP := HPm
    have HR := HRm
    clear HBm HXm HPm HRm
    go_wp2_with fail
    exact bodyPost_ret (res_three rfl _ _ P R _ _ _ _ _ _ _ rfl HP.out rfl HR.out Tryz.underlying33 rfl Tryz.sizeU Tryz.sizeU _ rfl) rfl ⟨_, _, _, _, _, _, _, _, by rw [HZ.out.1]; exact UIs.zero, by rw [HZ.out.2]; exact UIs.zero, rfl, HB.out⟩
  | true =>
    have hyes : x < uHalf := of_decide_eq_true HQ.out.symm
    have HZ : Hid (v1 = prt n x ∧ v2 = x - prt n x) := Lib.hid ⟨by rw [HV1.out, if_pos hyes], by rw [HV2.out, if_pos hyes]⟩
    have HXL := Lib.hid hyes
    clear hyes
    go_wp2_with fail
    obtain ⟨a3, hwz⟩ : ∃ wz, wz = a2.drew := ⟨_, rfl⟩
    have hbz : Below a2.heap.size a2 a3 := by rw [hwz]; exact (Below.refl _ _).drew
    have HBm := Lib.hid (HB.out.trans (hbz.mono HB.out.size))
    have HXm := Lib.hid (below_at' hbz HX.out)
    have HPm := Lib.hid (below_at' hbz HP.out)
    have HRm := Lib.hid (below_at' hbz HR.out)
    clear hbz HB HX HP HR
    have HB := HBm
    have HX := HXm
    have HP := HPm
    have HR := HRm
    clear HBm HXm HPm HRm
    have hS : a3.heap[X]? = some (.cells #[.int .u64 a, .int .u64 b, .int .u64 c, .int .u64 f] 33 (0, 0)) := HX.out
    refine wp_region_till (fun w' => w'.heap[X]? = some (.cells #[.int .u64 a, .int .u64 b, .int .u64 c, .int .u64 f] 33 (0, 0))) 13 13 (by kernel_rfl) rfl ?_
    rw [← hwz]
    clear hwz
    refine till_take 0 (some 23) rfl rfl (by kernel_rfl) (by kernel_rfl) (by kernel_rfl) (by kernel_rfl) (by kernel_rfl) (by kernel_rfl) (fun _ _ _ h => h) (yields_load (by rfl) 33 _ rfl (.pointer (some ⟨X, 0, none⟩)) rfl (.agg #[.int .u64 a, .int .u64 b, .int .u64 c, .int .u64 f]) (fun w' hS' => load_heap (hS') Tryz.underlying33 rfl Tryz.sizeU)) hS ?_
    go_frame
    refine till_take 1 (some 24) rfl rfl (by kernel_rfl) (by kernel_rfl) (by kernel_rfl) (by kernel_rfl) (by kernel_rfl) (by kernel_rfl) (fun _ _ _ h => h) (.inl ⟨by rfl, fun w' _ => (by go_simp; rfl)⟩) hS ?_
    go_frame
    refine till_take 2 (some 25) rfl rfl (by kernel_rfl) (by kernel_rfl) (by kernel_rfl) (by kernel_rfl) (by kernel_rfl) (by kernel_rfl) (fun _ _ _ h => h) (.inl ⟨by rfl, fun w' _ => (by go_simp; rfl)⟩) hS ?_
    go_frame
    refine till_take 4 (some 27) rfl rfl (by kernel_rfl) (by kernel_rfl) (by kernel_rfl) (by kernel_rfl) (by kernel_rfl) (by kernel_rfl) (fun _ _ _ h => h) (.inl ⟨by rfl, fun w' _ => (by go_simp; rfl)⟩) hS ?_
    go_frame
    refine till_two 3 10 rfl rfl (by kernel_rfl) (fun K hK => ?_) (fun K hK => ?_)
    · simp only [List.getElem_toArray, List.getElem_cons_succ, List.getElem_cons_zero]
      rw [if_pos (by rfl)]
      go_simp
      refine (pnum_any HN.out _).mono ?_
      rintro e a4 ⟨rfl, hb⟩
      have HBm := Lib.hid (HB.out.trans (hb.mono HB.out.size))
      have HXm := Lib.hid (below_at' hb HX.out)
      have HPm := Lib.hid (below_at' hb HP.out)
      have HRm := Lib.hid (below_at' hb HR.out)
      clear hb HB HX HP HR
      have HB := HBm
      have HX := HXm
      have HP := HPm
      have HR := HRm
      clear HBm HXm HPm HRm
      have hS2 : a4.heap[X]? = some (.cells #[.int .u64 a, .int .u64 b, .int .u64 c, .int .u64 f] 33 (0, 0)) := HX.out
      refine hK _ _ (fun _ _ => hS2) ?_
      clear hK hS
      have hS := hS2
      clear hS2
      refine till_two 5 10 rfl rfl (by kernel_rfl) (fun K hK => ?_) (fun K hK => ?_)
      · simp only [List.getElem_toArray, List.getElem_cons_succ, List.getElem_cons_zero]
        rw [if_pos (by rfl)]
        go_simp
        refine (pnum_any (n := 10000) (by decide) _).mono ?_
        rintro e a5 ⟨rfl, hb⟩
        have HBm := Lib.hid (HB.out.trans (hb.mono HB.out.size))
        have HXm := Lib.hid (below_at' hb HX.out)
        have HPm := Lib.hid (below_at' hb HP.out)
        have HRm := Lib.hid (below_at' hb HR.out)
        clear hb HB HX HP HR
        have HB := HBm
        have HX := HXm
        have HP := HPm
        have HR := HRm
        clear HBm HXm HPm HRm
        have hS2 : a5.heap[X]? = some (.cells #[.int .u64 a, .int .u64 b, .int .u64 c, .int .u64 f] 33 (0, 0)) := HX.out
        refine hK _ _ (fun _ _ => hS2) ?_
        clear hK hS
        have hS := hS2
        clear hS2
        refine till_two 6 10 rfl rfl (by kernel_rfl) (fun K hK => ?_) (fun K hK => ?_)
        · simp only [List.getElem_toArray, List.getElem_cons_succ, List.getElem_cons_zero]
          rw [if_pos (by rfl)]
          go_simp
          refine (down_any (m := n) (d := 10000) HU.out (small_u (by have := HN.out; omega)) (by have h1 := HXL.out; have h2 := HN.out; have h3 := Nat.mul_le_mul (Nat.le_of_lt h1) h2; unfold uHalf at h3; unfold uMax; omega) (by decide) (by decide) _).mono ?_
          rintro e a6 ⟨qa, qb, qc, qd, hq, rfl, hb⟩
          have HQU : Hid (UIs qa qb qc qd (prt n x)) := Lib.hid hq
          clear hq
          have HBm := Lib.hid (HB.out.trans (hb.mono HB.out.size))
          have HXm := Lib.hid (below_at' hb HX.out)
          have HPm := Lib.hid (below_at' hb HP.out)
          have HRm := Lib.hid (below_at' hb HR.out)
          clear hb HB HX HP HR
          have HB := HBm
          have HX := HXm
          have HP := HPm
          have HR := HRm
          clear HBm HXm HPm HRm
          have hS2 : a6.heap[X]? = some (.cells #[.int .u64 a, .int .u64 b, .int .u64 c, .int .u64 f] 33 (0, 0)) := HX.out
          refine hK _ _ (fun _ _ => hS2) ?_
          clear hK hS
          have hS := hS2
          clear hS2
          refine till_take 7 (some 22) rfl rfl (by kernel_rfl) (by kernel_rfl) (by kernel_rfl) (by kernel_rfl) (by kernel_rfl) (by kernel_rfl) (fun _ _ _ h => h) (.inl ⟨by rfl, fun w' _ => (by go_simp; rfl)⟩) hS ?_
          go_frame
          refine till_take 8 (some 30) rfl rfl (by kernel_rfl) (by kernel_rfl) (by kernel_rfl) (by kernel_rfl) (by kernel_rfl) (by kernel_rfl) (fun _ _ _ h => h) (.inl ⟨by rfl, fun w' _ => (by go_simp; rfl)⟩) hS ?_
          go_frame
          refine till_take 9 (some 31) rfl rfl (by kernel_rfl) (by kernel_rfl) (by kernel_rfl) (by kernel_rfl) (by kernel_rfl) (by kernel_rfl) (fun _ _ _ h => h) (.inl ⟨by rfl, fun w' _ => (by go_simp; rfl)⟩) hS ?_
          go_frame
          refine till_one 10 rfl (by kernel_rfl) fun K hK => ?_
          simp only [List.getElem_toArray, List.getElem_cons_succ, List.getElem_cons_zero]
          rw [if_pos (by rfl)]
          refine wp_alloc_g 33 rfl _ _ Tryz.zeroUz rfl ?_
          intro Q a7 hQ
          have WQ : Hid (w.heap.size ≤ Q) := Lib.hid (by rw [hQ.out.eq]; exact (HB.out).size)
          have NXQ : Hid (X ≠ Q) := Lib.hid (by have := hQ.out.eq; have := heap_lt HX.out; omega)
          have NPQ : Hid (P ≠ Q) := Lib.hid (by have := hQ.out.eq; have := heap_lt HP.out; omega)
          have NRQ : Hid (R ≠ Q) := Lib.hid (by have := hQ.out.eq; have := heap_lt HR.out; omega)
          have HQz := Lib.hid hQ.out.cells; have hbQ := hQ.out.below
          clear hQ
          have HBm := Lib.hid (HB.out.trans (hbQ.mono HB.out.size))
          have HXm := Lib.hid (below_at' hbQ HX.out)
          have HPm := Lib.hid (below_at' hbQ HP.out)
          have HRm := Lib.hid (below_at' hbQ HR.out)
          clear hbQ HB HX HP HR
          have HB := HBm
          have HX := HXm
          have HP := HPm
          have HR := HRm
          clear HBm HXm HPm HRm
          have HQ := HQz
          clear HQz
          have hS2 : a7.heap[X]? = some (.cells #[.int .u64 a, .int .u64 b, .int .u64 c, .int .u64 f] 33 (0, 0)) := HX.out
          refine hK _ _ (fun _ _ => hS2) ?_
          clear hK hS
          have hS := hS2
          clear hS2
          refine till_one 11 rfl (by kernel_rfl) fun K hK => ?_
          simp only [List.getElem_toArray, List.getElem_cons_succ, List.getElem_cons_zero]
          rw [if_pos (by rfl)]
          refine wp_store_row_g (t := 33) (old := u0) 33 _ _ rfl Q #[.int .u64 qa, .int .u64 qb, .int .u64 qc, .int .u64 qd] rfl rfl HQ.out Tryz.sizeU rfl (one_u64 _ _ _ _) ?_
          intro a8 hxQ kQ zQ
          clear zQ
          have HBm := Lib.hid (HB.out.trans (kQ.below (B := w.heap.size) (fun y hy e => by have := WQ.out; omega) HB.out.size))
          have HXm := Lib.hid (kQ.at HX.out NXQ.out)
          have HPm := Lib.hid (kQ.at HP.out NPQ.out)
          have HRm := Lib.hid (kQ.at HR.out NRQ.out)
          have HQm := Lib.hid hxQ
          clear hxQ kQ HB HX HP HR HQ
          have HB := HBm
          have HX := HXm
          have HP := HPm
          have HR := HRm
          have HQ := HQm
          clear HBm HXm HPm HRm HQm
          have hS2 : a8.heap[X]? = some (.cells #[.int .u64 a, .int .u64 b, .int .u64 c, .int .u64 f] 33 (0, 0)) := HX.out
          refine hK _ _ (fun _ _ => hS2) ?_
          clear hK hS
          have hS := hS2
          clear hS2
          refine till_take 12 (some 9) rfl rfl (by kernel_rfl) (by kernel_rfl) (by kernel_rfl) (by kernel_rfl) (by kernel_rfl) (by kernel_rfl) (fun _ _ _ h => h) (.inl ⟨by rfl, fun w' _ => (by go_simp; rfl)⟩) hS ?_
          go_frame
          refine till_done (by kernel_rfl) ?_ _
          clear hS
          go_wp2_with (first
            | (refine wpList_load_row rfl 33 _ rfl X rfl 33 _ _ _ HX.out Tryz.underlying33 rfl Tryz.sizeU ?_)
            | (refine wpList_load_row rfl 33 _ rfl Q rfl 33 _ _ _ HQ.out Tryz.underlying33 rfl Tryz.sizeU ?_))
          refine (usub_any HU.out HQU.out _).mono ?_
          rw [decide_eq_true (prt_le HN.out)]
          rintro e a9 ⟨ya, yb, yc, yd, hu, rfl, hb⟩
          first | rw [if_pos trivial] at hu | rw [if_pos rfl] at hu
          have HYU := Lib.hid hu
          clear hu
          have HBm := Lib.hid (HB.out.trans (hb.mono HB.out.size))
          have HXm := Lib.hid (below_at' hb HX.out)
          have HPm := Lib.hid (below_at' hb HP.out)
          have HRm := Lib.hid (below_at' hb HR.out)
          have HQm := Lib.hid (below_at' hb HQ.out)
          clear hb HB HX HP HR HQ
          have HB := HBm
          have HX := HXm
          have HP := HPm
          have HR := HRm
          have HQ := HQm
          clear HBm HXm HPm HRm HQm
          go_wp2_with (refine wpList_alloc_g rfl _ rfl _ _ Tryz.zeroUz rfl ?_)
          intro V a10 hV
          go_wp2_with (refine wpList_store_row_g (t := 33) (old := u0) rfl 33 _ _ rfl V #[.int .u64 ya, .int .u64 yb, .int .u64 yc, .int .u64 yd] rfl rfl hV.out.cells Tryz.sizeU rfl (one_u64 _ _ _ _) ?_)
          intro a11 hxV kV zV
          clear zV
          have hbV : Below a9.heap.size a9 a11 := hV.out.below.trans (kV.below (B := a9.heap.size) (fun x hx e => by have := hV.out.eq; omega) hV.out.below.size)
          have WV : Hid (w.heap.size ≤ V) := Lib.hid (by rw [hV.out.eq]; exact (HB.out).size)
          have NXV : Hid (X ≠ V) := Lib.hid (by have := hV.out.eq; have := heap_lt HX.out; omega)
          have NPV : Hid (P ≠ V) := Lib.hid (by have := hV.out.eq; have := heap_lt HP.out; omega)
          have NRV : Hid (R ≠ V) := Lib.hid (by have := hV.out.eq; have := heap_lt HR.out; omega)
          have NQV : Hid (Q ≠ V) := Lib.hid (by have := hV.out.eq; have := heap_lt HQ.out; omega)
          have HVz := Lib.hid hxV
          clear hV hxV kV
          have HBm := Lib.hid (HB.out.trans (hbV.mono HB.out.size))
          have HXm := Lib.hid (below_at' hbV HX.out)
          have HPm := Lib.hid (below_at' hbV HP.out)
          have HRm := Lib.hid (below_at' hbV HR.out)
          have HQm := Lib.hid (below_at' hbV HQ.out)
          clear hbV HB HX HP HR HQ
          have HB := HBm
          have HX := HXm
          have HP := HPm
          have HR := HRm
          have HQ := HQm
          clear HBm HXm HPm HRm HQm
          have HV := HVz
          clear HVz
          go_wp2_with fail
          obtain ⟨a12, hwz⟩ : ∃ wz, wz = a11.drew := ⟨_, rfl⟩
          have hbz : Below a11.heap.size a11 a12 := by rw [hwz]; exact (Below.refl _ _).drew
          have HBm := Lib.hid (HB.out.trans (hbz.mono HB.out.size))
          have HXm := Lib.hid (below_at' hbz HX.out)
          have HPm := Lib.hid (below_at' hbz HP.out)
          have HRm := Lib.hid (below_at' hbz HR.out)
          have HQm := Lib.hid (below_at' hbz HQ.out)
          have HVm := Lib.hid (below_at' hbz HV.out)
          clear hbz HB HX HP HR HQ HV
          have HB := HBm
          have HX := HXm
          have HP := HPm
          have HR := HRm
          have HQ := HQm
          have HV := HVm
          clear HBm HXm HPm HRm HQm HVm
          have hS : a12.heap[Q]? = some (.cells #[.int .u64 qa, .int .u64 qb, .int .u64 qc, .int .u64 qd] 33 (0, 0)) ∧ a12.heap[V]? = some (.cells #[.int .u64 ya, .int .u64 yb, .int .u64 yc, .int .u64 yd] 33 (0, 0)) := ⟨HQ.out, HV.out⟩
          refine wp_region_till (fun w' => w'.heap[Q]? = some (.cells #[.int .u64 qa, .int .u64 qb, .int .u64 qc, .int .u64 qd] 33 (0, 0)) ∧ w'.heap[V]? = some (.cells #[.int .u64 ya, .int .u64 yb, .int .u64 yc, .int .u64 yd] 33 (0, 0))) 5 5 (by kernel_rfl) rfl ?_
          rw [← hwz]
          clear hwz
          refine till_take 0 (some 38) rfl rfl (by kernel_rfl) (by kernel_rfl) (by kernel_rfl) (by kernel_rfl) (by kernel_rfl) (by kernel_rfl) (fun _ _ _ h => h) (yields_load (by rfl) 33 _ rfl (.pointer (some ⟨Q, 0, none⟩)) rfl (.agg #[.int .u64 qa, .int .u64 qb, .int .u64 qc, .int .u64 qd]) (fun w' hS' => load_heap (hS'.1) Tryz.underlying33 rfl Tryz.sizeU)) hS ?_
          go_frame
          refine till_take 1 (some 39) rfl rfl (by kernel_rfl) (by kernel_rfl) (by kernel_rfl) (by kernel_rfl) (by kernel_rfl) (by kernel_rfl) (fun _ _ _ h => h) (yields_load (by rfl) 33 _ rfl (.pointer (some ⟨V, 0, none⟩)) rfl (.agg #[.int .u64 ya, .int .u64 yb, .int .u64 yc, .int .u64 yd]) (fun w' hS' => load_heap (hS'.2) Tryz.underlying33 rfl Tryz.sizeU)) hS ?_
          go_frame
          refine till_one 2 rfl (by kernel_rfl) fun K hK => ?_
          simp only [List.getElem_toArray, List.getElem_cons_succ, List.getElem_cons_zero]
          rw [if_pos (by rfl)]
          refine wp_store_row_g (t := 33) (old := u0) 33 _ _ rfl P #[.int .u64 qa, .int .u64 qb, .int .u64 qc, .int .u64 qd] rfl rfl HP.out Tryz.sizeU rfl (one_u64 _ _ _ _) ?_
          intro a13 hxP kP zP
          clear zP
          have HBm := Lib.hid (HB.out.trans (kP.below (B := w.heap.size) (fun y hy e => by have := WP.out; omega) HB.out.size))
          have HXm := Lib.hid (kP.at HX.out NXP.out)
          have HRm := Lib.hid (kP.at HR.out (fun e => NPR.out e.symm))
          have HQm := Lib.hid (kP.at HQ.out (fun e => NPQ.out e.symm))
          have HVm := Lib.hid (kP.at HV.out (fun e => NPV.out e.symm))
          have HPm := Lib.hid hxP
          clear hxP kP HB HX HP HR HQ HV
          have HB := HBm
          have HX := HXm
          have HP := HPm
          have HR := HRm
          have HQ := HQm
          have HV := HVm
          clear HBm HXm HPm HRm HQm HVm
          have hS2 : a13.heap[Q]? = some (.cells #[.int .u64 qa, .int .u64 qb, .int .u64 qc, .int .u64 qd] 33 (0, 0)) ∧ a13.heap[V]? = some (.cells #[.int .u64 ya, .int .u64 yb, .int .u64 yc, .int .u64 yd] 33 (0, 0)) := ⟨HQ.out, HV.out⟩
          refine hK _ _ (fun _ _ => hS2) ?_
          clear hK hS
          have hS := hS2
          clear hS2
          refine till_one 3 rfl (by kernel_rfl) fun K hK => ?_
          simp only [List.getElem_toArray, List.getElem_cons_succ, List.getElem_cons_zero]
          rw [if_pos (by rfl)]
          refine wp_store_row_g (t := 33) (old := u0) 33 _ _ rfl R #[.int .u64 ya, .int .u64 yb, .int .u64 yc, .int .u64 yd] rfl rfl HR.out Tryz.sizeU rfl (one_u64 _ _ _ _) ?_
          intro a14 hxR kR zR
          clear zR
          have HBm := Lib.hid (HB.out.trans (kR.below (B := w.heap.size) (fun y hy e => by have := WR.out; omega) HB.out.size))
          have HXm := Lib.hid (kR.at HX.out NXR.out)
          have HPm := Lib.hid (kR.at HP.out NPR.out)
          have HQm := Lib.hid (kR.at HQ.out (fun e => NRQ.out e.symm))
          have HVm := Lib.hid (kR.at HV.out (fun e => NRV.out e.symm))
          have HRm := Lib.hid hxR
          clear hxR kR HB HX HP HR HQ HV
          have HB := HBm
          have HX := HXm
          have HP := HPm
          have HR := HRm
          have HQ := HQm
          have HV := HVm
          clear HBm HXm HPm HRm HQm HVm
          have hS2 : a14.heap[Q]? = some (.cells #[.int .u64 qa, .int .u64 qb, .int .u64 qc, .int .u64 qd] 33 (0, 0)) ∧ a14.heap[V]? = some (.cells #[.int .u64 ya, .int .u64 yb, .int .u64 yc, .int .u64 yd] 33 (0, 0)) := ⟨HQ.out, HV.out⟩
          refine hK _ _ (fun _ _ => hS2) ?_
          clear hK hS
          have hS := hS2
          clear hS2
          refine till_take 4 (some 6) rfl rfl (by kernel_rfl) (by kernel_rfl) (by kernel_rfl) (by kernel_rfl) (by kernel_rfl) (by kernel_rfl) (fun _ _ _ h => h) (.inl ⟨by rfl, fun w' _ => (by go_simp; rfl)⟩) hS ?_
          go_frame
          refine till_done (by kernel_rfl) ?_ _
          clear hS
          go_wp2_with fail
          exact bodyPost_ret (res_three rfl _ _ P R _ _ _ _ _ _ _ rfl HP.out rfl HR.out Tryz.underlying33 rfl Tryz.sizeU Tryz.sizeU _ rfl) rfl ⟨_, _, _, _, _, _, _, _, by rw [HZ.out.1]; exact HQU.out, by rw [HZ.out.2]; exact HYU.out, rfl, HB.out⟩
        · simp only [List.getElem_toArray, List.getElem_cons_succ, List.getElem_cons_zero]
          rw [if_pos (by rfl)]
          refine wp_alloc_g 33 rfl _ _ Tryz.zeroUz rfl ?_
          intro Q a6 hQ
          have WQ : Hid (w.heap.size ≤ Q) := Lib.hid (by rw [hQ.out.eq]; exact (HB.out).size)
          have NXQ : Hid (X ≠ Q) := Lib.hid (by have := hQ.out.eq; have := heap_lt HX.out; omega)
          have NPQ : Hid (P ≠ Q) := Lib.hid (by have := hQ.out.eq; have := heap_lt HP.out; omega)
          have NRQ : Hid (R ≠ Q) := Lib.hid (by have := hQ.out.eq; have := heap_lt HR.out; omega)
          have HQz := Lib.hid hQ.out.cells; have hbQ := hQ.out.below
          clear hQ
          have HBm := Lib.hid (HB.out.trans (hbQ.mono HB.out.size))
          have HXm := Lib.hid (below_at' hbQ HX.out)
          have HPm := Lib.hid (below_at' hbQ HP.out)
          have HRm := Lib.hid (below_at' hbQ HR.out)
          clear hbQ HB HX HP HR
          have HB := HBm
          have HX := HXm
          have HP := HPm
          have HR := HRm
          clear HBm HXm HPm HRm
          have HQ := HQz
          clear HQz
          have hS2 : a6.heap[X]? = some (.cells #[.int .u64 a, .int .u64 b, .int .u64 c, .int .u64 f] 33 (0, 0)) := HX.out
          refine hK _ _ (fun _ _ => hS2) ?_
          clear hK hS
          have hS := hS2
          clear hS2
          refine till_one 6 rfl (by kernel_rfl) fun K hK => ?_
          simp only [List.getElem_toArray, List.getElem_cons_succ, List.getElem_cons_zero]
          rw [if_pos (by rfl)]
          go_simp
          refine (down_any (m := n) (d := 10000) HU.out (small_u (by have := HN.out; omega)) (by have h1 := HXL.out; have h2 := HN.out; have h3 := Nat.mul_le_mul (Nat.le_of_lt h1) h2; unfold uHalf at h3; unfold uMax; omega) (by decide) (by decide) _).mono ?_
          rintro e a7 ⟨qa, qb, qc, qd, hq, rfl, hb⟩
          have HQU : Hid (UIs qa qb qc qd (prt n x)) := Lib.hid hq
          clear hq
          have HBm := Lib.hid (HB.out.trans (hb.mono HB.out.size))
          have HXm := Lib.hid (below_at' hb HX.out)
          have HPm := Lib.hid (below_at' hb HP.out)
          have HRm := Lib.hid (below_at' hb HR.out)
          have HQm := Lib.hid (below_at' hb HQ.out)
          clear hb HB HX HP HR HQ
          have HB := HBm
          have HX := HXm
          have HP := HPm
          have HR := HRm
          have HQ := HQm
          clear HBm HXm HPm HRm HQm
          have hS2 : a7.heap[X]? = some (.cells #[.int .u64 a, .int .u64 b, .int .u64 c, .int .u64 f] 33 (0, 0)) := HX.out
          refine hK _ _ (fun _ _ => hS2) ?_
          clear hK hS
          have hS := hS2
          clear hS2
          refine till_take 7 (some 22) rfl rfl (by kernel_rfl) (by kernel_rfl) (by kernel_rfl) (by kernel_rfl) (by kernel_rfl) (by kernel_rfl) (fun _ _ _ h => h) (.inl ⟨by rfl, fun w' _ => (by go_simp; rfl)⟩) hS ?_
          go_frame
          refine till_take 8 (some 30) rfl rfl (by kernel_rfl) (by kernel_rfl) (by kernel_rfl) (by kernel_rfl) (by kernel_rfl) (by kernel_rfl) (fun _ _ _ h => h) (.inl ⟨by rfl, fun w' _ => (by go_simp; rfl)⟩) hS ?_
          go_frame
          refine till_take 9 (some 31) rfl rfl (by kernel_rfl) (by kernel_rfl) (by kernel_rfl) (by kernel_rfl) (by kernel_rfl) (by kernel_rfl) (fun _ _ _ h => h) (.inl ⟨by rfl, fun w' _ => (by go_simp; rfl)⟩) hS ?_
          go_frame
          refine till_one 11 rfl (by kernel_rfl) fun K hK => ?_
          simp only [List.getElem_toArray, List.getElem_cons_succ, List.getElem_cons_zero]
          rw [if_pos (by rfl)]
          refine wp_store_row_g (t := 33) (old := u0) 33 _ _ rfl Q #[.int .u64 qa, .int .u64 qb, .int .u64 qc, .int .u64 qd] rfl rfl HQ.out Tryz.sizeU rfl (one_u64 _ _ _ _) ?_
          intro a8 hxQ kQ zQ
          clear zQ
          have HBm := Lib.hid (HB.out.trans (kQ.below (B := w.heap.size) (fun y hy e => by have := WQ.out; omega) HB.out.size))
          have HXm := Lib.hid (kQ.at HX.out NXQ.out)
          have HPm := Lib.hid (kQ.at HP.out NPQ.out)
          have HRm := Lib.hid (kQ.at HR.out NRQ.out)
          have HQm := Lib.hid hxQ
          clear hxQ kQ HB HX HP HR HQ
          have HB := HBm
          have HX := HXm
          have HP := HPm
          have HR := HRm
          have HQ := HQm
          clear HBm HXm HPm HRm HQm
          have hS2 : a8.heap[X]? = some (.cells #[.int .u64 a, .int .u64 b, .int .u64 c, .int .u64 f] 33 (0, 0)) := HX.out
          refine hK _ _ (fun _ _ => hS2) ?_
          clear hK hS
          have hS := hS2
          clear hS2
          refine till_take 12 (some 9) rfl rfl (by kernel_rfl) (by kernel_rfl) (by kernel_rfl) (by kernel_rfl) (by kernel_rfl) (by kernel_rfl) (fun _ _ _ h => h) (.inl ⟨by rfl, fun w' _ => (by go_simp; rfl)⟩) hS ?_
          go_frame
          refine till_done (by kernel_rfl) ?_ _
          clear hS
          go_wp2_with (first
            | (refine wpList_load_row rfl 33 _ rfl X rfl 33 _ _ _ HX.out Tryz.underlying33 rfl Tryz.sizeU ?_)
            | (refine wpList_load_row rfl 33 _ rfl Q rfl 33 _ _ _ HQ.out Tryz.underlying33 rfl Tryz.sizeU ?_))
          refine (usub_any HU.out HQU.out _).mono ?_
          rw [decide_eq_true (prt_le HN.out)]
          rintro e a9 ⟨ya, yb, yc, yd, hu, rfl, hb⟩
          first | rw [if_pos trivial] at hu | rw [if_pos rfl] at hu
          have HYU := Lib.hid hu
          clear hu
          have HBm := Lib.hid (HB.out.trans (hb.mono HB.out.size))
          have HXm := Lib.hid (below_at' hb HX.out)
          have HPm := Lib.hid (below_at' hb HP.out)
          have HRm := Lib.hid (below_at' hb HR.out)
          have HQm := Lib.hid (below_at' hb HQ.out)
          clear hb HB HX HP HR HQ
          have HB := HBm
          have HX := HXm
          have HP := HPm
          have HR := HRm
          have HQ := HQm
          clear HBm HXm HPm HRm HQm
          go_wp2_with (refine wpList_alloc_g rfl _ rfl _ _ Tryz.zeroUz rfl ?_)
          intro V a10 hV
          go_wp2_with (refine wpList_store_row_g (t := 33) (old := u0) rfl 33 _ _ rfl V #[.int .u64 ya, .int .u64 yb, .int .u64 yc, .int .u64 yd] rfl rfl hV.out.cells Tryz.sizeU rfl (one_u64 _ _ _ _) ?_)
          intro a11 hxV kV zV
          clear zV
          have hbV : Below a9.heap.size a9 a11 := hV.out.below.trans (kV.below (B := a9.heap.size) (fun x hx e => by have := hV.out.eq; omega) hV.out.below.size)
          have WV : Hid (w.heap.size ≤ V) := Lib.hid (by rw [hV.out.eq]; exact (HB.out).size)
          have NXV : Hid (X ≠ V) := Lib.hid (by have := hV.out.eq; have := heap_lt HX.out; omega)
          have NPV : Hid (P ≠ V) := Lib.hid (by have := hV.out.eq; have := heap_lt HP.out; omega)
          have NRV : Hid (R ≠ V) := Lib.hid (by have := hV.out.eq; have := heap_lt HR.out; omega)
          have NQV : Hid (Q ≠ V) := Lib.hid (by have := hV.out.eq; have := heap_lt HQ.out; omega)
          have HVz := Lib.hid hxV
          clear hV hxV kV
          have HBm := Lib.hid (HB.out.trans (hbV.mono HB.out.size))
          have HXm := Lib.hid (below_at' hbV HX.out)
          have HPm := Lib.hid (below_at' hbV HP.out)
          have HRm := Lib.hid (below_at' hbV HR.out)
          have HQm := Lib.hid (below_at' hbV HQ.out)
          clear hbV HB HX HP HR HQ
          have HB := HBm
          have HX := HXm
          have HP := HPm
          have HR := HRm
          have HQ := HQm
          clear HBm HXm HPm HRm HQm
          have HV := HVz
          clear HVz
          go_wp2_with fail
          obtain ⟨a12, hwz⟩ : ∃ wz, wz = a11.drew := ⟨_, rfl⟩
          have hbz : Below a11.heap.size a11 a12 := by rw [hwz]; exact (Below.refl _ _).drew
          have HBm := Lib.hid (HB.out.trans (hbz.mono HB.out.size))
          have HXm := Lib.hid (below_at' hbz HX.out)
          have HPm := Lib.hid (below_at' hbz HP.out)
          have HRm := Lib.hid (below_at' hbz HR.out)
          have HQm := Lib.hid (below_at' hbz HQ.out)
          have HVm := Lib.hid (below_at' hbz HV.out)
          clear hbz HB HX HP HR HQ HV
          have HB := HBm
          have HX := HXm
          have HP := HPm
          have HR := HRm
          have HQ := HQm
          have HV := HVm
          clear HBm HXm HPm HRm HQm HVm
          have hS : a12.heap[Q]? = some (.cells #[.int .u64 qa, .int .u64 qb, .int .u64 qc, .int .u64 qd] 33 (0, 0)) ∧ a12.heap[V]? = some (.cells #[.int .u64 ya, .int .u64 yb, .int .u64 yc, .int .u64 yd] 33 (0, 0)) := ⟨HQ.out, HV.out⟩
          refine wp_region_till (fun w' => w'.heap[Q]? = some (.cells #[.int .u64 qa, .int .u64 qb, .int .u64 qc, .int .u64 qd] 33 (0, 0)) ∧ w'.heap[V]? = some (.cells #[.int .u64 ya, .int .u64 yb, .int .u64 yc, .int .u64 yd] 33 (0, 0))) 5 5 (by kernel_rfl) rfl ?_
          rw [← hwz]
          clear hwz
          refine till_take 0 (some 38) rfl rfl (by kernel_rfl) (by kernel_rfl) (by kernel_rfl) (by kernel_rfl) (by kernel_rfl) (by kernel_rfl) (fun _ _ _ h => h) (yields_load (by rfl) 33 _ rfl (.pointer (some ⟨Q, 0, none⟩)) rfl (.agg #[.int .u64 qa, .int .u64 qb, .int .u64 qc, .int .u64 qd]) (fun w' hS' => load_heap (hS'.1) Tryz.underlying33 rfl Tryz.sizeU)) hS ?_
          go_frame
          refine till_take 1 (some 39) rfl rfl (by kernel_rfl) (by kernel_rfl) (by kernel_rfl) (by kernel_rfl) (by kernel_rfl) (by kernel_rfl) (fun _ _ _ h => h) (yields_load (by rfl) 33 _ rfl (.pointer (some ⟨V, 0, none⟩)) rfl (.agg #[.int .u64 ya, .int .u64 yb, .int .u64 yc, .int .u64 yd]) (fun w' hS' => load_heap (hS'.2) Tryz.underlying33 rfl Tryz.sizeU)) hS ?_
          go_frame
          refine till_one 2 rfl (by kernel_rfl) fun K hK => ?_
          simp only [List.getElem_toArray, List.getElem_cons_succ, List.getElem_cons_zero]
          rw [if_pos (by rfl)]
          refine wp_store_row_g (t := 33) (old := u0) 33 _ _ rfl P #[.int .u64 qa, .int .u64 qb, .int .u64 qc, .int .u64 qd] rfl rfl HP.out Tryz.sizeU rfl (one_u64 _ _ _ _) ?_
          intro a13 hxP kP zP
          clear zP
          have HBm := Lib.hid (HB.out.trans (kP.below (B := w.heap.size) (fun y hy e => by have := WP.out; omega) HB.out.size))
          have HXm := Lib.hid (kP.at HX.out NXP.out)
          have HRm := Lib.hid (kP.at HR.out (fun e => NPR.out e.symm))
          have HQm := Lib.hid (kP.at HQ.out (fun e => NPQ.out e.symm))
          have HVm := Lib.hid (kP.at HV.out (fun e => NPV.out e.symm))
          have HPm := Lib.hid hxP
          clear hxP kP HB HX HP HR HQ HV
          have HB := HBm
          have HX := HXm
          have HP := HPm
          have HR := HRm
          have HQ := HQm
          have HV := HVm
          clear HBm HXm HPm HRm HQm HVm
          have hS2 : a13.heap[Q]? = some (.cells #[.int .u64 qa, .int .u64 qb, .int .u64 qc, .int .u64 qd] 33 (0, 0)) ∧ a13.heap[V]? = some (.cells #[.int .u64 ya, .int .u64 yb, .int .u64 yc, .int .u64 yd] 33 (0, 0)) := ⟨HQ.out, HV.out⟩
          refine hK _ _ (fun _ _ => hS2) ?_
          clear hK hS
          have hS := hS2
          clear hS2
          refine till_one 3 rfl (by kernel_rfl) fun K hK => ?_
          simp only [List.getElem_toArray, List.getElem_cons_succ, List.getElem_cons_zero]
          rw [if_pos (by rfl)]
          refine wp_store_row_g (t := 33) (old := u0) 33 _ _ rfl R #[.int .u64 ya, .int .u64 yb, .int .u64 yc, .int .u64 yd] rfl rfl HR.out Tryz.sizeU rfl (one_u64 _ _ _ _) ?_
          intro a14 hxR kR zR
          clear zR
          have HBm := Lib.hid (HB.out.trans (kR.below (B := w.heap.size) (fun y hy e => by have := WR.out; omega) HB.out.size))
          have HXm := Lib.hid (kR.at HX.out NXR.out)
          have HPm := Lib.hid (kR.at HP.out NPR.out)
          have HQm := Lib.hid (kR.at HQ.out (fun e => NRQ.out e.symm))
          have HVm := Lib.hid (kR.at HV.out (fun e => NRV.out e.symm))
          have HRm := Lib.hid hxR
          clear hxR kR HB HX HP HR HQ HV
          have HB := HBm
          have HX := HXm
          have HP := HPm
          have HR := HRm
          have HQ := HQm
          have HV := HVm
          clear HBm HXm HPm HRm HQm HVm
          have hS2 : a14.heap[Q]? = some (.cells #[.int .u64 qa, .int .u64 qb, .int .u64 qc, .int .u64 qd] 33 (0, 0)) ∧ a14.heap[V]? = some (.cells #[.int .u64 ya, .int .u64 yb, .int .u64 yc, .int .u64 yd] 33 (0, 0)) := ⟨HQ.out, HV.out⟩
          refine hK _ _ (fun _ _ => hS2) ?_
          clear hK hS
          have hS := hS2
          clear hS2
          refine till_take 4 (some 6) rfl rfl (by kernel_rfl) (by kernel_rfl) (by kernel_rfl) (by kernel_rfl) (by kernel_rfl) (by kernel_rfl) (fun _ _ _ h => h) (.inl ⟨by rfl, fun w' _ => (by go_simp; rfl)⟩) hS ?_
          go_frame
          refine till_done (by kernel_rfl) ?_ _
          clear hS
          go_wp2_with fail
          exact bodyPost_ret (res_three rfl _ _ P R _ _ _ _ _ _ _ rfl HP.out rfl HR.out Tryz.underlying33 rfl Tryz.sizeU Tryz.sizeU _ rfl) rfl ⟨_, _, _, _, _, _, _, _, by rw [HZ.out.1]; exact HQU.out, by rw [HZ.out.2]; exact HYU.out, rfl, HB.out⟩
      · simp only [List.getElem_toArray, List.getElem_cons_succ, List.getElem_cons_zero]
        rw [if_pos (by rfl)]
        refine wp_alloc_g 33 rfl _ _ Tryz.zeroUz rfl ?_
        intro Q a5 hQ
        have WQ : Hid (w.heap.size ≤ Q) := Lib.hid (by rw [hQ.out.eq]; exact (HB.out).size)
        have NXQ : Hid (X ≠ Q) := Lib.hid (by have := hQ.out.eq; have := heap_lt HX.out; omega)
        have NPQ : Hid (P ≠ Q) := Lib.hid (by have := hQ.out.eq; have := heap_lt HP.out; omega)
        have NRQ : Hid (R ≠ Q) := Lib.hid (by have := hQ.out.eq; have := heap_lt HR.out; omega)
        have HQz := Lib.hid hQ.out.cells; have hbQ := hQ.out.below
        clear hQ
        have HBm := Lib.hid (HB.out.trans (hbQ.mono HB.out.size))
        have HXm := Lib.hid (below_at' hbQ HX.out)
        have HPm := Lib.hid (below_at' hbQ HP.out)
        have HRm := Lib.hid (below_at' hbQ HR.out)
        clear hbQ HB HX HP HR
        have HB := HBm
        have HX := HXm
        have HP := HPm
        have HR := HRm
        clear HBm HXm HPm HRm
        have HQ := HQz
        clear HQz
        have hS2 : a5.heap[X]? = some (.cells #[.int .u64 a, .int .u64 b, .int .u64 c, .int .u64 f] 33 (0, 0)) := HX.out
        refine hK _ _ (fun _ _ => hS2) ?_
        clear hK hS
        have hS := hS2
        clear hS2
        refine till_one 5 rfl (by kernel_rfl) fun K hK => ?_
        simp only [List.getElem_toArray, List.getElem_cons_succ, List.getElem_cons_zero]
        rw [if_pos (by rfl)]
        go_simp
        refine (pnum_any (n := 10000) (by decide) _).mono ?_
        rintro e a6 ⟨rfl, hb⟩
        have HBm := Lib.hid (HB.out.trans (hb.mono HB.out.size))
        have HXm := Lib.hid (below_at' hb HX.out)
        have HPm := Lib.hid (below_at' hb HP.out)
        have HRm := Lib.hid (below_at' hb HR.out)
        have HQm := Lib.hid (below_at' hb HQ.out)
        clear hb HB HX HP HR HQ
        have HB := HBm
        have HX := HXm
        have HP := HPm
        have HR := HRm
        have HQ := HQm
        clear HBm HXm HPm HRm HQm
        have hS2 : a6.heap[X]? = some (.cells #[.int .u64 a, .int .u64 b, .int .u64 c, .int .u64 f] 33 (0, 0)) := HX.out
        refine hK _ _ (fun _ _ => hS2) ?_
        clear hK hS
        have hS := hS2
        clear hS2
        refine till_one 6 rfl (by kernel_rfl) fun K hK => ?_
        simp only [List.getElem_toArray, List.getElem_cons_succ, List.getElem_cons_zero]
        rw [if_pos (by rfl)]
        go_simp
        refine (down_any (m := n) (d := 10000) HU.out (small_u (by have := HN.out; omega)) (by have h1 := HXL.out; have h2 := HN.out; have h3 := Nat.mul_le_mul (Nat.le_of_lt h1) h2; unfold uHalf at h3; unfold uMax; omega) (by decide) (by decide) _).mono ?_
        rintro e a7 ⟨qa, qb, qc, qd, hq, rfl, hb⟩
        have HQU : Hid (UIs qa qb qc qd (prt n x)) := Lib.hid hq
        clear hq
        have HBm := Lib.hid (HB.out.trans (hb.mono HB.out.size))
        have HXm := Lib.hid (below_at' hb HX.out)
        have HPm := Lib.hid (below_at' hb HP.out)
        have HRm := Lib.hid (below_at' hb HR.out)
        have HQm := Lib.hid (below_at' hb HQ.out)
        clear hb HB HX HP HR HQ
        have HB := HBm
        have HX := HXm
        have HP := HPm
        have HR := HRm
        have HQ := HQm
        clear HBm HXm HPm HRm HQm
        have hS2 : a7.heap[X]? = some (.cells #[.int .u64 a, .int .u64 b, .int .u64 c, .int .u64 f] 33 (0, 0)) := HX.out
        refine hK _ _ (fun _ _ => hS2) ?_
        clear hK hS
        have hS := hS2
        clear hS2
        refine till_take 7 (some 22) rfl rfl (by kernel_rfl) (by kernel_rfl) (by kernel_rfl) (by kernel_rfl) (by kernel_rfl) (by kernel_rfl) (fun _ _ _ h => h) (.inl ⟨by rfl, fun w' _ => (by go_simp; rfl)⟩) hS ?_
        go_frame
        refine till_take 8 (some 30) rfl rfl (by kernel_rfl) (by kernel_rfl) (by kernel_rfl) (by kernel_rfl) (by kernel_rfl) (by kernel_rfl) (fun _ _ _ h => h) (.inl ⟨by rfl, fun w' _ => (by go_simp; rfl)⟩) hS ?_
        go_frame
        refine till_take 9 (some 31) rfl rfl (by kernel_rfl) (by kernel_rfl) (by kernel_rfl) (by kernel_rfl) (by kernel_rfl) (by kernel_rfl) (fun _ _ _ h => h) (.inl ⟨by rfl, fun w' _ => (by go_simp; rfl)⟩) hS ?_
        go_frame
        refine till_one 11 rfl (by kernel_rfl) fun K hK => ?_
        simp only [List.getElem_toArray, List.getElem_cons_succ, List.getElem_cons_zero]
        rw [if_pos (by rfl)]
        refine wp_store_row_g (t := 33) (old := u0) 33 _ _ rfl Q #[.int .u64 qa, .int .u64 qb, .int .u64 qc, .int .u64 qd] rfl rfl HQ.out Tryz.sizeU rfl (one_u64 _ _ _ _) ?_
        intro a8 hxQ kQ zQ
        clear zQ
        have HBm := Lib.hid (HB.out.trans (kQ.below (B := w.heap.size) (fun y hy e => by have := WQ.out; omega) HB.out.size))
        have HXm := Lib.hid (kQ.at HX.out NXQ.out)
        have HPm := Lib.hid (kQ.at HP.out NPQ.out)
        have HRm := Lib.hid (kQ.at HR.out NRQ.out)
        have HQm := Lib.hid hxQ
        clear hxQ kQ HB HX HP HR HQ
        have HB := HBm
        have HX := HXm
        have HP := HPm
        have HR := HRm
        have HQ := HQm
        clear HBm HXm HPm HRm HQm
        have hS2 : a8.heap[X]? = some (.cells #[.int .u64 a, .int .u64 b, .int .u64 c, .int .u64 f] 33 (0, 0)) := HX.out
        refine hK _ _ (fun _ _ => hS2) ?_
        clear hK hS
        have hS := hS2
        clear hS2
        refine till_take 12 (some 9) rfl rfl (by kernel_rfl) (by kernel_rfl) (by kernel_rfl) (by kernel_rfl) (by kernel_rfl) (by kernel_rfl) (fun _ _ _ h => h) (.inl ⟨by rfl, fun w' _ => (by go_simp; rfl)⟩) hS ?_
        go_frame
        refine till_done (by kernel_rfl) ?_ _
        clear hS
        go_wp2_with (first
          | (refine wpList_load_row rfl 33 _ rfl X rfl 33 _ _ _ HX.out Tryz.underlying33 rfl Tryz.sizeU ?_)
          | (refine wpList_load_row rfl 33 _ rfl Q rfl 33 _ _ _ HQ.out Tryz.underlying33 rfl Tryz.sizeU ?_))
        refine (usub_any HU.out HQU.out _).mono ?_
        rw [decide_eq_true (prt_le HN.out)]
        rintro e a9 ⟨ya, yb, yc, yd, hu, rfl, hb⟩
        first | rw [if_pos trivial] at hu | rw [if_pos rfl] at hu
        have HYU := Lib.hid hu
        clear hu
        have HBm := Lib.hid (HB.out.trans (hb.mono HB.out.size))
        have HXm := Lib.hid (below_at' hb HX.out)
        have HPm := Lib.hid (below_at' hb HP.out)
        have HRm := Lib.hid (below_at' hb HR.out)
        have HQm := Lib.hid (below_at' hb HQ.out)
        clear hb HB HX HP HR HQ
        have HB := HBm
        have HX := HXm
        have HP := HPm
        have HR := HRm
        have HQ := HQm
        clear HBm HXm HPm HRm HQm
        go_wp2_with (refine wpList_alloc_g rfl _ rfl _ _ Tryz.zeroUz rfl ?_)
        intro V a10 hV
        go_wp2_with (refine wpList_store_row_g (t := 33) (old := u0) rfl 33 _ _ rfl V #[.int .u64 ya, .int .u64 yb, .int .u64 yc, .int .u64 yd] rfl rfl hV.out.cells Tryz.sizeU rfl (one_u64 _ _ _ _) ?_)
        intro a11 hxV kV zV
        clear zV
        have hbV : Below a9.heap.size a9 a11 := hV.out.below.trans (kV.below (B := a9.heap.size) (fun x hx e => by have := hV.out.eq; omega) hV.out.below.size)
        have WV : Hid (w.heap.size ≤ V) := Lib.hid (by rw [hV.out.eq]; exact (HB.out).size)
        have NXV : Hid (X ≠ V) := Lib.hid (by have := hV.out.eq; have := heap_lt HX.out; omega)
        have NPV : Hid (P ≠ V) := Lib.hid (by have := hV.out.eq; have := heap_lt HP.out; omega)
        have NRV : Hid (R ≠ V) := Lib.hid (by have := hV.out.eq; have := heap_lt HR.out; omega)
        have NQV : Hid (Q ≠ V) := Lib.hid (by have := hV.out.eq; have := heap_lt HQ.out; omega)
        have HVz := Lib.hid hxV
        clear hV hxV kV
        have HBm := Lib.hid (HB.out.trans (hbV.mono HB.out.size))
        have HXm := Lib.hid (below_at' hbV HX.out)
        have HPm := Lib.hid (below_at' hbV HP.out)
        have HRm := Lib.hid (below_at' hbV HR.out)
        have HQm := Lib.hid (below_at' hbV HQ.out)
        clear hbV HB HX HP HR HQ
        have HB := HBm
        have HX := HXm
        have HP := HPm
        have HR := HRm
        have HQ := HQm
        clear HBm HXm HPm HRm HQm
        have HV := HVz
        clear HVz
        go_wp2_with fail
        obtain ⟨a12, hwz⟩ : ∃ wz, wz = a11.drew := ⟨_, rfl⟩
        have hbz : Below a11.heap.size a11 a12 := by rw [hwz]; exact (Below.refl _ _).drew
        have HBm := Lib.hid (HB.out.trans (hbz.mono HB.out.size))
        have HXm := Lib.hid (below_at' hbz HX.out)
        have HPm := Lib.hid (below_at' hbz HP.out)
        have HRm := Lib.hid (below_at' hbz HR.out)
        have HQm := Lib.hid (below_at' hbz HQ.out)
        have HVm := Lib.hid (below_at' hbz HV.out)
        clear hbz HB HX HP HR HQ HV
        have HB := HBm
        have HX := HXm
        have HP := HPm
        have HR := HRm
        have HQ := HQm
        have HV := HVm
        clear HBm HXm HPm HRm HQm HVm
        have hS : a12.heap[Q]? = some (.cells #[.int .u64 qa, .int .u64 qb, .int .u64 qc, .int .u64 qd] 33 (0, 0)) ∧ a12.heap[V]? = some (.cells #[.int .u64 ya, .int .u64 yb, .int .u64 yc, .int .u64 yd] 33 (0, 0)) := ⟨HQ.out, HV.out⟩
        refine wp_region_till (fun w' => w'.heap[Q]? = some (.cells #[.int .u64 qa, .int .u64 qb, .int .u64 qc, .int .u64 qd] 33 (0, 0)) ∧ w'.heap[V]? = some (.cells #[.int .u64 ya, .int .u64 yb, .int .u64 yc, .int .u64 yd] 33 (0, 0))) 5 5 (by kernel_rfl) rfl ?_
        rw [← hwz]
        clear hwz
        refine till_take 0 (some 38) rfl rfl (by kernel_rfl) (by kernel_rfl) (by kernel_rfl) (by kernel_rfl) (by kernel_rfl) (by kernel_rfl) (fun _ _ _ h => h) (yields_load (by rfl) 33 _ rfl (.pointer (some ⟨Q, 0, none⟩)) rfl (.agg #[.int .u64 qa, .int .u64 qb, .int .u64 qc, .int .u64 qd]) (fun w' hS' => load_heap (hS'.1) Tryz.underlying33 rfl Tryz.sizeU)) hS ?_
        go_frame
        refine till_take 1 (some 39) rfl rfl (by kernel_rfl) (by kernel_rfl) (by kernel_rfl) (by kernel_rfl) (by kernel_rfl) (by kernel_rfl) (fun _ _ _ h => h) (yields_load (by rfl) 33 _ rfl (.pointer (some ⟨V, 0, none⟩)) rfl (.agg #[.int .u64 ya, .int .u64 yb, .int .u64 yc, .int .u64 yd]) (fun w' hS' => load_heap (hS'.2) Tryz.underlying33 rfl Tryz.sizeU)) hS ?_
        go_frame
        refine till_one 2 rfl (by kernel_rfl) fun K hK => ?_
        simp only [List.getElem_toArray, List.getElem_cons_succ, List.getElem_cons_zero]
        rw [if_pos (by rfl)]
        refine wp_store_row_g (t := 33) (old := u0) 33 _ _ rfl P #[.int .u64 qa, .int .u64 qb, .int .u64 qc, .int .u64 qd] rfl rfl HP.out Tryz.sizeU rfl (one_u64 _ _ _ _) ?_
        intro a13 hxP kP zP
        clear zP
        have HBm := Lib.hid (HB.out.trans (kP.below (B := w.heap.size) (fun y hy e => by have := WP.out; omega) HB.out.size))
        have HXm := Lib.hid (kP.at HX.out NXP.out)
        have HRm := Lib.hid (kP.at HR.out (fun e => NPR.out e.symm))
        have HQm := Lib.hid (kP.at HQ.out (fun e => NPQ.out e.symm))
        have HVm := Lib.hid (kP.at HV.out (fun e => NPV.out e.symm))
        have HPm := Lib.hid hxP
        clear hxP kP HB HX HP HR HQ HV
        have HB := HBm
        have HX := HXm
        have HP := HPm
        have HR := HRm
        have HQ := HQm
        have HV := HVm
        clear HBm HXm HPm HRm HQm HVm
        have hS2 : a13.heap[Q]? = some (.cells #[.int .u64 qa, .int .u64 qb, .int .u64 qc, .int .u64 qd] 33 (0, 0)) ∧ a13.heap[V]? = some (.cells #[.int .u64 ya, .int .u64 yb, .int .u64 yc, .int .u64 yd] 33 (0, 0)) := ⟨HQ.out, HV.out⟩
        refine hK _ _ (fun _ _ => hS2) ?_
        clear hK hS
        have hS := hS2
        clear hS2
        refine till_one 3 rfl (by kernel_rfl) fun K hK => ?_
        simp only [List.getElem_toArray, List.getElem_cons_succ, List.getElem_cons_zero]
        rw [if_pos (by rfl)]
        refine wp_store_row_g (t := 33) (old := u0) 33 _ _ rfl R #[.int .u64 ya, .int .u64 yb, .int .u64 yc, .int .u64 yd] rfl rfl HR.out Tryz.sizeU rfl (one_u64 _ _ _ _) ?_
        intro a14 hxR kR zR
        clear zR
        have HBm := Lib.hid (HB.out.trans (kR.below (B := w.heap.size) (fun y hy e => by have := WR.out; omega) HB.out.size))
        have HXm := Lib.hid (kR.at HX.out NXR.out)
        have HPm := Lib.hid (kR.at HP.out NPR.out)
        have HQm := Lib.hid (kR.at HQ.out (fun e => NRQ.out e.symm))
        have HVm := Lib.hid (kR.at HV.out (fun e => NRV.out e.symm))
        have HRm := Lib.hid hxR
        clear hxR kR HB HX HP HR HQ HV
        have HB := HBm
        have HX := HXm
        have HP := HPm
        have HR := HRm
        have HQ := HQm
        have HV := HVm
        clear HBm HXm HPm HRm HQm HVm
        have hS2 : a14.heap[Q]? = some (.cells #[.int .u64 qa, .int .u64 qb, .int .u64 qc, .int .u64 qd] 33 (0, 0)) ∧ a14.heap[V]? = some (.cells #[.int .u64 ya, .int .u64 yb, .int .u64 yc, .int .u64 yd] 33 (0, 0)) := ⟨HQ.out, HV.out⟩
        refine hK _ _ (fun _ _ => hS2) ?_
        clear hK hS
        have hS := hS2
        clear hS2
        refine till_take 4 (some 6) rfl rfl (by kernel_rfl) (by kernel_rfl) (by kernel_rfl) (by kernel_rfl) (by kernel_rfl) (by kernel_rfl) (fun _ _ _ h => h) (.inl ⟨by rfl, fun w' _ => (by go_simp; rfl)⟩) hS ?_
        go_frame
        refine till_done (by kernel_rfl) ?_ _
        clear hS
        go_wp2_with fail
        exact bodyPost_ret (res_three rfl _ _ P R _ _ _ _ _ _ _ rfl HP.out rfl HR.out Tryz.underlying33 rfl Tryz.sizeU Tryz.sizeU _ rfl) rfl ⟨_, _, _, _, _, _, _, _, by rw [HZ.out.1]; exact HQU.out, by rw [HZ.out.2]; exact HYU.out, rfl, HB.out⟩
    · simp only [List.getElem_toArray, List.getElem_cons_succ, List.getElem_cons_zero]
      rw [if_pos (by rfl)]
      refine wp_alloc_g 33 rfl _ _ Tryz.zeroUz rfl ?_
      intro Q a4 hQ
      have WQ : Hid (w.heap.size ≤ Q) := Lib.hid (by rw [hQ.out.eq]; exact (HB.out).size)
      have NXQ : Hid (X ≠ Q) := Lib.hid (by have := hQ.out.eq; have := heap_lt HX.out; omega)
      have NPQ : Hid (P ≠ Q) := Lib.hid (by have := hQ.out.eq; have := heap_lt HP.out; omega)
      have NRQ : Hid (R ≠ Q) := Lib.hid (by have := hQ.out.eq; have := heap_lt HR.out; omega)
      have HQz := Lib.hid hQ.out.cells; have hbQ := hQ.out.below
      clear hQ
      have HBm := Lib.hid (HB.out.trans (hbQ.mono HB.out.size))
      have HXm := Lib.hid (below_at' hbQ HX.out)
      have HPm := Lib.hid (below_at' hbQ HP.out)
      have HRm := Lib.hid (below_at' hbQ HR.out)
      clear hbQ HB HX HP HR
      have HB := HBm
      have HX := HXm
      have HP := HPm
      have HR := HRm
      clear HBm HXm HPm HRm
      have HQ := HQz
      clear HQz
      have hS2 : a4.heap[X]? = some (.cells #[.int .u64 a, .int .u64 b, .int .u64 c, .int .u64 f] 33 (0, 0)) := HX.out
      refine hK _ _ (fun _ _ => hS2) ?_
      clear hK hS
      have hS := hS2
      clear hS2
      refine till_one 3 rfl (by kernel_rfl) fun K hK => ?_
      simp only [List.getElem_toArray, List.getElem_cons_succ, List.getElem_cons_zero]
      rw [if_pos (by rfl)]
      go_simp
      refine (pnum_any HN.out _).mono ?_
      rintro e a5 ⟨rfl, hb⟩
      have HBm := Lib.hid (HB.out.trans (hb.mono HB.out.size))
      have HXm := Lib.hid (below_at' hb HX.out)
      have HPm := Lib.hid (below_at' hb HP.out)
      have HRm := Lib.hid (below_at' hb HR.out)
      have HQm := Lib.hid (below_at' hb HQ.out)
      clear hb HB HX HP HR HQ
      have HB := HBm
      have HX := HXm
      have HP := HPm
      have HR := HRm
      have HQ := HQm
      clear HBm HXm HPm HRm HQm
      have hS2 : a5.heap[X]? = some (.cells #[.int .u64 a, .int .u64 b, .int .u64 c, .int .u64 f] 33 (0, 0)) := HX.out
      refine hK _ _ (fun _ _ => hS2) ?_
      clear hK hS
      have hS := hS2
      clear hS2
      refine till_one 5 rfl (by kernel_rfl) fun K hK => ?_
      simp only [List.getElem_toArray, List.getElem_cons_succ, List.getElem_cons_zero]
      rw [if_pos (by rfl)]
      go_simp
      refine (pnum_any (n := 10000) (by decide) _).mono ?_
      rintro e a6 ⟨rfl, hb⟩
      have HBm := Lib.hid (HB.out.trans (hb.mono HB.out.size))
      have HXm := Lib.hid (below_at' hb HX.out)
      have HPm := Lib.hid (below_at' hb HP.out)
      have HRm := Lib.hid (below_at' hb HR.out)
      have HQm := Lib.hid (below_at' hb HQ.out)
      clear hb HB HX HP HR HQ
      have HB := HBm
      have HX := HXm
      have HP := HPm
      have HR := HRm
      have HQ := HQm
      clear HBm HXm HPm HRm HQm
      have hS2 : a6.heap[X]? = some (.cells #[.int .u64 a, .int .u64 b, .int .u64 c, .int .u64 f] 33 (0, 0)) := HX.out
      refine hK _ _ (fun _ _ => hS2) ?_
      clear hK hS
      have hS := hS2
      clear hS2
      refine till_one 6 rfl (by kernel_rfl) fun K hK => ?_
      simp only [List.getElem_toArray, List.getElem_cons_succ, List.getElem_cons_zero]
      rw [if_pos (by rfl)]
      go_simp
      refine (down_any (m := n) (d := 10000) HU.out (small_u (by have := HN.out; omega)) (by have h1 := HXL.out; have h2 := HN.out; have h3 := Nat.mul_le_mul (Nat.le_of_lt h1) h2; unfold uHalf at h3; unfold uMax; omega) (by decide) (by decide) _).mono ?_
      rintro e a7 ⟨qa, qb, qc, qd, hq, rfl, hb⟩
      have HQU : Hid (UIs qa qb qc qd (prt n x)) := Lib.hid hq
      clear hq
      have HBm := Lib.hid (HB.out.trans (hb.mono HB.out.size))
      have HXm := Lib.hid (below_at' hb HX.out)
      have HPm := Lib.hid (below_at' hb HP.out)
      have HRm := Lib.hid (below_at' hb HR.out)
      have HQm := Lib.hid (below_at' hb HQ.out)
      clear hb HB HX HP HR HQ
      have HB := HBm
      have HX := HXm
      have HP := HPm
      have HR := HRm
      have HQ := HQm
      clear HBm HXm HPm HRm HQm
      have hS2 : a7.heap[X]? = some (.cells #[.int .u64 a, .int .u64 b, .int .u64 c, .int .u64 f] 33 (0, 0)) := HX.out
      refine hK _ _ (fun _ _ => hS2) ?_
      clear hK hS
      have hS := hS2
      clear hS2
      refine till_take 7 (some 22) rfl rfl (by kernel_rfl) (by kernel_rfl) (by kernel_rfl) (by kernel_rfl) (by kernel_rfl) (by kernel_rfl) (fun _ _ _ h => h) (.inl ⟨by rfl, fun w' _ => (by go_simp; rfl)⟩) hS ?_
      go_frame
      refine till_take 8 (some 30) rfl rfl (by kernel_rfl) (by kernel_rfl) (by kernel_rfl) (by kernel_rfl) (by kernel_rfl) (by kernel_rfl) (fun _ _ _ h => h) (.inl ⟨by rfl, fun w' _ => (by go_simp; rfl)⟩) hS ?_
      go_frame
      refine till_take 9 (some 31) rfl rfl (by kernel_rfl) (by kernel_rfl) (by kernel_rfl) (by kernel_rfl) (by kernel_rfl) (by kernel_rfl) (fun _ _ _ h => h) (.inl ⟨by rfl, fun w' _ => (by go_simp; rfl)⟩) hS ?_
      go_frame
      refine till_one 11 rfl (by kernel_rfl) fun K hK => ?_
      simp only [List.getElem_toArray, List.getElem_cons_succ, List.getElem_cons_zero]
      rw [if_pos (by rfl)]
      refine wp_store_row_g (t := 33) (old := u0) 33 _ _ rfl Q #[.int .u64 qa, .int .u64 qb, .int .u64 qc, .int .u64 qd] rfl rfl HQ.out Tryz.sizeU rfl (one_u64 _ _ _ _) ?_
      intro a8 hxQ kQ zQ
      clear zQ
      have HBm := Lib.hid (HB.out.trans (kQ.below (B := w.heap.size) (fun y hy e => by have := WQ.out; omega) HB.out.size))
      have HXm := Lib.hid (kQ.at HX.out NXQ.out)
      have HPm := Lib.hid (kQ.at HP.out NPQ.out)
      have HRm := Lib.hid (kQ.at HR.out NRQ.out)
      have HQm := Lib.hid hxQ
      clear hxQ kQ HB HX HP HR HQ
      have HB := HBm
      have HX := HXm
      have HP := HPm
      have HR := HRm
      have HQ := HQm
      clear HBm HXm HPm HRm HQm
      have hS2 : a8.heap[X]? = some (.cells #[.int .u64 a, .int .u64 b, .int .u64 c, .int .u64 f] 33 (0, 0)) := HX.out
      refine hK _ _ (fun _ _ => hS2) ?_
      clear hK hS
      have hS := hS2
      clear hS2
      refine till_take 12 (some 9) rfl rfl (by kernel_rfl) (by kernel_rfl) (by kernel_rfl) (by kernel_rfl) (by kernel_rfl) (by kernel_rfl) (fun _ _ _ h => h) (.inl ⟨by rfl, fun w' _ => (by go_simp; rfl)⟩) hS ?_
      go_frame
      refine till_done (by kernel_rfl) ?_ _
      clear hS
      go_wp2_with (first
        | (refine wpList_load_row rfl 33 _ rfl X rfl 33 _ _ _ HX.out Tryz.underlying33 rfl Tryz.sizeU ?_)
        | (refine wpList_load_row rfl 33 _ rfl Q rfl 33 _ _ _ HQ.out Tryz.underlying33 rfl Tryz.sizeU ?_))
      refine (usub_any HU.out HQU.out _).mono ?_
      rw [decide_eq_true (prt_le HN.out)]
      rintro e a9 ⟨ya, yb, yc, yd, hu, rfl, hb⟩
      first | rw [if_pos trivial] at hu | rw [if_pos rfl] at hu
      have HYU := Lib.hid hu
      clear hu
      have HBm := Lib.hid (HB.out.trans (hb.mono HB.out.size))
      have HXm := Lib.hid (below_at' hb HX.out)
      have HPm := Lib.hid (below_at' hb HP.out)
      have HRm := Lib.hid (below_at' hb HR.out)
      have HQm := Lib.hid (below_at' hb HQ.out)
      clear hb HB HX HP HR HQ
      have HB := HBm
      have HX := HXm
      have HP := HPm
      have HR := HRm
      have HQ := HQm
      clear HBm HXm HPm HRm HQm
      go_wp2_with (refine wpList_alloc_g rfl _ rfl _ _ Tryz.zeroUz rfl ?_)
      intro V a10 hV
      go_wp2_with (refine wpList_store_row_g (t := 33) (old := u0) rfl 33 _ _ rfl V #[.int .u64 ya, .int .u64 yb, .int .u64 yc, .int .u64 yd] rfl rfl hV.out.cells Tryz.sizeU rfl (one_u64 _ _ _ _) ?_)
      intro a11 hxV kV zV
      clear zV
      have hbV : Below a9.heap.size a9 a11 := hV.out.below.trans (kV.below (B := a9.heap.size) (fun x hx e => by have := hV.out.eq; omega) hV.out.below.size)
      have WV : Hid (w.heap.size ≤ V) := Lib.hid (by rw [hV.out.eq]; exact (HB.out).size)
      have NXV : Hid (X ≠ V) := Lib.hid (by have := hV.out.eq; have := heap_lt HX.out; omega)
      have NPV : Hid (P ≠ V) := Lib.hid (by have := hV.out.eq; have := heap_lt HP.out; omega)
      have NRV : Hid (R ≠ V) := Lib.hid (by have := hV.out.eq; have := heap_lt HR.out; omega)
      have NQV : Hid (Q ≠ V) := Lib.hid (by have := hV.out.eq; have := heap_lt HQ.out; omega)
      have HVz := Lib.hid hxV
      clear hV hxV kV
      have HBm := Lib.hid (HB.out.trans (hbV.mono HB.out.size))
      have HXm := Lib.hid (below_at' hbV HX.out)
      have HPm := Lib.hid (below_at' hbV HP.out)
      have HRm := Lib.hid (below_at' hbV HR.out)
      have HQm := Lib.hid (below_at' hbV HQ.out)
      clear hbV HB HX HP HR HQ
      have HB := HBm
      have HX := HXm
      have HP := HPm
      have HR := HRm
      have HQ := HQm
      clear HBm HXm HPm HRm HQm
      have HV := HVz
      clear HVz
      go_wp2_with fail
      obtain ⟨a12, hwz⟩ : ∃ wz, wz = a11.drew := ⟨_, rfl⟩
      have hbz : Below a11.heap.size a11 a12 := by rw [hwz]; exact (Below.refl _ _).drew
      have HBm := Lib.hid (HB.out.trans (hbz.mono HB.out.size))
      have HXm := Lib.hid (below_at' hbz HX.out)
      have HPm := Lib.hid (below_at' hbz HP.out)
      have HRm := Lib.hid (below_at' hbz HR.out)
      have HQm := Lib.hid (below_at' hbz HQ.out)
      have HVm := Lib.hid (below_at' hbz HV.out)
      clear hbz HB HX HP HR HQ HV
      have HB := HBm
      have HX := HXm
      have HP := HPm
      have HR := HRm
      have HQ := HQm
      have HV := HVm
      clear HBm HXm HPm HRm HQm HVm
      have hS : a12.heap[Q]? = some (.cells #[.int .u64 qa, .int .u64 qb, .int .u64 qc, .int .u64 qd] 33 (0, 0)) ∧ a12.heap[V]? = some (.cells #[.int .u64 ya, .int .u64 yb, .int .u64 yc, .int .u64 yd] 33 (0, 0)) := ⟨HQ.out, HV.out⟩
      refine wp_region_till (fun w' => w'.heap[Q]? = some (.cells #[.int .u64 qa, .int .u64 qb, .int .u64 qc, .int .u64 qd] 33 (0, 0)) ∧ w'.heap[V]? = some (.cells #[.int .u64 ya, .int .u64 yb, .int .u64 yc, .int .u64 yd] 33 (0, 0))) 5 5 (by kernel_rfl) rfl ?_
      rw [← hwz]
      clear hwz
      refine till_take 0 (some 38) rfl rfl (by kernel_rfl) (by kernel_rfl) (by kernel_rfl) (by kernel_rfl) (by kernel_rfl) (by kernel_rfl) (fun _ _ _ h => h) (yields_load (by rfl) 33 _ rfl (.pointer (some ⟨Q, 0, none⟩)) rfl (.agg #[.int .u64 qa, .int .u64 qb, .int .u64 qc, .int .u64 qd]) (fun w' hS' => load_heap (hS'.1) Tryz.underlying33 rfl Tryz.sizeU)) hS ?_
      go_frame
      refine till_take 1 (some 39) rfl rfl (by kernel_rfl) (by kernel_rfl) (by kernel_rfl) (by kernel_rfl) (by kernel_rfl) (by kernel_rfl) (fun _ _ _ h => h) (yields_load (by rfl) 33 _ rfl (.pointer (some ⟨V, 0, none⟩)) rfl (.agg #[.int .u64 ya, .int .u64 yb, .int .u64 yc, .int .u64 yd]) (fun w' hS' => load_heap (hS'.2) Tryz.underlying33 rfl Tryz.sizeU)) hS ?_
      go_frame
      refine till_one 2 rfl (by kernel_rfl) fun K hK => ?_
      simp only [List.getElem_toArray, List.getElem_cons_succ, List.getElem_cons_zero]
      rw [if_pos (by rfl)]
      refine wp_store_row_g (t := 33) (old := u0) 33 _ _ rfl P #[.int .u64 qa, .int .u64 qb, .int .u64 qc, .int .u64 qd] rfl rfl HP.out Tryz.sizeU rfl (one_u64 _ _ _ _) ?_
      intro a13 hxP kP zP
      clear zP
      have HBm := Lib.hid (HB.out.trans (kP.below (B := w.heap.size) (fun y hy e => by have := WP.out; omega) HB.out.size))
      have HXm := Lib.hid (kP.at HX.out NXP.out)
      have HRm := Lib.hid (kP.at HR.out (fun e => NPR.out e.symm))
      have HQm := Lib.hid (kP.at HQ.out (fun e => NPQ.out e.symm))
      have HVm := Lib.hid (kP.at HV.out (fun e => NPV.out e.symm))
      have HPm := Lib.hid hxP
      clear hxP kP HB HX HP HR HQ HV
      have HB := HBm
      have HX := HXm
      have HP := HPm
      have HR := HRm
      have HQ := HQm
      have HV := HVm
      clear HBm HXm HPm HRm HQm HVm
      have hS2 : a13.heap[Q]? = some (.cells #[.int .u64 qa, .int .u64 qb, .int .u64 qc, .int .u64 qd] 33 (0, 0)) ∧ a13.heap[V]? = some (.cells #[.int .u64 ya, .int .u64 yb, .int .u64 yc, .int .u64 yd] 33 (0, 0)) := ⟨HQ.out, HV.out⟩
      refine hK _ _ (fun _ _ => hS2) ?_
      clear hK hS
      have hS := hS2
      clear hS2
      refine till_one 3 rfl (by kernel_rfl) fun K hK => ?_
      simp only [List.getElem_toArray, List.getElem_cons_succ, List.getElem_cons_zero]
      rw [if_pos (by rfl)]
      refine wp_store_row_g (t := 33) (old := u0) 33 _ _ rfl R #[.int .u64 ya, .int .u64 yb, .int .u64 yc, .int .u64 yd] rfl rfl HR.out Tryz.sizeU rfl (one_u64 _ _ _ _) ?_
      intro a14 hxR kR zR
      clear zR
      have HBm := Lib.hid (HB.out.trans (kR.below (B := w.heap.size) (fun y hy e => by have := WR.out; omega) HB.out.size))
      have HXm := Lib.hid (kR.at HX.out NXR.out)
      have HPm := Lib.hid (kR.at HP.out NPR.out)
      have HQm := Lib.hid (kR.at HQ.out (fun e => NRQ.out e.symm))
      have HVm := Lib.hid (kR.at HV.out (fun e => NRV.out e.symm))
      have HRm := Lib.hid hxR
      clear hxR kR HB HX HP HR HQ HV
      have HB := HBm
      have HX := HXm
      have HP := HPm
      have HR := HRm
      have HQ := HQm
      have HV := HVm
      clear HBm HXm HPm HRm HQm HVm
      have hS2 : a14.heap[Q]? = some (.cells #[.int .u64 qa, .int .u64 qb, .int .u64 qc, .int .u64 qd] 33 (0, 0)) ∧ a14.heap[V]? = some (.cells #[.int .u64 ya, .int .u64 yb, .int .u64 yc, .int .u64 yd] 33 (0, 0)) := ⟨HQ.out, HV.out⟩
      refine hK _ _ (fun _ _ => hS2) ?_
      clear hK hS
      have hS := hS2
      clear hS2
      refine till_take 4 (some 6) rfl rfl (by kernel_rfl) (by kernel_rfl) (by kernel_rfl) (by kernel_rfl) (by kernel_rfl) (by kernel_rfl) (fun _ _ _ h => h) (.inl ⟨by rfl, fun w' _ => (by go_simp; rfl)⟩) hS ?_
      go_frame
      refine till_done (by kernel_rfl) ?_ _
      clear hS
      go_wp2_with fail
      exact bodyPost_ret (res_three rfl _ _ P R _ _ _ _ _ _ _ rfl HP.out rfl HR.out Tryz.underlying33 rfl Tryz.sizeU Tryz.sizeU _ rfl) rfl ⟨_, _, _, _, _, _, _, _, by rw [HZ.out.1]; exact HQU.out, by rw [HZ.out.2]; exact HYU.out, rfl, HB.out⟩
end Go.Proofs.YthnjakomkdlglaaGreat
