/- The reference's cells: amounts (code). No condition. -/
import Derived.Test.YteaigmoldlbjdaaCelR
import Derived.Test.YteaigmoldlbjdaaCelD
namespace Go.Proofs.Yteaigmoldlbjdaa
open Go.RowKit

theorem rliv_cells {w0 w w' : World} {F0 : List Nat} {g : Nat} {s : PS} {X : Nat} {cs : Array Value} {T : TypeId} (L : RLiv w0 F0 w g s) (hX : w.heap[X]? = some (.cells cs T (0, 0))) (hT : rstKind (.cells cs T (0, 0)) = false) (hk : Keep (· = X) w w') (hw : w0.heap.size ≤ X) : RLiv w0 F0 w' g s := by
  obtain ⟨F, h1, h2, h3⟩ := L
  refine ⟨F, h1.keep hk fun x hx hu => ?_, h2.trans (hk.mono fun y _ hy => .inr (hy ▸ hw)), h3⟩
  obtain ⟨o, ho, k1⟩ := h1.kind x hx
  subst hu
  rw [hX] at ho
  cases ho
  rw [hT] at k1; cases k1
theorem RLiv.get {w0 w : World} {F0 : List Nat} {g : Nat} {s : PS} (L : RLiv w0 F0 w g s) : ∃ F, RS w g s F := by obtain ⟨F, h1, _, _⟩ := L; exact ⟨F, h1⟩

set_option maxHeartbeats 4000000 in
set_option maxRecDepth 100000 in
theorem ramount_any {w : World} {g : Nat} {s : PS} {F : List Nat} (h : RS w g s F) (hz : s.sz < 1099511627776) (hfit : Fit s) (k : Txt) :
    Calls Try.prog 21 #[.pointer (some ⟨g, 0, none⟩), .string (bs k)] w (URet w (amtV (getP s.t) k)) := by
  have H := Lib.hid h
  have hfv := hfit.f k
  have HZ : Hid (s.t.length < 4611686018427387904) := Lib.hid (by unfold PS.sz at hz; omega)
  obtain ⟨v, hv⟩ : ∃ v, v = valF (getP s.t) k := ⟨_, rfl⟩
  rw [← hv] at hfv
  have HV := Lib.hid hv; have HFV := Lib.hid hfv
  have HA : Hid (amtV (getP s.t) k = amtF v) := Lib.hid (by rw [hv]; rfl)
  clear h hz hfit hv hfv
  go_enter Try.func21, Try.ntmps21
  go_wp2_with (refine wpList_alloc_g rfl _ rfl _ _ Try.zeroUz rfl ?_)
  intro R w1 h1
  have HR1 := Lib.hid h1.out.cells; have HB1 := Lib.hid h1.out.below; have HRW : Hid (w.heap.size ≤ R) := Lib.hid (Nat.le_of_eq h1.out.eq.symm)
  clear h1
  go_wp2_with fail
  refine (rget_any (H.out.later HB1.out) HZ.out k).mono ?_
  rintro e w2 ⟨rfl, rfl⟩
  rw [show (getP s.t k).getD [] = v from HV.out.symm]
  go_wp2_with fail
  refine (rtoAmt_any v _ (by have := HFV.out; omega)).mono ?_
  rintro e w3 ⟨a, b, c, d, hu, rfl, hb⟩
  have HU := Lib.hid hu; have HR3 := Lib.hid (below_at' hb HR1.out); have HB3 := Lib.hid (HB1.out.trans (hb.mono HB1.out.size))
  clear hu hb HR1 HB1
  go_wp2_with (refine wpList_alloc_g rfl _ rfl _ _ Try.zeroUz rfl ?_)
  intro X w4 h4
  have HX4 := Lib.hid h4.out.cells; have HR4 := Lib.hid (below_at' h4.out.below HR3.out); have HB4 := Lib.hid (HB3.out.trans (h4.out.below.mono HB3.out.size)); have HXR : Hid (w.heap.size ≤ X ∧ R ≠ X) := Lib.hid (by have := h4.out.eq; have := heap_lt HR3.out; have := HB3.out.size; exact ⟨by omega, by omega⟩)
  clear h4 HR3 HB3
  go_wp2_with (refine wpList_store_row_g (t := 24) (old := u0) rfl 24 _ _ rfl X #[.int .u64 a, .int .u64 b, .int .u64 c, .int .u64 d] rfl rfl HX4.out Try.sizeU rfl (one_u64 _ _ _ _) ?_)
  intro w5 hx5 k5 _
  have HX5 := Lib.hid hx5; have HR5 := Lib.hid (k5.at HR4.out (fun e => HXR.out.2 e)); have HB5 := Lib.hid (HB4.out.trans (k5.below (B := w.heap.size) (fun y hy e => by have := HXR.out; omega) HB4.out.size))
  clear hx5 k5 HX4 HR4 HB4
  go_wp2_with (first
    | (refine wpList_load_row rfl 24 _ rfl X rfl 24 _ _ _ HX5.out Try.underlying24 rfl Try.sizeU ?_)
    | (refine wpList_store_row_g (t := 24) (old := u0) rfl 24 _ _ rfl R #[.int .u64 a, .int .u64 b, .int .u64 c, .int .u64 d] rfl rfl HR5.out Try.sizeU rfl (one_u64 _ _ _ _) ?_))
  intro w6 hx6 k6 _
  have HX6 := Lib.hid hx6; have HB6 := Lib.hid (HB5.out.trans (k6.below (B := w.heap.size) (fun y hy e => by have := HRW.out; omega) HB5.out.size))
  clear hx6 k6
  go_wp2_with fail
  exact bodyPost_ret (results_cell_row rfl _ _ _ _ _ _ _ rfl HX6.out Try.underlying24 rfl Try.sizeU) rfl ⟨a, b, c, d, by rw [HA.out]; exact HU.out, rfl, HB6.out⟩

theorem move_no {s : PS} {k l : Txt} {m : Nat} (h : moveE (getP s.t) k l m ≠ 0) : s.moveA k l m = s := by
  unfold PS.moveA; rw [if_neg fun e => h e.1]
end Go.Proofs.Yteaigmoldlbjdaa
