/- The reference's cells: amounts (code). No condition. -/
import Derived.Test.YthnjakomkdlglaaGreatCelR
import Derived.Test.YthnjakomkdlglaaGreatCelD
namespace Go.Proofs.YthnjakomkdlglaaGreat
open Go.RowKit

theorem rliv_cells {w0 w w' : World} {F0 : List Nat} {g : Nat} {s : PS} {X : Nat} {cs : Array Value} {T : TypeId} (L : RLiv w0 F0 w g s) (hX : w.heap[X]? = some (.cells cs T (0, 0))) (hT : rstKind (.cells cs T (0, 0)) = false) (hk : Keep (· = X) w w') (hw : w0.heap.size ≤ X) : RLiv w0 F0 w' g s := by
  obtain ⟨F, h1, h2, h3⟩ := L
  refine ⟨F, h1.keep hk fun x hx hu => ?_, h2.trans (hk.mono fun y _ hy => .inr (hy ▸ hw)), h3⟩
  obtain ⟨o, ho, k1⟩ := h1.kind x hx
  subst hu
  rw [hX] at ho
  cases ho
  rw [hT] at k1; cases k1
theorem RLiv.get {w0 w : World} {F0 : List Nat} {g : Nat} {s : PS} (L : RLiv w0 F0 w g s) : ∃ F, RS w g s F := by obtain ⟨F, h1, _, _⟩ := L; exact ⟨F, h1⟩

set_option maxHeartbeats 4000000 in
set_option maxRecDepth 100000 in
theorem ramount_any {w : World} {g : Nat} {s : PS} {F : List Nat} (h : RS w g s F) (hz : s.sz < 1099511627776) (hfit : Fit s) (k : Txt) :
    Calls Tryz.prog 54 #[.pointer (some ⟨g, 0, none⟩), .string (bs k)] w (URet w (amtV (getP s.t) k)) := by
  have H := Lib.hid h
  have hfv := hfit.f k
  have HZ : Hid (s.t.length < 4611686018427387904) := Lib.hid (by unfold PS.sz at hz; omega)
  obtain ⟨v, hv⟩ : ∃ v, v = valF (getP s.t) k := ⟨_, rfl⟩
  rw [← hv] at hfv
  have HV := Lib.hid hv; have HFV := Lib.hid hfv
  have HA : Hid (amtV (getP s.t) k = amtF v) := Lib.hid (by rw [hv]; rfl)
  clear h hz hfit hv hfv
  go_enter Tryz.func54, Tryz.ntmps54
  go_wp2_with (refine wpList_alloc_g rfl _ rfl _ _ Tryz.zeroUz rfl ?_)
  intro R w1 h1
  have HR1 := Lib.hid h1.out.cells; have HB1 := Lib.hid h1.out.below; have HRW : Hid (w.heap.size ≤ R) := Lib.hid (Nat.le_of_eq h1.out.eq.symm)
  clear h1
  go_wp2_with fail
  refine (rget_any (H.out.later HB1.out) HZ.out k).mono ?_
  rintro e w2 ⟨rfl, rfl⟩
  rw [show (getP s.t k).getD [] = v from HV.out.symm]
  go_wp2_with fail
  refine (rtoAmt_any v _ (by have := HFV.out; omega)).mono ?_
  rintro e w3 ⟨a, b, c, d, hu, rfl, hb⟩
  have HU := Lib.hid hu; have HR3 := Lib.hid (below_at' hb HR1.out); have HB3 := Lib.hid (HB1.out.trans (hb.mono HB1.out.size))
  clear hu hb HR1 HB1
  go_wp2_with (refine wpList_alloc_g rfl _ rfl _ _ Tryz.zeroUz rfl ?_)
  intro X w4 h4
  have HX4 := Lib.hid h4.out.cells; have HR4 := Lib.hid (below_at' h4.out.below HR3.out); have HB4 := Lib.hid (HB3.out.trans (h4.out.below.mono HB3.out.size)); have HXR : Hid (w.heap.size ≤ X ∧ R ≠ X) := Lib.hid (by have := h4.out.eq; have := heap_lt HR3.out; have := HB3.out.size; exact ⟨by omega, by omega⟩)
  clear h4 HR3 HB3
  go_wp2_with (refine wpList_store_row_g (t := 33) (old := u0) rfl 33 _ _ rfl X #[.int .u64 a, .int .u64 b, .int .u64 c, .int .u64 d] rfl rfl HX4.out Tryz.sizeU rfl (one_u64 _ _ _ _) ?_)
  intro w5 hx5 k5 _
  have HX5 := Lib.hid hx5; have HR5 := Lib.hid (k5.at HR4.out (fun e => HXR.out.2 e)); have HB5 := Lib.hid (HB4.out.trans (k5.below (B := w.heap.size) (fun y hy e => by have := HXR.out; omega) HB4.out.size))
  clear hx5 k5 HX4 HR4 HB4
  go_wp2_with (first
    | (refine wpList_load_row rfl 33 _ rfl X rfl 33 _ _ _ HX5.out Tryz.underlying33 rfl Tryz.sizeU ?_)
    | (refine wpList_store_row_g (t := 33) (old := u0) rfl 33 _ _ rfl R #[.int .u64 a, .int .u64 b, .int .u64 c, .int .u64 d] rfl rfl HR5.out Tryz.sizeU rfl (one_u64 _ _ _ _) ?_))
  intro w6 hx6 k6 _
  have HX6 := Lib.hid hx6; have HB6 := Lib.hid (HB5.out.trans (k6.below (B := w.heap.size) (fun y hy e => by have := HRW.out; omega) HB5.out.size))
  clear hx6 k6
  go_wp2_with fail
  exact bodyPost_ret (results_cell_row rfl _ _ _ _ _ _ _ rfl HX6.out Tryz.underlying33 rfl Tryz.sizeU) rfl ⟨a, b, c, d, by rw [HA.out]; exact HU.out, rfl, HB6.out⟩

set_option maxHeartbeats 4000000 in
set_option maxRecDepth 100000 in
theorem rsetAmount_any {w : World} {g : Nat} {s : PS} {F : List Nat} (h : RS w g s F) (hz : s.sz < 1099511627776) (k : Txt) {a b c d : Int} {n : Nat} (hu : UIs a b c d n) :
    Calls Tryz.prog 167 #[.pointer (some ⟨g, 0, none⟩), .string (bs k), .agg #[.int .u64 a, .int .u64 b, .int .u64 c, .int .u64 d]] w (RRet w g F (s.setAmt k n) (.tuple #[])) := by
  have L := Lib.hid (RLiv.start h); have HU := Lib.hid hu
  have HZ : Hid (s.t.length < 1099511627776 ∧ s.past.length < 1099511627776) := Lib.hid (by unfold PS.sz at hz; omega)
  have q := Tryz.eqUn hu UIs.zero
  clear h hz hu
  by_cases h0 : n = 0
  · have HP : Hid (s.setAmt k n = s.del k) := Lib.hid (by unfold PS.setAmt; rw [if_pos h0])
    rw [decide_eq_true h0] at q
    clear h0
    go_enter Tryz.func167, Tryz.ntmps167
    go_wp2_with (refine wpList_load_row rfl 33 _ rfl w.heap.size rfl 33 _ _ _ (heap_alloc_new w _) Tryz.underlying33 rfl Tryz.sizeU ?_)
    have L1 := Lib.hid (L.out.later (below_new w (.cells #[.int .u64 a, .int .u64 b, .int .u64 c, .int .u64 d] 33)))
    refine (L1.out.call fun F h => rdel_any h HZ.out.1 HZ.out.2 k).mono ?_
    rintro e w1 ⟨rfl, L2, _⟩
    have L2 := Lib.hid L2
    clear L L1 q
    go_wp2_with fail
    go_end0
    rw [HP.out]; exact L2.out.ret
  · have HP : Hid (s.setAmt k n = s.set k (amtB n)) := Lib.hid (by unfold PS.setAmt; rw [if_neg h0])
    rw [decide_eq_false h0] at q
    clear h0
    go_enter Tryz.func167, Tryz.ntmps167
    go_wp2_with (refine wpList_load_row rfl 33 _ rfl w.heap.size rfl 33 _ _ _ (heap_alloc_new w _) Tryz.underlying33 rfl Tryz.sizeU ?_)
    have L1 := Lib.hid (L.out.later (below_new w (.cells #[.int .u64 a, .int .u64 b, .int .u64 c, .int .u64 d] 33)))
    refine (ramt_any HU.out _).mono ?_
    rintro e w1 ⟨rfl, hb⟩
    have L2 := Lib.hid (L1.out.later hb)
    clear hb L1 L q
    go_wp2_with fail
    refine (L2.out.call fun F h => rset_any h HZ.out.1 HZ.out.2 k (amtB n)).mono ?_
    rintro e w2 ⟨rfl, L3, _⟩
    have L3 := Lib.hid L3
    clear L2
    go_wp2_with fail
    go_end0
    rw [HP.out]; exact L3.out.ret

set_option maxHeartbeats 16000000 in
set_option maxRecDepth 100000 in
theorem radd10_any {w : World} {g : Nat} {s : PS} {F : List Nat} (h : RS w g s F) (hz : s.sz < 1000000000000) (hf : Fit s) (k : Txt) {a b c d : Int} {m : Nat} (hu : UIs a b c d m) :
    Calls Tryz.prog 113 #[.pointer (some ⟨g, 0, none⟩), .string (bs k), .agg #[.int .u64 a, .int .u64 b, .int .u64 c, .int .u64 d]] w (RRet w g F (s.addA k m) (.int .i64 (addE (getP s.t) k m))) := by
  have L := Lib.hid (RLiv.start h); have HU := Lib.hid hu; have HF := Lib.hid hf; have HZ := Lib.hid hz
  obtain ⟨n, hn⟩ : ∃ n, n = amtV (getP s.t) k := ⟨_, rfl⟩
  have HN := Lib.hid hn
  clear h hz hu hf hn
  go_enter Tryz.func113, Tryz.ntmps113
  go_wp2_with fail
  obtain ⟨w1, hw1⟩ : ∃ w1, w1 = w.alloc (.cells #[.int .u64 a, .int .u64 b, .int .u64 c, .int .u64 d] 33) := ⟨_, rfl⟩
  obtain ⟨X, hX⟩ : ∃ X, X = w.heap.size := ⟨_, rfl⟩
  rw [← hw1, ← hX]
  have L1 : Hid (RLiv w F w1 g s) := Lib.hid (L.out.later (by rw [hw1]; exact below_new _ _))
  have HX : Hid (w1.heap[X]? = some (.cells #[.int .u64 a, .int .u64 b, .int .u64 c, .int .u64 d] 33 (0, 0))) := Lib.hid (by rw [hw1, hX]; exact heap_alloc_new _ _)
  have WX : Hid (w.heap.size ≤ X) := Lib.hid (by omega)
  clear hw1 hX L
  have L := L1
  clear L1
  obtain ⟨a1, hwz⟩ : ∃ wz, wz = w1.drew := ⟨_, rfl⟩
  have hbz : Below w1.heap.size w1 a1 := by rw [hwz]; exact (Below.refl _ _).drew
  have Lm := Lib.hid (L.out.later hbz)
  have HXm := Lib.hid (below_at' hbz HX.out)
  clear hbz L HX
  have L := Lm
  have HX := HXm
  clear Lm HXm
  have hS : a1.heap[X]? = some (.cells #[.int .u64 a, .int .u64 b, .int .u64 c, .int .u64 d] 33 (0, 0)) := HX.out
  refine wp_region_till (fun w' => w'.heap[X]? = some (.cells #[.int .u64 a, .int .u64 b, .int .u64 c, .int .u64 d] 33 (0, 0))) 11 11 (by kernel_rfl) rfl ?_
  rw [← hwz]
  clear hwz
  refine till_take 0 (some 10) rfl rfl (by kernel_rfl) (by kernel_rfl) (by kernel_rfl) (by kernel_rfl) (by kernel_rfl) (by kernel_rfl) (fun _ _ _ h => h) (.inl ⟨by rfl, fun w' _ => (by go_simp; rfl)⟩) hS ?_
  go_frame
  refine till_take 1 (some 11) rfl rfl (by kernel_rfl) (by kernel_rfl) (by kernel_rfl) (by kernel_rfl) (by kernel_rfl) (by kernel_rfl) (fun _ _ _ h => h) (.inl ⟨by rfl, fun w' _ => (by go_simp; rfl)⟩) hS ?_
  go_frame
  refine till_take 3 (some 13) rfl rfl (by kernel_rfl) (by kernel_rfl) (by kernel_rfl) (by kernel_rfl) (by kernel_rfl) (by kernel_rfl) (fun _ _ _ h => h) (yields_load (by rfl) 33 _ rfl (.pointer (some ⟨X, 0, none⟩)) rfl (.agg #[.int .u64 a, .int .u64 b, .int .u64 c, .int .u64 d]) (fun w' hS' => load_heap (hS') Tryz.underlying33 rfl Tryz.sizeU)) hS ?_
  go_frame
  refine till_two 2 8 rfl rfl (by kernel_rfl) (fun K hK => ?_) (fun K hK => ?_)
  · simp only [List.getElem_toArray, List.getElem_cons_succ, List.getElem_cons_zero]
    rw [if_pos (by rfl)]
    go_simp
    obtain ⟨Fq, hst⟩ := L.out.get
    refine (ramount_any hst (by have := HZ.out; omega) HF.out k).mono ?_
    rw [← HN.out]
    rintro e a2 ⟨xa, xb, xc, xd, hu1, rfl, hb⟩
    have HxU := Lib.hid hu1
    clear hu1 hst
    have Lm := Lib.hid (L.out.later hb)
    have HXm := Lib.hid (below_at' hb HX.out)
    clear hb L HX
    have L := Lm
    have HX := HXm
    clear Lm HXm
    have hS2 : a2.heap[X]? = some (.cells #[.int .u64 a, .int .u64 b, .int .u64 c, .int .u64 d] 33 (0, 0)) := HX.out
    refine hK _ _ (fun _ _ => hS2) ?_
    clear hK hS
    have hS := hS2
    clear hS2
    refine till_two 4 8 rfl rfl (by kernel_rfl) (fun K hK => ?_) (fun K hK => ?_)
    · simp only [List.getElem_toArray, List.getElem_cons_succ, List.getElem_cons_zero]
      rw [if_pos (by rfl)]
      go_simp
      refine (radd_any HxU.out HU.out _).mono ?_
      obtain ⟨q, hq⟩ : ∃ q, q = decide (n + m < uMax) := ⟨_, rfl⟩
      rw [← hq]
      have HQ := Lib.hid hq
      clear hq
      rintro e a3 ⟨ya, yb, yc, yd, hu1, rfl, hb⟩
      have HyU := Lib.hid hu1
      clear hu1
      have Lm := Lib.hid (L.out.later hb)
      have HXm := Lib.hid (below_at' hb HX.out)
      clear hb L HX
      have L := Lm
      have HX := HXm
      clear Lm HXm
      have hS2 : a3.heap[X]? = some (.cells #[.int .u64 a, .int .u64 b, .int .u64 c, .int .u64 d] 33 (0, 0)) := HX.out
      refine hK _ _ (fun _ _ => hS2) ?_
      clear hK hS
      have hS := hS2
      clear hS2
      refine till_take 5 (some 9) rfl rfl (by kernel_rfl) (by kernel_rfl) (by kernel_rfl) (by kernel_rfl) (by kernel_rfl) (by kernel_rfl) (fun _ _ _ h => h) (.inl ⟨by rfl, fun w' _ => (by go_simp; rfl)⟩) hS ?_
      go_frame
      refine till_take 6 (some 15) rfl rfl (by kernel_rfl) (by kernel_rfl) (by kernel_rfl) (by kernel_rfl) (by kernel_rfl) (by kernel_rfl) (fun _ _ _ h => h) (.inl ⟨by rfl, fun w' _ => (by go_simp; rfl)⟩) hS ?_
      go_frame
      refine till_take 7 (some 16) rfl rfl (by kernel_rfl) (by kernel_rfl) (by kernel_rfl) (by kernel_rfl) (by kernel_rfl) (by kernel_rfl) (fun _ _ _ h => h) (.inl ⟨by rfl, fun w' _ => (by go_simp; rfl)⟩) hS ?_
      go_frame
      refine till_one 8 rfl (by kernel_rfl) fun K hK => ?_
      simp only [List.getElem_toArray, List.getElem_cons_succ, List.getElem_cons_zero]
      rw [if_pos (by rfl)]
      refine wp_alloc_g 33 rfl _ _ Tryz.zeroUz rfl ?_
      intro P a4 hP
      have WP : Hid (w.heap.size ≤ P) := Lib.hid (by rw [hP.out.eq]; exact (L.out.keep).size)
      have NXP : Hid (X ≠ P) := Lib.hid (by have := hP.out.eq; have := heap_lt HX.out; omega)
      have HPz := Lib.hid hP.out.cells; have hbP := hP.out.below
      clear hP
      have Lm := Lib.hid (L.out.later hbP)
      have HXm := Lib.hid (below_at' hbP HX.out)
      clear hbP L HX
      have L := Lm
      have HX := HXm
      clear Lm HXm
      have HP := HPz
      clear HPz
      have hS2 : a4.heap[X]? = some (.cells #[.int .u64 a, .int .u64 b, .int .u64 c, .int .u64 d] 33 (0, 0)) := HX.out
      refine hK _ _ (fun _ _ => hS2) ?_
      clear hK hS
      have hS := hS2
      clear hS2
      refine till_one 9 rfl (by kernel_rfl) fun K hK => ?_
      simp only [List.getElem_toArray, List.getElem_cons_succ, List.getElem_cons_zero]
      rw [if_pos (by rfl)]
      refine wp_store_row_g (t := 33) (old := u0) 33 _ _ rfl P #[.int .u64 ya, .int .u64 yb, .int .u64 yc, .int .u64 yd] rfl rfl HP.out Tryz.sizeU rfl (one_u64 _ _ _ _) ?_
      intro a5 hxP kP zP
      clear zP
      have Lm := Lib.hid (rliv_cells L.out HP.out rfl kP WP.out)
      have HXm := Lib.hid (kP.at HX.out NXP.out)
      have HPm := Lib.hid hxP
      clear hxP kP L HX HP
      have L := Lm
      have HX := HXm
      have HP := HPm
      clear Lm HXm HPm
      have hS2 : a5.heap[X]? = some (.cells #[.int .u64 a, .int .u64 b, .int .u64 c, .int .u64 d] 33 (0, 0)) := HX.out
      refine hK _ _ (fun _ _ => hS2) ?_
      clear hK hS
      have hS := hS2
      clear hS2
      refine till_take 10 (some 8) rfl rfl (by kernel_rfl) (by kernel_rfl) (by kernel_rfl) (by kernel_rfl) (by kernel_rfl) (by kernel_rfl) (fun _ _ _ h => h) (.inl ⟨by rfl, fun w' _ => (by go_simp; rfl)⟩) hS ?_
      go_frame
      refine till_done (by kernel_rfl) ?_ _
      clear hS
      cases q with
      | false =>
        have hno : ¬ n + m < uHalf := by have h9 := of_decide_eq_false HQ.out.symm; unfold uMax at h9; unfold uHalf; omega
        have HEV : Hid (addE (getP s.t) k m = 6) := Lib.hid (by unfold addE; rw [← HN.out, if_neg hno])
        have HSV : Hid (s.addA k m = s) := Lib.hid (by unfold PS.addA; rw [← HN.out, if_neg hno])
        clear hno HQ HyU
        go_wp2_with fail
        go_ret
        rw [HEV.out, HSV.out]; exact L.out.ret
      | true =>
        have cP0 : a5.cell? ⟨P, 0, none⟩ = some (.int .u64 ya) := Lib.cell_of_heap HP.out 0
        have cP1 : a5.cell? ⟨P, 1, none⟩ = some (.int .u64 yb) := Lib.cell_of_heap HP.out 1
        have cP2 : a5.cell? ⟨P, 2, none⟩ = some (.int .u64 yc) := Lib.cell_of_heap HP.out 2
        have cP3 : a5.cell? ⟨P, 3, none⟩ = some (.int .u64 yd) := Lib.cell_of_heap HP.out 3
        go_wp2_with fail
        clear cP0 cP1 cP2 cP3
        have hy9 := HyU.out
        first | rw [if_pos trivial] at hy9 | rw [if_pos rfl] at hy9
        have HY := Lib.hid hy9
        clear hy9 HyU
        refine (rmAmount_any HY.out _).mono ?_
        rintro e a6 ⟨rfl, hb⟩
        have Lm := Lib.hid (L.out.later hb)
        have HXm := Lib.hid (below_at' hb HX.out)
        have HPm := Lib.hid (below_at' hb HP.out)
        clear hb L HX HP
        have L := Lm
        have HX := HXm
        have HP := HPm
        clear Lm HXm HPm
        by_cases hc : n + m < uHalf
        · rw [decide_eq_true hc]
          have HEV : Hid (addE (getP s.t) k m = 0) := Lib.hid (by unfold addE; rw [← HN.out, if_pos hc])
          have HSV : Hid (s.addA k m = s.setAmt k (n + m)) := Lib.hid (by unfold PS.addA; rw [← HN.out, if_pos hc])
          clear hc
          go_wp2_with (refine wpList_load_row rfl 33 _ rfl P rfl 33 _ _ _ HP.out Tryz.underlying33 rfl Tryz.sizeU ?_)
          clear HX HP
          refine (L.out.call fun F hs => rsetAmount_any hs (by have := HZ.out; omega) k HY.out).mono ?_
          rintro e a7 ⟨rfl, o, hoth⟩
          have Lm := Lib.hid o
          clear o hoth L
          have L := Lm
          clear Lm
          go_wp2_with fail
          go_ret
          rw [HEV.out, HSV.out]; exact L.out.ret
        · rw [decide_eq_false hc]
          have HEV : Hid (addE (getP s.t) k m = 6) := Lib.hid (by unfold addE; rw [← HN.out, if_neg hc])
          have HSV : Hid (s.addA k m = s) := Lib.hid (by unfold PS.addA; rw [← HN.out, if_neg hc])
          clear hc
          go_wp2_with fail
          go_ret
          rw [HEV.out, HSV.out]; exact L.out.ret
    · simp only [List.getElem_toArray, List.getElem_cons_succ, List.getElem_cons_zero]
      rw [if_pos (by rfl)]
      refine wp_alloc_g 33 rfl _ _ Tryz.zeroUz rfl ?_
      intro P a3 hP
      have WP : Hid (w.heap.size ≤ P) := Lib.hid (by rw [hP.out.eq]; exact (L.out.keep).size)
      have NXP : Hid (X ≠ P) := Lib.hid (by have := hP.out.eq; have := heap_lt HX.out; omega)
      have HPz := Lib.hid hP.out.cells; have hbP := hP.out.below
      clear hP
      have Lm := Lib.hid (L.out.later hbP)
      have HXm := Lib.hid (below_at' hbP HX.out)
      clear hbP L HX
      have L := Lm
      have HX := HXm
      clear Lm HXm
      have HP := HPz
      clear HPz
      have hS2 : a3.heap[X]? = some (.cells #[.int .u64 a, .int .u64 b, .int .u64 c, .int .u64 d] 33 (0, 0)) := HX.out
      refine hK _ _ (fun _ _ => hS2) ?_
      clear hK hS
      have hS := hS2
      clear hS2
      refine till_one 4 rfl (by kernel_rfl) fun K hK => ?_
      simp only [List.getElem_toArray, List.getElem_cons_succ, List.getElem_cons_zero]
      rw [if_pos (by rfl)]
      go_simp
      refine (radd_any HxU.out HU.out _).mono ?_
      obtain ⟨q, hq⟩ : ∃ q, q = decide (n + m < uMax) := ⟨_, rfl⟩
      rw [← hq]
      have HQ := Lib.hid hq
      clear hq
      rintro e a4 ⟨ya, yb, yc, yd, hu1, rfl, hb⟩
      have HyU := Lib.hid hu1
      clear hu1
      have Lm := Lib.hid (L.out.later hb)
      have HXm := Lib.hid (below_at' hb HX.out)
      have HPm := Lib.hid (below_at' hb HP.out)
      clear hb L HX HP
      have L := Lm
      have HX := HXm
      have HP := HPm
      clear Lm HXm HPm
      have hS2 : a4.heap[X]? = some (.cells #[.int .u64 a, .int .u64 b, .int .u64 c, .int .u64 d] 33 (0, 0)) := HX.out
      refine hK _ _ (fun _ _ => hS2) ?_
      clear hK hS
      have hS := hS2
      clear hS2
      refine till_take 5 (some 9) rfl rfl (by kernel_rfl) (by kernel_rfl) (by kernel_rfl) (by kernel_rfl) (by kernel_rfl) (by kernel_rfl) (fun _ _ _ h => h) (.inl ⟨by rfl, fun w' _ => (by go_simp; rfl)⟩) hS ?_
      go_frame
      refine till_take 6 (some 15) rfl rfl (by kernel_rfl) (by kernel_rfl) (by kernel_rfl) (by kernel_rfl) (by kernel_rfl) (by kernel_rfl) (fun _ _ _ h => h) (.inl ⟨by rfl, fun w' _ => (by go_simp; rfl)⟩) hS ?_
      go_frame
      refine till_take 7 (some 16) rfl rfl (by kernel_rfl) (by kernel_rfl) (by kernel_rfl) (by kernel_rfl) (by kernel_rfl) (by kernel_rfl) (fun _ _ _ h => h) (.inl ⟨by rfl, fun w' _ => (by go_simp; rfl)⟩) hS ?_
      go_frame
      refine till_one 9 rfl (by kernel_rfl) fun K hK => ?_
      simp only [List.getElem_toArray, List.getElem_cons_succ, List.getElem_cons_zero]
      rw [if_pos (by rfl)]
      refine wp_store_row_g (t := 33) (old := u0) 33 _ _ rfl P #[.int .u64 ya, .int .u64 yb, .int .u64 yc, .int .u64 yd] rfl rfl HP.out Tryz.sizeU rfl (one_u64 _ _ _ _) ?_
      intro a5 hxP kP zP
      clear zP
      have Lm := Lib.hid (rliv_cells L.out HP.out rfl kP WP.out)
      have HXm := Lib.hid (kP.at HX.out NXP.out)
      have HPm := Lib.hid hxP
      clear hxP kP L HX HP
      have L := Lm
      have HX := HXm
      have HP := HPm
      clear Lm HXm HPm
      have hS2 : a5.heap[X]? = some (.cells #[.int .u64 a, .int .u64 b, .int .u64 c, .int .u64 d] 33 (0, 0)) := HX.out
      refine hK _ _ (fun _ _ => hS2) ?_
      clear hK hS
      have hS := hS2
      clear hS2
      refine till_take 10 (some 8) rfl rfl (by kernel_rfl) (by kernel_rfl) (by kernel_rfl) (by kernel_rfl) (by kernel_rfl) (by kernel_rfl) (fun _ _ _ h => h) (.inl ⟨by rfl, fun w' _ => (by go_simp; rfl)⟩) hS ?_
      go_frame
      refine till_done (by kernel_rfl) ?_ _
      clear hS
      cases q with
      | false =>
        have hno : ¬ n + m < uHalf := by have h9 := of_decide_eq_false HQ.out.symm; unfold uMax at h9; unfold uHalf; omega
        have HEV : Hid (addE (getP s.t) k m = 6) := Lib.hid (by unfold addE; rw [← HN.out, if_neg hno])
        have HSV : Hid (s.addA k m = s) := Lib.hid (by unfold PS.addA; rw [← HN.out, if_neg hno])
        clear hno HQ HyU
        go_wp2_with fail
        go_ret
        rw [HEV.out, HSV.out]; exact L.out.ret
      | true =>
        have cP0 : a5.cell? ⟨P, 0, none⟩ = some (.int .u64 ya) := Lib.cell_of_heap HP.out 0
        have cP1 : a5.cell? ⟨P, 1, none⟩ = some (.int .u64 yb) := Lib.cell_of_heap HP.out 1
        have cP2 : a5.cell? ⟨P, 2, none⟩ = some (.int .u64 yc) := Lib.cell_of_heap HP.out 2
        have cP3 : a5.cell? ⟨P, 3, none⟩ = some (.int .u64 yd) := Lib.cell_of_heap HP.out 3
        go_wp2_with fail
        clear cP0 cP1 cP2 cP3
        have hy9 := HyU.out
        first | rw [if_pos trivial] at hy9 | rw [if_pos rfl] at hy9
        have HY := Lib.hid hy9
        clear hy9 HyU
        refine (rmAmount_any HY.out _).mono ?_
        rintro e a6 ⟨rfl, hb⟩
        have Lm := Lib.hid (L.out.later hb)
        have HXm := Lib.hid (below_at' hb HX.out)
        have HPm := Lib.hid (below_at' hb HP.out)
        clear hb L HX HP
        have L := Lm
        have HX := HXm
        have HP := HPm
        clear Lm HXm HPm
        by_cases hc : n + m < uHalf
        · rw [decide_eq_true hc]
          have HEV : Hid (addE (getP s.t) k m = 0) := Lib.hid (by unfold addE; rw [← HN.out, if_pos hc])
          have HSV : Hid (s.addA k m = s.setAmt k (n + m)) := Lib.hid (by unfold PS.addA; rw [← HN.out, if_pos hc])
          clear hc
          go_wp2_with (refine wpList_load_row rfl 33 _ rfl P rfl 33 _ _ _ HP.out Tryz.underlying33 rfl Tryz.sizeU ?_)
          clear HX HP
          refine (L.out.call fun F hs => rsetAmount_any hs (by have := HZ.out; omega) k HY.out).mono ?_
          rintro e a7 ⟨rfl, o, hoth⟩
          have Lm := Lib.hid o
          clear o hoth L
          have L := Lm
          clear Lm
          go_wp2_with fail
          go_ret
          rw [HEV.out, HSV.out]; exact L.out.ret
        · rw [decide_eq_false hc]
          have HEV : Hid (addE (getP s.t) k m = 6) := Lib.hid (by unfold addE; rw [← HN.out, if_neg hc])
          have HSV : Hid (s.addA k m = s) := Lib.hid (by unfold PS.addA; rw [← HN.out, if_neg hc])
          clear hc
          go_wp2_with fail
          go_ret
          rw [HEV.out, HSV.out]; exact L.out.ret
  · simp only [List.getElem_toArray, List.getElem_cons_succ, List.getElem_cons_zero]
    rw [if_pos (by rfl)]
    refine wp_alloc_g 33 rfl _ _ Tryz.zeroUz rfl ?_
    intro P a2 hP
    have WP : Hid (w.heap.size ≤ P) := Lib.hid (by rw [hP.out.eq]; exact (L.out.keep).size)
    have NXP : Hid (X ≠ P) := Lib.hid (by have := hP.out.eq; have := heap_lt HX.out; omega)
    have HPz := Lib.hid hP.out.cells; have hbP := hP.out.below
    clear hP
    have Lm := Lib.hid (L.out.later hbP)
    have HXm := Lib.hid (below_at' hbP HX.out)
    clear hbP L HX
    have L := Lm
    have HX := HXm
    clear Lm HXm
    have HP := HPz
    clear HPz
    have hS2 : a2.heap[X]? = some (.cells #[.int .u64 a, .int .u64 b, .int .u64 c, .int .u64 d] 33 (0, 0)) := HX.out
    refine hK _ _ (fun _ _ => hS2) ?_
    clear hK hS
    have hS := hS2
    clear hS2
    refine till_one 2 rfl (by kernel_rfl) fun K hK => ?_
    simp only [List.getElem_toArray, List.getElem_cons_succ, List.getElem_cons_zero]
    rw [if_pos (by rfl)]
    go_simp
    obtain ⟨Fq, hst⟩ := L.out.get
    refine (ramount_any hst (by have := HZ.out; omega) HF.out k).mono ?_
    rw [← HN.out]
    rintro e a3 ⟨xa, xb, xc, xd, hu1, rfl, hb⟩
    have HxU := Lib.hid hu1
    clear hu1 hst
    have Lm := Lib.hid (L.out.later hb)
    have HXm := Lib.hid (below_at' hb HX.out)
    have HPm := Lib.hid (below_at' hb HP.out)
    clear hb L HX HP
    have L := Lm
    have HX := HXm
    have HP := HPm
    clear Lm HXm HPm
    have hS2 : a3.heap[X]? = some (.cells #[.int .u64 a, .int .u64 b, .int .u64 c, .int .u64 d] 33 (0, 0)) := HX.out
    refine hK _ _ (fun _ _ => hS2) ?_
    clear hK hS
    have hS := hS2
    clear hS2
    refine till_one 4 rfl (by kernel_rfl) fun K hK => ?_
    simp only [List.getElem_toArray, List.getElem_cons_succ, List.getElem_cons_zero]
    rw [if_pos (by rfl)]
    go_simp
    refine (radd_any HxU.out HU.out _).mono ?_
    obtain ⟨q, hq⟩ : ∃ q, q = decide (n + m < uMax) := ⟨_, rfl⟩
    rw [← hq]
    have HQ := Lib.hid hq
    clear hq
    rintro e a4 ⟨ya, yb, yc, yd, hu1, rfl, hb⟩
    have HyU := Lib.hid hu1
    clear hu1
    have Lm := Lib.hid (L.out.later hb)
    have HXm := Lib.hid (below_at' hb HX.out)
    have HPm := Lib.hid (below_at' hb HP.out)
    clear hb L HX HP
    have L := Lm
    have HX := HXm
    have HP := HPm
    clear Lm HXm HPm
    have hS2 : a4.heap[X]? = some (.cells #[.int .u64 a, .int .u64 b, .int .u64 c, .int .u64 d] 33 (0, 0)) := HX.out
    refine hK _ _ (fun _ _ => hS2) ?_
    clear hK hS
    have hS := hS2
    clear hS2
    refine till_take 5 (some 9) rfl rfl (by kernel_rfl) (by kernel_rfl) (by kernel_rfl) (by kernel_rfl) (by kernel_rfl) (by kernel_rfl) (fun _ _ _ h => h) (.inl ⟨by rfl, fun w' _ => (by go_simp; rfl)⟩) hS ?_
    go_frame
    refine till_take 6 (some 15) rfl rfl (by kernel_rfl) (by kernel_rfl) (by kernel_rfl) (by kernel_rfl) (by kernel_rfl) (by kernel_rfl) (fun _ _ _ h => h) (.inl ⟨by rfl, fun w' _ => (by go_simp; rfl)⟩) hS ?_
    go_frame
    refine till_take 7 (some 16) rfl rfl (by kernel_rfl) (by kernel_rfl) (by kernel_rfl) (by kernel_rfl) (by kernel_rfl) (by kernel_rfl) (fun _ _ _ h => h) (.inl ⟨by rfl, fun w' _ => (by go_simp; rfl)⟩) hS ?_
    go_frame
    refine till_one 9 rfl (by kernel_rfl) fun K hK => ?_
    simp only [List.getElem_toArray, List.getElem_cons_succ, List.getElem_cons_zero]
    rw [if_pos (by rfl)]
    refine wp_store_row_g (t := 33) (old := u0) 33 _ _ rfl P #[.int .u64 ya, .int .u64 yb, .int .u64 yc, .int .u64 yd] rfl rfl HP.out Tryz.sizeU rfl (one_u64 _ _ _ _) ?_
    intro a5 hxP kP zP
    clear zP
    have Lm := Lib.hid (rliv_cells L.out HP.out rfl kP WP.out)
    have HXm := Lib.hid (kP.at HX.out NXP.out)
    have HPm := Lib.hid hxP
    clear hxP kP L HX HP
    have L := Lm
    have HX := HXm
    have HP := HPm
    clear Lm HXm HPm
    have hS2 : a5.heap[X]? = some (.cells #[.int .u64 a, .int .u64 b, .int .u64 c, .int .u64 d] 33 (0, 0)) := HX.out
    refine hK _ _ (fun _ _ => hS2) ?_
    clear hK hS
    have hS := hS2
    clear hS2
    refine till_take 10 (some 8) rfl rfl (by kernel_rfl) (by kernel_rfl) (by kernel_rfl) (by kernel_rfl) (by kernel_rfl) (by kernel_rfl) (fun _ _ _ h => h) (.inl ⟨by rfl, fun w' _ => (by go_simp; rfl)⟩) hS ?_
    go_frame
    refine till_done (by kernel_rfl) ?_ _
    clear hS
    cases q with
    | false =>
      have hno : ¬ n + m < uHalf := by have h9 := of_decide_eq_false HQ.out.symm; unfold uMax at h9; unfold uHalf; omega
      have HEV : Hid (addE (getP s.t) k m = 6) := Lib.hid (by unfold addE; rw [← HN.out, if_neg hno])
      have HSV : Hid (s.addA k m = s) := Lib.hid (by unfold PS.addA; rw [← HN.out, if_neg hno])
      clear hno HQ HyU
      go_wp2_with fail
      go_ret
      rw [HEV.out, HSV.out]; exact L.out.ret
    | true =>
      have cP0 : a5.cell? ⟨P, 0, none⟩ = some (.int .u64 ya) := Lib.cell_of_heap HP.out 0
      have cP1 : a5.cell? ⟨P, 1, none⟩ = some (.int .u64 yb) := Lib.cell_of_heap HP.out 1
      have cP2 : a5.cell? ⟨P, 2, none⟩ = some (.int .u64 yc) := Lib.cell_of_heap HP.out 2
      have cP3 : a5.cell? ⟨P, 3, none⟩ = some (.int .u64 yd) := Lib.cell_of_heap HP.out 3
      go_wp2_with fail
      clear cP0 cP1 cP2 cP3
      have hy9 := HyU.out
      first | rw [if_pos trivial] at hy9 | rw [if_pos rfl] at hy9
      have HY := Lib.hid hy9
      clear hy9 HyU
      refine (rmAmount_any HY.out _).mono ?_
      rintro e a6 ⟨rfl, hb⟩
      have Lm := Lib.hid (L.out.later hb)
      have HXm := Lib.hid (below_at' hb HX.out)
      have HPm := Lib.hid (below_at' hb HP.out)
      clear hb L HX HP
      have L := Lm
      have HX := HXm
      have HP := HPm
      clear Lm HXm HPm
      by_cases hc : n + m < uHalf
      · rw [decide_eq_true hc]
        have HEV : Hid (addE (getP s.t) k m = 0) := Lib.hid (by unfold addE; rw [← HN.out, if_pos hc])
        have HSV : Hid (s.addA k m = s.setAmt k (n + m)) := Lib.hid (by unfold PS.addA; rw [← HN.out, if_pos hc])
        clear hc
        go_wp2_with (refine wpList_load_row rfl 33 _ rfl P rfl 33 _ _ _ HP.out Tryz.underlying33 rfl Tryz.sizeU ?_)
        clear HX HP
        refine (L.out.call fun F hs => rsetAmount_any hs (by have := HZ.out; omega) k HY.out).mono ?_
        rintro e a7 ⟨rfl, o, hoth⟩
        have Lm := Lib.hid o
        clear o hoth L
        have L := Lm
        clear Lm
        go_wp2_with fail
        go_ret
        rw [HEV.out, HSV.out]; exact L.out.ret
      · rw [decide_eq_false hc]
        have HEV : Hid (addE (getP s.t) k m = 6) := Lib.hid (by unfold addE; rw [← HN.out, if_neg hc])
        have HSV : Hid (s.addA k m = s) := Lib.hid (by unfold PS.addA; rw [← HN.out, if_neg hc])
        clear hc
        go_wp2_with fail
        go_ret
        rw [HEV.out, HSV.out]; exact L.out.ret

theorem move_no {s : PS} {k l : Txt} {m : Nat} (h : moveE (getP s.t) k l m ≠ 0) : s.moveA k l m = s := by
  unfold PS.moveA; rw [if_neg fun e => h e.1]
set_option maxHeartbeats 16000000 in
set_option maxRecDepth 100000 in
theorem rmove10_any {w : World} {g : Nat} {s : PS} {F : List Nat} (h : RS w g s F) (hz : s.sz < 1000000000000) (hf : Fit s) (k l : Txt) {a b c d : Int} {m : Nat} (hu : UIs a b c d m) :
    Calls Tryz.prog 116 #[.pointer (some ⟨g, 0, none⟩), .string (bs k), .string (bs l), .agg #[.int .u64 a, .int .u64 b, .int .u64 c, .int .u64 d]] w (RRet w g F (s.moveA k l m) (.int .i64 (moveE (getP s.t) k l m))) := by
  have L := Lib.hid (RLiv.start h); have HU := Lib.hid hu; have HF := Lib.hid hf; have HZ := Lib.hid hz
  obtain ⟨n, hn⟩ : ∃ n, n = amtV (getP s.t) k := ⟨_, rfl⟩
  have HN := Lib.hid hn
  obtain ⟨n2, hn2⟩ : ∃ n2, n2 = amtV (getP s.t) l := ⟨_, rfl⟩
  have HN2 := Lib.hid hn2
  clear hn2
  clear h hz hu hf hn
  go_enter Tryz.func116, Tryz.ntmps116
  go_wp2_with fail
  obtain ⟨w1, hw1⟩ : ∃ w1, w1 = w.alloc (.cells #[.int .u64 a, .int .u64 b, .int .u64 c, .int .u64 d] 33) := ⟨_, rfl⟩
  obtain ⟨X, hX⟩ : ∃ X, X = w.heap.size := ⟨_, rfl⟩
  rw [← hw1, ← hX]
  have L1 : Hid (RLiv w F w1 g s) := Lib.hid (L.out.later (by rw [hw1]; exact below_new _ _))
  have HX : Hid (w1.heap[X]? = some (.cells #[.int .u64 a, .int .u64 b, .int .u64 c, .int .u64 d] 33 (0, 0))) := Lib.hid (by rw [hw1, hX]; exact heap_alloc_new _ _)
  have WX : Hid (w.heap.size ≤ X) := Lib.hid (by omega)
  clear hw1 hX L
  have L := L1
  clear L1
  obtain ⟨a1, hwz⟩ : ∃ wz, wz = w1.drew := ⟨_, rfl⟩
  have hbz : Below w1.heap.size w1 a1 := by rw [hwz]; exact (Below.refl _ _).drew
  have Lm := Lib.hid (L.out.later hbz)
  have HXm := Lib.hid (below_at' hbz HX.out)
  clear hbz L HX
  have L := Lm
  have HX := HXm
  clear Lm HXm
  have hS : a1.heap[X]? = some (.cells #[.int .u64 a, .int .u64 b, .int .u64 c, .int .u64 d] 33 (0, 0)) := HX.out
  refine wp_region_till (fun w' => w'.heap[X]? = some (.cells #[.int .u64 a, .int .u64 b, .int .u64 c, .int .u64 d] 33 (0, 0))) 11 11 (by kernel_rfl) rfl ?_
  rw [← hwz]
  clear hwz
  refine till_take 0 (some 14) rfl rfl (by kernel_rfl) (by kernel_rfl) (by kernel_rfl) (by kernel_rfl) (by kernel_rfl) (by kernel_rfl) (fun _ _ _ h => h) (.inl ⟨by rfl, fun w' _ => (by go_simp; rfl)⟩) hS ?_
  go_frame
  refine till_take 1 (some 15) rfl rfl (by kernel_rfl) (by kernel_rfl) (by kernel_rfl) (by kernel_rfl) (by kernel_rfl) (by kernel_rfl) (fun _ _ _ h => h) (.inl ⟨by rfl, fun w' _ => (by go_simp; rfl)⟩) hS ?_
  go_frame
  refine till_take 3 (some 17) rfl rfl (by kernel_rfl) (by kernel_rfl) (by kernel_rfl) (by kernel_rfl) (by kernel_rfl) (by kernel_rfl) (fun _ _ _ h => h) (yields_load (by rfl) 33 _ rfl (.pointer (some ⟨X, 0, none⟩)) rfl (.agg #[.int .u64 a, .int .u64 b, .int .u64 c, .int .u64 d]) (fun w' hS' => load_heap (hS') Tryz.underlying33 rfl Tryz.sizeU)) hS ?_
  go_frame
  refine till_two 2 8 rfl rfl (by kernel_rfl) (fun K hK => ?_) (fun K hK => ?_)
  · simp only [List.getElem_toArray, List.getElem_cons_succ, List.getElem_cons_zero]
    rw [if_pos (by rfl)]
    go_simp
    obtain ⟨Fq, hst⟩ := L.out.get
    refine (ramount_any hst (by have := HZ.out; omega) HF.out k).mono ?_
    rw [← HN.out]
    rintro e a2 ⟨xa, xb, xc, xd, hu1, rfl, hb⟩
    have HxU := Lib.hid hu1
    clear hu1 hst
    have Lm := Lib.hid (L.out.later hb)
    have HXm := Lib.hid (below_at' hb HX.out)
    clear hb L HX
    have L := Lm
    have HX := HXm
    clear Lm HXm
    have hS2 : a2.heap[X]? = some (.cells #[.int .u64 a, .int .u64 b, .int .u64 c, .int .u64 d] 33 (0, 0)) := HX.out
    refine hK _ _ (fun _ _ => hS2) ?_
    clear hK hS
    have hS := hS2
    clear hS2
    refine till_two 4 8 rfl rfl (by kernel_rfl) (fun K hK => ?_) (fun K hK => ?_)
    · simp only [List.getElem_toArray, List.getElem_cons_succ, List.getElem_cons_zero]
      rw [if_pos (by rfl)]
      go_simp
      refine (rsub_any HxU.out HU.out _).mono ?_
      obtain ⟨q1, hq1⟩ : ∃ q, q = decide (m ≤ n) := ⟨_, rfl⟩
      rw [← hq1]
      have HQ1 := Lib.hid hq1
      clear hq1
      rintro e a3 ⟨ya, yb, yc, yd, hu1, rfl, hb⟩
      have HyU := Lib.hid hu1
      clear hu1
      have Lm := Lib.hid (L.out.later hb)
      have HXm := Lib.hid (below_at' hb HX.out)
      clear hb L HX
      have L := Lm
      have HX := HXm
      clear Lm HXm
      have hS2 : a3.heap[X]? = some (.cells #[.int .u64 a, .int .u64 b, .int .u64 c, .int .u64 d] 33 (0, 0)) := HX.out
      refine hK _ _ (fun _ _ => hS2) ?_
      clear hK hS
      have hS := hS2
      clear hS2
      refine till_take 5 (some 13) rfl rfl (by kernel_rfl) (by kernel_rfl) (by kernel_rfl) (by kernel_rfl) (by kernel_rfl) (by kernel_rfl) (fun _ _ _ h => h) (.inl ⟨by rfl, fun w' _ => (by go_simp; rfl)⟩) hS ?_
      go_frame
      refine till_take 6 (some 19) rfl rfl (by kernel_rfl) (by kernel_rfl) (by kernel_rfl) (by kernel_rfl) (by kernel_rfl) (by kernel_rfl) (fun _ _ _ h => h) (.inl ⟨by rfl, fun w' _ => (by go_simp; rfl)⟩) hS ?_
      go_frame
      refine till_take 7 (some 20) rfl rfl (by kernel_rfl) (by kernel_rfl) (by kernel_rfl) (by kernel_rfl) (by kernel_rfl) (by kernel_rfl) (fun _ _ _ h => h) (.inl ⟨by rfl, fun w' _ => (by go_simp; rfl)⟩) hS ?_
      go_frame
      refine till_one 8 rfl (by kernel_rfl) fun K hK => ?_
      simp only [List.getElem_toArray, List.getElem_cons_succ, List.getElem_cons_zero]
      rw [if_pos (by rfl)]
      refine wp_alloc_g 33 rfl _ _ Tryz.zeroUz rfl ?_
      intro P a4 hP
      have WP : Hid (w.heap.size ≤ P) := Lib.hid (by rw [hP.out.eq]; exact (L.out.keep).size)
      have NXP : Hid (X ≠ P) := Lib.hid (by have := hP.out.eq; have := heap_lt HX.out; omega)
      have HPz := Lib.hid hP.out.cells; have hbP := hP.out.below
      clear hP
      have Lm := Lib.hid (L.out.later hbP)
      have HXm := Lib.hid (below_at' hbP HX.out)
      clear hbP L HX
      have L := Lm
      have HX := HXm
      clear Lm HXm
      have HP := HPz
      clear HPz
      have hS2 : a4.heap[X]? = some (.cells #[.int .u64 a, .int .u64 b, .int .u64 c, .int .u64 d] 33 (0, 0)) := HX.out
      refine hK _ _ (fun _ _ => hS2) ?_
      clear hK hS
      have hS := hS2
      clear hS2
      refine till_one 9 rfl (by kernel_rfl) fun K hK => ?_
      simp only [List.getElem_toArray, List.getElem_cons_succ, List.getElem_cons_zero]
      rw [if_pos (by rfl)]
      refine wp_store_row_g (t := 33) (old := u0) 33 _ _ rfl P #[.int .u64 ya, .int .u64 yb, .int .u64 yc, .int .u64 yd] rfl rfl HP.out Tryz.sizeU rfl (one_u64 _ _ _ _) ?_
      intro a5 hxP kP zP
      clear zP
      have Lm := Lib.hid (rliv_cells L.out HP.out rfl kP WP.out)
      have HXm := Lib.hid (kP.at HX.out NXP.out)
      have HPm := Lib.hid hxP
      clear hxP kP L HX HP
      have L := Lm
      have HX := HXm
      have HP := HPm
      clear Lm HXm HPm
      have hS2 : a5.heap[X]? = some (.cells #[.int .u64 a, .int .u64 b, .int .u64 c, .int .u64 d] 33 (0, 0)) := HX.out
      refine hK _ _ (fun _ _ => hS2) ?_
      clear hK hS
      have hS := hS2
      clear hS2
      refine till_take 10 (some 10) rfl rfl (by kernel_rfl) (by kernel_rfl) (by kernel_rfl) (by kernel_rfl) (by kernel_rfl) (by kernel_rfl) (fun _ _ _ h => h) (.inl ⟨by rfl, fun w' _ => (by go_simp; rfl)⟩) hS ?_
      go_frame
      refine till_done (by kernel_rfl) ?_ _
      clear hS
      cases q1 with
      | false =>
        have hno : ¬ m ≤ n := of_decide_eq_false HQ1.out.symm
        have HEV : Hid (moveE (getP s.t) k l m = 13) := Lib.hid (by unfold moveE; rw [← HN.out, if_pos hno])
        have HSV : Hid (s.moveA k l m = s) := Lib.hid (move_no (by rw [HEV.out]; decide))
        clear hno HQ1 HyU
        go_wp2_with fail
        go_ret
        rw [HEV.out, HSV.out]; exact L.out.ret
      | true =>
        have HLE : Hid (m ≤ n) := Lib.hid (of_decide_eq_true HQ1.out.symm)
        have hy9 := HyU.out
        first | rw [if_pos trivial] at hy9 | rw [if_pos rfl] at hy9
        have HY := Lib.hid hy9
        clear hy9 HyU HQ1
        by_cases hkl : k = l
        · have HEV : Hid (moveE (getP s.t) k l m = 0) := Lib.hid (by unfold moveE; rw [← HN.out, if_neg (fun e => e HLE.out), if_pos hkl])
          have HSV : Hid (s.moveA k l m = s) := Lib.hid (by unfold PS.moveA; rw [if_neg (fun e => e.2 hkl)])
          have hb9 := eq_txt k l
          rw [decide_eq_true hkl] at hb9
          clear hkl
          go_wp2_with fail
          go_ret
          rw [HEV.out, HSV.out]; exact L.out.ret
        · have HKL := Lib.hid hkl
          have hb9 := eq_txt k l
          rw [decide_eq_false hkl] at hb9
          clear hkl
          go_wp2_with fail
          clear hb9
          obtain ⟨a6, hwz⟩ : ∃ wz, wz = a5.drew := ⟨_, rfl⟩
          have hbz : Below a5.heap.size a5 a6 := by rw [hwz]; exact (Below.refl _ _).drew
          have Lm := Lib.hid (L.out.later hbz)
          have HXm := Lib.hid (below_at' hbz HX.out)
          have HPm := Lib.hid (below_at' hbz HP.out)
          clear hbz L HX HP
          have L := Lm
          have HX := HXm
          have HP := HPm
          clear Lm HXm HPm
          have hS : a6.heap[X]? = some (.cells #[.int .u64 a, .int .u64 b, .int .u64 c, .int .u64 d] 33 (0, 0)) := HX.out
          refine wp_region_till (fun w' => w'.heap[X]? = some (.cells #[.int .u64 a, .int .u64 b, .int .u64 c, .int .u64 d] 33 (0, 0))) 11 11 (by kernel_rfl) rfl ?_
          rw [← hwz]
          clear hwz
          refine till_take 0 (some 27) rfl rfl (by kernel_rfl) (by kernel_rfl) (by kernel_rfl) (by kernel_rfl) (by kernel_rfl) (by kernel_rfl) (fun _ _ _ h => h) (.inl ⟨by rfl, fun w' _ => (by go_simp; rfl)⟩) hS ?_
          go_frame
          refine till_take 1 (some 28) rfl rfl (by kernel_rfl) (by kernel_rfl) (by kernel_rfl) (by kernel_rfl) (by kernel_rfl) (by kernel_rfl) (fun _ _ _ h => h) (.inl ⟨by rfl, fun w' _ => (by go_simp; rfl)⟩) hS ?_
          go_frame
          refine till_take 3 (some 30) rfl rfl (by kernel_rfl) (by kernel_rfl) (by kernel_rfl) (by kernel_rfl) (by kernel_rfl) (by kernel_rfl) (fun _ _ _ h => h) (yields_load (by rfl) 33 _ rfl (.pointer (some ⟨X, 0, none⟩)) rfl (.agg #[.int .u64 a, .int .u64 b, .int .u64 c, .int .u64 d]) (fun w' hS' => load_heap (hS') Tryz.underlying33 rfl Tryz.sizeU)) hS ?_
          go_frame
          refine till_two 2 8 rfl rfl (by kernel_rfl) (fun K hK => ?_) (fun K hK => ?_)
          · simp only [List.getElem_toArray, List.getElem_cons_succ, List.getElem_cons_zero]
            rw [if_pos (by rfl)]
            go_simp
            obtain ⟨Fq, hst⟩ := L.out.get
            refine (ramount_any hst (by have := HZ.out; omega) HF.out l).mono ?_
            rw [← HN2.out]
            rintro e a7 ⟨va, vb, vc, vd, hu1, rfl, hb⟩
            have HvU := Lib.hid hu1
            clear hu1 hst
            have Lm := Lib.hid (L.out.later hb)
            have HXm := Lib.hid (below_at' hb HX.out)
            have HPm := Lib.hid (below_at' hb HP.out)
            clear hb L HX HP
            have L := Lm
            have HX := HXm
            have HP := HPm
            clear Lm HXm HPm
            have hS2 : a7.heap[X]? = some (.cells #[.int .u64 a, .int .u64 b, .int .u64 c, .int .u64 d] 33 (0, 0)) := HX.out
            refine hK _ _ (fun _ _ => hS2) ?_
            clear hK hS
            have hS := hS2
            clear hS2
            refine till_two 4 8 rfl rfl (by kernel_rfl) (fun K hK => ?_) (fun K hK => ?_)
            · simp only [List.getElem_toArray, List.getElem_cons_succ, List.getElem_cons_zero]
              rw [if_pos (by rfl)]
              go_simp
              refine (radd_any HvU.out HU.out _).mono ?_
              obtain ⟨q2, hq2⟩ : ∃ q, q = decide (n2 + m < uMax) := ⟨_, rfl⟩
              rw [← hq2]
              have HQ2 := Lib.hid hq2
              clear hq2
              rintro e a8 ⟨za, zb, zc, zd, hu1, rfl, hb⟩
              have HzU := Lib.hid hu1
              clear hu1
              have Lm := Lib.hid (L.out.later hb)
              have HXm := Lib.hid (below_at' hb HX.out)
              have HPm := Lib.hid (below_at' hb HP.out)
              clear hb L HX HP
              have L := Lm
              have HX := HXm
              have HP := HPm
              clear Lm HXm HPm
              have hS2 : a8.heap[X]? = some (.cells #[.int .u64 a, .int .u64 b, .int .u64 c, .int .u64 d] 33 (0, 0)) := HX.out
              refine hK _ _ (fun _ _ => hS2) ?_
              clear hK hS
              have hS := hS2
              clear hS2
              refine till_take 5 (some 26) rfl rfl (by kernel_rfl) (by kernel_rfl) (by kernel_rfl) (by kernel_rfl) (by kernel_rfl) (by kernel_rfl) (fun _ _ _ h => h) (.inl ⟨by rfl, fun w' _ => (by go_simp; rfl)⟩) hS ?_
              go_frame
              refine till_take 6 (some 32) rfl rfl (by kernel_rfl) (by kernel_rfl) (by kernel_rfl) (by kernel_rfl) (by kernel_rfl) (by kernel_rfl) (fun _ _ _ h => h) (.inl ⟨by rfl, fun w' _ => (by go_simp; rfl)⟩) hS ?_
              go_frame
              refine till_take 7 (some 33) rfl rfl (by kernel_rfl) (by kernel_rfl) (by kernel_rfl) (by kernel_rfl) (by kernel_rfl) (by kernel_rfl) (fun _ _ _ h => h) (.inl ⟨by rfl, fun w' _ => (by go_simp; rfl)⟩) hS ?_
              go_frame
              refine till_one 8 rfl (by kernel_rfl) fun K hK => ?_
              simp only [List.getElem_toArray, List.getElem_cons_succ, List.getElem_cons_zero]
              rw [if_pos (by rfl)]
              refine wp_alloc_g 33 rfl _ _ Tryz.zeroUz rfl ?_
              intro Q a9 hQ
              have WQ : Hid (w.heap.size ≤ Q) := Lib.hid (by rw [hQ.out.eq]; exact (L.out.keep).size)
              have NXQ : Hid (X ≠ Q) := Lib.hid (by have := hQ.out.eq; have := heap_lt HX.out; omega)
              have NPQ : Hid (P ≠ Q) := Lib.hid (by have := hQ.out.eq; have := heap_lt HP.out; omega)
              have HQz := Lib.hid hQ.out.cells; have hbQ := hQ.out.below
              clear hQ
              have Lm := Lib.hid (L.out.later hbQ)
              have HXm := Lib.hid (below_at' hbQ HX.out)
              have HPm := Lib.hid (below_at' hbQ HP.out)
              clear hbQ L HX HP
              have L := Lm
              have HX := HXm
              have HP := HPm
              clear Lm HXm HPm
              have HQ := HQz
              clear HQz
              have hS2 : a9.heap[X]? = some (.cells #[.int .u64 a, .int .u64 b, .int .u64 c, .int .u64 d] 33 (0, 0)) := HX.out
              refine hK _ _ (fun _ _ => hS2) ?_
              clear hK hS
              have hS := hS2
              clear hS2
              refine till_one 9 rfl (by kernel_rfl) fun K hK => ?_
              simp only [List.getElem_toArray, List.getElem_cons_succ, List.getElem_cons_zero]
              rw [if_pos (by rfl)]
              refine wp_store_row_g (t := 33) (old := u0) 33 _ _ rfl Q #[.int .u64 za, .int .u64 zb, .int .u64 zc, .int .u64 zd] rfl rfl HQ.out Tryz.sizeU rfl (one_u64 _ _ _ _) ?_
              intro a10 hxQ kQ zQ
              clear zQ
              have Lm := Lib.hid (rliv_cells L.out HQ.out rfl kQ WQ.out)
              have HXm := Lib.hid (kQ.at HX.out NXQ.out)
              have HPm := Lib.hid (kQ.at HP.out NPQ.out)
              have HQm := Lib.hid hxQ
              clear hxQ kQ L HX HP HQ
              have L := Lm
              have HX := HXm
              have HP := HPm
              have HQ := HQm
              clear Lm HXm HPm HQm
              have hS2 : a10.heap[X]? = some (.cells #[.int .u64 a, .int .u64 b, .int .u64 c, .int .u64 d] 33 (0, 0)) := HX.out
              refine hK _ _ (fun _ _ => hS2) ?_
              clear hK hS
              have hS := hS2
              clear hS2
              refine till_take 10 (some 12) rfl rfl (by kernel_rfl) (by kernel_rfl) (by kernel_rfl) (by kernel_rfl) (by kernel_rfl) (by kernel_rfl) (fun _ _ _ h => h) (.inl ⟨by rfl, fun w' _ => (by go_simp; rfl)⟩) hS ?_
              go_frame
              refine till_done (by kernel_rfl) ?_ _
              clear hS
              cases q2 with
              | false =>
                have hno : ¬ n2 + m < uHalf := by have h9 := of_decide_eq_false HQ2.out.symm; unfold uMax at h9; unfold uHalf; omega
                have HEV : Hid (moveE (getP s.t) k l m = 6) := Lib.hid (by unfold moveE; rw [if_neg (fun e => e (HN.out ▸ HLE.out)), if_neg HKL.out, ← HN2.out, if_neg hno])
                have HSV : Hid (s.moveA k l m = s) := Lib.hid (move_no (by rw [HEV.out]; decide))
                clear hno HQ2 HzU
                go_wp2_with fail
                go_ret
                rw [HEV.out, HSV.out]; exact L.out.ret
              | true =>
                have cQ0 : a10.cell? ⟨Q, 0, none⟩ = some (.int .u64 za) := Lib.cell_of_heap HQ.out 0
                have cQ1 : a10.cell? ⟨Q, 1, none⟩ = some (.int .u64 zb) := Lib.cell_of_heap HQ.out 1
                have cQ2 : a10.cell? ⟨Q, 2, none⟩ = some (.int .u64 zc) := Lib.cell_of_heap HQ.out 2
                have cQ3 : a10.cell? ⟨Q, 3, none⟩ = some (.int .u64 zd) := Lib.cell_of_heap HQ.out 3
                go_wp2_with fail
                clear cQ0 cQ1 cQ2 cQ3
                have hy9 := HzU.out
                first | rw [if_pos trivial] at hy9 | rw [if_pos rfl] at hy9
                have HZZ := Lib.hid hy9
                clear hy9 HzU
                refine (rmAmount_any HZZ.out _).mono ?_
                rintro e a11 ⟨rfl, hb⟩
                have Lm := Lib.hid (L.out.later hb)
                have HXm := Lib.hid (below_at' hb HX.out)
                have HPm := Lib.hid (below_at' hb HP.out)
                have HQm := Lib.hid (below_at' hb HQ.out)
                clear hb L HX HP HQ
                have L := Lm
                have HX := HXm
                have HP := HPm
                have HQ := HQm
                clear Lm HXm HPm HQm
                by_cases hno : n2 + m < uHalf
                · rw [decide_eq_true hno]
                  have HEV : Hid (moveE (getP s.t) k l m = 0) := Lib.hid (by unfold moveE; rw [if_neg (fun e => e (HN.out ▸ HLE.out)), if_neg HKL.out, ← HN2.out, if_pos hno])
                  have HSV : Hid (s.moveA k l m = (s.setAmt k (n - m)).setAmt l (n2 + m)) := Lib.hid (by unfold PS.moveA; rw [if_pos ⟨HEV.out, HKL.out⟩, HN.out, HN2.out])
                  clear hno
                  go_wp2_with (refine wpList_load_row rfl 33 _ rfl P rfl 33 _ _ _ HP.out Tryz.underlying33 rfl Tryz.sizeU ?_)
                  clear HX HP
                  refine (L.out.call fun F hs => rsetAmount_any hs (by have := HZ.out; omega) k HY.out).mono ?_
                  rintro e a12 ⟨rfl, o, hoth⟩
                  have Lm := Lib.hid o
                  have HQm := Lib.hid (hoth.2 Q _ HQ.out rfl rfl)
                  clear o hoth L HQ
                  have L := Lm
                  have HQ := HQm
                  clear Lm HQm
                  go_wp2_with (refine wpList_load_row rfl 33 _ rfl Q rfl 33 _ _ _ HQ.out Tryz.underlying33 rfl Tryz.sizeU ?_)
                  clear HQ
                  refine (L.out.call fun F hs => rsetAmount_any hs (by have h8 := HZ.out; have h9 := sz_setAmt s k (n - m); omega) l HZZ.out).mono ?_
                  rintro e a13 ⟨rfl, o, hoth⟩
                  have Lm := Lib.hid o
                  clear o hoth L
                  have L := Lm
                  clear Lm
                  go_wp2_with fail
                  go_ret
                  rw [HEV.out, HSV.out]; exact L.out.ret
                · rw [decide_eq_false hno]
                  have HEV : Hid (moveE (getP s.t) k l m = 6) := Lib.hid (by unfold moveE; rw [if_neg (fun e => e (HN.out ▸ HLE.out)), if_neg HKL.out, ← HN2.out, if_neg hno])
                  have HSV : Hid (s.moveA k l m = s) := Lib.hid (move_no (by rw [HEV.out]; decide))
                  clear hno
                  go_wp2_with fail
                  go_ret
                  rw [HEV.out, HSV.out]; exact L.out.ret
            · simp only [List.getElem_toArray, List.getElem_cons_succ, List.getElem_cons_zero]
              rw [if_pos (by rfl)]
              refine wp_alloc_g 33 rfl _ _ Tryz.zeroUz rfl ?_
              intro Q a8 hQ
              have WQ : Hid (w.heap.size ≤ Q) := Lib.hid (by rw [hQ.out.eq]; exact (L.out.keep).size)
              have NXQ : Hid (X ≠ Q) := Lib.hid (by have := hQ.out.eq; have := heap_lt HX.out; omega)
              have NPQ : Hid (P ≠ Q) := Lib.hid (by have := hQ.out.eq; have := heap_lt HP.out; omega)
              have HQz := Lib.hid hQ.out.cells; have hbQ := hQ.out.below
              clear hQ
              have Lm := Lib.hid (L.out.later hbQ)
              have HXm := Lib.hid (below_at' hbQ HX.out)
              have HPm := Lib.hid (below_at' hbQ HP.out)
              clear hbQ L HX HP
              have L := Lm
              have HX := HXm
              have HP := HPm
              clear Lm HXm HPm
              have HQ := HQz
              clear HQz
              have hS2 : a8.heap[X]? = some (.cells #[.int .u64 a, .int .u64 b, .int .u64 c, .int .u64 d] 33 (0, 0)) := HX.out
              refine hK _ _ (fun _ _ => hS2) ?_
              clear hK hS
              have hS := hS2
              clear hS2
              refine till_one 4 rfl (by kernel_rfl) fun K hK => ?_
              simp only [List.getElem_toArray, List.getElem_cons_succ, List.getElem_cons_zero]
              rw [if_pos (by rfl)]
              go_simp
              refine (radd_any HvU.out HU.out _).mono ?_
              obtain ⟨q2, hq2⟩ : ∃ q, q = decide (n2 + m < uMax) := ⟨_, rfl⟩
              rw [← hq2]
              have HQ2 := Lib.hid hq2
              clear hq2
              rintro e a9 ⟨za, zb, zc, zd, hu1, rfl, hb⟩
              have HzU := Lib.hid hu1
              clear hu1
              have Lm := Lib.hid (L.out.later hb)
              have HXm := Lib.hid (below_at' hb HX.out)
              have HPm := Lib.hid (below_at' hb HP.out)
              have HQm := Lib.hid (below_at' hb HQ.out)
              clear hb L HX HP HQ
              have L := Lm
              have HX := HXm
              have HP := HPm
              have HQ := HQm
              clear Lm HXm HPm HQm
              have hS2 : a9.heap[X]? = some (.cells #[.int .u64 a, .int .u64 b, .int .u64 c, .int .u64 d] 33 (0, 0)) := HX.out
              refine hK _ _ (fun _ _ => hS2) ?_
              clear hK hS
              have hS := hS2
              clear hS2
              refine till_take 5 (some 26) rfl rfl (by kernel_rfl) (by kernel_rfl) (by kernel_rfl) (by kernel_rfl) (by kernel_rfl) (by kernel_rfl) (fun _ _ _ h => h) (.inl ⟨by rfl, fun w' _ => (by go_simp; rfl)⟩) hS ?_
              go_frame
              refine till_take 6 (some 32) rfl rfl (by kernel_rfl) (by kernel_rfl) (by kernel_rfl) (by kernel_rfl) (by kernel_rfl) (by kernel_rfl) (fun _ _ _ h => h) (.inl ⟨by rfl, fun w' _ => (by go_simp; rfl)⟩) hS ?_
              go_frame
              refine till_take 7 (some 33) rfl rfl (by kernel_rfl) (by kernel_rfl) (by kernel_rfl) (by kernel_rfl) (by kernel_rfl) (by kernel_rfl) (fun _ _ _ h => h) (.inl ⟨by rfl, fun w' _ => (by go_simp; rfl)⟩) hS ?_
              go_frame
              refine till_one 9 rfl (by kernel_rfl) fun K hK => ?_
              simp only [List.getElem_toArray, List.getElem_cons_succ, List.getElem_cons_zero]
              rw [if_pos (by rfl)]
              refine wp_store_row_g (t := 33) (old := u0) 33 _ _ rfl Q #[.int .u64 za, .int .u64 zb, .int .u64 zc, .int .u64 zd] rfl rfl HQ.out Tryz.sizeU rfl (one_u64 _ _ _ _) ?_
              intro a10 hxQ kQ zQ
              clear zQ
              have Lm := Lib.hid (rliv_cells L.out HQ.out rfl kQ WQ.out)
              have HXm := Lib.hid (kQ.at HX.out NXQ.out)
              have HPm := Lib.hid (kQ.at HP.out NPQ.out)
              have HQm := Lib.hid hxQ
              clear hxQ kQ L HX HP HQ
              have L := Lm
              have HX := HXm
              have HP := HPm
              have HQ := HQm
              clear Lm HXm HPm HQm
              have hS2 : a10.heap[X]? = some (.cells #[.int .u64 a, .int .u64 b, .int .u64 c, .int .u64 d] 33 (0, 0)) := HX.out
              refine hK _ _ (fun _ _ => hS2) ?_
              clear hK hS
              have hS := hS2
              clear hS2
              refine till_take 10 (some 12) rfl rfl (by kernel_rfl) (by kernel_rfl) (by kernel_rfl) (by kernel_rfl) (by kernel_rfl) (by kernel_rfl) (fun _ _ _ h => h) (.inl ⟨by rfl, fun w' _ => (by go_simp; rfl)⟩) hS ?_
              go_frame
              refine till_done (by kernel_rfl) ?_ _
              clear hS
              cases q2 with
              | false =>
                have hno : ¬ n2 + m < uHalf := by have h9 := of_decide_eq_false HQ2.out.symm; unfold uMax at h9; unfold uHalf; omega
                have HEV : Hid (moveE (getP s.t) k l m = 6) := Lib.hid (by unfold moveE; rw [if_neg (fun e => e (HN.out ▸ HLE.out)), if_neg HKL.out, ← HN2.out, if_neg hno])
                have HSV : Hid (s.moveA k l m = s) := Lib.hid (move_no (by rw [HEV.out]; decide))
                clear hno HQ2 HzU
                go_wp2_with fail
                go_ret
                rw [HEV.out, HSV.out]; exact L.out.ret
              | true =>
                have cQ0 : a10.cell? ⟨Q, 0, none⟩ = some (.int .u64 za) := Lib.cell_of_heap HQ.out 0
                have cQ1 : a10.cell? ⟨Q, 1, none⟩ = some (.int .u64 zb) := Lib.cell_of_heap HQ.out 1
                have cQ2 : a10.cell? ⟨Q, 2, none⟩ = some (.int .u64 zc) := Lib.cell_of_heap HQ.out 2
                have cQ3 : a10.cell? ⟨Q, 3, none⟩ = some (.int .u64 zd) := Lib.cell_of_heap HQ.out 3
                go_wp2_with fail
                clear cQ0 cQ1 cQ2 cQ3
                have hy9 := HzU.out
                first | rw [if_pos trivial] at hy9 | rw [if_pos rfl] at hy9
                have HZZ := Lib.hid hy9
                clear hy9 HzU
                refine (rmAmount_any HZZ.out _).mono ?_
                rintro e a11 ⟨rfl, hb⟩
                have Lm := Lib.hid (L.out.later hb)
                have HXm := Lib.hid (below_at' hb HX.out)
                have HPm := Lib.hid (below_at' hb HP.out)
                have HQm := Lib.hid (below_at' hb HQ.out)
                clear hb L HX HP HQ
                have L := Lm
                have HX := HXm
                have HP := HPm
                have HQ := HQm
                clear Lm HXm HPm HQm
                by_cases hno : n2 + m < uHalf
                · rw [decide_eq_true hno]
                  have HEV : Hid (moveE (getP s.t) k l m = 0) := Lib.hid (by unfold moveE; rw [if_neg (fun e => e (HN.out ▸ HLE.out)), if_neg HKL.out, ← HN2.out, if_pos hno])
                  have HSV : Hid (s.moveA k l m = (s.setAmt k (n - m)).setAmt l (n2 + m)) := Lib.hid (by unfold PS.moveA; rw [if_pos ⟨HEV.out, HKL.out⟩, HN.out, HN2.out])
                  clear hno
                  go_wp2_with (refine wpList_load_row rfl 33 _ rfl P rfl 33 _ _ _ HP.out Tryz.underlying33 rfl Tryz.sizeU ?_)
                  clear HX HP
                  refine (L.out.call fun F hs => rsetAmount_any hs (by have := HZ.out; omega) k HY.out).mono ?_
                  rintro e a12 ⟨rfl, o, hoth⟩
                  have Lm := Lib.hid o
                  have HQm := Lib.hid (hoth.2 Q _ HQ.out rfl rfl)
                  clear o hoth L HQ
                  have L := Lm
                  have HQ := HQm
                  clear Lm HQm
                  go_wp2_with (refine wpList_load_row rfl 33 _ rfl Q rfl 33 _ _ _ HQ.out Tryz.underlying33 rfl Tryz.sizeU ?_)
                  clear HQ
                  refine (L.out.call fun F hs => rsetAmount_any hs (by have h8 := HZ.out; have h9 := sz_setAmt s k (n - m); omega) l HZZ.out).mono ?_
                  rintro e a13 ⟨rfl, o, hoth⟩
                  have Lm := Lib.hid o
                  clear o hoth L
                  have L := Lm
                  clear Lm
                  go_wp2_with fail
                  go_ret
                  rw [HEV.out, HSV.out]; exact L.out.ret
                · rw [decide_eq_false hno]
                  have HEV : Hid (moveE (getP s.t) k l m = 6) := Lib.hid (by unfold moveE; rw [if_neg (fun e => e (HN.out ▸ HLE.out)), if_neg HKL.out, ← HN2.out, if_neg hno])
                  have HSV : Hid (s.moveA k l m = s) := Lib.hid (move_no (by rw [HEV.out]; decide))
                  clear hno
                  go_wp2_with fail
                  go_ret
                  rw [HEV.out, HSV.out]; exact L.out.ret
          · simp only [List.getElem_toArray, List.getElem_cons_succ, List.getElem_cons_zero]
            rw [if_pos (by rfl)]
            refine wp_alloc_g 33 rfl _ _ Tryz.zeroUz rfl ?_
            intro Q a7 hQ
            have WQ : Hid (w.heap.size ≤ Q) := Lib.hid (by rw [hQ.out.eq]; exact (L.out.keep).size)
            have NXQ : Hid (X ≠ Q) := Lib.hid (by have := hQ.out.eq; have := heap_lt HX.out; omega)
            have NPQ : Hid (P ≠ Q) := Lib.hid (by have := hQ.out.eq; have := heap_lt HP.out; omega)
            have HQz := Lib.hid hQ.out.cells; have hbQ := hQ.out.below
            clear hQ
            have Lm := Lib.hid (L.out.later hbQ)
            have HXm := Lib.hid (below_at' hbQ HX.out)
            have HPm := Lib.hid (below_at' hbQ HP.out)
            clear hbQ L HX HP
            have L := Lm
            have HX := HXm
            have HP := HPm
            clear Lm HXm HPm
            have HQ := HQz
            clear HQz
            have hS2 : a7.heap[X]? = some (.cells #[.int .u64 a, .int .u64 b, .int .u64 c, .int .u64 d] 33 (0, 0)) := HX.out
            refine hK _ _ (fun _ _ => hS2) ?_
            clear hK hS
            have hS := hS2
            clear hS2
            refine till_one 2 rfl (by kernel_rfl) fun K hK => ?_
            simp only [List.getElem_toArray, List.getElem_cons_succ, List.getElem_cons_zero]
            rw [if_pos (by rfl)]
            go_simp
            obtain ⟨Fq, hst⟩ := L.out.get
            refine (ramount_any hst (by have := HZ.out; omega) HF.out l).mono ?_
            rw [← HN2.out]
            rintro e a8 ⟨va, vb, vc, vd, hu1, rfl, hb⟩
            have HvU := Lib.hid hu1
            clear hu1 hst
            have Lm := Lib.hid (L.out.later hb)
            have HXm := Lib.hid (below_at' hb HX.out)
            have HPm := Lib.hid (below_at' hb HP.out)
            have HQm := Lib.hid (below_at' hb HQ.out)
            clear hb L HX HP HQ
            have L := Lm
            have HX := HXm
            have HP := HPm
            have HQ := HQm
            clear Lm HXm HPm HQm
            have hS2 : a8.heap[X]? = some (.cells #[.int .u64 a, .int .u64 b, .int .u64 c, .int .u64 d] 33 (0, 0)) := HX.out
            refine hK _ _ (fun _ _ => hS2) ?_
            clear hK hS
            have hS := hS2
            clear hS2
            refine till_one 4 rfl (by kernel_rfl) fun K hK => ?_
            simp only [List.getElem_toArray, List.getElem_cons_succ, List.getElem_cons_zero]
            rw [if_pos (by rfl)]
            go_simp
            refine (radd_any HvU.out HU.out _).mono ?_
            obtain ⟨q2, hq2⟩ : ∃ q, q = decide (n2 + m < uMax) := ⟨_, rfl⟩
            rw [← hq2]
            have HQ2 := Lib.hid hq2
            clear hq2
            rintro e a9 ⟨za, zb, zc, zd, hu1, rfl, hb⟩
            have HzU := Lib.hid hu1
            clear hu1
            have Lm := Lib.hid (L.out.later hb)
            have HXm := Lib.hid (below_at' hb HX.out)
            have HPm := Lib.hid (below_at' hb HP.out)
            have HQm := Lib.hid (below_at' hb HQ.out)
            clear hb L HX HP HQ
            have L := Lm
            have HX := HXm
            have HP := HPm
            have HQ := HQm
            clear Lm HXm HPm HQm
            have hS2 : a9.heap[X]? = some (.cells #[.int .u64 a, .int .u64 b, .int .u64 c, .int .u64 d] 33 (0, 0)) := HX.out
            refine hK _ _ (fun _ _ => hS2) ?_
            clear hK hS
            have hS := hS2
            clear hS2
            refine till_take 5 (some 26) rfl rfl (by kernel_rfl) (by kernel_rfl) (by kernel_rfl) (by kernel_rfl) (by kernel_rfl) (by kernel_rfl) (fun _ _ _ h => h) (.inl ⟨by rfl, fun w' _ => (by go_simp; rfl)⟩) hS ?_
            go_frame
            refine till_take 6 (some 32) rfl rfl (by kernel_rfl) (by kernel_rfl) (by kernel_rfl) (by kernel_rfl) (by kernel_rfl) (by kernel_rfl) (fun _ _ _ h => h) (.inl ⟨by rfl, fun w' _ => (by go_simp; rfl)⟩) hS ?_
            go_frame
            refine till_take 7 (some 33) rfl rfl (by kernel_rfl) (by kernel_rfl) (by kernel_rfl) (by kernel_rfl) (by kernel_rfl) (by kernel_rfl) (fun _ _ _ h => h) (.inl ⟨by rfl, fun w' _ => (by go_simp; rfl)⟩) hS ?_
            go_frame
            refine till_one 9 rfl (by kernel_rfl) fun K hK => ?_
            simp only [List.getElem_toArray, List.getElem_cons_succ, List.getElem_cons_zero]
            rw [if_pos (by rfl)]
            refine wp_store_row_g (t := 33) (old := u0) 33 _ _ rfl Q #[.int .u64 za, .int .u64 zb, .int .u64 zc, .int .u64 zd] rfl rfl HQ.out Tryz.sizeU rfl (one_u64 _ _ _ _) ?_
            intro a10 hxQ kQ zQ
            clear zQ
            have Lm := Lib.hid (rliv_cells L.out HQ.out rfl kQ WQ.out)
            have HXm := Lib.hid (kQ.at HX.out NXQ.out)
            have HPm := Lib.hid (kQ.at HP.out NPQ.out)
            have HQm := Lib.hid hxQ
            clear hxQ kQ L HX HP HQ
            have L := Lm
            have HX := HXm
            have HP := HPm
            have HQ := HQm
            clear Lm HXm HPm HQm
            have hS2 : a10.heap[X]? = some (.cells #[.int .u64 a, .int .u64 b, .int .u64 c, .int .u64 d] 33 (0, 0)) := HX.out
            refine hK _ _ (fun _ _ => hS2) ?_
            clear hK hS
            have hS := hS2
            clear hS2
            refine till_take 10 (some 12) rfl rfl (by kernel_rfl) (by kernel_rfl) (by kernel_rfl) (by kernel_rfl) (by kernel_rfl) (by kernel_rfl) (fun _ _ _ h => h) (.inl ⟨by rfl, fun w' _ => (by go_simp; rfl)⟩) hS ?_
            go_frame
            refine till_done (by kernel_rfl) ?_ _
            clear hS
            cases q2 with
            | false =>
              have hno : ¬ n2 + m < uHalf := by have h9 := of_decide_eq_false HQ2.out.symm; unfold uMax at h9; unfold uHalf; omega
              have HEV : Hid (moveE (getP s.t) k l m = 6) := Lib.hid (by unfold moveE; rw [if_neg (fun e => e (HN.out ▸ HLE.out)), if_neg HKL.out, ← HN2.out, if_neg hno])
              have HSV : Hid (s.moveA k l m = s) := Lib.hid (move_no (by rw [HEV.out]; decide))
              clear hno HQ2 HzU
              go_wp2_with fail
              go_ret
              rw [HEV.out, HSV.out]; exact L.out.ret
            | true =>
              have cQ0 : a10.cell? ⟨Q, 0, none⟩ = some (.int .u64 za) := Lib.cell_of_heap HQ.out 0
              have cQ1 : a10.cell? ⟨Q, 1, none⟩ = some (.int .u64 zb) := Lib.cell_of_heap HQ.out 1
              have cQ2 : a10.cell? ⟨Q, 2, none⟩ = some (.int .u64 zc) := Lib.cell_of_heap HQ.out 2
              have cQ3 : a10.cell? ⟨Q, 3, none⟩ = some (.int .u64 zd) := Lib.cell_of_heap HQ.out 3
              go_wp2_with fail
              clear cQ0 cQ1 cQ2 cQ3
              have hy9 := HzU.out
              first | rw [if_pos trivial] at hy9 | rw [if_pos rfl] at hy9
              have HZZ := Lib.hid hy9
              clear hy9 HzU
              refine (rmAmount_any HZZ.out _).mono ?_
              rintro e a11 ⟨rfl, hb⟩
              have Lm := Lib.hid (L.out.later hb)
              have HXm := Lib.hid (below_at' hb HX.out)
              have HPm := Lib.hid (below_at' hb HP.out)
              have HQm := Lib.hid (below_at' hb HQ.out)
              clear hb L HX HP HQ
              have L := Lm
              have HX := HXm
              have HP := HPm
              have HQ := HQm
              clear Lm HXm HPm HQm
              by_cases hno : n2 + m < uHalf
              · rw [decide_eq_true hno]
                have HEV : Hid (moveE (getP s.t) k l m = 0) := Lib.hid (by unfold moveE; rw [if_neg (fun e => e (HN.out ▸ HLE.out)), if_neg HKL.out, ← HN2.out, if_pos hno])
                have HSV : Hid (s.moveA k l m = (s.setAmt k (n - m)).setAmt l (n2 + m)) := Lib.hid (by unfold PS.moveA; rw [if_pos ⟨HEV.out, HKL.out⟩, HN.out, HN2.out])
                clear hno
                go_wp2_with (refine wpList_load_row rfl 33 _ rfl P rfl 33 _ _ _ HP.out Tryz.underlying33 rfl Tryz.sizeU ?_)
                clear HX HP
                refine (L.out.call fun F hs => rsetAmount_any hs (by have := HZ.out; omega) k HY.out).mono ?_
                rintro e a12 ⟨rfl, o, hoth⟩
                have Lm := Lib.hid o
                have HQm := Lib.hid (hoth.2 Q _ HQ.out rfl rfl)
                clear o hoth L HQ
                have L := Lm
                have HQ := HQm
                clear Lm HQm
                go_wp2_with (refine wpList_load_row rfl 33 _ rfl Q rfl 33 _ _ _ HQ.out Tryz.underlying33 rfl Tryz.sizeU ?_)
                clear HQ
                refine (L.out.call fun F hs => rsetAmount_any hs (by have h8 := HZ.out; have h9 := sz_setAmt s k (n - m); omega) l HZZ.out).mono ?_
                rintro e a13 ⟨rfl, o, hoth⟩
                have Lm := Lib.hid o
                clear o hoth L
                have L := Lm
                clear Lm
                go_wp2_with fail
                go_ret
                rw [HEV.out, HSV.out]; exact L.out.ret
              · rw [decide_eq_false hno]
                have HEV : Hid (moveE (getP s.t) k l m = 6) := Lib.hid (by unfold moveE; rw [if_neg (fun e => e (HN.out ▸ HLE.out)), if_neg HKL.out, ← HN2.out, if_neg hno])
                have HSV : Hid (s.moveA k l m = s) := Lib.hid (move_no (by rw [HEV.out]; decide))
                clear hno
                go_wp2_with fail
                go_ret
                rw [HEV.out, HSV.out]; exact L.out.ret
    · simp only [List.getElem_toArray, List.getElem_cons_succ, List.getElem_cons_zero]
      rw [if_pos (by rfl)]
      refine wp_alloc_g 33 rfl _ _ Tryz.zeroUz rfl ?_
      intro P a3 hP
      have WP : Hid (w.heap.size ≤ P) := Lib.hid (by rw [hP.out.eq]; exact (L.out.keep).size)
      have NXP : Hid (X ≠ P) := Lib.hid (by have := hP.out.eq; have := heap_lt HX.out; omega)
      have HPz := Lib.hid hP.out.cells; have hbP := hP.out.below
      clear hP
      have Lm := Lib.hid (L.out.later hbP)
      have HXm := Lib.hid (below_at' hbP HX.out)
      clear hbP L HX
      have L := Lm
      have HX := HXm
      clear Lm HXm
      have HP := HPz
      clear HPz
      have hS2 : a3.heap[X]? = some (.cells #[.int .u64 a, .int .u64 b, .int .u64 c, .int .u64 d] 33 (0, 0)) := HX.out
      refine hK _ _ (fun _ _ => hS2) ?_
      clear hK hS
      have hS := hS2
      clear hS2
      refine till_one 4 rfl (by kernel_rfl) fun K hK => ?_
      simp only [List.getElem_toArray, List.getElem_cons_succ, List.getElem_cons_zero]
      rw [if_pos (by rfl)]
      go_simp
      refine (rsub_any HxU.out HU.out _).mono ?_
      obtain ⟨q1, hq1⟩ : ∃ q, q = decide (m ≤ n) := ⟨_, rfl⟩
      rw [← hq1]
      have HQ1 := Lib.hid hq1
      clear hq1
      rintro e a4 ⟨ya, yb, yc, yd, hu1, rfl, hb⟩
      have HyU := Lib.hid hu1
      clear hu1
      have Lm := Lib.hid (L.out.later hb)
      have HXm := Lib.hid (below_at' hb HX.out)
      have HPm := Lib.hid (below_at' hb HP.out)
      clear hb L HX HP
      have L := Lm
      have HX := HXm
      have HP := HPm
      clear Lm HXm HPm
      have hS2 : a4.heap[X]? = some (.cells #[.int .u64 a, .int .u64 b, .int .u64 c, .int .u64 d] 33 (0, 0)) := HX.out
      refine hK _ _ (fun _ _ => hS2) ?_
      clear hK hS
      have hS := hS2
      clear hS2
      refine till_take 5 (some 13) rfl rfl (by kernel_rfl) (by kernel_rfl) (by kernel_rfl) (by kernel_rfl) (by kernel_rfl) (by kernel_rfl) (fun _ _ _ h => h) (.inl ⟨by rfl, fun w' _ => (by go_simp; rfl)⟩) hS ?_
      go_frame
      refine till_take 6 (some 19) rfl rfl (by kernel_rfl) (by kernel_rfl) (by kernel_rfl) (by kernel_rfl) (by kernel_rfl) (by kernel_rfl) (fun _ _ _ h => h) (.inl ⟨by rfl, fun w' _ => (by go_simp; rfl)⟩) hS ?_
      go_frame
      refine till_take 7 (some 20) rfl rfl (by kernel_rfl) (by kernel_rfl) (by kernel_rfl) (by kernel_rfl) (by kernel_rfl) (by kernel_rfl) (fun _ _ _ h => h) (.inl ⟨by rfl, fun w' _ => (by go_simp; rfl)⟩) hS ?_
      go_frame
      refine till_one 9 rfl (by kernel_rfl) fun K hK => ?_
      simp only [List.getElem_toArray, List.getElem_cons_succ, List.getElem_cons_zero]
      rw [if_pos (by rfl)]
      refine wp_store_row_g (t := 33) (old := u0) 33 _ _ rfl P #[.int .u64 ya, .int .u64 yb, .int .u64 yc, .int .u64 yd] rfl rfl HP.out Tryz.sizeU rfl (one_u64 _ _ _ _) ?_
      intro a5 hxP kP zP
      clear zP
      have Lm := Lib.hid (rliv_cells L.out HP.out rfl kP WP.out)
      have HXm := Lib.hid (kP.at HX.out NXP.out)
      have HPm := Lib.hid hxP
      clear hxP kP L HX HP
      have L := Lm
      have HX := HXm
      have HP := HPm
      clear Lm HXm HPm
      have hS2 : a5.heap[X]? = some (.cells #[.int .u64 a, .int .u64 b, .int .u64 c, .int .u64 d] 33 (0, 0)) := HX.out
      refine hK _ _ (fun _ _ => hS2) ?_
      clear hK hS
      have hS := hS2
      clear hS2
      refine till_take 10 (some 10) rfl rfl (by kernel_rfl) (by kernel_rfl) (by kernel_rfl) (by kernel_rfl) (by kernel_rfl) (by kernel_rfl) (fun _ _ _ h => h) (.inl ⟨by rfl, fun w' _ => (by go_simp; rfl)⟩) hS ?_
      go_frame
      refine till_done (by kernel_rfl) ?_ _
      clear hS
      cases q1 with
      | false =>
        have hno : ¬ m ≤ n := of_decide_eq_false HQ1.out.symm
        have HEV : Hid (moveE (getP s.t) k l m = 13) := Lib.hid (by unfold moveE; rw [← HN.out, if_pos hno])
        have HSV : Hid (s.moveA k l m = s) := Lib.hid (move_no (by rw [HEV.out]; decide))
        clear hno HQ1 HyU
        go_wp2_with fail
        go_ret
        rw [HEV.out, HSV.out]; exact L.out.ret
      | true =>
        have HLE : Hid (m ≤ n) := Lib.hid (of_decide_eq_true HQ1.out.symm)
        have hy9 := HyU.out
        first | rw [if_pos trivial] at hy9 | rw [if_pos rfl] at hy9
        have HY := Lib.hid hy9
        clear hy9 HyU HQ1
        by_cases hkl : k = l
        · have HEV : Hid (moveE (getP s.t) k l m = 0) := Lib.hid (by unfold moveE; rw [← HN.out, if_neg (fun e => e HLE.out), if_pos hkl])
          have HSV : Hid (s.moveA k l m = s) := Lib.hid (by unfold PS.moveA; rw [if_neg (fun e => e.2 hkl)])
          have hb9 := eq_txt k l
          rw [decide_eq_true hkl] at hb9
          clear hkl
          go_wp2_with fail
          go_ret
          rw [HEV.out, HSV.out]; exact L.out.ret
        · have HKL := Lib.hid hkl
          have hb9 := eq_txt k l
          rw [decide_eq_false hkl] at hb9
          clear hkl
          go_wp2_with fail
          clear hb9
          obtain ⟨a6, hwz⟩ : ∃ wz, wz = a5.drew := ⟨_, rfl⟩
          have hbz : Below a5.heap.size a5 a6 := by rw [hwz]; exact (Below.refl _ _).drew
          have Lm := Lib.hid (L.out.later hbz)
          have HXm := Lib.hid (below_at' hbz HX.out)
          have HPm := Lib.hid (below_at' hbz HP.out)
          clear hbz L HX HP
          have L := Lm
          have HX := HXm
          have HP := HPm
          clear Lm HXm HPm
          have hS : a6.heap[X]? = some (.cells #[.int .u64 a, .int .u64 b, .int .u64 c, .int .u64 d] 33 (0, 0)) := HX.out
          refine wp_region_till (fun w' => w'.heap[X]? = some (.cells #[.int .u64 a, .int .u64 b, .int .u64 c, .int .u64 d] 33 (0, 0))) 11 11 (by kernel_rfl) rfl ?_
          rw [← hwz]
          clear hwz
          refine till_take 0 (some 27) rfl rfl (by kernel_rfl) (by kernel_rfl) (by kernel_rfl) (by kernel_rfl) (by kernel_rfl) (by kernel_rfl) (fun _ _ _ h => h) (.inl ⟨by rfl, fun w' _ => (by go_simp; rfl)⟩) hS ?_
          go_frame
          refine till_take 1 (some 28) rfl rfl (by kernel_rfl) (by kernel_rfl) (by kernel_rfl) (by kernel_rfl) (by kernel_rfl) (by kernel_rfl) (fun _ _ _ h => h) (.inl ⟨by rfl, fun w' _ => (by go_simp; rfl)⟩) hS ?_
          go_frame
          refine till_take 3 (some 30) rfl rfl (by kernel_rfl) (by kernel_rfl) (by kernel_rfl) (by kernel_rfl) (by kernel_rfl) (by kernel_rfl) (fun _ _ _ h => h) (yields_load (by rfl) 33 _ rfl (.pointer (some ⟨X, 0, none⟩)) rfl (.agg #[.int .u64 a, .int .u64 b, .int .u64 c, .int .u64 d]) (fun w' hS' => load_heap (hS') Tryz.underlying33 rfl Tryz.sizeU)) hS ?_
          go_frame
          refine till_two 2 8 rfl rfl (by kernel_rfl) (fun K hK => ?_) (fun K hK => ?_)
          · simp only [List.getElem_toArray, List.getElem_cons_succ, List.getElem_cons_zero]
            rw [if_pos (by rfl)]
            go_simp
            obtain ⟨Fq, hst⟩ := L.out.get
            refine (ramount_any hst (by have := HZ.out; omega) HF.out l).mono ?_
            rw [← HN2.out]
            rintro e a7 ⟨va, vb, vc, vd, hu1, rfl, hb⟩
            have HvU := Lib.hid hu1
            clear hu1 hst
            have Lm := Lib.hid (L.out.later hb)
            have HXm := Lib.hid (below_at' hb HX.out)
            have HPm := Lib.hid (below_at' hb HP.out)
            clear hb L HX HP
            have L := Lm
            have HX := HXm
            have HP := HPm
            clear Lm HXm HPm
            have hS2 : a7.heap[X]? = some (.cells #[.int .u64 a, .int .u64 b, .int .u64 c, .int .u64 d] 33 (0, 0)) := HX.out
            refine hK _ _ (fun _ _ => hS2) ?_
            clear hK hS
            have hS := hS2
            clear hS2
            refine till_two 4 8 rfl rfl (by kernel_rfl) (fun K hK => ?_) (fun K hK => ?_)
            · simp only [List.getElem_toArray, List.getElem_cons_succ, List.getElem_cons_zero]
              rw [if_pos (by rfl)]
              go_simp
              refine (radd_any HvU.out HU.out _).mono ?_
              obtain ⟨q2, hq2⟩ : ∃ q, q = decide (n2 + m < uMax) := ⟨_, rfl⟩
              rw [← hq2]
              have HQ2 := Lib.hid hq2
              clear hq2
              rintro e a8 ⟨za, zb, zc, zd, hu1, rfl, hb⟩
              have HzU := Lib.hid hu1
              clear hu1
              have Lm := Lib.hid (L.out.later hb)
              have HXm := Lib.hid (below_at' hb HX.out)
              have HPm := Lib.hid (below_at' hb HP.out)
              clear hb L HX HP
              have L := Lm
              have HX := HXm
              have HP := HPm
              clear Lm HXm HPm
              have hS2 : a8.heap[X]? = some (.cells #[.int .u64 a, .int .u64 b, .int .u64 c, .int .u64 d] 33 (0, 0)) := HX.out
              refine hK _ _ (fun _ _ => hS2) ?_
              clear hK hS
              have hS := hS2
              clear hS2
              refine till_take 5 (some 26) rfl rfl (by kernel_rfl) (by kernel_rfl) (by kernel_rfl) (by kernel_rfl) (by kernel_rfl) (by kernel_rfl) (fun _ _ _ h => h) (.inl ⟨by rfl, fun w' _ => (by go_simp; rfl)⟩) hS ?_
              go_frame
              refine till_take 6 (some 32) rfl rfl (by kernel_rfl) (by kernel_rfl) (by kernel_rfl) (by kernel_rfl) (by kernel_rfl) (by kernel_rfl) (fun _ _ _ h => h) (.inl ⟨by rfl, fun w' _ => (by go_simp; rfl)⟩) hS ?_
              go_frame
              refine till_take 7 (some 33) rfl rfl (by kernel_rfl) (by kernel_rfl) (by kernel_rfl) (by kernel_rfl) (by kernel_rfl) (by kernel_rfl) (fun _ _ _ h => h) (.inl ⟨by rfl, fun w' _ => (by go_simp; rfl)⟩) hS ?_
              go_frame
              refine till_one 8 rfl (by kernel_rfl) fun K hK => ?_
              simp only [List.getElem_toArray, List.getElem_cons_succ, List.getElem_cons_zero]
              rw [if_pos (by rfl)]
              refine wp_alloc_g 33 rfl _ _ Tryz.zeroUz rfl ?_
              intro Q a9 hQ
              have WQ : Hid (w.heap.size ≤ Q) := Lib.hid (by rw [hQ.out.eq]; exact (L.out.keep).size)
              have NXQ : Hid (X ≠ Q) := Lib.hid (by have := hQ.out.eq; have := heap_lt HX.out; omega)
              have NPQ : Hid (P ≠ Q) := Lib.hid (by have := hQ.out.eq; have := heap_lt HP.out; omega)
              have HQz := Lib.hid hQ.out.cells; have hbQ := hQ.out.below
              clear hQ
              have Lm := Lib.hid (L.out.later hbQ)
              have HXm := Lib.hid (below_at' hbQ HX.out)
              have HPm := Lib.hid (below_at' hbQ HP.out)
              clear hbQ L HX HP
              have L := Lm
              have HX := HXm
              have HP := HPm
              clear Lm HXm HPm
              have HQ := HQz
              clear HQz
              have hS2 : a9.heap[X]? = some (.cells #[.int .u64 a, .int .u64 b, .int .u64 c, .int .u64 d] 33 (0, 0)) := HX.out
              refine hK _ _ (fun _ _ => hS2) ?_
              clear hK hS
              have hS := hS2
              clear hS2
              refine till_one 9 rfl (by kernel_rfl) fun K hK => ?_
              simp only [List.getElem_toArray, List.getElem_cons_succ, List.getElem_cons_zero]
              rw [if_pos (by rfl)]
              refine wp_store_row_g (t := 33) (old := u0) 33 _ _ rfl Q #[.int .u64 za, .int .u64 zb, .int .u64 zc, .int .u64 zd] rfl rfl HQ.out Tryz.sizeU rfl (one_u64 _ _ _ _) ?_
              intro a10 hxQ kQ zQ
              clear zQ
              have Lm := Lib.hid (rliv_cells L.out HQ.out rfl kQ WQ.out)
              have HXm := Lib.hid (kQ.at HX.out NXQ.out)
              have HPm := Lib.hid (kQ.at HP.out NPQ.out)
              have HQm := Lib.hid hxQ
              clear hxQ kQ L HX HP HQ
              have L := Lm
              have HX := HXm
              have HP := HPm
              have HQ := HQm
              clear Lm HXm HPm HQm
              have hS2 : a10.heap[X]? = some (.cells #[.int .u64 a, .int .u64 b, .int .u64 c, .int .u64 d] 33 (0, 0)) := HX.out
              refine hK _ _ (fun _ _ => hS2) ?_
              clear hK hS
              have hS := hS2
              clear hS2
              refine till_take 10 (some 12) rfl rfl (by kernel_rfl) (by kernel_rfl) (by kernel_rfl) (by kernel_rfl) (by kernel_rfl) (by kernel_rfl) (fun _ _ _ h => h) (.inl ⟨by rfl, fun w' _ => (by go_simp; rfl)⟩) hS ?_
              go_frame
              refine till_done (by kernel_rfl) ?_ _
              clear hS
              cases q2 with
              | false =>
                have hno : ¬ n2 + m < uHalf := by have h9 := of_decide_eq_false HQ2.out.symm; unfold uMax at h9; unfold uHalf; omega
                have HEV : Hid (moveE (getP s.t) k l m = 6) := Lib.hid (by unfold moveE; rw [if_neg (fun e => e (HN.out ▸ HLE.out)), if_neg HKL.out, ← HN2.out, if_neg hno])
                have HSV : Hid (s.moveA k l m = s) := Lib.hid (move_no (by rw [HEV.out]; decide))
                clear hno HQ2 HzU
                go_wp2_with fail
                go_ret
                rw [HEV.out, HSV.out]; exact L.out.ret
              | true =>
                have cQ0 : a10.cell? ⟨Q, 0, none⟩ = some (.int .u64 za) := Lib.cell_of_heap HQ.out 0
                have cQ1 : a10.cell? ⟨Q, 1, none⟩ = some (.int .u64 zb) := Lib.cell_of_heap HQ.out 1
                have cQ2 : a10.cell? ⟨Q, 2, none⟩ = some (.int .u64 zc) := Lib.cell_of_heap HQ.out 2
                have cQ3 : a10.cell? ⟨Q, 3, none⟩ = some (.int .u64 zd) := Lib.cell_of_heap HQ.out 3
                go_wp2_with fail
                clear cQ0 cQ1 cQ2 cQ3
                have hy9 := HzU.out
                first | rw [if_pos trivial] at hy9 | rw [if_pos rfl] at hy9
                have HZZ := Lib.hid hy9
                clear hy9 HzU
                refine (rmAmount_any HZZ.out _).mono ?_
                rintro e a11 ⟨rfl, hb⟩
                have Lm := Lib.hid (L.out.later hb)
                have HXm := Lib.hid (below_at' hb HX.out)
                have HPm := Lib.hid (below_at' hb HP.out)
                have HQm := Lib.hid (below_at' hb HQ.out)
                clear hb L HX HP HQ
                have L := Lm
                have HX := HXm
                have HP := HPm
                have HQ := HQm
                clear Lm HXm HPm HQm
                by_cases hno : n2 + m < uHalf
                · rw [decide_eq_true hno]
                  have HEV : Hid (moveE (getP s.t) k l m = 0) := Lib.hid (by unfold moveE; rw [if_neg (fun e => e (HN.out ▸ HLE.out)), if_neg HKL.out, ← HN2.out, if_pos hno])
                  have HSV : Hid (s.moveA k l m = (s.setAmt k (n - m)).setAmt l (n2 + m)) := Lib.hid (by unfold PS.moveA; rw [if_pos ⟨HEV.out, HKL.out⟩, HN.out, HN2.out])
                  clear hno
                  go_wp2_with (refine wpList_load_row rfl 33 _ rfl P rfl 33 _ _ _ HP.out Tryz.underlying33 rfl Tryz.sizeU ?_)
                  clear HX HP
                  refine (L.out.call fun F hs => rsetAmount_any hs (by have := HZ.out; omega) k HY.out).mono ?_
                  rintro e a12 ⟨rfl, o, hoth⟩
                  have Lm := Lib.hid o
                  have HQm := Lib.hid (hoth.2 Q _ HQ.out rfl rfl)
                  clear o hoth L HQ
                  have L := Lm
                  have HQ := HQm
                  clear Lm HQm
                  go_wp2_with (refine wpList_load_row rfl 33 _ rfl Q rfl 33 _ _ _ HQ.out Tryz.underlying33 rfl Tryz.sizeU ?_)
                  clear HQ
                  refine (L.out.call fun F hs => rsetAmount_any hs (by have h8 := HZ.out; have h9 := sz_setAmt s k (n - m); omega) l HZZ.out).mono ?_
                  rintro e a13 ⟨rfl, o, hoth⟩
                  have Lm := Lib.hid o
                  clear o hoth L
                  have L := Lm
                  clear Lm
                  go_wp2_with fail
                  go_ret
                  rw [HEV.out, HSV.out]; exact L.out.ret
                · rw [decide_eq_false hno]
                  have HEV : Hid (moveE (getP s.t) k l m = 6) := Lib.hid (by unfold moveE; rw [if_neg (fun e => e (HN.out ▸ HLE.out)), if_neg HKL.out, ← HN2.out, if_neg hno])
                  have HSV : Hid (s.moveA k l m = s) := Lib.hid (move_no (by rw [HEV.out]; decide))
                  clear hno
                  go_wp2_with fail
                  go_ret
                  rw [HEV.out, HSV.out]; exact L.out.ret
            · simp only [List.getElem_toArray, List.getElem_cons_succ, List.getElem_cons_zero]
              rw [if_pos (by rfl)]
              refine wp_alloc_g 33 rfl _ _ Tryz.zeroUz rfl ?_
              intro Q a8 hQ
              have WQ : Hid (w.heap.size ≤ Q) := Lib.hid (by rw [hQ.out.eq]; exact (L.out.keep).size)
              have NXQ : Hid (X ≠ Q) := Lib.hid (by have := hQ.out.eq; have := heap_lt HX.out; omega)
              have NPQ : Hid (P ≠ Q) := Lib.hid (by have := hQ.out.eq; have := heap_lt HP.out; omega)
              have HQz := Lib.hid hQ.out.cells; have hbQ := hQ.out.below
              clear hQ
              have Lm := Lib.hid (L.out.later hbQ)
              have HXm := Lib.hid (below_at' hbQ HX.out)
              have HPm := Lib.hid (below_at' hbQ HP.out)
              clear hbQ L HX HP
              have L := Lm
              have HX := HXm
              have HP := HPm
              clear Lm HXm HPm
              have HQ := HQz
              clear HQz
              have hS2 : a8.heap[X]? = some (.cells #[.int .u64 a, .int .u64 b, .int .u64 c, .int .u64 d] 33 (0, 0)) := HX.out
              refine hK _ _ (fun _ _ => hS2) ?_
              clear hK hS
              have hS := hS2
              clear hS2
              refine till_one 4 rfl (by kernel_rfl) fun K hK => ?_
              simp only [List.getElem_toArray, List.getElem_cons_succ, List.getElem_cons_zero]
              rw [if_pos (by rfl)]
              go_simp
              refine (radd_any HvU.out HU.out _).mono ?_
              obtain ⟨q2, hq2⟩ : ∃ q, q = decide (n2 + m < uMax) := ⟨_, rfl⟩
              rw [← hq2]
              have HQ2 := Lib.hid hq2
              clear hq2
              rintro e a9 ⟨za, zb, zc, zd, hu1, rfl, hb⟩
              have HzU := Lib.hid hu1
              clear hu1
              have Lm := Lib.hid (L.out.later hb)
              have HXm := Lib.hid (below_at' hb HX.out)
              have HPm := Lib.hid (below_at' hb HP.out)
              have HQm := Lib.hid (below_at' hb HQ.out)
              clear hb L HX HP HQ
              have L := Lm
              have HX := HXm
              have HP := HPm
              have HQ := HQm
              clear Lm HXm HPm HQm
              have hS2 : a9.heap[X]? = some (.cells #[.int .u64 a, .int .u64 b, .int .u64 c, .int .u64 d] 33 (0, 0)) := HX.out
              refine hK _ _ (fun _ _ => hS2) ?_
              clear hK hS
              have hS := hS2
              clear hS2
              refine till_take 5 (some 26) rfl rfl (by kernel_rfl) (by kernel_rfl) (by kernel_rfl) (by kernel_rfl) (by kernel_rfl) (by kernel_rfl) (fun _ _ _ h => h) (.inl ⟨by rfl, fun w' _ => (by go_simp; rfl)⟩) hS ?_
              go_frame
              refine till_take 6 (some 32) rfl rfl (by kernel_rfl) (by kernel_rfl) (by kernel_rfl) (by kernel_rfl) (by kernel_rfl) (by kernel_rfl) (fun _ _ _ h => h) (.inl ⟨by rfl, fun w' _ => (by go_simp; rfl)⟩) hS ?_
              go_frame
              refine till_take 7 (some 33) rfl rfl (by kernel_rfl) (by kernel_rfl) (by kernel_rfl) (by kernel_rfl) (by kernel_rfl) (by kernel_rfl) (fun _ _ _ h => h) (.inl ⟨by rfl, fun w' _ => (by go_simp; rfl)⟩) hS ?_
              go_frame
              refine till_one 9 rfl (by kernel_rfl) fun K hK => ?_
              simp only [List.getElem_toArray, List.getElem_cons_succ, List.getElem_cons_zero]
              rw [if_pos (by rfl)]
              refine wp_store_row_g (t := 33) (old := u0) 33 _ _ rfl Q #[.int .u64 za, .int .u64 zb, .int .u64 zc, .int .u64 zd] rfl rfl HQ.out Tryz.sizeU rfl (one_u64 _ _ _ _) ?_
              intro a10 hxQ kQ zQ
              clear zQ
              have Lm := Lib.hid (rliv_cells L.out HQ.out rfl kQ WQ.out)
              have HXm := Lib.hid (kQ.at HX.out NXQ.out)
              have HPm := Lib.hid (kQ.at HP.out NPQ.out)
              have HQm := Lib.hid hxQ
              clear hxQ kQ L HX HP HQ
              have L := Lm
              have HX := HXm
              have HP := HPm
              have HQ := HQm
              clear Lm HXm HPm HQm
              have hS2 : a10.heap[X]? = some (.cells #[.int .u64 a, .int .u64 b, .int .u64 c, .int .u64 d] 33 (0, 0)) := HX.out
              refine hK _ _ (fun _ _ => hS2) ?_
              clear hK hS
              have hS := hS2
              clear hS2
              refine till_take 10 (some 12) rfl rfl (by kernel_rfl) (by kernel_rfl) (by kernel_rfl) (by kernel_rfl) (by kernel_rfl) (by kernel_rfl) (fun _ _ _ h => h) (.inl ⟨by rfl, fun w' _ => (by go_simp; rfl)⟩) hS ?_
              go_frame
              refine till_done (by kernel_rfl) ?_ _
              clear hS
              cases q2 with
              | false =>
                have hno : ¬ n2 + m < uHalf := by have h9 := of_decide_eq_false HQ2.out.symm; unfold uMax at h9; unfold uHalf; omega
                have HEV : Hid (moveE (getP s.t) k l m = 6) := Lib.hid (by unfold moveE; rw [if_neg (fun e => e (HN.out ▸ HLE.out)), if_neg HKL.out, ← HN2.out, if_neg hno])
                have HSV : Hid (s.moveA k l m = s) := Lib.hid (move_no (by rw [HEV.out]; decide))
                clear hno HQ2 HzU
                go_wp2_with fail
                go_ret
                rw [HEV.out, HSV.out]; exact L.out.ret
              | true =>
                have cQ0 : a10.cell? ⟨Q, 0, none⟩ = some (.int .u64 za) := Lib.cell_of_heap HQ.out 0
                have cQ1 : a10.cell? ⟨Q, 1, none⟩ = some (.int .u64 zb) := Lib.cell_of_heap HQ.out 1
                have cQ2 : a10.cell? ⟨Q, 2, none⟩ = some (.int .u64 zc) := Lib.cell_of_heap HQ.out 2
                have cQ3 : a10.cell? ⟨Q, 3, none⟩ = some (.int .u64 zd) := Lib.cell_of_heap HQ.out 3
                go_wp2_with fail
                clear cQ0 cQ1 cQ2 cQ3
                have hy9 := HzU.out
                first | rw [if_pos trivial] at hy9 | rw [if_pos rfl] at hy9
                have HZZ := Lib.hid hy9
                clear hy9 HzU
                refine (rmAmount_any HZZ.out _).mono ?_
                rintro e a11 ⟨rfl, hb⟩
                have Lm := Lib.hid (L.out.later hb)
                have HXm := Lib.hid (below_at' hb HX.out)
                have HPm := Lib.hid (below_at' hb HP.out)
                have HQm := Lib.hid (below_at' hb HQ.out)
                clear hb L HX HP HQ
                have L := Lm
                have HX := HXm
                have HP := HPm
                have HQ := HQm
                clear Lm HXm HPm HQm
                by_cases hno : n2 + m < uHalf
                · rw [decide_eq_true hno]
                  have HEV : Hid (moveE (getP s.t) k l m = 0) := Lib.hid (by unfold moveE; rw [if_neg (fun e => e (HN.out ▸ HLE.out)), if_neg HKL.out, ← HN2.out, if_pos hno])
                  have HSV : Hid (s.moveA k l m = (s.setAmt k (n - m)).setAmt l (n2 + m)) := Lib.hid (by unfold PS.moveA; rw [if_pos ⟨HEV.out, HKL.out⟩, HN.out, HN2.out])
                  clear hno
                  go_wp2_with (refine wpList_load_row rfl 33 _ rfl P rfl 33 _ _ _ HP.out Tryz.underlying33 rfl Tryz.sizeU ?_)
                  clear HX HP
                  refine (L.out.call fun F hs => rsetAmount_any hs (by have := HZ.out; omega) k HY.out).mono ?_
                  rintro e a12 ⟨rfl, o, hoth⟩
                  have Lm := Lib.hid o
                  have HQm := Lib.hid (hoth.2 Q _ HQ.out rfl rfl)
                  clear o hoth L HQ
                  have L := Lm
                  have HQ := HQm
                  clear Lm HQm
                  go_wp2_with (refine wpList_load_row rfl 33 _ rfl Q rfl 33 _ _ _ HQ.out Tryz.underlying33 rfl Tryz.sizeU ?_)
                  clear HQ
                  refine (L.out.call fun F hs => rsetAmount_any hs (by have h8 := HZ.out; have h9 := sz_setAmt s k (n - m); omega) l HZZ.out).mono ?_
                  rintro e a13 ⟨rfl, o, hoth⟩
                  have Lm := Lib.hid o
                  clear o hoth L
                  have L := Lm
                  clear Lm
                  go_wp2_with fail
                  go_ret
                  rw [HEV.out, HSV.out]; exact L.out.ret
                · rw [decide_eq_false hno]
                  have HEV : Hid (moveE (getP s.t) k l m = 6) := Lib.hid (by unfold moveE; rw [if_neg (fun e => e (HN.out ▸ HLE.out)), if_neg HKL.out, ← HN2.out, if_neg hno])
                  have HSV : Hid (s.moveA k l m = s) := Lib.hid (move_no (by rw [HEV.out]; decide))
                  clear hno
                  go_wp2_with fail
                  go_ret
                  rw [HEV.out, HSV.out]; exact L.out.ret
          · simp only [List.getElem_toArray, List.getElem_cons_succ, List.getElem_cons_zero]
            rw [if_pos (by rfl)]
            refine wp_alloc_g 33 rfl _ _ Tryz.zeroUz rfl ?_
            intro Q a7 hQ
            have WQ : Hid (w.heap.size ≤ Q) := Lib.hid (by rw [hQ.out.eq]; exact (L.out.keep).size)
            have NXQ : Hid (X ≠ Q) := Lib.hid (by have := hQ.out.eq; have := heap_lt HX.out; omega)
            have NPQ : Hid (P ≠ Q) := Lib.hid (by have := hQ.out.eq; have := heap_lt HP.out; omega)
            have HQz := Lib.hid hQ.out.cells; have hbQ := hQ.out.below
            clear hQ
            have Lm := Lib.hid (L.out.later hbQ)
            have HXm := Lib.hid (below_at' hbQ HX.out)
            have HPm := Lib.hid (below_at' hbQ HP.out)
            clear hbQ L HX HP
            have L := Lm
            have HX := HXm
            have HP := HPm
            clear Lm HXm HPm
            have HQ := HQz
            clear HQz
            have hS2 : a7.heap[X]? = some (.cells #[.int .u64 a, .int .u64 b, .int .u64 c, .int .u64 d] 33 (0, 0)) := HX.out
            refine hK _ _ (fun _ _ => hS2) ?_
            clear hK hS
            have hS := hS2
            clear hS2
            refine till_one 2 rfl (by kernel_rfl) fun K hK => ?_
            simp only [List.getElem_toArray, List.getElem_cons_succ, List.getElem_cons_zero]
            rw [if_pos (by rfl)]
            go_simp
            obtain ⟨Fq, hst⟩ := L.out.get
            refine (ramount_any hst (by have := HZ.out; omega) HF.out l).mono ?_
            rw [← HN2.out]
            rintro e a8 ⟨va, vb, vc, vd, hu1, rfl, hb⟩
            have HvU := Lib.hid hu1
            clear hu1 hst
            have Lm := Lib.hid (L.out.later hb)
            have HXm := Lib.hid (below_at' hb HX.out)
            have HPm := Lib.hid (below_at' hb HP.out)
            have HQm := Lib.hid (below_at' hb HQ.out)
            clear hb L HX HP HQ
            have L := Lm
            have HX := HXm
            have HP := HPm
            have HQ := HQm
            clear Lm HXm HPm HQm
            have hS2 : a8.heap[X]? = some (.cells #[.int .u64 a, .int .u64 b, .int .u64 c, .int .u64 d] 33 (0, 0)) := HX.out
            refine hK _ _ (fun _ _ => hS2) ?_
            clear hK hS
            have hS := hS2
            clear hS2
            refine till_one 4 rfl (by kernel_rfl) fun K hK => ?_
            simp only [List.getElem_toArray, List.getElem_cons_succ, List.getElem_cons_zero]
            rw [if_pos (by rfl)]
            go_simp
            refine (radd_any HvU.out HU.out _).mono ?_
            obtain ⟨q2, hq2⟩ : ∃ q, q = decide (n2 + m < uMax) := ⟨_, rfl⟩
            rw [← hq2]
            have HQ2 := Lib.hid hq2
            clear hq2
            rintro e a9 ⟨za, zb, zc, zd, hu1, rfl, hb⟩
            have HzU := Lib.hid hu1
            clear hu1
            have Lm := Lib.hid (L.out.later hb)
            have HXm := Lib.hid (below_at' hb HX.out)
            have HPm := Lib.hid (below_at' hb HP.out)
            have HQm := Lib.hid (below_at' hb HQ.out)
            clear hb L HX HP HQ
            have L := Lm
            have HX := HXm
            have HP := HPm
            have HQ := HQm
            clear Lm HXm HPm HQm
            have hS2 : a9.heap[X]? = some (.cells #[.int .u64 a, .int .u64 b, .int .u64 c, .int .u64 d] 33 (0, 0)) := HX.out
            refine hK _ _ (fun _ _ => hS2) ?_
            clear hK hS
            have hS := hS2
            clear hS2
            refine till_take 5 (some 26) rfl rfl (by kernel_rfl) (by kernel_rfl) (by kernel_rfl) (by kernel_rfl) (by kernel_rfl) (by kernel_rfl) (fun _ _ _ h => h) (.inl ⟨by rfl, fun w' _ => (by go_simp; rfl)⟩) hS ?_
            go_frame
            refine till_take 6 (some 32) rfl rfl (by kernel_rfl) (by kernel_rfl) (by kernel_rfl) (by kernel_rfl) (by kernel_rfl) (by kernel_rfl) (fun _ _ _ h => h) (.inl ⟨by rfl, fun w' _ => (by go_simp; rfl)⟩) hS ?_
            go_frame
            refine till_take 7 (some 33) rfl rfl (by kernel_rfl) (by kernel_rfl) (by kernel_rfl) (by kernel_rfl) (by kernel_rfl) (by kernel_rfl) (fun _ _ _ h => h) (.inl ⟨by rfl, fun w' _ => (by go_simp; rfl)⟩) hS ?_
            go_frame
            refine till_one 9 rfl (by kernel_rfl) fun K hK => ?_
            simp only [List.getElem_toArray, List.getElem_cons_succ, List.getElem_cons_zero]
            rw [if_pos (by rfl)]
            refine wp_store_row_g (t := 33) (old := u0) 33 _ _ rfl Q #[.int .u64 za, .int .u64 zb, .int .u64 zc, .int .u64 zd] rfl rfl HQ.out Tryz.sizeU rfl (one_u64 _ _ _ _) ?_
            intro a10 hxQ kQ zQ
            clear zQ
            have Lm := Lib.hid (rliv_cells L.out HQ.out rfl kQ WQ.out)
            have HXm := Lib.hid (kQ.at HX.out NXQ.out)
            have HPm := Lib.hid (kQ.at HP.out NPQ.out)
            have HQm := Lib.hid hxQ
            clear hxQ kQ L HX HP HQ
            have L := Lm
            have HX := HXm
            have HP := HPm
            have HQ := HQm
            clear Lm HXm HPm HQm
            have hS2 : a10.heap[X]? = some (.cells #[.int .u64 a, .int .u64 b, .int .u64 c, .int .u64 d] 33 (0, 0)) := HX.out
            refine hK _ _ (fun _ _ => hS2) ?_
            clear hK hS
            have hS := hS2
            clear hS2
            refine till_take 10 (some 12) rfl rfl (by kernel_rfl) (by kernel_rfl) (by kernel_rfl) (by kernel_rfl) (by kernel_rfl) (by kernel_rfl) (fun _ _ _ h => h) (.inl ⟨by rfl, fun w' _ => (by go_simp; rfl)⟩) hS ?_
            go_frame
            refine till_done (by kernel_rfl) ?_ _
            clear hS
            cases q2 with
            | false =>
              have hno : ¬ n2 + m < uHalf := by have h9 := of_decide_eq_false HQ2.out.symm; unfold uMax at h9; unfold uHalf; omega
              have HEV : Hid (moveE (getP s.t) k l m = 6) := Lib.hid (by unfold moveE; rw [if_neg (fun e => e (HN.out ▸ HLE.out)), if_neg HKL.out, ← HN2.out, if_neg hno])
              have HSV : Hid (s.moveA k l m = s) := Lib.hid (move_no (by rw [HEV.out]; decide))
              clear hno HQ2 HzU
              go_wp2_with fail
              go_ret
              rw [HEV.out, HSV.out]; exact L.out.ret
            | true =>
              have cQ0 : a10.cell? ⟨Q, 0, none⟩ = some (.int .u64 za) := Lib.cell_of_heap HQ.out 0
              have cQ1 : a10.cell? ⟨Q, 1, none⟩ = some (.int .u64 zb) := Lib.cell_of_heap HQ.out 1
              have cQ2 : a10.cell? ⟨Q, 2, none⟩ = some (.int .u64 zc) := Lib.cell_of_heap HQ.out 2
              have cQ3 : a10.cell? ⟨Q, 3, none⟩ = some (.int .u64 zd) := Lib.cell_of_heap HQ.out 3
              go_wp2_with fail
              clear cQ0 cQ1 cQ2 cQ3
              have hy9 := HzU.out
              first | rw [if_pos trivial] at hy9 | rw [if_pos rfl] at hy9
              have HZZ := Lib.hid hy9
              clear hy9 HzU
              refine (rmAmount_any HZZ.out _).mono ?_
              rintro e a11 ⟨rfl, hb⟩
              have Lm := Lib.hid (L.out.later hb)
              have HXm := Lib.hid (below_at' hb HX.out)
              have HPm := Lib.hid (below_at' hb HP.out)
              have HQm := Lib.hid (below_at' hb HQ.out)
              clear hb L HX HP HQ
              have L := Lm
              have HX := HXm
              have HP := HPm
              have HQ := HQm
              clear Lm HXm HPm HQm
              by_cases hno : n2 + m < uHalf
              · rw [decide_eq_true hno]
                have HEV : Hid (moveE (getP s.t) k l m = 0) := Lib.hid (by unfold moveE; rw [if_neg (fun e => e (HN.out ▸ HLE.out)), if_neg HKL.out, ← HN2.out, if_pos hno])
                have HSV : Hid (s.moveA k l m = (s.setAmt k (n - m)).setAmt l (n2 + m)) := Lib.hid (by unfold PS.moveA; rw [if_pos ⟨HEV.out, HKL.out⟩, HN.out, HN2.out])
                clear hno
                go_wp2_with (refine wpList_load_row rfl 33 _ rfl P rfl 33 _ _ _ HP.out Tryz.underlying33 rfl Tryz.sizeU ?_)
                clear HX HP
                refine (L.out.call fun F hs => rsetAmount_any hs (by have := HZ.out; omega) k HY.out).mono ?_
                rintro e a12 ⟨rfl, o, hoth⟩
                have Lm := Lib.hid o
                have HQm := Lib.hid (hoth.2 Q _ HQ.out rfl rfl)
                clear o hoth L HQ
                have L := Lm
                have HQ := HQm
                clear Lm HQm
                go_wp2_with (refine wpList_load_row rfl 33 _ rfl Q rfl 33 _ _ _ HQ.out Tryz.underlying33 rfl Tryz.sizeU ?_)
                clear HQ
                refine (L.out.call fun F hs => rsetAmount_any hs (by have h8 := HZ.out; have h9 := sz_setAmt s k (n - m); omega) l HZZ.out).mono ?_
                rintro e a13 ⟨rfl, o, hoth⟩
                have Lm := Lib.hid o
                clear o hoth L
                have L := Lm
                clear Lm
                go_wp2_with fail
                go_ret
                rw [HEV.out, HSV.out]; exact L.out.ret
              · rw [decide_eq_false hno]
                have HEV : Hid (moveE (getP s.t) k l m = 6) := Lib.hid (by unfold moveE; rw [if_neg (fun e => e (HN.out ▸ HLE.out)), if_neg HKL.out, ← HN2.out, if_neg hno])
                have HSV : Hid (s.moveA k l m = s) := Lib.hid (move_no (by rw [HEV.out]; decide))
                clear hno
                go_wp2_with fail
                go_ret
                rw [HEV.out, HSV.out]; exact L.out.ret
  · simp only [List.getElem_toArray, List.getElem_cons_succ, List.getElem_cons_zero]
    rw [if_pos (by rfl)]
    refine wp_alloc_g 33 rfl _ _ Tryz.zeroUz rfl ?_
    intro P a2 hP
    have WP : Hid (w.heap.size ≤ P) := Lib.hid (by rw [hP.out.eq]; exact (L.out.keep).size)
    have NXP : Hid (X ≠ P) := Lib.hid (by have := hP.out.eq; have := heap_lt HX.out; omega)
    have HPz := Lib.hid hP.out.cells; have hbP := hP.out.below
    clear hP
    have Lm := Lib.hid (L.out.later hbP)
    have HXm := Lib.hid (below_at' hbP HX.out)
    clear hbP L HX
    have L := Lm
    have HX := HXm
    clear Lm HXm
    have HP := HPz
    clear HPz
    have hS2 : a2.heap[X]? = some (.cells #[.int .u64 a, .int .u64 b, .int .u64 c, .int .u64 d] 33 (0, 0)) := HX.out
    refine hK _ _ (fun _ _ => hS2) ?_
    clear hK hS
    have hS := hS2
    clear hS2
    refine till_one 2 rfl (by kernel_rfl) fun K hK => ?_
    simp only [List.getElem_toArray, List.getElem_cons_succ, List.getElem_cons_zero]
    rw [if_pos (by rfl)]
    go_simp
    obtain ⟨Fq, hst⟩ := L.out.get
    refine (ramount_any hst (by have := HZ.out; omega) HF.out k).mono ?_
    rw [← HN.out]
    rintro e a3 ⟨xa, xb, xc, xd, hu1, rfl, hb⟩
    have HxU := Lib.hid hu1
    clear hu1 hst
    have Lm := Lib.hid (L.out.later hb)
    have HXm := Lib.hid (below_at' hb HX.out)
    have HPm := Lib.hid (below_at' hb HP.out)
    clear hb L HX HP
    have L := Lm
    have HX := HXm
    have HP := HPm
    clear Lm HXm HPm
    have hS2 : a3.heap[X]? = some (.cells #[.int .u64 a, .int .u64 b, .int .u64 c, .int .u64 d] 33 (0, 0)) := HX.out
    refine hK _ _ (fun _ _ => hS2) ?_
    clear hK hS
    have hS := hS2
    clear hS2
    refine till_one 4 rfl (by kernel_rfl) fun K hK => ?_
    simp only [List.getElem_toArray, List.getElem_cons_succ, List.getElem_cons_zero]
    rw [if_pos (by rfl)]
    go_simp
    refine (rsub_any HxU.out HU.out _).mono ?_
    obtain ⟨q1, hq1⟩ : ∃ q, q = decide (m ≤ n) := ⟨_, rfl⟩
    rw [← hq1]
    have HQ1 := Lib.hid hq1
    clear hq1
    rintro e a4 ⟨ya, yb, yc, yd, hu1, rfl, hb⟩
    have HyU := Lib.hid hu1
    clear hu1
    have Lm := Lib.hid (L.out.later hb)
    have HXm := Lib.hid (below_at' hb HX.out)
    have HPm := Lib.hid (below_at' hb HP.out)
    clear hb L HX HP
    have L := Lm
    have HX := HXm
    have HP := HPm
    clear Lm HXm HPm
    have hS2 : a4.heap[X]? = some (.cells #[.int .u64 a, .int .u64 b, .int .u64 c, .int .u64 d] 33 (0, 0)) := HX.out
    refine hK _ _ (fun _ _ => hS2) ?_
    clear hK hS
    have hS := hS2
    clear hS2
    refine till_take 5 (some 13) rfl rfl (by kernel_rfl) (by kernel_rfl) (by kernel_rfl) (by kernel_rfl) (by kernel_rfl) (by kernel_rfl) (fun _ _ _ h => h) (.inl ⟨by rfl, fun w' _ => (by go_simp; rfl)⟩) hS ?_
    go_frame
    refine till_take 6 (some 19) rfl rfl (by kernel_rfl) (by kernel_rfl) (by kernel_rfl) (by kernel_rfl) (by kernel_rfl) (by kernel_rfl) (fun _ _ _ h => h) (.inl ⟨by rfl, fun w' _ => (by go_simp; rfl)⟩) hS ?_
    go_frame
    refine till_take 7 (some 20) rfl rfl (by kernel_rfl) (by kernel_rfl) (by kernel_rfl) (by kernel_rfl) (by kernel_rfl) (by kernel_rfl) (fun _ _ _ h => h) (.inl ⟨by rfl, fun w' _ => (by go_simp; rfl)⟩) hS ?_
    go_frame
    refine till_one 9 rfl (by kernel_rfl) fun K hK => ?_
    simp only [List.getElem_toArray, List.getElem_cons_succ, List.getElem_cons_zero]
    rw [if_pos (by rfl)]
    refine wp_store_row_g (t := 33) (old := u0) 33 _ _ rfl P #[.int .u64 ya, .int .u64 yb, .int .u64 yc, .int .u64 yd] rfl rfl HP.out Tryz.sizeU rfl (one_u64 _ _ _ _) ?_
    intro a5 hxP kP zP
    clear zP
    have Lm := Lib.hid (rliv_cells L.out HP.out rfl kP WP.out)
    have HXm := Lib.hid (kP.at HX.out NXP.out)
    have HPm := Lib.hid hxP
    clear hxP kP L HX HP
    have L := Lm
    have HX := HXm
    have HP := HPm
    clear Lm HXm HPm
    have hS2 : a5.heap[X]? = some (.cells #[.int .u64 a, .int .u64 b, .int .u64 c, .int .u64 d] 33 (0, 0)) := HX.out
    refine hK _ _ (fun _ _ => hS2) ?_
    clear hK hS
    have hS := hS2
    clear hS2
    refine till_take 10 (some 10) rfl rfl (by kernel_rfl) (by kernel_rfl) (by kernel_rfl) (by kernel_rfl) (by kernel_rfl) (by kernel_rfl) (fun _ _ _ h => h) (.inl ⟨by rfl, fun w' _ => (by go_simp; rfl)⟩) hS ?_
    go_frame
    refine till_done (by kernel_rfl) ?_ _
    clear hS
    cases q1 with
    | false =>
      have hno : ¬ m ≤ n := of_decide_eq_false HQ1.out.symm
      have HEV : Hid (moveE (getP s.t) k l m = 13) := Lib.hid (by unfold moveE; rw [← HN.out, if_pos hno])
      have HSV : Hid (s.moveA k l m = s) := Lib.hid (move_no (by rw [HEV.out]; decide))
      clear hno HQ1 HyU
      go_wp2_with fail
      go_ret
      rw [HEV.out, HSV.out]; exact L.out.ret
    | true =>
      have HLE : Hid (m ≤ n) := Lib.hid (of_decide_eq_true HQ1.out.symm)
      have hy9 := HyU.out
      first | rw [if_pos trivial] at hy9 | rw [if_pos rfl] at hy9
      have HY := Lib.hid hy9
      clear hy9 HyU HQ1
      by_cases hkl : k = l
      · have HEV : Hid (moveE (getP s.t) k l m = 0) := Lib.hid (by unfold moveE; rw [← HN.out, if_neg (fun e => e HLE.out), if_pos hkl])
        have HSV : Hid (s.moveA k l m = s) := Lib.hid (by unfold PS.moveA; rw [if_neg (fun e => e.2 hkl)])
        have hb9 := eq_txt k l
        rw [decide_eq_true hkl] at hb9
        clear hkl
        go_wp2_with fail
        go_ret
        rw [HEV.out, HSV.out]; exact L.out.ret
      · have HKL := Lib.hid hkl
        have hb9 := eq_txt k l
        rw [decide_eq_false hkl] at hb9
        clear hkl
        go_wp2_with fail
        clear hb9
        obtain ⟨a6, hwz⟩ : ∃ wz, wz = a5.drew := ⟨_, rfl⟩
        have hbz : Below a5.heap.size a5 a6 := by rw [hwz]; exact (Below.refl _ _).drew
        have Lm := Lib.hid (L.out.later hbz)
        have HXm := Lib.hid (below_at' hbz HX.out)
        have HPm := Lib.hid (below_at' hbz HP.out)
        clear hbz L HX HP
        have L := Lm
        have HX := HXm
        have HP := HPm
        clear Lm HXm HPm
        have hS : a6.heap[X]? = some (.cells #[.int .u64 a, .int .u64 b, .int .u64 c, .int .u64 d] 33 (0, 0)) := HX.out
        refine wp_region_till (fun w' => w'.heap[X]? = some (.cells #[.int .u64 a, .int .u64 b, .int .u64 c, .int .u64 d] 33 (0, 0))) 11 11 (by kernel_rfl) rfl ?_
        rw [← hwz]
        clear hwz
        refine till_take 0 (some 27) rfl rfl (by kernel_rfl) (by kernel_rfl) (by kernel_rfl) (by kernel_rfl) (by kernel_rfl) (by kernel_rfl) (fun _ _ _ h => h) (.inl ⟨by rfl, fun w' _ => (by go_simp; rfl)⟩) hS ?_
        go_frame
        refine till_take 1 (some 28) rfl rfl (by kernel_rfl) (by kernel_rfl) (by kernel_rfl) (by kernel_rfl) (by kernel_rfl) (by kernel_rfl) (fun _ _ _ h => h) (.inl ⟨by rfl, fun w' _ => (by go_simp; rfl)⟩) hS ?_
        go_frame
        refine till_take 3 (some 30) rfl rfl (by kernel_rfl) (by kernel_rfl) (by kernel_rfl) (by kernel_rfl) (by kernel_rfl) (by kernel_rfl) (fun _ _ _ h => h) (yields_load (by rfl) 33 _ rfl (.pointer (some ⟨X, 0, none⟩)) rfl (.agg #[.int .u64 a, .int .u64 b, .int .u64 c, .int .u64 d]) (fun w' hS' => load_heap (hS') Tryz.underlying33 rfl Tryz.sizeU)) hS ?_
        go_frame
        refine till_two 2 8 rfl rfl (by kernel_rfl) (fun K hK => ?_) (fun K hK => ?_)
        · simp only [List.getElem_toArray, List.getElem_cons_succ, List.getElem_cons_zero]
          rw [if_pos (by rfl)]
          go_simp
          obtain ⟨Fq, hst⟩ := L.out.get
          refine (ramount_any hst (by have := HZ.out; omega) HF.out l).mono ?_
          rw [← HN2.out]
          rintro e a7 ⟨va, vb, vc, vd, hu1, rfl, hb⟩
          have HvU := Lib.hid hu1
          clear hu1 hst
          have Lm := Lib.hid (L.out.later hb)
          have HXm := Lib.hid (below_at' hb HX.out)
          have HPm := Lib.hid (below_at' hb HP.out)
          clear hb L HX HP
          have L := Lm
          have HX := HXm
          have HP := HPm
          clear Lm HXm HPm
          have hS2 : a7.heap[X]? = some (.cells #[.int .u64 a, .int .u64 b, .int .u64 c, .int .u64 d] 33 (0, 0)) := HX.out
          refine hK _ _ (fun _ _ => hS2) ?_
          clear hK hS
          have hS := hS2
          clear hS2
          refine till_two 4 8 rfl rfl (by kernel_rfl) (fun K hK => ?_) (fun K hK => ?_)
          · simp only [List.getElem_toArray, List.getElem_cons_succ, List.getElem_cons_zero]
            rw [if_pos (by rfl)]
            go_simp
            refine (radd_any HvU.out HU.out _).mono ?_
            obtain ⟨q2, hq2⟩ : ∃ q, q = decide (n2 + m < uMax) := ⟨_, rfl⟩
            rw [← hq2]
            have HQ2 := Lib.hid hq2
            clear hq2
            rintro e a8 ⟨za, zb, zc, zd, hu1, rfl, hb⟩
            have HzU := Lib.hid hu1
            clear hu1
            have Lm := Lib.hid (L.out.later hb)
            have HXm := Lib.hid (below_at' hb HX.out)
            have HPm := Lib.hid (below_at' hb HP.out)
            clear hb L HX HP
            have L := Lm
            have HX := HXm
            have HP := HPm
            clear Lm HXm HPm
            have hS2 : a8.heap[X]? = some (.cells #[.int .u64 a, .int .u64 b, .int .u64 c, .int .u64 d] 33 (0, 0)) := HX.out
            refine hK _ _ (fun _ _ => hS2) ?_
            clear hK hS
            have hS := hS2
            clear hS2
            refine till_take 5 (some 26) rfl rfl (by kernel_rfl) (by kernel_rfl) (by kernel_rfl) (by kernel_rfl) (by kernel_rfl) (by kernel_rfl) (fun _ _ _ h => h) (.inl ⟨by rfl, fun w' _ => (by go_simp; rfl)⟩) hS ?_
            go_frame
            refine till_take 6 (some 32) rfl rfl (by kernel_rfl) (by kernel_rfl) (by kernel_rfl) (by kernel_rfl) (by kernel_rfl) (by kernel_rfl) (fun _ _ _ h => h) (.inl ⟨by rfl, fun w' _ => (by go_simp; rfl)⟩) hS ?_
            go_frame
            refine till_take 7 (some 33) rfl rfl (by kernel_rfl) (by kernel_rfl) (by kernel_rfl) (by kernel_rfl) (by kernel_rfl) (by kernel_rfl) (fun _ _ _ h => h) (.inl ⟨by rfl, fun w' _ => (by go_simp; rfl)⟩) hS ?_
            go_frame
            refine till_one 8 rfl (by kernel_rfl) fun K hK => ?_
            simp only [List.getElem_toArray, List.getElem_cons_succ, List.getElem_cons_zero]
            rw [if_pos (by rfl)]
            refine wp_alloc_g 33 rfl _ _ Tryz.zeroUz rfl ?_
            intro Q a9 hQ
            have WQ : Hid (w.heap.size ≤ Q) := Lib.hid (by rw [hQ.out.eq]; exact (L.out.keep).size)
            have NXQ : Hid (X ≠ Q) := Lib.hid (by have := hQ.out.eq; have := heap_lt HX.out; omega)
            have NPQ : Hid (P ≠ Q) := Lib.hid (by have := hQ.out.eq; have := heap_lt HP.out; omega)
            have HQz := Lib.hid hQ.out.cells; have hbQ := hQ.out.below
            clear hQ
            have Lm := Lib.hid (L.out.later hbQ)
            have HXm := Lib.hid (below_at' hbQ HX.out)
            have HPm := Lib.hid (below_at' hbQ HP.out)
            clear hbQ L HX HP
            have L := Lm
            have HX := HXm
            have HP := HPm
            clear Lm HXm HPm
            have HQ := HQz
            clear HQz
            have hS2 : a9.heap[X]? = some (.cells #[.int .u64 a, .int .u64 b, .int .u64 c, .int .u64 d] 33 (0, 0)) := HX.out
            refine hK _ _ (fun _ _ => hS2) ?_
            clear hK hS
            have hS := hS2
            clear hS2
            refine till_one 9 rfl (by kernel_rfl) fun K hK => ?_
            simp only [List.getElem_toArray, List.getElem_cons_succ, List.getElem_cons_zero]
            rw [if_pos (by rfl)]
            refine wp_store_row_g (t := 33) (old := u0) 33 _ _ rfl Q #[.int .u64 za, .int .u64 zb, .int .u64 zc, .int .u64 zd] rfl rfl HQ.out Tryz.sizeU rfl (one_u64 _ _ _ _) ?_
            intro a10 hxQ kQ zQ
            clear zQ
            have Lm := Lib.hid (rliv_cells L.out HQ.out rfl kQ WQ.out)
            have HXm := Lib.hid (kQ.at HX.out NXQ.out)
            have HPm := Lib.hid (kQ.at HP.out NPQ.out)
            have HQm := Lib.hid hxQ
            clear hxQ kQ L HX HP HQ
            have L := Lm
            have HX := HXm
            have HP := HPm
            have HQ := HQm
            clear Lm HXm HPm HQm
            have hS2 : a10.heap[X]? = some (.cells #[.int .u64 a, .int .u64 b, .int .u64 c, .int .u64 d] 33 (0, 0)) := HX.out
            refine hK _ _ (fun _ _ => hS2) ?_
            clear hK hS
            have hS := hS2
            clear hS2
            refine till_take 10 (some 12) rfl rfl (by kernel_rfl) (by kernel_rfl) (by kernel_rfl) (by kernel_rfl) (by kernel_rfl) (by kernel_rfl) (fun _ _ _ h => h) (.inl ⟨by rfl, fun w' _ => (by go_simp; rfl)⟩) hS ?_
            go_frame
            refine till_done (by kernel_rfl) ?_ _
            clear hS
            cases q2 with
            | false =>
              have hno : ¬ n2 + m < uHalf := by have h9 := of_decide_eq_false HQ2.out.symm; unfold uMax at h9; unfold uHalf; omega
              have HEV : Hid (moveE (getP s.t) k l m = 6) := Lib.hid (by unfold moveE; rw [if_neg (fun e => e (HN.out ▸ HLE.out)), if_neg HKL.out, ← HN2.out, if_neg hno])
              have HSV : Hid (s.moveA k l m = s) := Lib.hid (move_no (by rw [HEV.out]; decide))
              clear hno HQ2 HzU
              go_wp2_with fail
              go_ret
              rw [HEV.out, HSV.out]; exact L.out.ret
            | true =>
              have cQ0 : a10.cell? ⟨Q, 0, none⟩ = some (.int .u64 za) := Lib.cell_of_heap HQ.out 0
              have cQ1 : a10.cell? ⟨Q, 1, none⟩ = some (.int .u64 zb) := Lib.cell_of_heap HQ.out 1
              have cQ2 : a10.cell? ⟨Q, 2, none⟩ = some (.int .u64 zc) := Lib.cell_of_heap HQ.out 2
              have cQ3 : a10.cell? ⟨Q, 3, none⟩ = some (.int .u64 zd) := Lib.cell_of_heap HQ.out 3
              go_wp2_with fail
              clear cQ0 cQ1 cQ2 cQ3
              have hy9 := HzU.out
              first | rw [if_pos trivial] at hy9 | rw [if_pos rfl] at hy9
              have HZZ := Lib.hid hy9
              clear hy9 HzU
              refine (rmAmount_any HZZ.out _).mono ?_
              rintro e a11 ⟨rfl, hb⟩
              have Lm := Lib.hid (L.out.later hb)
              have HXm := Lib.hid (below_at' hb HX.out)
              have HPm := Lib.hid (below_at' hb HP.out)
              have HQm := Lib.hid (below_at' hb HQ.out)
              clear hb L HX HP HQ
              have L := Lm
              have HX := HXm
              have HP := HPm
              have HQ := HQm
              clear Lm HXm HPm HQm
              by_cases hno : n2 + m < uHalf
              · rw [decide_eq_true hno]
                have HEV : Hid (moveE (getP s.t) k l m = 0) := Lib.hid (by unfold moveE; rw [if_neg (fun e => e (HN.out ▸ HLE.out)), if_neg HKL.out, ← HN2.out, if_pos hno])
                have HSV : Hid (s.moveA k l m = (s.setAmt k (n - m)).setAmt l (n2 + m)) := Lib.hid (by unfold PS.moveA; rw [if_pos ⟨HEV.out, HKL.out⟩, HN.out, HN2.out])
                clear hno
                go_wp2_with (refine wpList_load_row rfl 33 _ rfl P rfl 33 _ _ _ HP.out Tryz.underlying33 rfl Tryz.sizeU ?_)
                clear HX HP
                refine (L.out.call fun F hs => rsetAmount_any hs (by have := HZ.out; omega) k HY.out).mono ?_
                rintro e a12 ⟨rfl, o, hoth⟩
                have Lm := Lib.hid o
                have HQm := Lib.hid (hoth.2 Q _ HQ.out rfl rfl)
                clear o hoth L HQ
                have L := Lm
                have HQ := HQm
                clear Lm HQm
                go_wp2_with (refine wpList_load_row rfl 33 _ rfl Q rfl 33 _ _ _ HQ.out Tryz.underlying33 rfl Tryz.sizeU ?_)
                clear HQ
                refine (L.out.call fun F hs => rsetAmount_any hs (by have h8 := HZ.out; have h9 := sz_setAmt s k (n - m); omega) l HZZ.out).mono ?_
                rintro e a13 ⟨rfl, o, hoth⟩
                have Lm := Lib.hid o
                clear o hoth L
                have L := Lm
                clear Lm
                go_wp2_with fail
                go_ret
                rw [HEV.out, HSV.out]; exact L.out.ret
              · rw [decide_eq_false hno]
                have HEV : Hid (moveE (getP s.t) k l m = 6) := Lib.hid (by unfold moveE; rw [if_neg (fun e => e (HN.out ▸ HLE.out)), if_neg HKL.out, ← HN2.out, if_neg hno])
                have HSV : Hid (s.moveA k l m = s) := Lib.hid (move_no (by rw [HEV.out]; decide))
                clear hno
                go_wp2_with fail
                go_ret
                rw [HEV.out, HSV.out]; exact L.out.ret
          · simp only [List.getElem_toArray, List.getElem_cons_succ, List.getElem_cons_zero]
            rw [if_pos (by rfl)]
            refine wp_alloc_g 33 rfl _ _ Tryz.zeroUz rfl ?_
            intro Q a8 hQ
            have WQ : Hid (w.heap.size ≤ Q) := Lib.hid (by rw [hQ.out.eq]; exact (L.out.keep).size)
            have NXQ : Hid (X ≠ Q) := Lib.hid (by have := hQ.out.eq; have := heap_lt HX.out; omega)
            have NPQ : Hid (P ≠ Q) := Lib.hid (by have := hQ.out.eq; have := heap_lt HP.out; omega)
            have HQz := Lib.hid hQ.out.cells; have hbQ := hQ.out.below
            clear hQ
            have Lm := Lib.hid (L.out.later hbQ)
            have HXm := Lib.hid (below_at' hbQ HX.out)
            have HPm := Lib.hid (below_at' hbQ HP.out)
            clear hbQ L HX HP
            have L := Lm
            have HX := HXm
            have HP := HPm
            clear Lm HXm HPm
            have HQ := HQz
            clear HQz
            have hS2 : a8.heap[X]? = some (.cells #[.int .u64 a, .int .u64 b, .int .u64 c, .int .u64 d] 33 (0, 0)) := HX.out
            refine hK _ _ (fun _ _ => hS2) ?_
            clear hK hS
            have hS := hS2
            clear hS2
            refine till_one 4 rfl (by kernel_rfl) fun K hK => ?_
            simp only [List.getElem_toArray, List.getElem_cons_succ, List.getElem_cons_zero]
            rw [if_pos (by rfl)]
            go_simp
            refine (radd_any HvU.out HU.out _).mono ?_
            obtain ⟨q2, hq2⟩ : ∃ q, q = decide (n2 + m < uMax) := ⟨_, rfl⟩
            rw [← hq2]
            have HQ2 := Lib.hid hq2
            clear hq2
            rintro e a9 ⟨za, zb, zc, zd, hu1, rfl, hb⟩
            have HzU := Lib.hid hu1
            clear hu1
            have Lm := Lib.hid (L.out.later hb)
            have HXm := Lib.hid (below_at' hb HX.out)
            have HPm := Lib.hid (below_at' hb HP.out)
            have HQm := Lib.hid (below_at' hb HQ.out)
            clear hb L HX HP HQ
            have L := Lm
            have HX := HXm
            have HP := HPm
            have HQ := HQm
            clear Lm HXm HPm HQm
            have hS2 : a9.heap[X]? = some (.cells #[.int .u64 a, .int .u64 b, .int .u64 c, .int .u64 d] 33 (0, 0)) := HX.out
            refine hK _ _ (fun _ _ => hS2) ?_
            clear hK hS
            have hS := hS2
            clear hS2
            refine till_take 5 (some 26) rfl rfl (by kernel_rfl) (by kernel_rfl) (by kernel_rfl) (by kernel_rfl) (by kernel_rfl) (by kernel_rfl) (fun _ _ _ h => h) (.inl ⟨by rfl, fun w' _ => (by go_simp; rfl)⟩) hS ?_
            go_frame
            refine till_take 6 (some 32) rfl rfl (by kernel_rfl) (by kernel_rfl) (by kernel_rfl) (by kernel_rfl) (by kernel_rfl) (by kernel_rfl) (fun _ _ _ h => h) (.inl ⟨by rfl, fun w' _ => (by go_simp; rfl)⟩) hS ?_
            go_frame
            refine till_take 7 (some 33) rfl rfl (by kernel_rfl) (by kernel_rfl) (by kernel_rfl) (by kernel_rfl) (by kernel_rfl) (by kernel_rfl) (fun _ _ _ h => h) (.inl ⟨by rfl, fun w' _ => (by go_simp; rfl)⟩) hS ?_
            go_frame
            refine till_one 9 rfl (by kernel_rfl) fun K hK => ?_
            simp only [List.getElem_toArray, List.getElem_cons_succ, List.getElem_cons_zero]
            rw [if_pos (by rfl)]
            refine wp_store_row_g (t := 33) (old := u0) 33 _ _ rfl Q #[.int .u64 za, .int .u64 zb, .int .u64 zc, .int .u64 zd] rfl rfl HQ.out Tryz.sizeU rfl (one_u64 _ _ _ _) ?_
            intro a10 hxQ kQ zQ
            clear zQ
            have Lm := Lib.hid (rliv_cells L.out HQ.out rfl kQ WQ.out)
            have HXm := Lib.hid (kQ.at HX.out NXQ.out)
            have HPm := Lib.hid (kQ.at HP.out NPQ.out)
            have HQm := Lib.hid hxQ
            clear hxQ kQ L HX HP HQ
            have L := Lm
            have HX := HXm
            have HP := HPm
            have HQ := HQm
            clear Lm HXm HPm HQm
            have hS2 : a10.heap[X]? = some (.cells #[.int .u64 a, .int .u64 b, .int .u64 c, .int .u64 d] 33 (0, 0)) := HX.out
            refine hK _ _ (fun _ _ => hS2) ?_
            clear hK hS
            have hS := hS2
            clear hS2
            refine till_take 10 (some 12) rfl rfl (by kernel_rfl) (by kernel_rfl) (by kernel_rfl) (by kernel_rfl) (by kernel_rfl) (by kernel_rfl) (fun _ _ _ h => h) (.inl ⟨by rfl, fun w' _ => (by go_simp; rfl)⟩) hS ?_
            go_frame
            refine till_done (by kernel_rfl) ?_ _
            clear hS
            cases q2 with
            | false =>
              have hno : ¬ n2 + m < uHalf := by have h9 := of_decide_eq_false HQ2.out.symm; unfold uMax at h9; unfold uHalf; omega
              have HEV : Hid (moveE (getP s.t) k l m = 6) := Lib.hid (by unfold moveE; rw [if_neg (fun e => e (HN.out ▸ HLE.out)), if_neg HKL.out, ← HN2.out, if_neg hno])
              have HSV : Hid (s.moveA k l m = s) := Lib.hid (move_no (by rw [HEV.out]; decide))
              clear hno HQ2 HzU
              go_wp2_with fail
              go_ret
              rw [HEV.out, HSV.out]; exact L.out.ret
            | true =>
              have cQ0 : a10.cell? ⟨Q, 0, none⟩ = some (.int .u64 za) := Lib.cell_of_heap HQ.out 0
              have cQ1 : a10.cell? ⟨Q, 1, none⟩ = some (.int .u64 zb) := Lib.cell_of_heap HQ.out 1
              have cQ2 : a10.cell? ⟨Q, 2, none⟩ = some (.int .u64 zc) := Lib.cell_of_heap HQ.out 2
              have cQ3 : a10.cell? ⟨Q, 3, none⟩ = some (.int .u64 zd) := Lib.cell_of_heap HQ.out 3
              go_wp2_with fail
              clear cQ0 cQ1 cQ2 cQ3
              have hy9 := HzU.out
              first | rw [if_pos trivial] at hy9 | rw [if_pos rfl] at hy9
              have HZZ := Lib.hid hy9
              clear hy9 HzU
              refine (rmAmount_any HZZ.out _).mono ?_
              rintro e a11 ⟨rfl, hb⟩
              have Lm := Lib.hid (L.out.later hb)
              have HXm := Lib.hid (below_at' hb HX.out)
              have HPm := Lib.hid (below_at' hb HP.out)
              have HQm := Lib.hid (below_at' hb HQ.out)
              clear hb L HX HP HQ
              have L := Lm
              have HX := HXm
              have HP := HPm
              have HQ := HQm
              clear Lm HXm HPm HQm
              by_cases hno : n2 + m < uHalf
              · rw [decide_eq_true hno]
                have HEV : Hid (moveE (getP s.t) k l m = 0) := Lib.hid (by unfold moveE; rw [if_neg (fun e => e (HN.out ▸ HLE.out)), if_neg HKL.out, ← HN2.out, if_pos hno])
                have HSV : Hid (s.moveA k l m = (s.setAmt k (n - m)).setAmt l (n2 + m)) := Lib.hid (by unfold PS.moveA; rw [if_pos ⟨HEV.out, HKL.out⟩, HN.out, HN2.out])
                clear hno
                go_wp2_with (refine wpList_load_row rfl 33 _ rfl P rfl 33 _ _ _ HP.out Tryz.underlying33 rfl Tryz.sizeU ?_)
                clear HX HP
                refine (L.out.call fun F hs => rsetAmount_any hs (by have := HZ.out; omega) k HY.out).mono ?_
                rintro e a12 ⟨rfl, o, hoth⟩
                have Lm := Lib.hid o
                have HQm := Lib.hid (hoth.2 Q _ HQ.out rfl rfl)
                clear o hoth L HQ
                have L := Lm
                have HQ := HQm
                clear Lm HQm
                go_wp2_with (refine wpList_load_row rfl 33 _ rfl Q rfl 33 _ _ _ HQ.out Tryz.underlying33 rfl Tryz.sizeU ?_)
                clear HQ
                refine (L.out.call fun F hs => rsetAmount_any hs (by have h8 := HZ.out; have h9 := sz_setAmt s k (n - m); omega) l HZZ.out).mono ?_
                rintro e a13 ⟨rfl, o, hoth⟩
                have Lm := Lib.hid o
                clear o hoth L
                have L := Lm
                clear Lm
                go_wp2_with fail
                go_ret
                rw [HEV.out, HSV.out]; exact L.out.ret
              · rw [decide_eq_false hno]
                have HEV : Hid (moveE (getP s.t) k l m = 6) := Lib.hid (by unfold moveE; rw [if_neg (fun e => e (HN.out ▸ HLE.out)), if_neg HKL.out, ← HN2.out, if_neg hno])
                have HSV : Hid (s.moveA k l m = s) := Lib.hid (move_no (by rw [HEV.out]; decide))
                clear hno
                go_wp2_with fail
                go_ret
                rw [HEV.out, HSV.out]; exact L.out.ret
        · simp only [List.getElem_toArray, List.getElem_cons_succ, List.getElem_cons_zero]
          rw [if_pos (by rfl)]
          refine wp_alloc_g 33 rfl _ _ Tryz.zeroUz rfl ?_
          intro Q a7 hQ
          have WQ : Hid (w.heap.size ≤ Q) := Lib.hid (by rw [hQ.out.eq]; exact (L.out.keep).size)
          have NXQ : Hid (X ≠ Q) := Lib.hid (by have := hQ.out.eq; have := heap_lt HX.out; omega)
          have NPQ : Hid (P ≠ Q) := Lib.hid (by have := hQ.out.eq; have := heap_lt HP.out; omega)
          have HQz := Lib.hid hQ.out.cells; have hbQ := hQ.out.below
          clear hQ
          have Lm := Lib.hid (L.out.later hbQ)
          have HXm := Lib.hid (below_at' hbQ HX.out)
          have HPm := Lib.hid (below_at' hbQ HP.out)
          clear hbQ L HX HP
          have L := Lm
          have HX := HXm
          have HP := HPm
          clear Lm HXm HPm
          have HQ := HQz
          clear HQz
          have hS2 : a7.heap[X]? = some (.cells #[.int .u64 a, .int .u64 b, .int .u64 c, .int .u64 d] 33 (0, 0)) := HX.out
          refine hK _ _ (fun _ _ => hS2) ?_
          clear hK hS
          have hS := hS2
          clear hS2
          refine till_one 2 rfl (by kernel_rfl) fun K hK => ?_
          simp only [List.getElem_toArray, List.getElem_cons_succ, List.getElem_cons_zero]
          rw [if_pos (by rfl)]
          go_simp
          obtain ⟨Fq, hst⟩ := L.out.get
          refine (ramount_any hst (by have := HZ.out; omega) HF.out l).mono ?_
          rw [← HN2.out]
          rintro e a8 ⟨va, vb, vc, vd, hu1, rfl, hb⟩
          have HvU := Lib.hid hu1
          clear hu1 hst
          have Lm := Lib.hid (L.out.later hb)
          have HXm := Lib.hid (below_at' hb HX.out)
          have HPm := Lib.hid (below_at' hb HP.out)
          have HQm := Lib.hid (below_at' hb HQ.out)
          clear hb L HX HP HQ
          have L := Lm
          have HX := HXm
          have HP := HPm
          have HQ := HQm
          clear Lm HXm HPm HQm
          have hS2 : a8.heap[X]? = some (.cells #[.int .u64 a, .int .u64 b, .int .u64 c, .int .u64 d] 33 (0, 0)) := HX.out
          refine hK _ _ (fun _ _ => hS2) ?_
          clear hK hS
          have hS := hS2
          clear hS2
          refine till_one 4 rfl (by kernel_rfl) fun K hK => ?_
          simp only [List.getElem_toArray, List.getElem_cons_succ, List.getElem_cons_zero]
          rw [if_pos (by rfl)]
          go_simp
          refine (radd_any HvU.out HU.out _).mono ?_
          obtain ⟨q2, hq2⟩ : ∃ q, q = decide (n2 + m < uMax) := ⟨_, rfl⟩
          rw [← hq2]
          have HQ2 := Lib.hid hq2
          clear hq2
          rintro e a9 ⟨za, zb, zc, zd, hu1, rfl, hb⟩
          have HzU := Lib.hid hu1
          clear hu1
          have Lm := Lib.hid (L.out.later hb)
          have HXm := Lib.hid (below_at' hb HX.out)
          have HPm := Lib.hid (below_at' hb HP.out)
          have HQm := Lib.hid (below_at' hb HQ.out)
          clear hb L HX HP HQ
          have L := Lm
          have HX := HXm
          have HP := HPm
          have HQ := HQm
          clear Lm HXm HPm HQm
          have hS2 : a9.heap[X]? = some (.cells #[.int .u64 a, .int .u64 b, .int .u64 c, .int .u64 d] 33 (0, 0)) := HX.out
          refine hK _ _ (fun _ _ => hS2) ?_
          clear hK hS
          have hS := hS2
          clear hS2
          refine till_take 5 (some 26) rfl rfl (by kernel_rfl) (by kernel_rfl) (by kernel_rfl) (by kernel_rfl) (by kernel_rfl) (by kernel_rfl) (fun _ _ _ h => h) (.inl ⟨by rfl, fun w' _ => (by go_simp; rfl)⟩) hS ?_
          go_frame
          refine till_take 6 (some 32) rfl rfl (by kernel_rfl) (by kernel_rfl) (by kernel_rfl) (by kernel_rfl) (by kernel_rfl) (by kernel_rfl) (fun _ _ _ h => h) (.inl ⟨by rfl, fun w' _ => (by go_simp; rfl)⟩) hS ?_
          go_frame
          refine till_take 7 (some 33) rfl rfl (by kernel_rfl) (by kernel_rfl) (by kernel_rfl) (by kernel_rfl) (by kernel_rfl) (by kernel_rfl) (fun _ _ _ h => h) (.inl ⟨by rfl, fun w' _ => (by go_simp; rfl)⟩) hS ?_
          go_frame
          refine till_one 9 rfl (by kernel_rfl) fun K hK => ?_
          simp only [List.getElem_toArray, List.getElem_cons_succ, List.getElem_cons_zero]
          rw [if_pos (by rfl)]
          refine wp_store_row_g (t := 33) (old := u0) 33 _ _ rfl Q #[.int .u64 za, .int .u64 zb, .int .u64 zc, .int .u64 zd] rfl rfl HQ.out Tryz.sizeU rfl (one_u64 _ _ _ _) ?_
          intro a10 hxQ kQ zQ
          clear zQ
          have Lm := Lib.hid (rliv_cells L.out HQ.out rfl kQ WQ.out)
          have HXm := Lib.hid (kQ.at HX.out NXQ.out)
          have HPm := Lib.hid (kQ.at HP.out NPQ.out)
          have HQm := Lib.hid hxQ
          clear hxQ kQ L HX HP HQ
          have L := Lm
          have HX := HXm
          have HP := HPm
          have HQ := HQm
          clear Lm HXm HPm HQm
          have hS2 : a10.heap[X]? = some (.cells #[.int .u64 a, .int .u64 b, .int .u64 c, .int .u64 d] 33 (0, 0)) := HX.out
          refine hK _ _ (fun _ _ => hS2) ?_
          clear hK hS
          have hS := hS2
          clear hS2
          refine till_take 10 (some 12) rfl rfl (by kernel_rfl) (by kernel_rfl) (by kernel_rfl) (by kernel_rfl) (by kernel_rfl) (by kernel_rfl) (fun _ _ _ h => h) (.inl ⟨by rfl, fun w' _ => (by go_simp; rfl)⟩) hS ?_
          go_frame
          refine till_done (by kernel_rfl) ?_ _
          clear hS
          cases q2 with
          | false =>
            have hno : ¬ n2 + m < uHalf := by have h9 := of_decide_eq_false HQ2.out.symm; unfold uMax at h9; unfold uHalf; omega
            have HEV : Hid (moveE (getP s.t) k l m = 6) := Lib.hid (by unfold moveE; rw [if_neg (fun e => e (HN.out ▸ HLE.out)), if_neg HKL.out, ← HN2.out, if_neg hno])
            have HSV : Hid (s.moveA k l m = s) := Lib.hid (move_no (by rw [HEV.out]; decide))
            clear hno HQ2 HzU
            go_wp2_with fail
            go_ret
            rw [HEV.out, HSV.out]; exact L.out.ret
          | true =>
            have cQ0 : a10.cell? ⟨Q, 0, none⟩ = some (.int .u64 za) := Lib.cell_of_heap HQ.out 0
            have cQ1 : a10.cell? ⟨Q, 1, none⟩ = some (.int .u64 zb) := Lib.cell_of_heap HQ.out 1
            have cQ2 : a10.cell? ⟨Q, 2, none⟩ = some (.int .u64 zc) := Lib.cell_of_heap HQ.out 2
            have cQ3 : a10.cell? ⟨Q, 3, none⟩ = some (.int .u64 zd) := Lib.cell_of_heap HQ.out 3
            go_wp2_with fail
            clear cQ0 cQ1 cQ2 cQ3
            have hy9 := HzU.out
            first | rw [if_pos trivial] at hy9 | rw [if_pos rfl] at hy9
            have HZZ := Lib.hid hy9
            clear hy9 HzU
            refine (rmAmount_any HZZ.out _).mono ?_
            rintro e a11 ⟨rfl, hb⟩
            have Lm := Lib.hid (L.out.later hb)
            have HXm := Lib.hid (below_at' hb HX.out)
            have HPm := Lib.hid (below_at' hb HP.out)
            have HQm := Lib.hid (below_at' hb HQ.out)
            clear hb L HX HP HQ
            have L := Lm
            have HX := HXm
            have HP := HPm
            have HQ := HQm
            clear Lm HXm HPm HQm
            by_cases hno : n2 + m < uHalf
            · rw [decide_eq_true hno]
              have HEV : Hid (moveE (getP s.t) k l m = 0) := Lib.hid (by unfold moveE; rw [if_neg (fun e => e (HN.out ▸ HLE.out)), if_neg HKL.out, ← HN2.out, if_pos hno])
              have HSV : Hid (s.moveA k l m = (s.setAmt k (n - m)).setAmt l (n2 + m)) := Lib.hid (by unfold PS.moveA; rw [if_pos ⟨HEV.out, HKL.out⟩, HN.out, HN2.out])
              clear hno
              go_wp2_with (refine wpList_load_row rfl 33 _ rfl P rfl 33 _ _ _ HP.out Tryz.underlying33 rfl Tryz.sizeU ?_)
              clear HX HP
              refine (L.out.call fun F hs => rsetAmount_any hs (by have := HZ.out; omega) k HY.out).mono ?_
              rintro e a12 ⟨rfl, o, hoth⟩
              have Lm := Lib.hid o
              have HQm := Lib.hid (hoth.2 Q _ HQ.out rfl rfl)
              clear o hoth L HQ
              have L := Lm
              have HQ := HQm
              clear Lm HQm
              go_wp2_with (refine wpList_load_row rfl 33 _ rfl Q rfl 33 _ _ _ HQ.out Tryz.underlying33 rfl Tryz.sizeU ?_)
              clear HQ
              refine (L.out.call fun F hs => rsetAmount_any hs (by have h8 := HZ.out; have h9 := sz_setAmt s k (n - m); omega) l HZZ.out).mono ?_
              rintro e a13 ⟨rfl, o, hoth⟩
              have Lm := Lib.hid o
              clear o hoth L
              have L := Lm
              clear Lm
              go_wp2_with fail
              go_ret
              rw [HEV.out, HSV.out]; exact L.out.ret
            · rw [decide_eq_false hno]
              have HEV : Hid (moveE (getP s.t) k l m = 6) := Lib.hid (by unfold moveE; rw [if_neg (fun e => e (HN.out ▸ HLE.out)), if_neg HKL.out, ← HN2.out, if_neg hno])
              have HSV : Hid (s.moveA k l m = s) := Lib.hid (move_no (by rw [HEV.out]; decide))
              clear hno
              go_wp2_with fail
              go_ret
              rw [HEV.out, HSV.out]; exact L.out.ret

end Go.Proofs.YthnjakomkdlglaaGreat
