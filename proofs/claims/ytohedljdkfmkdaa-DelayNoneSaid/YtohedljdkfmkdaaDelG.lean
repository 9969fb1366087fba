/- DelayWaits: the walk. No condition. -/
import Derived.Test.YtohedljdkfmkdaaDelF
namespace Go.Proofs.Ytohedljdkfmkdaa
open Go.RowKit

/-- A literal slice of one act, newly laid. -/
theorem litA (w : World) (a : Act28) : Rd (w.alloc (.cells #[.slice a.ad a.ids.length a.cap, .int .i64 a.v, .int .i64 a.b, .int .i64 a.wt] 45)) act28E 4 (.slice (some ⟨w.heap.size, 0, none⟩) 1 1) [a] := by
  refine ⟨_, 1, rfl, Nat.le_refl _, (by unfold maxLen; decide), fun _ => ⟨_, 0, rfl, by rw [World.size_alloc]; omega, fun i hi j hj => ?_⟩⟩
  have h := heap_alloc_new w (.cells #[.slice a.ad a.ids.length a.cap, .int .i64 a.v, .int .i64 a.b, .int .i64 a.wt] 45)
  simp only [List.length_singleton] at hi
  obtain rfl : i = 0 := by omega
  match j, hj with
  | 0, _ => exact Lib.cell_of_heap h 0
  | 1, _ => exact Lib.cell_of_heap h 1
  | 2, _ => exact Lib.cell_of_heap h 2
  | 3, _ => exact Lib.cell_of_heap h 3

set_option maxHeartbeats 8000000 in
set_option maxRecDepth 100000 in
theorem waits_any {w : World} {v1 : Value} {l : List Act28} (h1 : Rd w act28E 4 v1 l) (a : Act28) (q : Int) (hq : 0 ≤ q ∧ q < 65536) :
    Calls Try.prog 4 #[v1, .agg #[.slice a.ad a.ids.length a.cap, .int .i64 a.v, .int .i64 a.b, .int .i64 a.wt], .int .u16 q] w (Ret w (.bool true)) := by
  obtain ⟨ad, cap, e1, c1, c1'⟩ := h1.shape
  obtain ⟨n, hn⟩ : ∃ n, n = l.length := ⟨_, rfl⟩
  rw [← hn] at e1 c1
  subst e1
  have H1 := Lib.hid h1; have HN := Lib.hid hn; have HQ := Lib.hid hq
  clear h1 hn hq
  go_enter Try.func4, Try.ntmps4
  go_wp2_with fail
  obtain ⟨w0, hw0⟩ : ∃ w0, w0 = w.alloc (.cells #[.slice a.ad a.ids.length a.cap, .int .i64 a.v, .int .i64 a.b, .int .i64 a.wt] 45) := ⟨_, rfl⟩
  obtain ⟨R, hR⟩ : ∃ R, R = w.heap.size := ⟨_, rfl⟩
  rw [← hw0, ← hR]
  have hx0 : w0.heap[R]? = some (.cells #[.slice a.ad a.ids.length a.cap, .int .i64 a.v, .int .i64 a.b, .int .i64 a.wt] 45 (0, 0)) := by rw [hw0, hR]; exact heap_alloc_new _ _
  have hb0 : Below w.heap.size w w0 := by rw [hw0]; exact (Below.refl _ _).alloc (Nat.le_refl _) _
  have HX0 := Lib.hid hx0; have HB0 := Lib.hid hb0; have H10 := Lib.hid (H1.out.later hb0)
  clear hw0 hR hx0 hb0 H1
  refine (light28_any H10.out).mono ?_
  rintro e w1 ⟨r, rfl, hr, hb⟩
  cases r with
  | false =>
    have HB := Lib.hid (HB0.out.trans (hb.mono HB0.out.size))
    clear hr hb
    go_wp2_with fail
    refine (lives28_any _).mono ?_
    rintro e w2 ⟨rfl, hb2⟩
    have HBL := Lib.hid (HB.out.trans (hb2.mono HB.out.size))
    clear hb2
    go_wp2_with fail
    go_ret
    exact ⟨rfl, HBL.out⟩
  | true =>
  have HL := Lib.hid (hr rfl); have HB1 := Lib.hid hb; have HX1 := Lib.hid (below_at' hb HX0.out)
  clear hr hb
  go_wp2_with (refine wpList_load_row_y rfl 45 _ rfl R rfl 45 _ _ _ HX1.out Try.underlying45 rfl Try.sizeAct28 ?_)
  refine (light28_any (litA w1 a)).mono ?_
  rintro e w2 ⟨r, rfl, hr, hb⟩
  have HB2 := Lib.hid (HB1.out.trans ((below_new w1 (.cells #[.slice a.ad a.ids.length a.cap, .int .i64 a.v, .int .i64 a.b, .int .i64 a.wt] 45)).trans (hb.mono (below_new w1 _).size) |>.mono HB1.out.size))
  have HBW := Lib.hid (HB0.out.trans (HB2.out.mono HB0.out.size))
  have hx2 := below_at' HB2.out HX0.out
  have HX2 := Lib.hid hx2
  have y1 : w2.cell? ⟨R, 1, none⟩ = some (.int .i64 a.v) := Lib.cell_of_heap hx2 1
  have y2 : w2.cell? ⟨R, 2, none⟩ = some (.int .i64 a.b) := Lib.cell_of_heap hx2 2
  have y3 : w2.cell? ⟨R, 3, none⟩ = some (.int .i64 a.wt) := Lib.cell_of_heap hx2 3
  clear hb hx2 HB1 HX1
  cases r with
  | false =>
    clear hr y1 y2 y3
    go_wp2_with fail
    refine (lives28_any _).mono ?_
    rintro e w2 ⟨rfl, hb2⟩
    have HBL := Lib.hid (HBW.out.trans (hb2.mono HBW.out.size))
    clear hb2
    go_wp2_with fail
    go_ret
    exact ⟨rfl, HBL.out⟩
  | true =>
  clear hr
  by_cases g1 : a.b < 0
  · go_wp2_with fail
    refine (lives28_any _).mono ?_
    rintro e w2 ⟨rfl, hb2⟩
    have HBL := Lib.hid (HBW.out.trans (hb2.mono HBW.out.size))
    clear hb2
    go_wp2_with fail
    go_ret
    exact ⟨rfl, HBL.out⟩
  by_cases g2 : 1073741824 < a.b
  · go_wp2_with fail
    refine (lives28_any _).mono ?_
    rintro e w2 ⟨rfl, hb2⟩
    have HBL := Lib.hid (HBW.out.trans (hb2.mono HBW.out.size))
    clear hb2
    go_wp2_with fail
    go_ret
    exact ⟨rfl, HBL.out⟩
  by_cases g3 : a.wt < 0
  · go_wp2_with fail
    refine (lives28_any _).mono ?_
    rintro e w2 ⟨rfl, hb2⟩
    have HBL := Lib.hid (HBW.out.trans (hb2.mono HBW.out.size))
    clear hb2
    go_wp2_with fail
    go_ret
    exact ⟨rfl, HBL.out⟩
  by_cases g4 : 1073741824 < a.wt
  · go_wp2_with fail
    refine (lives28_any _).mono ?_
    rintro e w2 ⟨rfl, hb2⟩
    have HBL := Lib.hid (HBW.out.trans (hb2.mono HBW.out.size))
    clear hb2
    go_wp2_with fail
    go_ret
    exact ⟨rfl, HBL.out⟩
  by_cases g5 : a.v < 0
  · go_wp2_with fail
    refine (lives28_any _).mono ?_
    rintro e w2 ⟨rfl, hb2⟩
    have HBL := Lib.hid (HBW.out.trans (hb2.mono HBW.out.size))
    clear hb2
    go_wp2_with fail
    go_ret
    exact ⟨rfl, HBL.out⟩
  by_cases g6 : 1073741824 < a.v
  · go_wp2_with fail
    refine (lives28_any _).mono ?_
    rintro e w2 ⟨rfl, hb2⟩
    have HBL := Lib.hid (HBW.out.trans (hb2.mono HBW.out.size))
    clear hb2
    go_wp2_with fail
    go_ret
    exact ⟨rfl, HBL.out⟩
  have hg : (0 ≤ a.v ∧ a.v ≤ 1073741824) ∧ (0 ≤ a.b ∧ a.b ≤ 1073741824) ∧ (0 ≤ a.wt ∧ a.wt ≤ 1073741824) := by omega
  have HG := Lib.hid hg
  go_wp2_with fail
  clear g1 g2 g3 g4 g5 g6 y1 y2 y3 hg HBW
  refine (snew_any _).mono ?_
  rintro e w3 ⟨g, F, rfl, p1, hb3, p3⟩
  have O3 : Hid (One w0 w3 g PS.new) := Lib.hid ⟨F, p1, fun x hx => Nat.le_trans HB2.out.size (p3 x hx), HB2.out.trans (hb3.mono HB2.out.size)⟩
  clear p1 hb3 p3 HB2
  go_wp2_with fail
  go_loopw [63] (fun vi wr => ∃ (i : Nat), vi = .int .i64 i ∧ i ≤ n ∧ Hid (One w0 wr g (do1s PS.new (l.take i)))) (fun vi _ => n - (intOf vi).toNat)
  case atStart => exact ⟨0, rfl, Nat.zero_le _, O3⟩
  case round =>
    clear O3
    obtain ⟨i, rfl, hin, OO⟩ := hrel
    by_cases hlt : i < n
    · have hi : i < l.length := by rw [← HN.out]; exact hlt
      obtain ⟨gL, off, rfl, hgL, q0, q1, q2, q3⟩ := Rd.act28 H10.out i hi
      have q0' := (OO.out.below.cell (p := ⟨gL, off + i * 4, none⟩) hgL).trans q0
      have q1' := (OO.out.below.cell (p := ⟨gL, off + i * 4 + 1, none⟩) hgL).trans q1
      have q2' := (OO.out.below.cell (p := ⟨gL, off + i * 4 + 2, none⟩) hgL).trans q2
      have q3' := (OO.out.below.cell (p := ⟨gL, off + i * 4 + 3, none⟩) hgL).trans q3
      have hat := do1s_take (s := PS.new) hi
      obtain ⟨x, hx⟩ : ∃ x, x = l[i] := ⟨_, rfl⟩
      rw [← hx] at q0' q1' q2' q3' hat
      have hsz := sz_do1s (l.take i) PS.new
      have hft := Fit.do1s (l.take i) Fit.new
      obtain ⟨s, hs⟩ : ∃ s, s = do1s PS.new (l.take i) := ⟨_, rfl⟩
      rw [← hs] at OO hat hsz hft
      have hsz2 : s.sz < 1099511627776 := by
        have h5 : PS.new.sz = 0 := rfl
        have h6 := HL.out.1
        rw [h5, List.length_take] at hsz
        omega
      have HAT := Lib.hid hat; have HSZ := Lib.hid hsz2; have HLT := Lib.hid hlt; have HFT := Lib.hid hft
      clear hx q0 q1 q2 q3 hgL hi hs hsz hsz2 hat hft
      go_wp2_with (refine wpList_alloc_g rfl _ rfl _ _ Try.zeroAct28 rfl ?_)
      intro P w5 h5
      go_wp2_with (refine wpList_store_row_g (t := 45) (old := #[.slice none 0 0, .int .i64 0, .int .i64 0, .int .i64 0]) rfl 45 _ _ rfl P #[.slice x.ad x.ids.length x.cap, .int .i64 x.v, .int .i64 x.b, .int .i64 x.wt] rfl rfl h5.out.cells Try.sizeAct28 rfl (by simp [Value.oneCell']) ?_)
      intro w6 hx6 k56 z56
      have hb56 : Below wr.heap.size wr w6 := h5.out.below.trans (k56.below (B := wr.heap.size) (fun x hx e => by have := h5.out.eq; omega) h5.out.below.size)
      have hx7 := below_at' (below_new w6 (.cells #[.int .i64 1] 3)) hx6
      have q1 : (w6.alloc (.cells #[.int .i64 1] 3)).cell? ⟨P, 1, none⟩ = some (.int .i64 x.v) := Lib.cell_of_heap hx7 1
      have q2 : (w6.alloc (.cells #[.int .i64 1] 3)).cell? ⟨P, 2, none⟩ = some (.int .i64 x.b) := Lib.cell_of_heap hx7 2
      have q3 : (w6.alloc (.cells #[.int .i64 1] 3)).cell? ⟨P, 3, none⟩ = some (.int .i64 x.wt) := Lib.cell_of_heap hx7 3
      have O7 := Lib.hid ((OO.out.later hb56).later (below_new w6 (.cells #[.int .i64 1] 3)))
      clear h5 hx6 hx7 k56 z56 hb56 q0' q1' q2' q3' OO
      go_wp2_with fail
      refine (O7.out.st fun F h => dset_any h HSZ.out HFT.out 25 (ids := [1]) (by decide) (I64s.one (by decide)) (lit1 w6 1) x.v x.b x.wt).mono ?_
      rintro e w8 ⟨rfl, o8, _⟩
      have O8 : Hid (One w0 w8 g (do1s PS.new (l.take (i + 1)))) := Lib.hid (by rw [HAT.out]; exact o8)
      clear o8 q1 q2 q3 O7
      go_wp2_with fail
      go_roundw
      case rel => exact ⟨i + 1, by go_num, Nat.succ_le_of_lt HLT.out, O8⟩
      case measure => have hh : i < n := HLT.out; simp [intOf]; omega
    · have hfin : One w0 wr g (do1s PS.new l) := by
        have h8 := OO.out
        rwa [List.take_of_length_le (by rw [← HN.out]; omega)] at h8
      have hsz := sz_do1s l PS.new
      have hft := Fit.do1s l Fit.new
      obtain ⟨s, hs⟩ : ∃ s, s = do1s PS.new l := ⟨_, rfl⟩
      rw [← hs] at hfin hsz hft
      have hsz2 : s.sz < 1099511627776 := by
        have h5 : PS.new.sz = 0 := rfl
        have h6 := HL.out.1
        omega
      have HSZ := Lib.hid hsz2; have HFT := Lib.hid hft; have OF := Lib.hid hfin
      have hxr := below_at' hfin.below HX0.out
      have hS : wr.drew.cell? ⟨R, 2, none⟩ = some (.int .i64 a.b) := Lib.cell_of_heap hxr 2
      obtain ⟨hpe, hlaw1, hlaw2⟩ := waits_law (s := s) HG.out.1 HG.out.2.1 HG.out.2.2
      obtain ⟨u, hu⟩ : ∃ u, u = getD (getP s.t) 25 [1] := ⟨_, rfl⟩
      rw [← hu] at hlaw2
      have HU := Lib.hid hu; have HPE := Lib.hid hpe; have HW1 := Lib.hid hlaw1; have HW2 := Lib.hid hlaw2
      clear hs hfin hsz hft hsz2 OO hxr hu hpe hlaw1 hlaw2 HN H10 HL
      go_wp2_with fail
      clear hlt
      refine wp_region_till (fun w' => w'.cell? ⟨R, 2, none⟩ = some (.int .i64 a.b)) 11 11 (by kernel_rfl) rfl ?_
      refine till_take 0 (some 78) rfl rfl (by kernel_rfl) (by kernel_rfl) (by kernel_rfl) (by kernel_rfl) (by kernel_rfl) (by kernel_rfl) (fun _ _ _ h => h) (.inl ⟨by rfl, fun w' _ => (by go_simp; rfl)⟩) hS ?_
      go_frame
      refine till_take 3 (some 81) rfl rfl (by kernel_rfl) (by kernel_rfl) (by kernel_rfl) (by kernel_rfl) (by kernel_rfl) (by kernel_rfl) (fun _ _ _ h => h) (.inl ⟨by rfl, fun w' _ => (by go_simp; rfl)⟩) hS ?_
      go_frame
      refine till_take 4 (some 82) rfl rfl (by kernel_rfl) (by kernel_rfl) (by kernel_rfl) (by kernel_rfl) (by kernel_rfl) (by kernel_rfl) (fun _ _ _ h => h) (.inl ⟨by rfl, fun w' hS' => (by have hc1 := hS'; go_simp; rfl)⟩) hS ?_
      go_frame
      refine till_one 1 rfl (by kernel_rfl) fun K hK => ?_
      simp only [List.getElem_toArray, List.getElem_cons_succ, List.getElem_cons_zero]
      rw [if_pos (by rfl)]
      go_simp
      obtain ⟨w1', hw1'⟩ : ∃ w1', w1' = (World.alloc wr (.cells #[.int .i64 1] 3)).drew := ⟨_, rfl⟩
      obtain ⟨Q, hQ⟩ : ∃ Q, Q = (World.heap wr).size := ⟨_, rfl⟩
      rw [← hw1', ← hQ]
      have hbx : Below wr.heap.size wr w1' := by rw [hw1']; exact (below_new wr _).drew
      have hrd : Rd w1' intE 1 (.slice (some ⟨Q, 0, none⟩) 1 1) [1] := by rw [hw1', hQ]; exact (lit1 wr 1).later (Below.drew (Below.refl _ _))
      have O1 := Lib.hid (OF.out.later hbx); have HRD := Lib.hid hrd
      have hS1 : w1'.cell? ⟨R, 2, none⟩ = some (.int .i64 a.b) := Lib.cell_of_heap (below_at' O1.out.below HX0.out) 2
      refine hK _ _ (fun _ _ => hS1) ?_
      clear hK hS hw1' hQ hbx hrd OF
      have hS := hS1
      clear hS1
      refine till_one 2 rfl (by kernel_rfl) fun K hK => ?_
      simp only [List.getElem_toArray, List.getElem_cons_succ, List.getElem_cons_zero]
      rw [if_pos (by rfl)]
      go_simp
      obtain ⟨FG, pG⟩ := O1.out.get
      refine (dget_any (Look.of_st pG) HFT.out.f 25 (ids := [1]) (by decide) (I64s.one (by decide)) HRD.out).mono ?_
      rintro e w2 ⟨rfl, hb⟩
      rw [← HU.out]
      have O2 := Lib.hid (O1.out.later hb)
      have hS1 : w2.cell? ⟨R, 2, none⟩ = some (.int .i64 a.b) := Lib.cell_of_heap (below_at' O2.out.below HX0.out) 2
      refine hK _ _ (fun _ _ => hS1) ?_
      clear hK hS pG hb O1 HRD
      have hS := hS1
      clear hS1
      refine till_one 5 rfl (by kernel_rfl) fun K hK => ?_
      simp only [List.getElem_toArray, List.getElem_cons_succ, List.getElem_cons_zero]
      rw [if_pos (by rfl)]
      go_simp
      refine (dof_any u a.b _).mono ?_
      rintro e w3 ⟨rfl, hb⟩
      have O3 := Lib.hid (O2.out.later hb)
      have hS1 : w3.cell? ⟨R, 2, none⟩ = some (.int .i64 a.b) := Lib.cell_of_heap (below_at' O3.out.below HX0.out) 2
      refine hK _ _ (fun _ _ => hS1) ?_
      clear hK hS hb O2
      have hS := hS1
      clear hS1
      refine till_take 6 (some 77) rfl rfl (by kernel_rfl) (by kernel_rfl) (by kernel_rfl) (by kernel_rfl) (by kernel_rfl) (by kernel_rfl) (fun _ _ _ h => h) (.inl ⟨by rfl, fun w' _ => (by go_simp; rfl)⟩) hS ?_
      go_frame
      refine till_take 7 (some 84) rfl rfl (by kernel_rfl) (by kernel_rfl) (by kernel_rfl) (by kernel_rfl) (by kernel_rfl) (by kernel_rfl) (fun _ _ _ h => h) (.inl ⟨by rfl, fun w' _ => (by go_simp; rfl)⟩) hS ?_
      go_frame
      refine till_take 8 (some 85) rfl rfl (by kernel_rfl) (by kernel_rfl) (by kernel_rfl) (by kernel_rfl) (by kernel_rfl) (by kernel_rfl) (fun _ _ _ h => h) (.inl ⟨by rfl, fun w' _ => (by go_simp; rfl)⟩) hS ?_
      go_frame
      refine till_take 9 (some 10) rfl rfl (by kernel_rfl) (by kernel_rfl) (by kernel_rfl) (by kernel_rfl) (by kernel_rfl) (by kernel_rfl) (fun _ _ _ h => h) (.inl ⟨by rfl, fun w' _ => (by go_simp; rfl)⟩) hS ?_
      go_frame
      refine till_take 10 (some 11) rfl rfl (by kernel_rfl) (by kernel_rfl) (by kernel_rfl) (by kernel_rfl) (by kernel_rfl) (by kernel_rfl) (fun _ _ _ h => h) (.inl ⟨by rfl, fun w' _ => (by go_simp; rfl)⟩) hS ?_
      go_frame
      refine till_done (by kernel_rfl) ?_ _
      clear hS
      have hx3 := below_at' O3.out.below HX0.out
      have hx4 := below_at' (below_new w3 (.cells #[.int .i64 1] 3)) hx3
      have y1 : (w3.alloc (.cells #[.int .i64 1] 3)).cell? ⟨R, 1, none⟩ = some (.int .i64 a.v) := Lib.cell_of_heap hx4 1
      have y2 : (w3.alloc (.cells #[.int .i64 1] 3)).cell? ⟨R, 2, none⟩ = some (.int .i64 a.b) := Lib.cell_of_heap hx4 2
      have y3 : (w3.alloc (.cells #[.int .i64 1] 3)).cell? ⟨R, 3, none⟩ = some (.int .i64 a.wt) := Lib.cell_of_heap hx4 3
      have O4 := Lib.hid (O3.out.later (below_new w3 (.cells #[.int .i64 1] 3)))
      clear hx3 hx4 O3
      obtain ⟨c, hc⟩ : ∃ c, c = settleD u a.b := ⟨_, rfl⟩
      rw [← hc]
      have HW3 : Hid (0 < a.wt → (settleD (getD (getP (putD s 25 [1] a.v a.b a.wt).t) 25 [1]) (a.b + a.wt - 1)).now = c.now ∧ (settleD (getD (getP (putD s 25 [1] a.v a.b a.wt).t) 25 [1]) (a.b + a.wt - 1)).has = c.has) := by rw [hc]; exact HW2
      clear hc HW2
      obtain ⟨cn, hcn⟩ : ∃ cn, cn = c.now := ⟨_, rfl⟩
      obtain ⟨ch, hch⟩ : ∃ ch, ch = c.has := ⟨_, rfl⟩
      rw [← hcn, ← hch]
      rw [← hcn, ← hch] at HW3
      clear hcn hch
      go_wp2_with fail
      clear y1 y2 y3
      refine (O4.out.st fun F h => dset_any h HSZ.out HFT.out 25 (ids := [1]) (by decide) (I64s.one (by decide)) (lit1 w3 1) a.v a.b a.wt).mono ?_
      rintro e w5 ⟨rfl, o5, _⟩
      rw [HPE.out]
      have hft2 := HFT.out.putD 25 [1] a.v a.b a.wt
      obtain ⟨s', hs'⟩ : ∃ s', s' = putD s 25 [1] a.v a.b a.wt := ⟨_, rfl⟩
      rw [← hs'] at o5 HW1 HW3 hft2
      have O5 := Lib.hid o5; have HFT2 := Lib.hid hft2
      have hx5 := below_at' o5.below HX0.out
      have y2 : w5.cell? ⟨R, 2, none⟩ = some (.int .i64 a.b) := Lib.cell_of_heap hx5 2
      have y3 : w5.cell? ⟨R, 3, none⟩ = some (.int .i64 a.wt) := Lib.cell_of_heap hx5 3
      have b1 := HG.out.2.1; have b2 := HG.out.2.2
      clear hs' o5 hft2 hx5 HSZ HFT O4 HPE
      go_wp2_with fail
      clear y2 y3
      obtain ⟨FG, pG⟩ := (O5.out.later (below_new w5 (.cells #[.int .i64 1] 3))).get
      refine (dget_any (Look.of_st pG) HFT2.out.f 25 (ids := [1]) (by decide) (I64s.one (by decide)) (lit1 w5 1)).mono ?_
      rintro e w6 ⟨rfl, hb⟩
      have O6 := Lib.hid ((O5.out.later (below_new w5 (.cells #[.int .i64 1] 3))).later hb)
      clear pG hb O5
      go_wp2_with fail
      refine (dof_any _ (a.b + a.wt) _).mono ?_
      rw [HW1.out (a.b + a.wt) (Int.le_refl _)]
      rintro e w7 ⟨rfl, hb⟩
      have O7 := Lib.hid (O6.out.later hb)
      clear hb O6
      have b3 := HQ.out
      go_wp2_with fail
      obtain ⟨FG, pG⟩ := (O7.out.later (below_new w7 (.cells #[.int .i64 1] 3))).get
      refine (dget_any (Look.of_st pG) HFT2.out.f 25 (ids := [1]) (by decide) (I64s.one (by decide)) (lit1 w7 1)).mono ?_
      rintro e w8 ⟨rfl, hb⟩
      have O8 := Lib.hid ((O7.out.later (below_new w7 (.cells #[.int .i64 1] 3))).later hb)
      clear pG hb O7
      go_wp2_with fail
      refine (dof_any _ (a.b + a.wt + q) _).mono ?_
      rw [HW1.out (a.b + a.wt + q) (by omega)]
      rintro e w9 ⟨rfl, hb⟩
      have O9 := Lib.hid (O8.out.later hb)
      have hx9 := below_at' O9.out.below HX0.out
      have y1 : w9.cell? ⟨R, 1, none⟩ = some (.int .i64 a.v) := Lib.cell_of_heap hx9 1
      clear hb O8 hx9
      go_wp2_with fail
      clear y1
      obtain ⟨FG, pG⟩ := (O9.out.later (below_new w9 (.cells #[.int .i64 1] 3))).get
      refine (dget_any (Look.of_st pG) HFT2.out.f 25 (ids := [1]) (by decide) (I64s.one (by decide)) (lit1 w9 1)).mono ?_
      rintro e wa ⟨rfl, hb⟩
      have OA := Lib.hid ((O9.out.later (below_new w9 (.cells #[.int .i64 1] 3))).later hb)
      clear pG hb O9
      go_wp2_with fail
      refine (dof_any _ (a.b + a.wt - 1) _).mono ?_
      obtain ⟨d, hd⟩ : ∃ d, d = settleD (getD (getP s'.t) 25 [1]) (a.b + a.wt - 1) := ⟨_, rfl⟩
      rw [← hd] at HW3 ⊢
      rintro e wb ⟨rfl, hb⟩
      have OB := Lib.hid (OA.out.later hb)
      have hxb := below_at' OB.out.below HX0.out
      have y3 : wb.cell? ⟨R, 3, none⟩ = some (.int .i64 a.wt) := Lib.cell_of_heap hxb 3
      obtain ⟨dn, hdn⟩ : ∃ dn, dn = d.now := ⟨_, rfl⟩
      obtain ⟨dh, hdh⟩ : ∃ dh, dh = d.has := ⟨_, rfl⟩
      rw [← hdn, ← hdh] at HW3 ⊢
      clear hb OA hxb hd hdn hdh
      by_cases hz : a.wt = 0
      · have hz' : (a.wt == 0) = true := by rw [hz]; rfl
        clear b1 b2 b3 hz
        go_wp2_with fail
        refine (lives28_any _).mono ?_
        rintro e wc ⟨rfl, hb⟩
        have HBF := Lib.hid (HB0.out.trans ((OB.out.below.trans (hb.mono OB.out.below.size)).mono HB0.out.size))
        clear hb
        go_wp2_with fail
        go_ret
        exact ⟨rfl, HBF.out⟩
      · have hz' : (a.wt == 0) = false := beq_eq_false_iff_ne.2 hz
        obtain ⟨e1, e2⟩ := HW3.out (by omega)
        subst e1 e2
        have e3 : (dn == dn) = true := by simp
        have e4 : (dh == dh) = true := by simp
        clear b1 b2 b3 hz
        go_wp2_with fail
        refine (lives28_any _).mono ?_
        rintro e wc ⟨rfl, hb⟩
        have HBF := Lib.hid (HB0.out.trans ((OB.out.below.trans (hb.mono OB.out.below.size)).mono HB0.out.size))
        clear hb
        go_wp2_with fail
        go_ret
        exact ⟨rfl, HBF.out⟩
end Go.Proofs.Ytohedljdkfmkdaa
