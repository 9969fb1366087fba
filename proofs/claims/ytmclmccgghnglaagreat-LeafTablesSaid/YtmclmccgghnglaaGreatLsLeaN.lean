/- leaf.Claim (code). No condition. -/
import Derived.Test.YtmclmccgghnglaaGreatLs21
namespace Go.Proofs.YtmclmccgghnglaaGreat
open Go.RowKit

theorem Rd.i64 {w : World} {ad : Option Addr} {n cap : Nat} {l : List Int} (h : Rd w intE 1 (.slice ad n cap) l) (i : Nat) (hi : i < l.length) : ∃ b off, ad = some ⟨b, off, none⟩ ∧ w.cell? ⟨b, off + i, none⟩ = some (.int .i64 l[i]) := by
  obtain ⟨ad', cap', he, _, _, h3⟩ := h
  cases he
  obtain ⟨b, off, rfl, _, hc⟩ := h3 (by intro hl; subst hl; simp at hi)
  have := hc i hi 0 (by omega)
  simp only [Nat.mul_one, Nat.add_zero] at this
  exact ⟨b, off, rfl, this⟩
theorem Tryz.infoLf : (Tryz.prog.info? 60).map (fun i => (i.zero, i.size, i.bytes)) = some (some (.agg lfZ), 7, 72) := by kernel_rfl
theorem Tryz.sizeHashes : (Tryz.prog.info? 42).map (·.size) = some 1 := by kernel_rfl
theorem Tryz.sizeLeaves : (Tryz.prog.info? 43).map (·.size) = some 1 := by kernel_rfl
theorem GPair.fidx {w : World} {b : Option Nat} {raws : List (Int × SlV)} {gs : List (Int × List LRow)} (h : GPair w b raws gs) (e : Int) : Go.Proofs.YtmclmccgghnglaaGreat.fidx (fun g : Int × SlV => decide (g.1 = e)) raws = Go.Proofs.YtmclmccgghnglaaGreat.fidx (fun g : Int × List LRow => decide (g.1 = e)) gs := by
  have hm : raws.map (·.1) = gs.map (·.1) := by
    apply List.ext_getElem?
    intro i
    rw [List.getElem?_map, List.getElem?_map]
    rcases Nat.lt_or_ge i raws.length with hi | hi
    · have hi2 : i < gs.length := by rw [← h.1]; exact hi
      have := (h.2.1 i _ _ (List.getElem?_eq_getElem hi) (List.getElem?_eq_getElem hi2)).1
      rw [List.getElem?_eq_getElem hi, List.getElem?_eq_getElem hi2]
      simp [this]
    · rw [List.getElem?_eq_none hi, List.getElem?_eq_none (by rw [← h.1]; exact hi)]; rfl
  have h1 : raws.findIdx? (fun g => decide (g.1 = e)) = (raws.map (·.1)).findIdx? (fun x => decide (x = e)) := by rw [List.findIdx?_map]; rfl
  have h2 : gs.findIdx? (fun g => decide (g.1 = e)) = (gs.map (·.1)).findIdx? (fun x => decide (x = e)) := by rw [List.findIdx?_map]; rfl
  unfold Go.Proofs.YtmclmccgghnglaaGreat.fidx
  rw [h1, h2, hm]
theorem claimR_none {l : List LRow} (e : Int) (ts : List Int) (h : sortedF l = none) : claimR l e ts = .error 2 := by unfold claimR; rw [h]
theorem claimR_len {l s : List LRow} (e : Int) {ts : List Int} (h : sortedF l = some s) (h2 : ts.length = 0 ∨ 8 < ts.length) : claimR l e ts = .error 2 := by unfold claimR; rw [h]; simp only []; rw [if_pos h2]
theorem claimR_no {l s : List LRow} {e : Int} {ts : List Int} (h : sortedF l = some s) (h2 : ¬ (ts.length = 0 ∨ 8 < ts.length)) (h3 : fidx (fun g : Int × List LRow => decide (g.1 = e)) (groupsF s) = -1) : claimR l e ts = .error 8 := by
  unfold claimR; rw [h]; simp only []; rw [if_neg h2]
  unfold fidx at h3
  cases hq : (groupsF s).findIdx? (fun g => decide (g.1 = e)) with
  | none => rfl
  | some i => rw [hq] at h3; simp only [] at h3; omega
theorem claimR_at {l s : List LRow} {e : Int} {ts : List Int} (h : sortedF l = some s) (h2 : ¬ (ts.length = 0 ∨ 8 < ts.length)) {q : Nat} {g : Int × List LRow} (h3 : fidx (fun g : Int × List LRow => decide (g.1 = e)) (groupsF s) = q) (h4 : (groupsF s)[q]? = some g) : claimR l e ts = match openAll g.2 ts with
    | none => .error 8
    | some lv => .ok ⟨0, q, e, rootF 2 (leavesG g.2), proofF 1 (tableL s) q, lv, e⟩ := by
  unfold claimR; rw [h]; simp only []; rw [if_neg h2]
  unfold fidx at h3
  cases hq : (groupsF s).findIdx? (fun g => decide (g.1 = e)) with
  | none => rw [hq] at h3; simp only [] at h3; omega
  | some i =>
    rw [hq] at h3; simp only [] at h3
    obtain rfl : i = q := by omega
    simp only []
    rw [h4]
    rfl
theorem fidx_at2 {α : Type} (p : α → Bool) (l : List α) : fidx p l = -1 ∨ ∃ i : Nat, i < l.length ∧ fidx p l = i := by
  unfold fidx
  cases h : l.findIdx? p with
  | none => exact .inl rfl
  | some i => obtain ⟨hi, _⟩ := List.findIdx?_eq_some_iff_getElem.1 h; exact .inr ⟨i, hi, rfl⟩
set_option maxHeartbeats 16000000 in
set_option maxRecDepth 100000 in
theorem lclaim_any (w : World) (v vt : Value) (l : List LRow) (e : Int) (ts : List Int) (hr : Rd w rowE 6 v l) (hok : ∀ r ∈ l, ROk r) (hlen : l.length < 1000000000) (ht : Rd w intE 1 vt ts) (htn : ts.length < 1000000000) :
    Calls Tryz.prog 19 #[v, .int .i64 e, vt] w (ClaimRet w (claimR l e ts)) := by
  obtain ⟨tad, tcap, rfl, _, _⟩ := ht.shape
  obtain ⟨tn, htn'⟩ : ∃ n, n = ts.length := ⟨_, rfl⟩
  rw [← htn'] at ht htn ⊢
  obtain ⟨CR, hCR⟩ : ∃ x, x = claimR l e ts := ⟨_, rfl⟩
  rw [← hCR]
  have HR := Lib.hid hr; have HOK := Lib.hid hok; have HL := Lib.hid hlen; have HTS := Lib.hid ht; have HTN := Lib.hid htn'; have HCR := Lib.hid hCR
  clear hr hok hlen ht htn' hCR
  go_enter Tryz.func19, Tryz.ntmps19
  go_wp2_with (refine wpList_alloc_g rfl _ rfl _ _ Tryz.zeroCl rfl ?_)
  obtain ⟨w1, hw1⟩ : ∃ w1, w1 = w.alloc (.cells #[.int .i64 e] 3) := ⟨_, rfl⟩
  rw [← hw1]
  obtain ⟨A, hA⟩ : ∃ A, A = w.heap.size := ⟨_, rfl⟩
  rw [← hA]
  have hb1 : Below w.heap.size w w1 := by rw [hw1]; exact (Below.refl _ _).alloc (Nat.le_refl _) _
  have hA1 : w1.heap[A]? = some (.cells #[.int .i64 e] 3 (0, 0)) := by rw [hw1, hA]; exact heap_alloc_new _ _
  intro R w2 hR
  have HA2 := Lib.hid (below_at2 hR.out.below hA1); have HR2 := Lib.hid hR.out.cells; have HB2 := Lib.hid (hb1.trans (hR.out.below.mono hb1.size))
  have WR := Lib.hid (show w.heap.size ≤ R ∧ A < R by have := hR.out.eq; have := hb1.size; have := heap_lt hA1; omega)
  clear hw1 hA hb1 hA1 hR
  go_wp2_with fail
  refine (of_any w2 v l (HR.out.later HB2.out) HOK.out HL.out).mono ?_
  rintro e0 w3 ⟨hb3, hF⟩
  have HA3 := Lib.hid (below_at2 hb3 HA2.out); have HR3 := Lib.hid (below_at2 hb3 HR2.out); have HB3 := Lib.hid (HB2.out.trans (hb3.mono HB2.out.size))
  clear hb3 HA2 HR2 HB2
  rcases hF with ⟨hF, rfl⟩ | ⟨s, vg, vo, raws, b, hF, rfl, hvg, hgp, htx⟩
  · have HV := Lib.hid (show CR = .error 2 by rw [HCR.out]; exact claimR_none _ _ hF)
    clear hF
    go_wp2_with (refine wpList_alloc_g rfl _ rfl _ _ Tryz.zeroTab rfl ?_)
    intro T w4 hT
    go_wp2_with (refine wpList_store_row_g (t := 148) (old := #[.slice none 0 0, .slice none 0 0]) rfl 148 _ _ rfl T #[.slice none 0 0, .slice none 0 0] rfl rfl hT.out.cells Tryz.sizeTab rfl (one_sl2 _ _ _ _ _ _) ?_)
    intro w5 h5 k5 z5
    have hb5 : Below w3.heap.size w3 w5 := hT.out.below.trans (k5.below (B := w3.heap.size) (fun q hq e => by have := hT.out.eq; omega) hT.out.below.size)
    have HT5 := Lib.hid h5
    have HA5 := Lib.hid (below_at2 hb5 HA3.out); have HR5 := Lib.hid (below_at2 hb5 HR3.out); have HB5 := Lib.hid (HB3.out.trans (hb5.mono HB3.out.size))
    clear hT h5 k5 z5 hb5 HA3 HR3 HB3
    go_wp2_with (refine wpList_store_row_g (t := 45) (old := clZ) rfl 45 _ _ rfl R clZ rfl rfl HR5.out (Tryz.sizeCl _ _ _ zero32_length _ _ _) rfl (clC_one _ _ _ _ _ _ _) ?_)
    intro wq hq5 kq5 zq5
    have HQ5 := Lib.hid hq5
    have HQ6 := Lib.hid (kq5.onto HB5.out (Nat.le_refl _) WR.out.1)
    clear hq5 kq5 zq5
    go_wp2_with fail
    exact bodyPost_ret (res_row_val rfl _ _ R _ clZ _ _ rfl HQ5.out Tryz.underlying45 rfl (Tryz.sizeCl _ _ _ zero32_length _ _ _) _ rfl) rfl (show ClaimRet w CR _ _ by rw [HV.out]; exact ⟨HQ6.out, rfl⟩)
  · obtain ⟨ad1, cap1, rfl, _, _⟩ := hvg.shape
    obtain ⟨n1, hn1⟩ : ∃ n, n = raws.length := ⟨_, rfl⟩
    rw [← hn1] at hvg ⊢
    obtain ⟨ad2, cap2, rfl, _, _⟩ := htx.shape
    obtain ⟨n2, hn2⟩ : ∃ n, n = (tableL s).length := ⟨_, rfl⟩
    rw [← hn2] at htx ⊢
    have HF := Lib.hid hF; have HVG := Lib.hid hvg; have HGP := Lib.hid hgp; have HTX := Lib.hid htx; have HN1 := Lib.hid hn1; have HSO := Lib.hid (sort_ok hF HOK.out)
    clear hF hvg hgp htx hn1 hn2
    go_wp2_with (refine wpList_alloc_g rfl _ rfl _ _ Tryz.zeroTab rfl ?_)
    intro T w4 hT
    go_wp2_with (refine wpList_store_row_g (t := 148) (old := #[.slice none 0 0, .slice none 0 0]) rfl 148 _ _ rfl T #[.slice ad1 n1 cap1, .slice ad2 n2 cap2] rfl rfl hT.out.cells Tryz.sizeTab rfl (one_sl2 _ _ _ _ _ _) ?_)
    intro w5 h5 k5 z5
    have hb5 : Below w3.heap.size w3 w5 := hT.out.below.trans (k5.below (B := w3.heap.size) (fun q hq e => by have := hT.out.eq; omega) hT.out.below.size)
    have HT5 := Lib.hid h5
    have HA5 := Lib.hid (below_at2 hb5 HA3.out); have HR5 := Lib.hid (below_at2 hb5 HR3.out); have HB5 := Lib.hid (HB3.out.trans (hb5.mono HB3.out.size))
    have HVG5 := Lib.hid (HVG.out.later hb5); have HGP5 := Lib.hid (HGP.out.later hb5); have HTX5 := Lib.hid (HTX.out.later hb5)
    clear hT h5 k5 z5 hb5 HA3 HR3 HB3 HVG HGP HTX
    have hm : n1 < 1000000 := by have := HN1.out; have := HGP5.out.1; have := (groupsF_mem s).1; have := HSO.out.2.2; omega
    rcases (show tn = 0 ∨ 8 < tn ∨ (¬ tn = 0 ∧ tn ≤ 8) by omega) with h0 | h8 | ⟨h0, h8⟩
    · subst h0
      have HV := Lib.hid (show CR = .error 2 by rw [HCR.out]; exact claimR_len _ HF.out (.inl HTN.out.symm))
      go_wp2_with (refine wpList_store_row_g (t := 45) (old := clZ) rfl 45 _ _ rfl R clZ rfl rfl HR5.out (Tryz.sizeCl _ _ _ zero32_length _ _ _) rfl (clC_one _ _ _ _ _ _ _) ?_)
      intro wq hq5 kq5 zq5
      have HQ5 := Lib.hid hq5
      have HQ6 := Lib.hid (kq5.onto HB5.out (Nat.le_refl _) WR.out.1)
      clear hq5 kq5 zq5
      go_wp2_with fail
      exact bodyPost_ret (res_row_val rfl _ _ R _ clZ _ _ rfl HQ5.out Tryz.underlying45 rfl (Tryz.sizeCl _ _ _ zero32_length _ _ _) _ rfl) rfl (show ClaimRet w CR _ _ by rw [HV.out]; exact ⟨HQ6.out, rfl⟩)
    · have HV := Lib.hid (show CR = .error 2 by rw [HCR.out]; exact claimR_len _ HF.out (.inr (by have := HTN.out; omega)))
      have h0 : ((tn : Int) == 0) = false := by simp; omega
      have h9 : (8 : Int) < (tn : Int) := by omega
      clear h8
      go_wp2_with (refine wpList_store_row_g (t := 45) (old := clZ) rfl 45 _ _ rfl R clZ rfl rfl HR5.out (Tryz.sizeCl _ _ _ zero32_length _ _ _) rfl (clC_one _ _ _ _ _ _ _) ?_)
      intro wq hq5 kq5 zq5
      have HQ5 := Lib.hid hq5
      have HQ6 := Lib.hid (kq5.onto HB5.out (Nat.le_refl _) WR.out.1)
      clear hq5 kq5 zq5
      go_wp2_with fail
      exact bodyPost_ret (res_row_val rfl _ _ R _ clZ _ _ rfl HQ5.out Tryz.underlying45 rfl (Tryz.sizeCl _ _ _ zero32_length _ _ _) _ rfl) rfl (show ClaimRet w CR _ _ by rw [HV.out]; exact ⟨HQ6.out, rfl⟩)
    · have HTL := Lib.hid (show ¬ (ts.length = 0 ∨ 8 < ts.length) by have := HTN.out; omega)
      have h10 : ((tn : Int) == 0) = false := by simp; omega
      have h9 : ¬ (8 : Int) < (tn : Int) := by omega
      have cT0 : w5.cell? ⟨T, 0, none⟩ = some (.slice ad1 n1 cap1) := Lib.cell_of_heap HT5.out 0
      go_wp2_with fail
      refine (idxC_any w5 A (fun g => decide (g.1 = e)) _ raws HVG5.out (by have := HN1.out; omega) (fun W hb x _ => claim1_any e A x.1 x.2.1 x.2.2.1 x.2.2.2 W (below_at2 hb HA5.out))).mono ?_
      rintro e6 w6 ⟨rfl, hb6⟩
      have HA6 := Lib.hid (below_at2 hb6 HA5.out); have HR6 := Lib.hid (below_at2 hb6 HR5.out); have HT6 := Lib.hid (below_at2 hb6 HT5.out); have HB6 := Lib.hid (HB5.out.trans (hb6.mono HB5.out.size))
      have HVG6 := Lib.hid (HVG5.out.later hb6); have HGP6 := Lib.hid (HGP5.out.later hb6); have HTX6 := Lib.hid (HTX5.out.later hb6)
      clear hb6 HA5 HR5 HT5 HB5 HVG5 HTX5 cT0
      have hfq := HGP5.out.fidx e
      have hcase := fidx_at2 (fun g : Int × SlV => decide (g.1 = e)) raws
      obtain ⟨q, hq⟩ : ∃ q, q = fidx (fun g : Int × SlV => decide (g.1 = e)) raws := ⟨_, rfl⟩
      rw [← hq] at hcase hfq ⊢
      have HFQ := Lib.hid hfq.symm
      clear hq hfq HGP5
      rcases hcase with rfl | ⟨qi, hqi, rfl⟩
      · have HV := Lib.hid (show CR = .error 8 by rw [HCR.out]; exact claimR_no HF.out HTL.out HFQ.out)
        go_wp2_with (refine wpList_store_row_g (t := 45) (old := clZ) rfl 45 _ _ rfl R clZ rfl rfl HR6.out (Tryz.sizeCl _ _ _ zero32_length _ _ _) rfl (clC_one _ _ _ _ _ _ _) ?_)
        intro wq hq5 kq5 zq5
        have HQ5 := Lib.hid hq5
        have HQ6 := Lib.hid (kq5.onto HB6.out (Nat.le_refl _) WR.out.1)
        clear hq5 kq5 zq5
        go_wp2_with fail
        exact bodyPost_ret (res_row_val rfl _ _ R _ clZ _ _ rfl HQ5.out Tryz.underlying45 rfl (Tryz.sizeCl _ _ _ zero32_length _ _ _) _ rfl) rfl (show ClaimRet w CR _ _ by rw [HV.out]; exact ⟨HQ6.out, rfl⟩)
      · have hqn : qi < n1 := by have := HN1.out; omega
        have hig : qi < (groupsF s).length := by have := HGP6.out.1; omega
        obtain ⟨gb, goff, rfl, _, c0, c1⟩ := HVG6.out.grp qi hqi
        have hpr := HGP6.out.2.1 qi raws[qi] (groupsF s)[qi] (List.getElem?_eq_getElem hqi) (List.getElem?_eq_getElem hig)
        have hgm := (groupsF_mem s).2 (groupsF s)[qi] (List.getElem_mem hig)
        have hgok := (groups_ok HSO.out.1 (groupsF s)[qi] (List.getElem_mem hig)).2
        have hcl := claimR_at HF.out HTL.out HFQ.out (List.getElem?_eq_getElem hig)
        rw [← HCR.out] at hcl
        obtain ⟨⟨ge, ga, gn, gc⟩, hraw⟩ : ∃ x, x = raws[qi] := ⟨_, rfl⟩
        rw [← hraw] at c0 c1 hpr
        obtain ⟨g, hg⟩ : ∃ g, g = (groupsF s)[qi] := ⟨_, rfl⟩
        rw [← hg] at hgm hpr hgok hcl
        clear hraw hg hqi
        obtain ⟨g1, g2⟩ := g
        simp only [] at c0 c1 hgok hcl
        have hgn : gn = g2.length := hpr.2.size
        have HGR := Lib.hid (show Rd w6 rowE 6 (.slice ga gn gc) g2 from hpr.2)
        have HGNE := Lib.hid (show g2 ≠ [] from hgm.1)
        have HGO := Lib.hid hgok; have HCL := Lib.hid hcl
        have HGN := Lib.hid (show gn = g2.length ∧ gn ≤ 1024 ∧ gn < 1000000 by have := HSO.out.2.2; have : g2.length ≤ s.length := hgm.2.1; omega)
        have HIG := Lib.hid hig
        clear hgm hgn hpr hgok hcl hig
        have cT0 : w6.cell? ⟨T, 0, none⟩ = some (.slice (some ⟨gb, goff, none⟩) n1 cap1) := Lib.cell_of_heap HT6.out 0
        go_wp2_with (refine wpList_alloc_g rfl _ rfl _ _ Tryz.zeroGrp rfl ?_)
        intro G d1 hG
        go_wp2_with (refine wpList_store_row_g (t := 157) (old := #[.int .i64 0, .slice none 0 0]) rfl 157 _ _ rfl G #[.int .i64 ge, .slice ga gn gc] rfl rfl hG.out.cells Tryz.sizeGrp rfl (one_grp _ _ _ _) ?_)
        intro w7 h7 k7 z7
        have hb7 : Below w6.heap.size w6 w7 := hG.out.below.trans (k7.below (B := w6.heap.size) (fun x hx e => by have := hG.out.eq; omega) hG.out.below.size)
        have HG7 := Lib.hid h7
        have HA7 := Lib.hid (below_at2 hb7 HA6.out); have HR7 := Lib.hid (below_at2 hb7 HR6.out); have HT7 := Lib.hid (below_at2 hb7 HT6.out); have HB7 := Lib.hid (HB6.out.trans (hb7.mono HB6.out.size))
        have HTX7 := Lib.hid (HTX6.out.later hb7); have HGR7 := Lib.hid (HGR.out.later hb7)
        clear hG h7 k7 z7 hb7 HA6 HR6 HT6 HB6 HVG6 HGP6 HTX6 cT0 c0 c1 HGR
        have cA7 : w7.cell? ⟨A, 0, none⟩ = some (.int .i64 e) := Lib.cell_of_heap HA7.out 0
        go_wp2_with (refine wpList_alloc_g rfl _ rfl _ _ Tryz.zeroCl rfl ?_)
        intro C d2 hC
        go_wp2_with (refine wpList_store_row_g (t := 45) (old := clZ) rfl 45 _ _ rfl C (clC 0 qi e zero32 nilS nilS e) rfl rfl hC.out.cells (Tryz.sizeCl _ _ _ zero32_length _ _ _) rfl (clC_one _ _ _ _ _ _ _) ?_)
        intro w8 h8' k8 z8
        have WC := Lib.hid (show C = w7.heap.size ∧ w.heap.size ≤ C ∧ A < C ∧ R < C ∧ T < C ∧ G < C by
          have h1 := hC.out.eq; have := heap_lt HA7.out; have := heap_lt HR7.out; have := heap_lt HT7.out; have := heap_lt HG7.out; have := HB7.out.size; omega)
        have HD8 := Lib.hid (hC.out.below.trans (k8.below (B := w7.heap.size) (fun x hx e => by have := hC.out.eq; omega) hC.out.below.size))
        have HC8 := Lib.hid h8'
        clear hC h8' k8 z8 cA7
        have cG0 : w8.cell? ⟨G, 0, none⟩ = some (.int .i64 ge) := Lib.cell_of_heap (below_at2 HD8.out HG7.out) 0
        have cG1 : w8.cell? ⟨G, 1, none⟩ = some (.slice ga gn gc) := Lib.cell_of_heap (below_at2 HD8.out HG7.out) 1
        go_wp2_with fail
        refine (leaves_any w8 ge ga gn gc g2 (HGR7.out.later HD8.out) HGO.out HGN.out.2.2).mono ?_
        rintro e9 w9 ⟨v9, rfl, htx, hb9⟩
        have HTY := Lib.hid htx
        have HC9 := Lib.hid (below_at2 hb9 HC8.out); have HD9 := Lib.hid (HD8.out.trans (hb9.mono HD8.out.size))
        clear htx hb9 HC8 HD8 cG0 cG1
        go_wp2_with fail
        refine (mroot_any 2 (leavesG g2) v9 w9 HTY.out (fair_leaves HGO.out)).mono ?_
        rw [root_good (.inr rfl) (by intro h; have := congrArg List.length h; rw [leavesG_len] at this; exact HGNE.out (List.eq_nil_of_length_eq_zero this)) (by rw [leavesG_len]; have := HGN.out; omega)]
        rintro e10 w10 ⟨rfl, hb10⟩
        obtain ⟨rt, hrt⟩ : ∃ rt, rt = rootF 2 (leavesG g2) := ⟨_, rfl⟩
        have hr2 : rootF (2 : Int).toNat (leavesG g2) = rt := by rw [hrt]; rfl
        rw [hr2]
        have HRT := Lib.hid hrt; have HR32 := Lib.hid (show rt.length = 32 by rw [hrt]; exact rootF_32 _ _)
        have HC10 := Lib.hid (below_at2 hb10 HC9.out); have HD10 := Lib.hid (HD9.out.trans (hb10.mono HD9.out.size))
        clear hrt hr2 hb10 HC9 HD9 HTY
        go_wp2_with (refine wpList_store_part_l rfl 36 _ _ rfl C 3 (c8 rt) rfl rfl 45 _ HC10.out (Tryz.sizeHc rt HR32.out) (by rw [clC_size _ _ _ zero32_length, c8_size, HR32.out]; omega) (c8_ones rt) (clC 0 qi e rt nilS nilS e) (clC_hash _ _ _ zero32_length HR32.out _ _ _) ?_)
        intro w11 h11 k11 z11
        have HC11 := Lib.hid h11; have HD11 := Lib.hid (k11.onto HD10.out (Nat.le_refl _) (by have := WC.out; omega))
        clear h11 k11 z11 HC10 HD10
        have cT1 : w11.cell? ⟨T, 1, none⟩ = some (.slice ad2 n2 cap2) := Lib.cell_of_heap (below_at2 HD11.out HT7.out) 1
        go_wp2_with fail
        refine (pbuild_any 1 qi (tableL s) (.slice ad2 n2 cap2) w11 (HTX7.out.later HD11.out) (fair_table HSO.out.1)).mono ?_
        have hpv := proofV_good (k := 1) (i := qi) (l := tableL s) (.inl rfl) (table_ne HSO.out.2.1) (table_1024 HSO.out.2.2) (by rw [tableL_len]; exact HIG.out)
        rw [hpv.1, hpv.2]
        rintro e12 w12 ⟨v12, rfl, hown, hb12⟩
        clear hpv
        obtain ⟨ad6, cap6, rfl, _, _⟩ := (hown.rd hE_len).shape
        obtain ⟨k6, hk6⟩ : ∃ k, k = (proofF 1 (tableL s) qi).length := ⟨_, rfl⟩
        rw [← hk6] at hown ⊢
        have HPR := Lib.hid (show Own w12 w11.heap.size 36 hE 32 (slV (ad6, k6, cap6)) (proofF 1 (tableL s) qi) from hown)
        have HC12 := Lib.hid (below_at2 hb12 HC11.out); have HD12 := Lib.hid (HD11.out.trans (hb12.mono HD11.out.size))
        have WCz := Lib.hid (show C < w11.heap.size from heap_lt HC11.out)
        clear hown hb12 hk6 HC11 HD11 cT1
        go_wp2_with (refine wpList_store1_g rfl 42 _ _ rfl C 35 (.slice ad6 k6 cap6) rfl rfl rfl rfl 45 _ HC12.out Tryz.sizeHashes (by rw [clC_size _ _ _ HR32.out]; omega) (clC 0 qi e rt (ad6, k6, cap6) nilS e) (clC_proof _ _ _ HR32.out _ (ad6, k6, cap6) _ _) ?_)
        intro w13 h13 k13 z13
        have HC13 := Lib.hid h13; have HD13 := Lib.hid (k13.onto HD12.out (Nat.le_refl _) (by have := WC.out; omega))
        have HP13 := Lib.hid (HPR.out.keep k13 fun k e he => by have := (HPR.out.lt k e).1; have := WCz.out; omega)
        clear h13 k13 z13 HC12 HD12 HPR
        obtain ⟨M, hM⟩ : ∃ M, M = w13.heap.size := ⟨_, rfl⟩
        have HM := Lib.hid hM
        have WM := Lib.hid (show C < M ∧ w7.heap.size ≤ M by have := heap_lt HC13.out; have := HD13.out.size; omega)
        clear hM
        go_wp2_with fail
        go_loopw [68] (fun y wr => ∃ (i : Nat) (lv : SlV) (xs : List (CLf × SlV)), y = .int .i64 i ∧ i ≤ tn ∧ Hid (wr.heap[C]? = some (.cells (clC 0 qi e rt (ad6, k6, cap6) lv e) 45 (0, 0))) ∧ Hid (OLf wr M lv xs) ∧ Hid (openAll g2 (ts.take i) = some (xs.map (·.1))) ∧ Hid (xs.length = i) ∧ Hid (Keep (· = C) w13 wr)) (fun y _ => tn - (intOf y).toNat)
        case atStart => exact ⟨0, nilS, [], rfl, by omega, HC13, Lib.hid (OLf.nil _ _), Lib.hid rfl, Lib.hid rfl, Lib.hid (Keep.refl _ _)⟩
        case round =>
          clear HC13
          obtain ⟨i, lv, xs, rfl, hin, HCi, HO, HOA, HXL, HK⟩ := hrel
          have HDi := Lib.hid (HK.out.onto HD13.out (Nat.le_refl _) (by have := WC.out; omega))
          have HBi := Lib.hid (HB7.out.trans (HDi.out.mono HB7.out.size))
          have HRi := Lib.hid (below_at2 HDi.out HR7.out)
          by_cases hlt : i < tn
          · have hi : i < ts.length := by have := HTN.out; omega
            obtain ⟨tb, toff, rfl, ct⟩ := (HTS.out.later HBi.out).i64 i hi
            have hoa := openAll_snoc ts[i] HOA.out
            rw [← List.take_succ_eq_append_getElem hi] at hoa
            have hno := fun h => openAll_none (us := ts.drop (i + 1)) (show openAll g2 (ts.take (i + 1)) = none from h)
            rw [List.take_append_drop] at hno
            obtain ⟨t, htt⟩ : ∃ t, t = ts[i] := ⟨_, rfl⟩
            rw [← htt] at ct hoa
            have HOS := Lib.hid hoa; have HNO := Lib.hid hno
            clear htt hoa hno hi
            have cG0 : wr.cell? ⟨G, 0, none⟩ = some (.int .i64 ge) := Lib.cell_of_heap (below_at2 HDi.out HG7.out) 0
            have cG1 : wr.cell? ⟨G, 1, none⟩ = some (.slice ga gn gc) := Lib.cell_of_heap (below_at2 HDi.out HG7.out) 1
            go_wp2_with fail
            refine (gopen_any wr ge t ga gn gc g2 (HGR7.out.later HDi.out) HGO.out HGN.out.2.1 HGNE.out).mono ?_
            rintro e14 w14 ⟨hb14, hret⟩
            clear cG0 cG1 ct
            have HC14 := Lib.hid (below_at2 hb14 HCi.out); have HO14 := Lib.hid (HO.out.later hb14); have HK14 := Lib.hid (HK.out.then_below hb14); have HR14 := Lib.hid (below_at2 hb14 HRi.out); have HB14 := Lib.hid (HBi.out.trans (hb14.mono HBi.out.size))
            clear hb14 HCi HO HK HDi HRi HBi
            rcases hret with ⟨hf, rfl⟩ | ⟨oi, r, s', hf, hri, rfl, hpo⟩
            · have HV := Lib.hid (show CR = .error 8 by rw [HCL.out, HNO.out (by rw [HOS.out, open1_no hf]; rfl)])
              clear hf
              go_wp2_with (refine wpList_alloc_g rfl _ rfl _ _ Tryz.zeroLf rfl ?_)
              intro L d3 hL
              go_wp2_with (refine wpList_store_row_g (t := 60) (old := lfZ) rfl 60 _ _ rfl L lfZ rfl rfl hL.out.cells Tryz.sizeLf rfl (by simp [lfZ, Value.oneCell']) ?_)
              intro w15 h15 k15 z15
              have hb15 : Below w14.heap.size w14 w15 := hL.out.below.trans (k15.below (B := w14.heap.size) (fun x hx e => by have := hL.out.eq; omega) hL.out.below.size)
              have HR15 := Lib.hid (below_at2 hb15 HR14.out); have HB15 := Lib.hid (HB14.out.trans (hb15.mono HB14.out.size))
              clear hL h15 k15 z15 hb15
              go_wp2_with (refine wpList_store_row_g (t := 45) (old := clZ) rfl 45 _ _ rfl R clZ rfl rfl HR15.out (Tryz.sizeCl _ _ _ zero32_length _ _ _) rfl (clC_one _ _ _ _ _ _ _) ?_)
              intro wq hq5 kq5 zq5
              have HQ5 := Lib.hid hq5
              have HQ6 := Lib.hid (kq5.onto HB15.out (Nat.le_refl _) WR.out.1)
              clear hq5 kq5 zq5
              go_wp2_with fail
              exact bodyPost_ret (res_row_val rfl _ _ R _ clZ _ _ rfl HQ5.out Tryz.underlying45 rfl (Tryz.sizeCl _ _ _ zero32_length _ _ _) _ rfl) rfl (show ClaimRet w CR _ _ by rw [HV.out]; exact ⟨HQ6.out, rfl⟩)
            · have HOS2 := Lib.hid (show openAll g2 (ts.take (i + 1)) = some (xs.map (·.1) ++ [⟨oi, t, r.m, proofF 2 (leavesG g2) oi⟩]) by rw [HOS.out, open1_yes hf hri]; rfl)
              have HPO := Lib.hid hpo
              clear hf hri hpo
              obtain ⟨sa, sn, sc⟩ := s'
              obtain ⟨la, ln, lc⟩ := lv
              go_wp2_with (refine wpList_alloc_g rfl _ rfl _ _ Tryz.zeroLf rfl ?_)
              intro L d3 hL
              go_wp2_with (refine wpList_store_row_g (t := 60) (old := lfZ) rfl 60 _ _ rfl L (lfC oi t r.m (sa, sn, sc)) rfl rfl hL.out.cells Tryz.sizeLf rfl (lfC_one _ _ _ _) ?_)
              intro w15 h15 k15 z15
              have hb15 : Below w14.heap.size w14 w15 := hL.out.below.trans (k15.below (B := w14.heap.size) (fun x hx e => by have := hL.out.eq; omega) hL.out.below.size)
              have HR15 := Lib.hid (below_at2 hb15 HR14.out); have HB15 := Lib.hid (HB14.out.trans (hb15.mono HB14.out.size))
              have HL15 := Lib.hid h15; have HC15 := Lib.hid (below_at2 hb15 HC14.out)
              have HO15 := Lib.hid (HO14.out.later hb15); have HK15 := Lib.hid (HK14.out.then_below hb15); have HPO15 := Lib.hid ((HPO.out.mono (Nat.zero_le _)).later hb15)
              clear hL h15 k15 z15 hb15 HC14 HO14 HK14 HR14 HB14 HPO HR15 HB15
              have WMz := Lib.hid (show M ≤ w15.heap.size by have := HK15.out.size; have := HM.out; omega)
              have cC : w15.cell? ⟨C, 36, none⟩ = some (.slice la ln lc) := by rw [Lib.cell_of_heap HC15.out]; exact clC_36 _ _ _ HR32.out _ _ _
              have q0 : w15.cell? ⟨L, 0, none⟩ = some (.int .i64 oi) := Lib.cell_of_heap HL15.out 0
              have q1 : w15.cell? ⟨L, 1, none⟩ = some (.int .i64 t) := Lib.cell_of_heap HL15.out 1
              have q2 : w15.cell? ⟨L, 2, none⟩ = some (.int .u64 (uw0 r.m)) := Lib.cell_of_heap HL15.out 2
              have q3 : w15.cell? ⟨L, 3, none⟩ = some (.int .u64 (uw1 r.m)) := Lib.cell_of_heap HL15.out 3
              have q4 : w15.cell? ⟨L, 4, none⟩ = some (.int .u64 (uw2 r.m)) := Lib.cell_of_heap HL15.out 4
              have q5 : w15.cell? ⟨L, 5, none⟩ = some (.int .u64 (uw3 r.m)) := Lib.cell_of_heap HL15.out 5
              have q6 : w15.cell? ⟨L, 6, none⟩ = some (.slice sa sn sc) := Lib.cell_of_heap HL15.out 6
              have HAL := Lib.hid (show ∀ o, Below w15.heap.size w15 (w15.alloc o) from fun o => (Below.refl _ _).alloc (Nat.le_refl _) _)
              go_wp2_with (at_builtin; refine own_apps (l2 := [((⟨oi, t, r.m, proofF 2 (leavesG g2) oi⟩, (sa, sn, sc)) : CLf × SlV)]) (enc := lfE) (B := M) (w0 := w15) rfl _ _ 43 rfl Tryz.underlying43 Tryz.infoLf rfl (by decide) lfE_len lfE_one (HO15.out.1.alloc _) rfl _ rfl (rd_leaf w15 ((⟨oi, t, r.m, proofF 2 (leavesG g2) oi⟩, (sa, sn, sc)) : CLf × SlV) _) (by have := HXL.out; simp; unfold maxLen; omega) (by have := HXL.out; simp; omega) ((HAL.out _).mono WMz.out) (Nat.le_refl _) (Nat.le_trans WMz.out (HAL.out _).size) ?_)
              intro v' w16 ho' hb' hg'
              obtain ⟨wa, hwa⟩ : ∃ wa, wa = w15.alloc (.cells (lfC oi t r.m (sa, sn, sc)) 60) := ⟨_, rfl⟩
              replace hg' : wa.grownBy w16 (Value.slice la ln lc).ownBlock := by rw [hwa]; exact hg'
              have hba : Below w15.heap.size w15 wa := by rw [hwa]; exact HAL.out _
              obtain ⟨ad7, cap7, rfl, _, _⟩ := (ho'.rd lfE_len).shape
              obtain ⟨k7, hk7⟩ : ∃ k, k = (xs ++ [((⟨oi, t, r.m, proofF 2 (leavesG g2) oi⟩, (sa, sn, sc)) : CLf × SlV)]).length := ⟨_, rfl⟩
              rw [← hk7] at ho' ⊢
              have HC16 := Lib.hid (((HO15.out.later hba).1).other hg' WM.out.1 (below_at2 hba HC15.out))
              have HO16 := Lib.hid ((HO15.out.later hba).snoc (lv' := (ad7, k7, cap7)) (x := ((⟨oi, t, r.m, proofF 2 (leavesG g2) oi⟩, (sa, sn, sc)) : CLf × SlV)) (HPO15.out.later hba) hg' ho')
              have HK16 := Lib.hid (HK15.out.then (S' := fun x => M ≤ x) ⟨hb'.os, hb'.tape, hb'.output, hb'.size, fun i _ hn => hb'.block i (by omega)⟩ fun x hx => .inr (by rw [← HM.out]; exact hx))
              clear ho' hb' hg' hwa hba hk7 HC15 HO15 HK15 HPO15 HL15 cC q0 q1 q2 q3 q4 q5 q6
              go_wp2_with (refine wpList_store1_g rfl 43 _ _ rfl C 36 (.slice ad7 k7 cap7) rfl rfl rfl rfl 45 _ HC16.out Tryz.sizeLeaves (by rw [clC_size _ _ _ HR32.out]; omega) (clC 0 qi e rt (ad6, k6, cap6) (ad7, k7, cap7) e) (clC_leaves _ _ _ HR32.out _ _ (ad7, k7, cap7) _) ?_)
              intro w17 h17 k17 z17
              have HC17 := Lib.hid h17
              have HO17 := Lib.hid (HO16.out.keep k17 fun x hx => ⟨clC 0 qi e rt (ad6, k6, cap6) (la, ln, lc) e, 45, (0, 0), (by rw [hx]; exact HC16.out), by decide, by decide⟩)
              have HK17 := Lib.hid (HK16.out.then k17 fun x hx => .inl hx)
              clear h17 k17 z17 HC16 HO16 HK16
              go_wp2_with fail
              go_roundw
              case rel => exact ⟨i + 1, (ad7, k7, cap7), _, by go_num, hlt, HC17, HO17, Lib.hid (by rw [HOS2.out, List.map_append]; rfl), Lib.hid (by rw [List.length_append, HXL.out]; rfl), HK17⟩
              case measure => simp [intOf]; omega
          · obtain rfl : i = tn := by omega
            rw [List.take_of_length_le (by rw [← HTN.out]; exact Nat.le_refl _)] at HOA
            have HV := Lib.hid (show CR = .ok ⟨0, qi, e, rt, proofF 1 (tableL s) qi, xs.map (·.1), e⟩ by rw [HCL.out, HOA.out, HRT.out])
            clear HTS
            go_wp2_with (first
              | (refine wpList_load_row rfl 45 _ rfl C rfl 45 _ _ _ HCi.out Tryz.underlying45 rfl (Tryz.sizeCl _ _ _ HR32.out _ _ _) ?_)
              | (refine wpList_store_row_g (t := 45) (old := clZ) rfl 45 _ _ rfl R (clC 0 qi e rt (ad6, k6, cap6) lv e) rfl rfl HRi.out (Tryz.sizeCl _ _ _ HR32.out _ _ _) (by rw [clC_size _ _ _ HR32.out]; rfl) (clC_one _ _ _ _ _ _ _) ?_))
            intro wq hq5 kq5 zq5
            have HQ5 := Lib.hid hq5
            have HQ6 := Lib.hid (kq5.onto HBi.out (Nat.le_refl _) WR.out.1)
            have HQP := Lib.hid (((HP13.out.keep HK.out fun k e he => by have := (HP13.out.lt k e).1; have := WCz.out; omega).keep kq5 fun k e he => by have := (HP13.out.lt k e).1; have := WCz.out; have := WC.out; omega).rd hE_len)
            have HQL := Lib.hid (HO.out.keep kq5 fun x hx => ⟨clZ, 45, (0, 0), (by rw [hx]; exact HRi.out), by decide, by decide⟩).rd
            clear hq5 kq5 zq5
            go_wp2_with fail
            exact bodyPost_ret (res_row_val rfl _ _ R _ (clC 0 qi e rt (ad6, k6, cap6) lv e) _ _ rfl HQ5.out Tryz.underlying45 rfl (Tryz.sizeCl _ _ _ HR32.out _ _ _) _ rfl) rfl (show ClaimRet w CR _ _ by rw [HV.out]; exact ⟨HQ6.out, _, rfl, (ad6, k6, cap6), lv, rfl, HQP.out, HQL⟩)
end Go.Proofs.YtmclmccgghnglaaGreat
