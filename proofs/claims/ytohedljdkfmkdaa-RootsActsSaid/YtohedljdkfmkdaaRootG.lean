/- RootsActs: the walk. No condition. -/
import Derived.Test.YtohedljdkfmkdaaRootD
namespace Go.Proofs.Ytohedljdkfmkdaa
open Go.RowKit

def zA : Act32 := ⟨false, 0, 0, 0, z32⟩
theorem Try.zeroA32 (w : World) : (zeroValue 85).run Try.prog w = .ok (.agg (act32E zA).toArray) w := by kernel_rfl
theorem Rd.act32 {w : World} {ad : Option Addr} {n cap : Nat} {t : List Act32} (h : Rd w act32E 36 (.slice ad n cap) t) (i : Nat) (hi : i < t.length) :
    ∃ g off, ad = some ⟨g, off, none⟩ ∧ g < w.heap.size ∧ w.rangeAt g (off + i * 36) (act32E t[i]) := by
  have hne : t ≠ [] := by rintro rfl; simp at hi
  obtain ⟨ax, cx, e3, _, _, h3⟩ := h
  obtain ⟨b, off, e4, hb, h5⟩ := h3 hne
  refine ⟨b, off, (Value.slice.inj e3).1.trans e4, hb, fun j v hv => ?_⟩
  have hj : j < 36 := by have := (List.getElem?_eq_some_iff.1 hv).1; rw [act32E_len] at this; exact this
  rw [h5 i hi j hj]; exact hv
theorem rangeBelow {a b : World} (h : Below a.heap.size a b) {g o : Nat} {l : List Value} (hg : g < a.heap.size) (hr : a.rangeAt g o l) : b.rangeAt g o l :=
  fun j v hv => (h.cell (p := ⟨g, o + j, none⟩) hg).trans (hr j v hv)

set_option maxHeartbeats 8000000 in
set_option maxRecDepth 100000 in
theorem acts32_any {w : World} {v1 : Value} {l : List Act32} (b : Int) (h1 : Rd w act32E 36 v1 l) (hgd : ∀ a ∈ l, Good32 a) :
    Calls Try.prog 13 #[v1, .int .i64 b] w (Ret w (.bool true)) := by
  obtain ⟨ad, cap, e1, c1, c1'⟩ := h1.shape
  obtain ⟨n, hn⟩ : ∃ n, n = l.length := ⟨_, rfl⟩
  rw [← hn] at e1 c1
  subst e1
  have H1 := Lib.hid h1; have HN := Lib.hid hn; have H1G := Lib.hid hgd
  clear h1 hn hgd
  by_cases hl : 80 < n
  · go_enter Try.func13, Try.ntmps13
    go_wp2_with fail
    refine (lives32_any _).mono ?_
    rintro e w2 ⟨rfl, hb2⟩
    have HB2 := Lib.hid hb2
    clear hb2
    go_wp2_with fail
    go_ret
    exact ⟨rfl, HB2.out⟩
  have HLE : Hid (n ≤ 80) := Lib.hid (by omega)
  go_enter Try.func13, Try.ntmps13
  go_wp2_with fail
  clear hl
  have HB : Hid (Below w.heap.size w w) := Lib.hid (Below.refl _ _)
  refine (snew_any _).mono ?_
  rintro e w3 ⟨g, F, rfl, q1, hb3, q3⟩
  have Q1 := Lib.hid q1; have HB3 := Lib.hid (HB.out.trans (hb3.mono HB.out.size)); have Q3 : Hid (∀ x ∈ F, w.heap.size ≤ x) := Lib.hid fun x hx => Nat.le_trans HB.out.size (q3 x hx)
  clear q1 hb3 q3
  go_wp2_with fail
  obtain ⟨w4, hw4⟩ : ∃ w4, w4 = w3.alloc (.cells #[.slice none 0 0, .slice none 0 0] 31) := ⟨_, rfl⟩
  obtain ⟨h, hh⟩ : ∃ h, h = w3.heap.size := ⟨_, rfl⟩
  rw [← hw4, ← hh]
  have TW : Hid (Two w w4 g h PS.new PS.new) := Lib.hid (by
    have hb4 : Below w3.heap.size w3 w4 := by rw [hw4]; exact (Below.refl _ _).alloc (Nat.le_refl _) _
    have hx4 : w4.heap[h]? = some (.cells #[.slice none 0 0, .slice none 0 0] 31 (0, 0)) := by rw [hw4, hh]; exact heap_alloc_new _ _
    have hrs : RS w4 h PS.new (rfoot h (.slice none 0 0) (.slice none 0 0)) := ⟨_, _, ⟨hx4, LO.nil _ _ _ _, LO.nil _ _ _ _, List.Pairwise.nil⟩, rfl⟩
    refine ⟨F, _, Q1.out.later hb4, hrs, Q3.out, fun x hx => ?_, HB3.out.trans (hb4.mono HB3.out.size)⟩
    rw [rfoot_eq] at hx
    rcases hx with e | e | e
    · rw [e, hh]; exact HB3.out.size
    · cases e
    · cases e)
  clear hw4 hh Q1 Q3 HB3
  go_loopw [30] (fun vi wr => ∃ (i : Nat), vi = .int .i64 i ∧ i ≤ n ∧ Hid (Two w wr g h (doRs PS.new (l.take i)) (doRs PS.new (l.take i)))) (fun vi _ => n - (intOf vi).toNat)
  case atStart => exact ⟨0, rfl, Nat.zero_le _, TW⟩
  case round =>
    clear TW
    obtain ⟨i, rfl, hin, TW⟩ := hrel
    by_cases hlt : i < n
    · have hi : i < l.length := by rw [← HN.out]; exact hlt
      obtain ⟨gL, off, rfl, hgL, q0⟩ := Rd.act32 H1.out i hi
      have HQ := Lib.hid (rangeBelow TW.out.below hgL q0)
      have HGX := Lib.hid (H1G.out l[i] (List.getElem_mem hi))
      clear q0 hgL
      have hat := doRs_take (s := PS.new) hi
      obtain ⟨x, hx⟩ : ∃ x, x = l[i] := ⟨_, rfl⟩
      rw [← hx] at HQ HGX hat
      have hsz := sz_doRs (l.take i) PS.new
      have hft := Fit.doRs (l.take i) Fit.new (fun a ha => (H1G.out a (List.mem_of_mem_take ha)).h)
      obtain ⟨s, hs⟩ : ∃ s, s = doRs PS.new (l.take i) := ⟨_, rfl⟩
      rw [← hs] at TW hat hsz hft
      have hsz2 : s.sz < 1099511620000 := by
        have h5 : PS.new.sz = 0 := rfl
        have h6 := HLE.out
        rw [h5, List.length_take] at hsz
        omega
      have HAT := Lib.hid hat; have HSZ := Lib.hid hsz2; have HLT := Lib.hid hlt; have HFT := Lib.hid hft
      clear hx hi hs hsz hsz2 hat hft
      go_wp2_with (first | (refine wpList_load_mid rfl 85 _ rfl gL (off + i * 36) rfl (act32E x) _ HQ.out Try.underlying85 rfl (by rw [act32E_len]; exact Try.sizeAct32) ?_) | (refine wpList_alloc_g rfl _ rfl _ _ Try.zeroA32 rfl ?_))
      intro R w5 h5
      go_wp2_with (refine wpList_store_row_g (t := 85) (old := (act32E zA).toArray) rfl 85 _ _ rfl R (act32E x).toArray rfl rfl h5.out.cells (Try.sizeAct32' x) (by rw [a32_size, a32_size]) (a32_one x) ?_)
      intro w6 hx6 k56 z56
      have hb56 : Below wr.heap.size wr w6 := h5.out.below.trans (k56.below (B := wr.heap.size) (fun x hx e => by have := h5.out.eq; omega) h5.out.below.size)
      have HX6 := Lib.hid hx6
      clear h5 hx6 k56 z56 HQ
      have T6 := Lib.hid (TW.out.later hb56)
      clear hb56 TW
      go_wp2_with (refine wpList_load_row rfl 85 _ rfl R rfl 85 _ _ _ HX6.out Try.underlying85 rfl (Try.sizeAct32' x) ?_)
      refine (act32_any T6.out (by have := HSZ.out; omega) HFT.out HGX.out).mono ?_
      rintro e w7 ⟨rfl, t7, o7⟩
      have hsz' := sz_doR s x; have hft' := HFT.out.doR HGX.out.h
      obtain ⟨s', hs'⟩ : ∃ s', s' = doR s x := ⟨_, rfl⟩
      rw [← hs'] at t7 hsz' hft'
      have HAT2 : Hid (doRs PS.new (l.take (i + 1)) = s') := Lib.hid (by rw [HAT.out, hs'])
      have T7 := Lib.hid t7; have HX7 := Lib.hid (o7.2 R _ HX6.out rfl rfl); have HF := Lib.hid hft'; have HZ : Hid (s'.sz < 1099511627776) := Lib.hid (by have := HSZ.out; omega)
      clear t7 o7 hs' hsz' hft' HSZ HFT HAT T6 HX6
      obtain ⟨F7, p7⟩ := T7.out.get1
      go_wp2_with fail
      refine (cnt_any (Look.of_st p7) HF.out.f).mono ?_
      rintro e w8 ⟨rfl, hb⟩
      obtain ⟨cn, hcn⟩ : ∃ cn, cn = cntF (getP s'.t) := ⟨_, rfl⟩
      rw [← hcn]
      have HCN := Lib.hid hcn
      have T8 := Lib.hid (T7.out.later hb); have HX8 := Lib.hid (below_at' hb HX7.out)
      clear hb hcn p7 T7 HX7
      go_wp2_with fail
      obtain ⟨F8, p8⟩ := T8.out.get2
      refine (rcnt_any p8 HZ.out HF.out).mono ?_
      rw [← HCN.out]
      rintro e w9 ⟨rfl, hb⟩
      have T9 := Lib.hid (T8.out.later hb); have HX9 := Lib.hid (below_at' hb HX8.out)
      have e1 : (cn != cn) = false := by simp
      have q1 : w9.cell? ⟨R, 1, none⟩ = some (.int .i64 x.i) := (Lib.cell_of_heap HX9.out 1).trans (a32_1 x)
      clear hb p8 T8 HX8
      go_wp2_with fail
      clear e1 q1
      obtain ⟨F9, p9⟩ := T9.out.get1
      refine (get32_any (Look.of_st p9) HF.out.f HGX.out.i).mono ?_
      have hlen := rootF_h (getP s'.t) x.i
      obtain ⟨rh, rs, ra, rk, hr⟩ : ∃ rh rs ra rk, rootF (getP s'.t) x.i = ⟨rh, rs, ra, rk⟩ := ⟨_, _, _, _, rfl⟩
      have HR := Lib.hid hr
      rw [hr] at hlen ⊢
      have HRL : Hid (rh.length = 32) := Lib.hid hlen
      obtain ⟨on, hon⟩ : ∃ on, on = (rs == 1) := ⟨_, rfl⟩
      rintro e wa ⟨rfl, hb⟩
      have TA_ := Lib.hid (T9.out.later hb); have HXA := Lib.hid (below_at' hb HX9.out)
      have HON := Lib.hid hon
      rw [show ((RV.mk rh rs ra rk).st == 1) = on from hon.symm, show (RV.mk rh rs ra rk).h = rh from rfl, show (RV.mk rh rs ra rk).at_ = ra from rfl, show (RV.mk rh rs ra rk).ok = rk from rfl]
      clear hb p9 hlen hr hon T9 HX9
      go_wp2_with (refine wpList_alloc_g rfl _ rfl _ _ Try.zeroHsh rfl ?_)
      intro A wb h4
      have HXQ := Lib.hid h4.out.cells; have HBM := Lib.hid h4.out.below; have HXW : Hid (wa.heap.size ≤ A) := Lib.hid (Nat.le_of_eq h4.out.eq.symm)
      clear h4
      go_wp2_with (refine wpList_store_row_g (t := 83) (old := c8 z32) rfl 83 _ _ rfl A (c8 rh) rfl rfl HXQ.out (Try.sizeHsh HRL.out) (by rw [c8_size, c8_size, HRL.out]; rfl) (c8_one _) ?_)
      intro wc hx5 k45 z45
      have HBN := Lib.hid (HBM.out.trans (k45.below (B := wa.heap.size) (fun y hy e => by have := HXW.out; omega) HBM.out.size))
      have HA := Lib.hid hx5; have TC := Lib.hid (TA_.out.later HBN.out); have HXC := Lib.hid (below_at' HBN.out HXA.out)
      clear hx5 k45 z45 HXQ HBM HXW TA_ HXA
      have q1 : wc.cell? ⟨R, 1, none⟩ = some (.int .i64 x.i) := (Lib.cell_of_heap HXC.out 1).trans (a32_1 x)
      go_wp2_with fail
      clear q1
      obtain ⟨FC, pC⟩ := TC.out.get2
      refine (rget32_any pC HZ.out HF.out HGX.out.i).mono ?_
      rw [HR.out]
      rintro e wd ⟨rfl, hb⟩
      rw [show ((RV.mk rh rs ra rk).st == 1) = on from HON.out.symm, show (RV.mk rh rs ra rk).h = rh from rfl, show (RV.mk rh rs ra rk).at_ = ra from rfl, show (RV.mk rh rs ra rk).ok = rk from rfl]
      have TD := Lib.hid (TC.out.later hb); have HXD := Lib.hid (below_at' hb HXC.out); have HA1 := Lib.hid (below_at' hb HA.out)
      clear hb pC TC HXC HA
      go_wp2_with (refine wpList_alloc_g rfl _ rfl _ _ Try.zeroHsh rfl ?_)
      intro B we h4
      have HXQ := Lib.hid h4.out.cells; have HBM := Lib.hid h4.out.below; have HXW : Hid (wd.heap.size ≤ B) := Lib.hid (Nat.le_of_eq h4.out.eq.symm)
      clear h4
      go_wp2_with (refine wpList_store_row_g (t := 83) (old := c8 z32) rfl 83 _ _ rfl B (c8 rh) rfl rfl HXQ.out (Try.sizeHsh HRL.out) (by rw [c8_size, c8_size, HRL.out]; rfl) (c8_one _) ?_)
      intro wf hx5 k45 z45
      have HBN := Lib.hid (HBM.out.trans (k45.below (B := wd.heap.size) (fun y hy e => by have := HXW.out; omega) HBM.out.size))
      have HB := Lib.hid hx5; have TF_ := Lib.hid (TD.out.later HBN.out); have HXF := Lib.hid (below_at' HBN.out HXD.out)
      clear hx5 k45 z45 HXQ HBM HXW TD HXD
      have HA2 := Lib.hid (below_at' HBN.out HA1.out)
      have q1 : wf.cell? ⟨R, 1, none⟩ = some (.int .i64 x.i) := (Lib.cell_of_heap HXF.out 1).trans (a32_1 x)
      clear HBN HA1
      go_wp2_with fail
      clear q1
      obtain ⟨FF, pF⟩ := TF_.out.get1
      refine (use32_any (Look.of_st pF) HF.out.f b HGX.out.i).mono ?_
      obtain ⟨uh, huh⟩ : ∃ uh, uh = useH (getP s'.t) x.i b := ⟨_, rfl⟩
      obtain ⟨ue, hue⟩ : ∃ ue, ue = useE (getP s'.t) x.i b := ⟨_, rfl⟩
      have HUL : Hid (uh.length = 32) := Lib.hid (by rw [huh]; exact useH_len _ _ _)
      rw [← huh, ← hue]
      have HUH := Lib.hid huh; have HUE := Lib.hid hue
      rintro e wg ⟨rfl, hb⟩
      have TG := Lib.hid (TF_.out.later hb); have HXG := Lib.hid (below_at' hb HXF.out); have HA3 := Lib.hid (below_at' hb HA2.out); have HB3 := Lib.hid (below_at' hb HB.out)
      clear hb pF huh hue TF_ HXF HA2 HB
      go_wp2_with (refine wpList_alloc_g rfl _ rfl _ _ Try.zeroHsh rfl ?_)
      intro C wh h4
      have HXQ := Lib.hid h4.out.cells; have HBM := Lib.hid h4.out.below; have HXW : Hid (wg.heap.size ≤ C) := Lib.hid (Nat.le_of_eq h4.out.eq.symm)
      clear h4
      go_wp2_with (refine wpList_store_row_g (t := 83) (old := c8 z32) rfl 83 _ _ rfl C (c8 uh) rfl rfl HXQ.out (Try.sizeHsh HUL.out) (by rw [c8_size, c8_size, HUL.out]; rfl) (c8_one _) ?_)
      intro wi hx5 k45 z45
      have HBN := Lib.hid (HBM.out.trans (k45.below (B := wg.heap.size) (fun y hy e => by have := HXW.out; omega) HBM.out.size))
      have HC := Lib.hid hx5; have TI := Lib.hid (TG.out.later HBN.out); have HXI := Lib.hid (below_at' HBN.out HXG.out)
      clear hx5 k45 z45 HXQ HBM HXW TG HXG
      have HA4 := Lib.hid (below_at' HBN.out HA3.out); have HB4 := Lib.hid (below_at' HBN.out HB3.out)
      have q1 : wi.cell? ⟨R, 1, none⟩ = some (.int .i64 x.i) := (Lib.cell_of_heap HXI.out 1).trans (a32_1 x)
      clear HBN HA3 HB3
      go_wp2_with fail
      clear q1
      obtain ⟨FI, pI⟩ := TI.out.get2
      refine (ruse32_any pI HZ.out HF.out b HGX.out.i).mono ?_
      rw [← HUH.out, ← HUE.out]
      rintro e wj ⟨rfl, hb⟩
      have TJ := Lib.hid (TI.out.later hb); have HXJ := Lib.hid (below_at' hb HXI.out); have HA5 := Lib.hid (below_at' hb HA4.out); have HB5 := Lib.hid (below_at' hb HB4.out); have HC5 := Lib.hid (below_at' hb HC.out)
      clear hb pI TI HXI HA4 HB4 HC
      go_wp2_with (refine wpList_alloc_g rfl _ rfl _ _ Try.zeroHsh rfl ?_)
      intro D wk h4
      have HXQ := Lib.hid h4.out.cells; have HBM := Lib.hid h4.out.below; have HXW : Hid (wj.heap.size ≤ D) := Lib.hid (Nat.le_of_eq h4.out.eq.symm)
      clear h4
      go_wp2_with (refine wpList_store_row_g (t := 83) (old := c8 z32) rfl 83 _ _ rfl D (c8 uh) rfl rfl HXQ.out (Try.sizeHsh HUL.out) (by rw [c8_size, c8_size, HUL.out]; rfl) (c8_one _) ?_)
      intro wm hx5 k45 z45
      have HBN := Lib.hid (HBM.out.trans (k45.below (B := wj.heap.size) (fun y hy e => by have := HXW.out; omega) HBM.out.size))
      have HD := Lib.hid hx5; have TM := Lib.hid (TJ.out.later HBN.out); have HXM := Lib.hid (below_at' HBN.out HXJ.out)
      clear hx5 k45 z45 HXQ HBM HXW TJ HXJ
      have HA6 := Lib.hid (below_at' HBN.out HA5.out); have HB6 := Lib.hid (below_at' HBN.out HB5.out); have HC6 := Lib.hid (below_at' HBN.out HC5.out)
      clear HBN HA5 HB5 HC5 HXM
      have heq := Try.eqH rh rh HRL.out HRL.out
      have heu := Try.eqH uh uh HUL.out HUL.out
      have n1 : (ra != ra) = false := by simp
      have n2 : (on != on) = false := by simp
      have n3 : (rk != rk) = false := by simp
      have n4 : (ue != ue) = false := by simp
      go_wp2_with (first
        | (refine wpList_load_row_y rfl 83 _ rfl A rfl 83 _ _ _ HA6.out Try.underlying83 rfl (Try.sizeHsh HRL.out) ?_)
        | (refine wpList_load_row_y rfl 83 _ rfl B rfl 83 _ _ _ HB6.out Try.underlying83 rfl (Try.sizeHsh HRL.out) ?_)
        | (refine wpList_load_row_y rfl 83 _ rfl C rfl 83 _ _ _ HC6.out Try.underlying83 rfl (Try.sizeHsh HUL.out) ?_)
        | (refine wpList_load_row_y rfl 83 _ rfl D rfl 83 _ _ _ HD.out Try.underlying83 rfl (Try.sizeHsh HUL.out) ?_))
      clear n1 n2 n3 n4 heq heu
      go_roundw
      case rel => exact ⟨i + 1, by go_num, Nat.succ_le_of_lt HLT.out, Lib.hid (by rw [HAT2.out]; exact TM.out)⟩
      case measure => have hh : i < n := HLT.out; simp [intOf]; omega
    · have hfin : Two w wr g h (doRs PS.new l) (doRs PS.new l) := by
        have h8 := TW.out
        rwa [List.take_of_length_le (by rw [← HN.out]; omega)] at h8
      have hsz := sz_doRs l PS.new
      obtain ⟨s, hs⟩ : ∃ s, s = doRs PS.new l := ⟨_, rfl⟩
      rw [← hs] at hfin hsz
      have hsz2 : s.t.length < 1099511627776 := by
        have h5 : PS.new.sz = 0 := rfl
        have h6 := HLE.out
        have h7 := HN.out
        unfold PS.sz at hsz h5
        omega
      have HSZ := Lib.hid hsz2; have TF := Lib.hid hfin
      clear hfin hsz hs hsz2 TW
      obtain ⟨_, _, p1, p2, _, _, _⟩ := TF.out
      obtain ⟨vL, vP, hra, _⟩ := p2
      have P1 := Lib.hid p1; have HRA := Lib.hid hra
      have hS : wr.drew.cell? ⟨h, 0, none⟩ = some vL := Lib.cell_of_heap hra.head 0
      have hbd : Below wr.heap.size wr wr.drew := Below.drew (Below.refl _ _)
      clear p1 hra
      go_wp2_with fail
      clear hlt
      refine wp_region_till (fun w' => w'.cell? ⟨h, 0, none⟩ = some vL) 11 11 (by kernel_rfl) rfl ?_
      refine till_take 0 (some 109) rfl rfl (by kernel_rfl) (by kernel_rfl) (by kernel_rfl) (by kernel_rfl) (by kernel_rfl) (by kernel_rfl) (fun _ _ _ h => h) (.inl ⟨by rfl, fun w' _ => (by go_simp; rfl)⟩) hS ?_
      go_frame
      refine till_take 2 (some 111) rfl rfl (by kernel_rfl) (by kernel_rfl) (by kernel_rfl) (by kernel_rfl) (by kernel_rfl) (by kernel_rfl) (fun _ _ _ h => h) (.inl ⟨by rfl, fun w' _ => (by go_simp; rfl)⟩) hS ?_
      go_frame
      refine till_take 3 (some 112) rfl rfl (by kernel_rfl) (by kernel_rfl) (by kernel_rfl) (by kernel_rfl) (by kernel_rfl) (by kernel_rfl) (fun _ _ _ h => h) (.inl ⟨by rfl, fun w' _ => (by go_simp; rfl)⟩) hS ?_
      go_frame
      refine till_take 4 (some 113) rfl rfl (by kernel_rfl) (by kernel_rfl) (by kernel_rfl) (by kernel_rfl) (by kernel_rfl) (by kernel_rfl) (fun _ _ _ h => h) (.inl ⟨by rfl, fun w' _ => (by go_simp; rfl)⟩) hS ?_
      go_frame
      refine till_take 5 (some 114) rfl rfl (by kernel_rfl) (by kernel_rfl) (by kernel_rfl) (by kernel_rfl) (by kernel_rfl) (by kernel_rfl) (fun _ _ _ h => h) (.inl ⟨by rfl, fun w' hS' => (by have hc1 := hS'; go_simp; rfl)⟩) hS ?_
      go_frame
      refine till_one 1 rfl (by kernel_rfl) fun K hK => ?_
      simp only [List.getElem_toArray, List.getElem_cons_succ, List.getElem_cons_zero]
      rw [if_pos (by rfl)]
      go_simp
      refine (sall_any (P1.out.later hbd) HSZ.out).mono ?_
      rintro e wC ⟨vC, rfl, hlC, hbC, _⟩
      have hbx : Below wr.heap.size wr wC := hbd.trans (hbC.mono hbd.size)
      have hS2 : wC.cell? ⟨h, 0, none⟩ = some vL := Lib.cell_of_heap (below_at' hbx HRA.out.head) 0
      refine hK _ _ (fun _ _ => hS2) ?_
      clear hK hS hbd hbC
      have hS := hS2
      have hbd := hbx
      clear hS2 hbx
      refine till_one 6 rfl (by kernel_rfl) fun K hK => ?_
      simp only [List.getElem_toArray, List.getElem_cons_succ, List.getElem_cons_zero]
      rw [if_pos (by rfl)]
      go_simp
      have hsm := rsame_any (hlC.rd pairE_len) ((HRA.out.list.later hbd).rd pairE_len) HSZ.out HSZ.out
      rw [decide_eq_true rfl] at hsm
      refine hsm.mono ?_
      rintro e wD ⟨rfl, hbD⟩
      clear hsm hlC
      have hbx : Below wr.heap.size wr wD := hbd.trans (hbD.mono hbd.size)
      have hS2 : wD.cell? ⟨h, 0, none⟩ = some vL := Lib.cell_of_heap (below_at' hbx HRA.out.head) 0
      refine hK _ _ (fun _ _ => hS2) ?_
      clear hK hS hbd hbD
      have hS := hS2
      have hbd := hbx
      clear hS2 hbx
      refine till_take 7 (some 116) rfl rfl (by kernel_rfl) (by kernel_rfl) (by kernel_rfl) (by kernel_rfl) (by kernel_rfl) (by kernel_rfl) (fun _ _ _ h => h) (.inl ⟨by rfl, fun w' _ => (by go_simp; rfl)⟩) hS ?_
      go_frame
      refine till_one 8 rfl (by kernel_rfl) fun K hK => ?_
      simp only [List.getElem_toArray, List.getElem_cons_succ, List.getElem_cons_zero]
      rw [if_pos (by rfl)]
      go_simp
      refine (lives32_any _).mono ?_
      rintro e wE ⟨rfl, hbE⟩
      have hbx : Below wr.heap.size wr wE := hbd.trans (hbE.mono hbd.size)
      have hS2 : wE.cell? ⟨h, 0, none⟩ = some vL := Lib.cell_of_heap (below_at' hbx HRA.out.head) 0
      refine hK _ _ (fun _ _ => hS2) ?_
      clear hK hS hbd hbE
      have hS := hS2
      have hbd := hbx
      clear hS2 hbx
      refine till_take 9 (some 118) rfl rfl (by kernel_rfl) (by kernel_rfl) (by kernel_rfl) (by kernel_rfl) (by kernel_rfl) (by kernel_rfl) (fun _ _ _ h => h) (.inl ⟨by rfl, fun w' _ => (by go_simp; rfl)⟩) hS ?_
      go_frame
      refine till_take 10 (some 4) rfl rfl (by kernel_rfl) (by kernel_rfl) (by kernel_rfl) (by kernel_rfl) (by kernel_rfl) (by kernel_rfl) (fun _ _ _ h => h) (.inl ⟨by rfl, fun w' _ => (by go_simp; rfl)⟩) hS ?_
      go_frame
      refine till_done (by kernel_rfl) ?_ _
      have BWA := Lib.hid (TF.out.below.trans (hbd.mono TF.out.below.size))
      clear hS hbd
      go_wp2_with fail
      go_ret
      exact ⟨rfl, BWA.out⟩
end Go.Proofs.Ytohedljdkfmkdaa
