/- RootsStay: the walk. No condition. -/
import Derived.Test.YtohedljdkfmkdaaRootD
namespace Go.Proofs.Ytohedljdkfmkdaa
open Go.RowKit

def zA : Act32 := ⟨false, 0, 0, 0, z32⟩
theorem Try.zeroA32 (w : World) : (zeroValue 85).run Try.prog w = .ok (.agg (act32E zA).toArray) w := by kernel_rfl
theorem Rd.act32 {w : World} {ad : Option Addr} {n cap : Nat} {t : List Act32} (h : Rd w act32E 36 (.slice ad n cap) t) (i : Nat) (hi : i < t.length) :
    ∃ g off, ad = some ⟨g, off, none⟩ ∧ g < w.heap.size ∧ w.rangeAt g (off + i * 36) (act32E t[i]) := by
  have hne : t ≠ [] := by rintro rfl; simp at hi
  obtain ⟨ax, cx, e3, _, _, h3⟩ := h
  obtain ⟨b, off, e4, hb, h5⟩ := h3 hne
  refine ⟨b, off, (Value.slice.inj e3).1.trans e4, hb, fun j v hv => ?_⟩
  have hj : j < 36 := by have := (List.getElem?_eq_some_iff.1 hv).1; rw [act32E_len] at this; exact this
  rw [h5 i hi j hj]; exact hv
theorem rangeBelow {a b : World} (h : Below a.heap.size a b) {g o : Nat} {l : List Value} (hg : g < a.heap.size) (hr : a.rangeAt g o l) : b.rangeAt g o l :=
  fun j v hv => (h.cell (p := ⟨g, o + j, none⟩) hg).trans (hr j v hv)

set_option maxHeartbeats 8000000 in
set_option maxRecDepth 100000 in
theorem stay32_any {w : World} {v1 v2 : Value} {l more : List Act32} (h1 : Rd w act32E 36 v1 l) (hgd : ∀ a ∈ l, Good32 a) (h2 : Rd w act32E 36 v2 more) (hgm : ∀ a ∈ more, Good32 a) (q : Int) (hq : 0 ≤ q ∧ q < 65536) :
    Calls Try.prog 8 #[v1, v2, .int .u16 q] w (Ret w (.bool true)) := by
  obtain ⟨ad, cap, e1, c1, c1'⟩ := h1.shape
  obtain ⟨ad2, cap2, e2, c2, c2'⟩ := h2.shape
  obtain ⟨n, hn⟩ : ∃ n, n = l.length := ⟨_, rfl⟩
  obtain ⟨m, hm⟩ : ∃ m, m = more.length := ⟨_, rfl⟩
  rw [← hn] at e1 c1
  rw [← hm] at e2 c2
  subst e1 e2
  have H1 := Lib.hid h1; have HN := Lib.hid hn; have H1G := Lib.hid hgd; have H2 := Lib.hid h2; have HM := Lib.hid hm; have H2G := Lib.hid hgm; have HQU := Lib.hid hq
  clear h1 hn hgd h2 hm hgm hq
  by_cases hl : 60 < n
  · go_enter Try.func8, Try.ntmps8
    go_wp2_with fail
    refine (lives32_any _).mono ?_
    rintro e w2 ⟨rfl, hb2⟩
    have HB2 := Lib.hid hb2
    clear hb2
    go_wp2_with fail
    go_ret
    exact ⟨rfl, HB2.out⟩
  by_cases hl2 : 60 < m
  · go_enter Try.func8, Try.ntmps8
    go_wp2_with fail
    refine (lives32_any _).mono ?_
    rintro e w2 ⟨rfl, hb2⟩
    have HB2 := Lib.hid hb2
    clear hb2
    go_wp2_with fail
    go_ret
    exact ⟨rfl, HB2.out⟩
  have HLE : Hid (n ≤ 60) := Lib.hid (by omega); have HLM : Hid (m ≤ 60) := Lib.hid (by omega)
  go_enter Try.func8, Try.ntmps8
  obtain ⟨j, hj⟩ : ∃ j : Int, (m : Int) % 4 = j := ⟨_, rfl⟩
  have HJ : Hid (0 ≤ j ∧ j < 4) := Lib.hid (by omega)
  go_wp2_with fail
  rw [hj]
  clear hl hl2 hj
  have HB : Hid (Below w.heap.size w w) := Lib.hid (Below.refl _ _)
  refine (snew_any _).mono ?_
  rintro e w3 ⟨g, F, rfl, q1, hb3, q3⟩
  have Q1 := Lib.hid q1; have HB3 := Lib.hid (HB.out.trans (hb3.mono HB.out.size)); have Q3 : Hid (∀ x ∈ F, w.heap.size ≤ x) := Lib.hid fun x hx => Nat.le_trans HB.out.size (q3 x hx)
  clear q1 hb3 q3
  go_wp2_with fail
  obtain ⟨w4, hw4⟩ : ∃ w4, w4 = w3.alloc (.cells #[.slice none 0 0, .slice none 0 0] 31) := ⟨_, rfl⟩
  obtain ⟨h, hh⟩ : ∃ h, h = w3.heap.size := ⟨_, rfl⟩
  rw [← hw4, ← hh]
  have TW : Hid (Two w w4 g h PS.new PS.new) := Lib.hid (by
    have hb4 : Below w3.heap.size w3 w4 := by rw [hw4]; exact (Below.refl _ _).alloc (Nat.le_refl _) _
    have hx4 : w4.heap[h]? = some (.cells #[.slice none 0 0, .slice none 0 0] 31 (0, 0)) := by rw [hw4, hh]; exact heap_alloc_new _ _
    have hrs : RS w4 h PS.new (rfoot h (.slice none 0 0) (.slice none 0 0)) := ⟨_, _, ⟨hx4, LO.nil _ _ _ _, LO.nil _ _ _ _, List.Pairwise.nil⟩, rfl⟩
    refine ⟨F, _, Q1.out.later hb4, hrs, Q3.out, fun x hx => ?_, HB3.out.trans (hb4.mono HB3.out.size)⟩
    rw [rfoot_eq] at hx
    rcases hx with e | e | e
    · rw [e, hh]; exact HB3.out.size
    · cases e
    · cases e)
  clear hw4 hh Q1 Q3 HB3
  go_loopw [44] (fun vi wr => ∃ (i : Nat), vi = .int .i64 i ∧ i ≤ n ∧ Hid (Two w wr g h (doRs PS.new (l.take i)) (doRs PS.new (l.take i)))) (fun vi _ => n - (intOf vi).toNat)
  case atStart => exact ⟨0, rfl, Nat.zero_le _, TW⟩
  case round =>
    clear TW
    obtain ⟨i, rfl, hin, TW⟩ := hrel
    by_cases hlt : i < n
    · have hi : i < l.length := by rw [← HN.out]; exact hlt
      obtain ⟨gL, off, rfl, hgL, q0⟩ := Rd.act32 H1.out i hi
      have HQ := Lib.hid (rangeBelow TW.out.below hgL q0)
      have HGX := Lib.hid (H1G.out l[i] (List.getElem_mem hi))
      clear q0 hgL
      have hat := doRs_take (s := PS.new) hi
      obtain ⟨x, hx⟩ : ∃ x, x = l[i] := ⟨_, rfl⟩
      rw [← hx] at HQ HGX hat
      have hsz := sz_doRs (l.take i) PS.new
      have hft := Fit.doRs (l.take i) Fit.new (fun a ha => (H1G.out a (List.mem_of_mem_take ha)).h)
      obtain ⟨s, hs⟩ : ∃ s, s = doRs PS.new (l.take i) := ⟨_, rfl⟩
      rw [← hs] at TW hat hsz hft
      have hsz2 : s.sz < 1099511620000 := by
        have h5 : PS.new.sz = 0 := rfl
        have h6 := HLE.out
        rw [h5, List.length_take] at hsz
        omega
      have HAT := Lib.hid hat; have HSZ := Lib.hid hsz2; have HLT := Lib.hid hlt; have HFT := Lib.hid hft
      clear hx hi hs hsz hsz2 hat hft
      go_wp2_with (first | (refine wpList_load_mid rfl 85 _ rfl gL (off + i * 36) rfl (act32E x) _ HQ.out Try.underlying85 rfl (by rw [act32E_len]; exact Try.sizeAct32) ?_) | (refine wpList_alloc_g rfl _ rfl _ _ Try.zeroA32 rfl ?_))
      intro R w5 h5
      go_wp2_with (refine wpList_store_row_g (t := 85) (old := (act32E zA).toArray) rfl 85 _ _ rfl R (act32E x).toArray rfl rfl h5.out.cells (Try.sizeAct32' x) (by rw [a32_size, a32_size]) (a32_one x) ?_)
      intro w6 hx6 k56 z56
      have hb56 : Below wr.heap.size wr w6 := h5.out.below.trans (k56.below (B := wr.heap.size) (fun x hx e => by have := h5.out.eq; omega) h5.out.below.size)
      have HX6 := Lib.hid hx6
      clear h5 hx6 k56 z56 HQ
      have T6 := Lib.hid (TW.out.later hb56)
      clear hb56 TW
      go_wp2_with (refine wpList_load_row rfl 85 _ rfl R rfl 85 _ _ _ HX6.out Try.underlying85 rfl (Try.sizeAct32' x) ?_)
      refine (act32_any T6.out (by have := HSZ.out; omega) HFT.out HGX.out).mono ?_
      rintro e w7 ⟨rfl, t7, _⟩
      have T7 : Hid (Two w w7 g h (doRs PS.new (l.take (i + 1))) (doRs PS.new (l.take (i + 1)))) := Lib.hid (by rw [HAT.out]; exact t7)
      clear t7 HSZ HFT HAT T6 HX6
      go_wp2_with fail
      go_roundw
      case rel => exact ⟨i + 1, by go_num, Nat.succ_le_of_lt HLT.out, T7⟩
      case measure => have hh : i < n := HLT.out; simp [intOf]; omega
    · have hfin : Two w wr g h (doRs PS.new l) (doRs PS.new l) := by
        have h8 := TW.out
        rwa [List.take_of_length_le (by rw [← HN.out]; omega)] at h8
      have hsz := sz_doRs l PS.new
      have hft := Fit.doRs l Fit.new (fun a ha => (H1G.out a ha).h)
      have hlaw := stay_law (q := q) HJ.out.1 (by have := HJ.out; omega) (l := l) (more := more) (fun a ha => (H1G.out a ha).i.2) (fun a ha => (H2G.out a ha).i.2)
      obtain ⟨s, hs⟩ : ∃ s, s = doRs PS.new l := ⟨_, rfl⟩
      rw [← hs] at hfin hsz hft hlaw
      have hsz2 : s.sz < 1099511610000 := by
        have h5 : PS.new.sz = 0 := rfl
        have h6 := HLE.out
        have h7 := HN.out
        omega
      have HSZ := Lib.hid hsz2; have TF := Lib.hid hfin; have HFT := Lib.hid hft; have HLAW := Lib.hid hlaw
      clear hfin hsz hs hsz2 TW hft hlaw
      have u1 := HQU.out
      obtain ⟨F1, p1⟩ := TF.out.get1
      go_wp2_with fail
      clear hlt
      refine (use32_any (Look.of_st p1) HFT.out.f q (i := j) (by have := HJ.out; omega)).mono ?_
      obtain ⟨uh, huh⟩ : ∃ uh, uh = useH (getP s.t) j q := ⟨_, rfl⟩
      obtain ⟨ue, hue⟩ : ∃ ue, ue = useE (getP s.t) j q := ⟨_, rfl⟩
      have HUL : Hid (uh.length = 32) := Lib.hid (by rw [huh]; exact useH_len _ _ _)
      rw [← huh, ← hue]
      have HUH := Lib.hid huh; have HUE := Lib.hid hue
      rintro e wa ⟨rfl, hb⟩
      have TA_ := Lib.hid (TF.out.later hb)
      clear hb p1 huh hue TF
      go_wp2_with (refine wpList_alloc_g rfl _ rfl _ _ Try.zeroHsh rfl ?_)
      intro A wa1 h4
      have HXQ := Lib.hid h4.out.cells; have HBM := Lib.hid h4.out.below; have HXW : Hid (wa.heap.size ≤ A) := Lib.hid (Nat.le_of_eq h4.out.eq.symm)
      clear h4
      go_wp2_with (refine wpList_store_row_g (t := 83) (old := c8 z32) rfl 83 _ _ rfl A (c8 uh) rfl rfl HXQ.out (Try.sizeHsh HUL.out) (by rw [c8_size, c8_size, HUL.out]; rfl) (c8_one _) ?_)
      intro wb hx5 k45 z45
      have HBN := Lib.hid (HBM.out.trans (k45.below (B := wa.heap.size) (fun y hy e => by have := HXW.out; omega) HBM.out.size))
      have HA := Lib.hid hx5; have TB := Lib.hid (TA_.out.later HBN.out)
      clear hx5 k45 z45 HXQ HBM HXW TA_
      obtain ⟨F2, p2⟩ := TB.out.get1
      go_wp2_with fail
      refine (get32_any (Look.of_st p2) HFT.out.f (i := j) (by have := HJ.out; omega)).mono ?_
      have hlen := rootF_h (getP s.t) j
      obtain ⟨rh, rs, ra, rk, hr⟩ : ∃ rh rs ra rk, rootF (getP s.t) j = ⟨rh, rs, ra, rk⟩ := ⟨_, _, _, _, rfl⟩
      have HR := Lib.hid hr
      rw [hr] at hlen ⊢
      have HRL : Hid (rh.length = 32) := Lib.hid hlen
      obtain ⟨on, hon⟩ : ∃ on, on = (rs == 1) := ⟨_, rfl⟩
      rintro e wc ⟨rfl, hb⟩
      have HON := Lib.hid hon
      rw [show ((RV.mk rh rs ra rk).st == 1) = on from hon.symm, show (RV.mk rh rs ra rk).h = rh from rfl, show (RV.mk rh rs ra rk).at_ = ra from rfl, show (RV.mk rh rs ra rk).ok = rk from rfl]
      have TC := Lib.hid (TB.out.later hb); have HA1 := Lib.hid (below_at' hb HA.out)
      clear hb p2 hlen hr hon TB HA
      go_wp2_with (refine wpList_alloc_g rfl _ rfl _ _ Try.zeroHsh rfl ?_)
      intro B wc1 h4
      have HXQ := Lib.hid h4.out.cells; have HBM := Lib.hid h4.out.below; have HXW : Hid (wc.heap.size ≤ B) := Lib.hid (Nat.le_of_eq h4.out.eq.symm)
      clear h4
      go_wp2_with (refine wpList_store_row_g (t := 83) (old := c8 z32) rfl 83 _ _ rfl B (c8 rh) rfl rfl HXQ.out (Try.sizeHsh HRL.out) (by rw [c8_size, c8_size, HRL.out]; rfl) (c8_one _) ?_)
      intro wd hx5 k45 z45
      have HBN := Lib.hid (HBM.out.trans (k45.below (B := wc.heap.size) (fun y hy e => by have := HXW.out; omega) HBM.out.size))
      have HB := Lib.hid hx5; have TD := Lib.hid (TC.out.later HBN.out)
      clear hx5 k45 z45 HXQ HBM HXW TC
      have HA2 := Lib.hid (below_at' HBN.out HA1.out)
      clear HBN HA1
      go_wp2_with fail
      clear u1
      go_loopw [72] (fun vi wq => ∃ (i : Nat), vi = .int .i64 i ∧ i ≤ m ∧ Hid (Two w wq g h (doR2s q s (more.take i)) (doR2s q s (more.take i)) ∧ wq.heap[A]? = some (.cells (c8 uh) 83 (0, 0)) ∧ wq.heap[B]? = some (.cells (c8 rh) 83 (0, 0)))) (fun vi _ => m - (intOf vi).toNat)
      case atStart => exact ⟨0, rfl, Nat.zero_le _, Lib.hid ⟨TD.out, HA2.out, HB.out⟩⟩
      case round =>
        clear TD HA2 HB
        obtain ⟨i, rfl, hin, TW⟩ := hrel
        by_cases hlt : i < m
        · have hi : i < more.length := by rw [← HM.out]; exact hlt
          obtain ⟨gL, off, rfl, hgL, q0⟩ := Rd.act32 H2.out i hi
          have HQ := Lib.hid (rangeBelow TW.out.1.below hgL q0)
          have HGX := Lib.hid (H2G.out more[i] (List.getElem_mem hi))
          clear q0 hgL
          have hat := doR2s_take (q := q) (s := s) hi
          obtain ⟨x, hx⟩ : ∃ x, x = more[i] := ⟨_, rfl⟩
          rw [← hx] at HQ HGX hat
          have hsz := sz_doR2s q (more.take i) s
          have hft := Fit.doR2s q (more.take i) HFT.out (fun a ha => (H2G.out a (List.mem_of_mem_take ha)).h)
          obtain ⟨z, hz⟩ : ∃ z, z = doR2s q s (more.take i) := ⟨_, rfl⟩
          rw [← hz] at TW hat hsz hft
          have hsz2 : z.sz < 1099511620000 := by
            have h5 := HSZ.out
            have h6 := HLM.out
            rw [List.length_take] at hsz
            omega
          have HAT := Lib.hid hat; have HSZZ := Lib.hid hsz2; have HLT := Lib.hid hlt; have HFZ := Lib.hid hft
          clear hx hi hz hsz hsz2 hat hft
          go_wp2_with (first | (refine wpList_load_mid rfl 85 _ rfl gL (off + i * 36) rfl (act32E x) _ HQ.out Try.underlying85 rfl (by rw [act32E_len]; exact Try.sizeAct32) ?_) | (refine wpList_alloc_g rfl _ rfl _ _ Try.zeroA32 rfl ?_))
          intro R w5 h5
          go_wp2_with (refine wpList_store_row_g (t := 85) (old := (act32E zA).toArray) rfl 85 _ _ rfl R (act32E x).toArray rfl rfl h5.out.cells (Try.sizeAct32' x) (by rw [a32_size, a32_size]) (a32_one x) ?_)
          intro w6 hx6 k56 z56
          have hb56 : Below wr.heap.size wr w6 := h5.out.below.trans (k56.below (B := wr.heap.size) (fun x hx e => by have := h5.out.eq; omega) h5.out.below.size)
          have HX6 := Lib.hid hx6
          clear h5 hx6 k56 z56 HQ
          have T6 := Lib.hid (TW.out.1.later hb56); have HA6 := Lib.hid (below_at' hb56 TW.out.2.1); have HB6 := Lib.hid (below_at' hb56 TW.out.2.2)
          have qb : w6.cell? ⟨R, 2, none⟩ = some (.int .i64 x.b) := (Lib.cell_of_heap HX6.out 2).trans (a32_2 x)
          clear hb56 TW
          by_cases hqb : q ≤ x.b
          · have HDO : Hid (doR2 q z x = doR z x) := Lib.hid (by unfold doR2; rw [if_pos hqb])
            go_wp2_with (refine wpList_load_row rfl 85 _ rfl R rfl 85 _ _ _ HX6.out Try.underlying85 rfl (Try.sizeAct32' x) ?_)
            clear hqb qb
            refine (act32_any T6.out (by have := HSZZ.out; omega) HFZ.out HGX.out).mono ?_
            rintro e w7 ⟨rfl, t7, o7⟩
            have TW7 : Hid (Two w w7 g h (doR2s q s (more.take (i + 1))) (doR2s q s (more.take (i + 1))) ∧ w7.heap[A]? = some (.cells (c8 uh) 83 (0, 0)) ∧ w7.heap[B]? = some (.cells (c8 rh) 83 (0, 0))) := Lib.hid ⟨by rw [HAT.out, HDO.out]; exact t7, o7.2 A _ HA6.out rfl rfl, o7.2 B _ HB6.out rfl rfl⟩
            clear t7 o7 HSZZ HFZ HAT T6 HX6 HA6 HB6
            go_wp2_with fail
            go_roundw
            case rel => exact ⟨i + 1, by go_num, Nat.succ_le_of_lt HLT.out, TW7⟩
            case measure => have hh : i < m := HLT.out; simp [intOf]; omega
          · have HDO : Hid (doR2 q z x = z) := Lib.hid (by unfold doR2; rw [if_neg hqb])
            have TW7 : Hid (Two w w6 g h (doR2s q s (more.take (i + 1))) (doR2s q s (more.take (i + 1))) ∧ w6.heap[A]? = some (.cells (c8 uh) 83 (0, 0)) ∧ w6.heap[B]? = some (.cells (c8 rh) 83 (0, 0))) := Lib.hid ⟨by rw [HAT.out, HDO.out]; exact T6.out, HA6.out, HB6.out⟩
            clear HSZZ HFZ HAT T6 HX6 HA6 HB6
            go_wp2_with fail
            go_roundw
            case rel => exact ⟨i + 1, by go_num, Nat.succ_le_of_lt HLT.out, TW7⟩
            case measure => have hh : i < m := HLT.out; simp [intOf]; omega
        · have hfin : Two w wr g h (doR2s q s more) (doR2s q s more) := by
            have h8 := TW.out.1
            rwa [List.take_of_length_le (by rw [← HM.out]; omega)] at h8
          have hsz := sz_doR2s q more s
          have hft := Fit.doR2s q more HFT.out (fun a ha => (H2G.out a ha).h)
          obtain ⟨z, hz⟩ : ∃ z, z = doR2s q s more := ⟨_, rfl⟩
          rw [← hz] at hfin hsz hft HLAW
          have T1 := Lib.hid hfin; have HFZ := Lib.hid hft; have HA2 := Lib.hid TW.out.2.1; have HB2 := Lib.hid TW.out.2.2
          clear hfin hsz hft hz TW
          have u1 := HQU.out
          obtain ⟨F1, p1⟩ := T1.out.get1
          go_wp2_with fail
          clear hlt
          refine (get32_any (Look.of_st p1) HFZ.out.f (i := j) (by have := HJ.out; omega)).mono ?_
          have hlen := rootF_h (getP z.t) j
          obtain ⟨kh, ks, ka, kk, hk⟩ : ∃ kh ks ka kk, rootF (getP z.t) j = ⟨kh, ks, ka, kk⟩ := ⟨_, _, _, _, rfl⟩
          have HK := Lib.hid hk
          rw [hk] at hlen ⊢
          have HKL : Hid (kh.length = 32) := Lib.hid hlen
          obtain ⟨still, hst⟩ : ∃ still, still = (ks == 1) := ⟨_, rfl⟩
          rintro e wc ⟨rfl, hb⟩
          have HST := Lib.hid hst
          rw [show ((RV.mk kh ks ka kk).st == 1) = still from hst.symm, show (RV.mk kh ks ka kk).h = kh from rfl, show (RV.mk kh ks ka kk).at_ = ka from rfl, show (RV.mk kh ks ka kk).ok = kk from rfl]
          have TC := Lib.hid (T1.out.later hb); have HA3 := Lib.hid (below_at' hb HA2.out); have HB3 := Lib.hid (below_at' hb HB2.out)
          clear hb p1 hlen hk hst T1 HA2 HB2
          go_wp2_with (refine wpList_alloc_g rfl _ rfl _ _ Try.zeroHsh rfl ?_)
          intro C wd h4
          have HXQ := Lib.hid h4.out.cells; have HBM := Lib.hid h4.out.below; have HXW : Hid (wc.heap.size ≤ C) := Lib.hid (Nat.le_of_eq h4.out.eq.symm)
          clear h4
          go_wp2_with (refine wpList_store_row_g (t := 83) (old := c8 z32) rfl 83 _ _ rfl C (c8 kh) rfl rfl HXQ.out (Try.sizeHsh HKL.out) (by rw [c8_size, c8_size, HKL.out]; rfl) (c8_one _) ?_)
          intro we hx5 k45 z45
          have HBN := Lib.hid (HBM.out.trans (k45.below (B := wc.heap.size) (fun y hy e => by have := HXW.out; omega) HBM.out.size))
          have HC := Lib.hid hx5; have TE := Lib.hid (TC.out.later HBN.out)
          clear hx5 k45 z45 HXQ HBM HXW TC
          have HA4 := Lib.hid (below_at' HBN.out HA3.out); have HB4 := Lib.hid (below_at' HBN.out HB3.out)
          clear HBN HA3 HB3
          have hl1 := HLAW.out.1
          rw [HR.out, HK.out] at hl1
          have HL1 : Hid (rk = true → kk = true ∧ kh = rh ∧ (on = false → still = false)) := Lib.hid fun h => by
            obtain ⟨a1, a2, a3⟩ := hl1 h
            refine ⟨a1, a2, fun h9 => ?_⟩
            rw [HON.out] at h9
            rw [HST.out]
            exact beq_eq_false_iff_ne.2 (a3 (beq_eq_false_iff_ne.1 h9))
          have HL2 : Hid (ue = 0 → useE (getP z.t) j (q + 1) = 0 ∧ useH (getP z.t) j (q + 1) = uh) := Lib.hid fun h => by
            have := HLAW.out.2.1 (by rw [← HUE.out]; exact h)
            rw [HUH.out]; exact this
          have HL3 : Hid (¬ ue = 0 → rk = true → on = false → useE (getP z.t) j (q + 1) = 10) := Lib.hid fun h h2 h3 => by
            refine HLAW.out.2.2 (by rw [← HUE.out]; exact h) (by rw [HR.out]; exact h2) ?_
            rw [HR.out]
            rw [HON.out] at h3
            exact beq_eq_false_iff_ne.1 h3
          clear hl1
          have heq := Try.eqH rh rh HRL.out HRL.out
          cases rk with
          | false =>
            clear heq
            go_wp2_with fail
            obtain ⟨F3, p3⟩ := TE.out.get1
            refine (use32_any (Look.of_st p3) HFZ.out.f (q + 1) (i := j) (by have := HJ.out; omega)).mono ?_
            obtain ⟨xh, hxh⟩ : ∃ xh, xh = useH (getP z.t) j (q + 1) := ⟨_, rfl⟩
            obtain ⟨xe, hxe⟩ : ∃ xe, xe = useE (getP z.t) j (q + 1) := ⟨_, rfl⟩
            have HXL : Hid (xh.length = 32) := Lib.hid (by rw [hxh]; exact useH_len _ _ _)
            rw [← hxh, ← hxe] at HL2
            rw [← hxe] at HL3
            rw [← hxh, ← hxe]
            rintro e wg ⟨rfl, hb⟩
            have TG := Lib.hid (TE.out.later hb); have HA5 := Lib.hid (below_at' hb HA4.out)
            clear hb p3 hxh hxe TE HA4
            go_wp2_with (refine wpList_alloc_g rfl _ rfl _ _ Try.zeroHsh rfl ?_)
            intro E_ wh h4
            have HXQ := Lib.hid h4.out.cells; have HBM := Lib.hid h4.out.below; have HXW : Hid (wg.heap.size ≤ E_) := Lib.hid (Nat.le_of_eq h4.out.eq.symm)
            clear h4
            go_wp2_with (refine wpList_store_row_g (t := 83) (old := c8 z32) rfl 83 _ _ rfl E_ (c8 xh) rfl rfl HXQ.out (Try.sizeHsh HXL.out) (by rw [c8_size, c8_size, HXL.out]; rfl) (c8_one _) ?_)
            intro wi hx5 k45 z45
            have HBN := Lib.hid (HBM.out.trans (k45.below (B := wg.heap.size) (fun y hy e => by have := HXW.out; omega) HBM.out.size))
            have HE_ := Lib.hid hx5; have TI := Lib.hid (TG.out.later HBN.out)
            clear hx5 k45 z45 HXQ HBM HXW TG
            have HA6 := Lib.hid (below_at' HBN.out HA5.out)
            clear HBN HA5
            by_cases hue : ue = 0
            · have hue' : (ue == 0) = true := by rw [hue]; rfl
              obtain ⟨e1, e2⟩ := HL2.out hue
              have he1 : (xe == 0) = true := by rw [e1]; rfl
              subst e2
              have heu := Try.eqH xh xh HXL.out HXL.out
              clear hue e1
              go_wp2_with (first
                | (refine wpList_load_row_y rfl 83 _ rfl A rfl 83 _ _ _ HA6.out Try.underlying83 rfl (Try.sizeHsh HXL.out) ?_)
                | (refine wpList_load_row_y rfl 83 _ rfl E_ rfl 83 _ _ _ HE_.out Try.underlying83 rfl (Try.sizeHsh HXL.out) ?_))
              refine (lives32_any _).mono ?_
              rintro e wy ⟨rfl, hb⟩
              have HBF := Lib.hid (TI.out.below.trans (hb.mono TI.out.below.size))
              clear hb heu
              go_wp2_with fail
              go_ret
              exact ⟨rfl, HBF.out⟩
            · have hue' : (ue == 0) = false := beq_eq_false_iff_ne.2 hue
              have HL4 := HL3.out hue
              clear hue
              go_wp2_with fail
              refine (lives32_any _).mono ?_
              rintro e wy ⟨rfl, hb⟩
              have HBF := Lib.hid (TI.out.below.trans (hb.mono TI.out.below.size))
              clear hb
              go_wp2_with fail
              go_ret
              exact ⟨rfl, HBF.out⟩
          | true =>
          obtain ⟨e1, e2, e3⟩ := HL1.out rfl
          subst e1 e2
          cases on with
          | true =>
            clear e3
            go_wp2_with (first
              | (refine wpList_load_row_y rfl 83 _ rfl B rfl 83 _ _ _ HB4.out Try.underlying83 rfl (Try.sizeHsh HRL.out) ?_)
              | (refine wpList_load_row_y rfl 83 _ rfl C rfl 83 _ _ _ HC.out Try.underlying83 rfl (Try.sizeHsh HRL.out) ?_))
            clear heq
            obtain ⟨F3, p3⟩ := TE.out.get1
            refine (use32_any (Look.of_st p3) HFZ.out.f (q + 1) (i := j) (by have := HJ.out; omega)).mono ?_
            obtain ⟨xh, hxh⟩ : ∃ xh, xh = useH (getP z.t) j (q + 1) := ⟨_, rfl⟩
            obtain ⟨xe, hxe⟩ : ∃ xe, xe = useE (getP z.t) j (q + 1) := ⟨_, rfl⟩
            have HXL : Hid (xh.length = 32) := Lib.hid (by rw [hxh]; exact useH_len _ _ _)
            rw [← hxh, ← hxe] at HL2
            rw [← hxe] at HL3
            rw [← hxh, ← hxe]
            rintro e wg ⟨rfl, hb⟩
            have TG := Lib.hid (TE.out.later hb); have HA5 := Lib.hid (below_at' hb HA4.out)
            clear hb p3 hxh hxe TE HA4
            go_wp2_with (refine wpList_alloc_g rfl _ rfl _ _ Try.zeroHsh rfl ?_)
            intro E_ wh h4
            have HXQ := Lib.hid h4.out.cells; have HBM := Lib.hid h4.out.below; have HXW : Hid (wg.heap.size ≤ E_) := Lib.hid (Nat.le_of_eq h4.out.eq.symm)
            clear h4
            go_wp2_with (refine wpList_store_row_g (t := 83) (old := c8 z32) rfl 83 _ _ rfl E_ (c8 xh) rfl rfl HXQ.out (Try.sizeHsh HXL.out) (by rw [c8_size, c8_size, HXL.out]; rfl) (c8_one _) ?_)
            intro wi hx5 k45 z45
            have HBN := Lib.hid (HBM.out.trans (k45.below (B := wg.heap.size) (fun y hy e => by have := HXW.out; omega) HBM.out.size))
            have HE_ := Lib.hid hx5; have TI := Lib.hid (TG.out.later HBN.out)
            clear hx5 k45 z45 HXQ HBM HXW TG
            have HA6 := Lib.hid (below_at' HBN.out HA5.out)
            clear HBN HA5
            by_cases hue : ue = 0
            · have hue' : (ue == 0) = true := by rw [hue]; rfl
              obtain ⟨e1, e2⟩ := HL2.out hue
              have he1 : (xe == 0) = true := by rw [e1]; rfl
              subst e2
              have heu := Try.eqH xh xh HXL.out HXL.out
              clear hue e1
              go_wp2_with (first
                | (refine wpList_load_row_y rfl 83 _ rfl A rfl 83 _ _ _ HA6.out Try.underlying83 rfl (Try.sizeHsh HXL.out) ?_)
                | (refine wpList_load_row_y rfl 83 _ rfl E_ rfl 83 _ _ _ HE_.out Try.underlying83 rfl (Try.sizeHsh HXL.out) ?_))
              refine (lives32_any _).mono ?_
              rintro e wy ⟨rfl, hb⟩
              have HBF := Lib.hid (TI.out.below.trans (hb.mono TI.out.below.size))
              clear hb heu
              go_wp2_with fail
              go_ret
              exact ⟨rfl, HBF.out⟩
            · have hue' : (ue == 0) = false := beq_eq_false_iff_ne.2 hue
              have HL4 := HL3.out hue
              clear hue
              go_wp2_with fail
              refine (lives32_any _).mono ?_
              rintro e wy ⟨rfl, hb⟩
              have HBF := Lib.hid (TI.out.below.trans (hb.mono TI.out.below.size))
              clear hb
              go_wp2_with fail
              go_ret
              exact ⟨rfl, HBF.out⟩
          | false =>
            obtain rfl := e3 rfl
            go_wp2_with (first
              | (refine wpList_load_row_y rfl 83 _ rfl B rfl 83 _ _ _ HB4.out Try.underlying83 rfl (Try.sizeHsh HRL.out) ?_)
              | (refine wpList_load_row_y rfl 83 _ rfl C rfl 83 _ _ _ HC.out Try.underlying83 rfl (Try.sizeHsh HRL.out) ?_))
            clear heq e3
            obtain ⟨F3, p3⟩ := TE.out.get1
            refine (use32_any (Look.of_st p3) HFZ.out.f (q + 1) (i := j) (by have := HJ.out; omega)).mono ?_
            obtain ⟨xh, hxh⟩ : ∃ xh, xh = useH (getP z.t) j (q + 1) := ⟨_, rfl⟩
            obtain ⟨xe, hxe⟩ : ∃ xe, xe = useE (getP z.t) j (q + 1) := ⟨_, rfl⟩
            have HXL : Hid (xh.length = 32) := Lib.hid (by rw [hxh]; exact useH_len _ _ _)
            rw [← hxh, ← hxe] at HL2
            rw [← hxe] at HL3
            rw [← hxh, ← hxe]
            rintro e wg ⟨rfl, hb⟩
            have TG := Lib.hid (TE.out.later hb); have HA5 := Lib.hid (below_at' hb HA4.out)
            clear hb p3 hxh hxe TE HA4
            go_wp2_with (refine wpList_alloc_g rfl _ rfl _ _ Try.zeroHsh rfl ?_)
            intro E_ wh h4
            have HXQ := Lib.hid h4.out.cells; have HBM := Lib.hid h4.out.below; have HXW : Hid (wg.heap.size ≤ E_) := Lib.hid (Nat.le_of_eq h4.out.eq.symm)
            clear h4
            go_wp2_with (refine wpList_store_row_g (t := 83) (old := c8 z32) rfl 83 _ _ rfl E_ (c8 xh) rfl rfl HXQ.out (Try.sizeHsh HXL.out) (by rw [c8_size, c8_size, HXL.out]; rfl) (c8_one _) ?_)
            intro wi hx5 k45 z45
            have HBN := Lib.hid (HBM.out.trans (k45.below (B := wg.heap.size) (fun y hy e => by have := HXW.out; omega) HBM.out.size))
            have HE_ := Lib.hid hx5; have TI := Lib.hid (TG.out.later HBN.out)
            clear hx5 k45 z45 HXQ HBM HXW TG
            have HA6 := Lib.hid (below_at' HBN.out HA5.out)
            clear HBN HA5
            by_cases hue : ue = 0
            · have hue' : (ue == 0) = true := by rw [hue]; rfl
              obtain ⟨e1, e2⟩ := HL2.out hue
              have he1 : (xe == 0) = true := by rw [e1]; rfl
              subst e2
              have heu := Try.eqH xh xh HXL.out HXL.out
              clear hue e1
              go_wp2_with (first
                | (refine wpList_load_row_y rfl 83 _ rfl A rfl 83 _ _ _ HA6.out Try.underlying83 rfl (Try.sizeHsh HXL.out) ?_)
                | (refine wpList_load_row_y rfl 83 _ rfl E_ rfl 83 _ _ _ HE_.out Try.underlying83 rfl (Try.sizeHsh HXL.out) ?_))
              refine (lives32_any _).mono ?_
              rintro e wy ⟨rfl, hb⟩
              have HBF := Lib.hid (TI.out.below.trans (hb.mono TI.out.below.size))
              clear hb heu
              go_wp2_with fail
              go_ret
              exact ⟨rfl, HBF.out⟩
            · have hue' : (ue == 0) = false := beq_eq_false_iff_ne.2 hue
              have HL4 := HL3.out hue
              clear hue
              obtain rfl := HL4 (by first | rfl | trivial) (by first | rfl | trivial)
              go_wp2_with fail
              refine (lives32_any _).mono ?_
              rintro e wy ⟨rfl, hb⟩
              have HBF := Lib.hid (TI.out.below.trans (hb.mono TI.out.below.size))
              clear hb
              go_wp2_with fail
              go_ret
              exact ⟨rfl, HBF.out⟩
end Go.Proofs.Ytohedljdkfmkdaa
