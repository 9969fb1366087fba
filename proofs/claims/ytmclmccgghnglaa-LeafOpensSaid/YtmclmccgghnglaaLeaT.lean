/- tallagelaw16.LeafOpens: its walk. -/
import Derived.Test.YtmclmccgghnglaaLcK19
import Derived.Test.YtmclmccgghnglaaLeaS
namespace Go.Proofs.Ytmclmccgghnglaa
open Go.RowKit

set_option maxHeartbeats 16000000 in
set_option maxRecDepth 100000 in
theorem lopens_any (w : World) (v : Value) (c : CCl) (root : List UInt8) (hc : ClAt w v c) (hok : COk c) (hroot : root.length = 32) :
    Calls Try.prog 3 #[v, .agg (c8 root)] w (Ret w (.bool true)) := by
  obtain ⟨⟨pa, pn, pc⟩, ⟨la, ln, lc⟩, rfl, hp, xs, hxl, hlv, hpr⟩ := hc
  obtain ⟨crt, cix, ce, ch, cp, clv, cto⟩ := c
  have hln : ln = xs.length := hlv.size
  have hl9 : ln ≤ 9223372036854775807 := by
    obtain ⟨ad', cap', he, h1, h2⟩ := hlv.shape
    simp [slV] at he; omega
  have HCA := Lib.hid (show ∀ W, Below w.heap.size w W → ClAt W (.agg (clC crt cix ce ch (pa, pn, pc) (la, ln, lc) cto)) ⟨crt, cix, ce, ch, cp, clv, cto⟩ from fun W h => ⟨(pa, pn, pc), (la, ln, lc), rfl, hp.later h, xs, hxl, hlv.later h, fun x hx => (hpr x hx).later h⟩)
  have HP := Lib.hid (show Rd w hE 32 (.slice pa pn pc) cp from hp); have HLV := Lib.hid (show Rd w lfE 7 (.slice la ln lc) xs from hlv); have HPR := Lib.hid hpr; have HXL := Lib.hid (show xs.map (·.1) = clv from hxl); have HRT := Lib.hid hroot; have HOK := Lib.hid hok; have HLN := Lib.hid hln
  have HCH := Lib.hid (show ch.length = 32 from hok.1)
  clear hp hlv hpr hxl hok hroot hln
  simp only []
  have hbB : Below w.heap.size w ((w.alloc (.cells (clC crt cix ce ch (pa, pn, pc) (la, ln, lc) cto) 27)).alloc (.cells (c8 root) 23)) := ((Below.refl _ _).alloc (Nat.le_refl _) _).trans (((Below.refl _ _).alloc (Nat.le_refl _) _).mono ((Below.refl w.heap.size w).alloc (Nat.le_refl _) _).size)
  have hP1 : ((w.alloc (.cells (clC crt cix ce ch (pa, pn, pc) (la, ln, lc) cto) 27)).alloc (.cells (c8 root) 23)).heap[w.heap.size]? = some (.cells (clC crt cix ce ch (pa, pn, pc) (la, ln, lc) cto) 27 (0, 0)) := below_at2 ((Below.refl _ _).alloc (Nat.le_refl _) _) (heap_alloc_new _ _)
  have hQ1 : ((w.alloc (.cells (clC crt cix ce ch (pa, pn, pc) (la, ln, lc) cto) 27)).alloc (.cells (c8 root) 23)).heap[w.heap.size + 1]? = some (.cells (c8 root) 23 (0, 0)) := by
    rw [← show (w.alloc (.cells (clC crt cix ce ch (pa, pn, pc) (la, ln, lc) cto) 27)).heap.size = w.heap.size + 1 from Array.size_push _]; exact heap_alloc_new _ _
  have c35 : ((w.alloc (.cells (clC crt cix ce ch (pa, pn, pc) (la, ln, lc) cto) 27)).alloc (.cells (c8 root) 23)).cell? ⟨w.heap.size, 35, none⟩ = some (.slice pa pn pc) := (Lib.cell_of_heap hP1 35).trans (clC_35 _ _ _ HCH.out _ _ _)
  have c36 : ((w.alloc (.cells (clC crt cix ce ch (pa, pn, pc) (la, ln, lc) cto) 27)).alloc (.cells (c8 root) 23)).cell? ⟨w.heap.size, 36, none⟩ = some (.slice la ln lc) := (Lib.cell_of_heap hP1 36).trans (clC_36 _ _ _ HCH.out _ _ _)
  have HBB := Lib.hid hbB; have HP1 := Lib.hid hP1; have HQ1 := Lib.hid hQ1
  clear hbB hP1 hQ1
  by_cases hp20 : 20 < pn
  · go_enter Try.func3, Try.ntmps3
    go_wp2_with fail
    refine (lives16_any _).mono ?_
    rintro e wl ⟨rfl, hbl⟩
    have HBl := Lib.hid (HBB.out.trans (hbl.mono HBB.out.size))
    clear hbl
    go_wp2_with fail
    go_ret
    exact ⟨rfl, HBl.out⟩
  · by_cases hl20 : 20 < ln
    · go_enter Try.func3, Try.ntmps3
      go_wp2_with fail
      refine (lives16_any _).mono ?_
      rintro e wl ⟨rfl, hbl⟩
      have HBl := Lib.hid (HBB.out.trans (hbl.mono HBB.out.size))
      clear hbl
      go_wp2_with fail
      go_ret
      exact ⟨rfl, HBl.out⟩
    · have hl30 : ln ≤ 20 := by omega
      clear hl9
      go_enter Try.func3, Try.ntmps3
      go_wp2_with fail
      obtain ⟨wB, hwB⟩ : ∃ wB, wB = (w.alloc (.cells (clC crt cix ce ch (pa, pn, pc) (la, ln, lc) cto) 27)).alloc (.cells (c8 root) 23) := ⟨_, rfl⟩
      rw [← hwB] at HBB HP1 HQ1 ⊢
      obtain ⟨P, hP⟩ : ∃ P, P = w.heap.size := ⟨_, rfl⟩
      rw [← hP] at HP1 HQ1 ⊢
      obtain ⟨Q, hQ⟩ : ∃ Q, Q = P + 1 := ⟨_, rfl⟩
      rw [← hQ] at HQ1 ⊢
      clear hwB hP hQ c35 c36 hp20 hl20
      go_loopw [21] (fun y wr => ∃ i : Nat, y = .int .i64 i ∧ i ≤ ln ∧ Hid (Below wB.heap.size wB wr)) (fun y _ => ln - (intOf y).toNat)
      case atStart => exact ⟨0, rfl, by omega, Lib.hid (Below.refl _ _)⟩
      case round =>
        obtain ⟨i, rfl, hin, HD⟩ := hrel
        have HBi := Lib.hid (HBB.out.trans (HD.out.mono HBB.out.size))
        by_cases hlt : i < ln
        · have hi : i < xs.length := by have := HLN.out; omega
          obtain ⟨b, off, rfl, c0, c1, c2, c3, c4, c5, c6⟩ := (HLV.out.later HBi.out).leaf i hi
          obtain ⟨⟨⟨xi, xt, xm, xp⟩, ⟨sa, sn, sc⟩⟩, hx⟩ : ∃ x, x = xs[i] := ⟨_, rfl⟩
          rw [← hx] at c0 c1 c2 c3 c4 c5 c6
          clear hx hi
          simp only [] at c0 c1 c2 c3 c4 c5
          replace c6 : wr.cell? ⟨b, off + i * 7 + 6, none⟩ = some (.slice sa sn sc) := c6
          go_wp2_with (refine wpList_alloc_g rfl _ rfl _ _ Try.zeroLf rfl ?_)
          intro L d3 hL
          go_wp2_with (refine wpList_store_row_g (t := 33) (old := lfZ) rfl 33 _ _ rfl L (lfC xi xt xm (sa, sn, sc)) rfl rfl hL.out.cells Try.sizeLf rfl (lfC_one _ _ _ _) ?_)
          intro w6 h6 k6 z6
          have hb6 : Below wr.heap.size wr w6 := hL.out.below.trans (k6.below (B := wr.heap.size) (fun x hx e => by have := hL.out.eq; omega) hL.out.below.size)
          have cL : w6.cell? ⟨L, 6, none⟩ = some (.slice sa sn sc) := Lib.cell_of_heap h6 6
          have HD6 := Lib.hid (HD.out.trans (hb6.mono HD.out.size)); have HB6 := Lib.hid (HBi.out.trans (hb6.mono HBi.out.size))
          clear hL h6 k6 z6 hb6 c0 c1 c2 c3 c4 c5 c6 HD HBi
          by_cases hs20 : 20 < sn
          · go_wp2_with fail
            refine (lives16_any _).mono ?_
            rintro e wl ⟨rfl, hbl⟩
            have HBl := Lib.hid (HB6.out.trans (hbl.mono HB6.out.size))
            clear hbl
            go_wp2_with fail
            go_ret
            exact ⟨rfl, HBl.out⟩
          · go_wp2_with fail
            go_roundw
            case rel => exact ⟨i + 1, by go_num, hlt, HD6⟩
            case measure => simp [intOf]; omega
        · obtain rfl : i = ln := by omega
          have HPi := Lib.hid (below_at2 HD.out HP1.out); have HQi := Lib.hid (below_at2 HD.out HQ1.out)
          clear HD
          go_upto_region 9 with fail
          obtain ⟨q, hq⟩ : ∃ q, q = openR ⟨crt, cix, ce, ch, cp, clv, cto⟩ root := ⟨_, rfl⟩
          have HQ := Lib.hid hq.symm
          clear hq
          obtain ⟨wz, hwz⟩ : ∃ wz, wz = wr.drew := ⟨_, rfl⟩
          have hbz : Below wr.heap.size wr wz := by rw [hwz]; exact (Below.refl _ _).drew
          have hS := And.intro (below_at2 hbz HPi.out) (below_at2 hbz HQi.out)
          have HB0 := Lib.hid (HBi.out.trans (hbz.mono HBi.out.size))
          clear hbz HPi HQi HBi
          refine wp_region_till (fun w' => w'.heap[P]? = some (.cells (clC crt cix ce ch (pa, pn, pc) (la, i, lc) cto) 27 (0, 0)) ∧ w'.heap[Q]? = some (.cells (c8 root) 23 (0, 0))) 13 13 (by kernel_rfl) rfl ?_
          rw [← hwz]
          clear hwz
          refine till_take 0 (some 31) rfl rfl (by kernel_rfl) (by kernel_rfl) (by kernel_rfl) (by kernel_rfl) (by kernel_rfl) (by kernel_rfl) (fun _ _ _ h => h) (yields_load (by rfl) 27 _ rfl (.pointer (some ⟨P, 0, none⟩)) rfl (.agg (clC crt cix ce ch (pa, pn, pc) (la, i, lc) cto)) (fun w' hS' => load_blk hS'.1 Try.underlying27 rfl (Try.sizeCl _ _ _ HCH.out _ _ _))) hS ?_
          go_frame
          refine till_take 1 (some 32) rfl rfl (by kernel_rfl) (by kernel_rfl) (by kernel_rfl) (by kernel_rfl) (by kernel_rfl) (by kernel_rfl) (fun _ _ _ h => h) (yields_load (by rfl) 23 _ rfl (.pointer (some ⟨Q, 0, none⟩)) rfl (.agg (c8 root)) (fun w' hS' => load_blk hS'.2 Try.underlying23 rfl (Try.sizeHc root HRT.out))) hS ?_
          go_frame
          refine till_take 3 (some 34) rfl rfl (by kernel_rfl) (by kernel_rfl) (by kernel_rfl) (by kernel_rfl) (by kernel_rfl) (by kernel_rfl) (fun _ _ _ h => h) (.inl ⟨by rfl, fun w' _ => (by go_simp; rfl)⟩) hS ?_
          go_frame
          refine till_take 5 (some 36) rfl rfl (by kernel_rfl) (by kernel_rfl) (by kernel_rfl) (by kernel_rfl) (by kernel_rfl) (by kernel_rfl) (fun _ _ _ h => h) (yields_load (by rfl) 27 _ rfl (.pointer (some ⟨P, 0, none⟩)) rfl (.agg (clC crt cix ce ch (pa, pn, pc) (la, i, lc) cto)) (fun w' hS' => load_blk hS'.1 Try.underlying27 rfl (Try.sizeCl _ _ _ HCH.out _ _ _))) hS ?_
          go_frame
          refine till_take 6 (some 37) rfl rfl (by kernel_rfl) (by kernel_rfl) (by kernel_rfl) (by kernel_rfl) (by kernel_rfl) (by kernel_rfl) (fun _ _ _ h => h) (yields_load (by rfl) 23 _ rfl (.pointer (some ⟨Q, 0, none⟩)) rfl (.agg (c8 root)) (fun w' hS' => load_blk hS'.2 Try.underlying23 rfl (Try.sizeHc root HRT.out))) hS ?_
          go_frame
          refine till_two 2 4 rfl rfl (by kernel_rfl) (fun K hK => ?_) (fun K hK => ?_)
          · simp only [List.getElem_toArray, List.getElem_cons_succ, List.getElem_cons_zero]
            rw [if_pos (by rfl)]
            go_simp
            refine (lopen_any wz _ ⟨crt, cix, ce, ch, cp, clv, cto⟩ root (HCA.out wz HB0.out) HOK.out HRT.out).mono ?_
            rintro e wt1 ⟨rfl, hb⟩
            rw [HQ.out]
            have hSn := And.intro (below_at2 hb hS.1) (below_at2 hb hS.2)
            have HB1 := Lib.hid (HB0.out.trans (hb.mono HB0.out.size))
            refine hK _ _ (fun _ _ => hSn) ?_
            clear hK hS hb HB0
            have hS := hSn
            clear hSn
            refine till_one 4 rfl (by kernel_rfl) fun K hK => ?_
            simp only [List.getElem_toArray, List.getElem_cons_succ, List.getElem_cons_zero]
            rw [if_pos (by rfl)]
            go_simp
            obtain ⟨g, hg⟩ : ∃ g, g = wt1.heap.size := ⟨_, rfl⟩
            obtain ⟨wt2, hwn⟩ : ∃ z, z = wt1.alloc (.cells #[.slice none 0 0] 40) := ⟨_, rfl⟩
            rw [← hg, ← hwn]
            have hb : Below wt1.heap.size wt1 wt2 := by rw [hwn]; exact (Below.refl _ _).alloc (Nat.le_refl _) _
            have HT2 := Lib.hid (show Tr wt2 g none [] from tr_new (by rw [hwn, hg]; exact heap_alloc_new _ _))
            have HG := Lib.hid (show w.heap.size ≤ g by rw [hg]; exact HB1.out.size)
            have hSn := And.intro (below_at2 hb hS.1) (below_at2 hb hS.2)
            have HB2 := Lib.hid (HB1.out.trans (hb.mono HB1.out.size))
            clear hg hwn
            refine hK _ _ (fun _ _ => hSn) ?_
            clear hK hS hb HB1
            have hS := hSn
            clear hSn
            refine till_one 7 rfl (by kernel_rfl) fun K hK => ?_
            simp only [List.getElem_toArray, List.getElem_cons_succ, List.getElem_cons_zero]
            rw [if_pos (by rfl)]
            go_simp
            have HGB := Lib.hid (show ∀ w' a', Grew wt2 g none w' a' → Below w.heap.size w w' from fun w' a' h => HB2.out.trans (h.below HB2.out.size HG.out (fun k hk => by cases hk)))
            refine (topen_any wt2 g none [] crt cix ce ch cp clv cto pa pn pc la i lc xs root (fun w' a' h => HP.out.later (HGB.out w' a' h)) (fun w' a' h => HLV.out.later (HGB.out w' a' h)) (fun w' a' h x hx => (HPR.out x hx).later (HGB.out w' a' h)) HXL.out HOK.out HRT.out HT2.out (by simp)).mono ?_
            rintro e wt3 ⟨rfl, ag, htr, hgr⟩
            rw [HQ.out]
            have hSn := And.intro (tr_other HT2.out hgr hS.1 (by decide)) (tr_other HT2.out hgr hS.2 (by decide))
            have HB3 := Lib.hid (HGB.out _ _ hgr)
            refine hK _ _ (fun _ _ => hSn) ?_
            clear hK hS htr hgr HGB HT2 HB2
            have hS := hSn
            clear hSn
            refine till_take 8 (some 39) rfl rfl (by kernel_rfl) (by kernel_rfl) (by kernel_rfl) (by kernel_rfl) (by kernel_rfl) (by kernel_rfl) (fun _ _ _ h => h) (.inl ⟨by rfl, fun w' _ => (by go_simp; rfl)⟩) hS ?_
            go_frame
            refine till_take 9 (some 40) rfl rfl (by kernel_rfl) (by kernel_rfl) (by kernel_rfl) (by kernel_rfl) (by kernel_rfl) (by kernel_rfl) (fun _ _ _ h => h) (.inl ⟨by rfl, fun w' _ => (by go_simp; rfl)⟩) hS ?_
            go_frame
            refine till_one 10 rfl (by kernel_rfl) fun K hK => ?_
            simp only [List.getElem_toArray, List.getElem_cons_succ, List.getElem_cons_zero]
            rw [if_pos (by rfl)]
            go_simp
            refine (lives16_any wt3).mono ?_
            rintro e wt4 ⟨rfl, hb⟩
            have hSn := And.intro (below_at2 hb hS.1) (below_at2 hb hS.2)
            have HB4 := Lib.hid (HB3.out.trans (hb.mono HB3.out.size))
            refine hK _ _ (fun _ _ => hSn) ?_
            clear hK hS hb HB3
            have hS := hSn
            clear hSn
            refine till_take 11 (some 42) rfl rfl (by kernel_rfl) (by kernel_rfl) (by kernel_rfl) (by kernel_rfl) (by kernel_rfl) (by kernel_rfl) (fun _ _ _ h => h) (.inl ⟨by rfl, fun w' _ => (by go_simp; rfl)⟩) hS ?_
            go_frame
            refine till_take 12 (some 4) rfl rfl (by kernel_rfl) (by kernel_rfl) (by kernel_rfl) (by kernel_rfl) (by kernel_rfl) (by kernel_rfl) (fun _ _ _ h => h) (.inl ⟨by rfl, fun w' _ => (by go_simp; rfl)⟩) hS ?_
            go_frame
            refine till_done (by kernel_rfl) ?_ _
            clear hS
            go_wp2_with fail
            go_ret
            exact ⟨rfl, HB4.out⟩
          · simp only [List.getElem_toArray, List.getElem_cons_succ, List.getElem_cons_zero]
            rw [if_pos (by rfl)]
            go_simp
            obtain ⟨g, hg⟩ : ∃ g, g = wz.heap.size := ⟨_, rfl⟩
            obtain ⟨wt5, hwn⟩ : ∃ z, z = wz.alloc (.cells #[.slice none 0 0] 40) := ⟨_, rfl⟩
            rw [← hg, ← hwn]
            have hb : Below wz.heap.size wz wt5 := by rw [hwn]; exact (Below.refl _ _).alloc (Nat.le_refl _) _
            have HT5 := Lib.hid (show Tr wt5 g none [] from tr_new (by rw [hwn, hg]; exact heap_alloc_new _ _))
            have HG := Lib.hid (show w.heap.size ≤ g by rw [hg]; exact HB0.out.size)
            have hSn := And.intro (below_at2 hb hS.1) (below_at2 hb hS.2)
            have HB5 := Lib.hid (HB0.out.trans (hb.mono HB0.out.size))
            clear hg hwn
            refine hK _ _ (fun _ _ => hSn) ?_
            clear hK hS hb HB0
            have hS := hSn
            clear hSn
            refine till_one 2 rfl (by kernel_rfl) fun K hK => ?_
            simp only [List.getElem_toArray, List.getElem_cons_succ, List.getElem_cons_zero]
            rw [if_pos (by rfl)]
            go_simp
            refine (lopen_any wt5 _ ⟨crt, cix, ce, ch, cp, clv, cto⟩ root (HCA.out wt5 HB5.out) HOK.out HRT.out).mono ?_
            rintro e wt6 ⟨rfl, hb⟩
            rw [HQ.out]
            have hSn := And.intro (below_at2 hb hS.1) (below_at2 hb hS.2)
            have HB6 := Lib.hid (HB5.out.trans (hb.mono HB5.out.size))
            have HT6 := Lib.hid (HT5.out.later hb)
            refine hK _ _ (fun _ _ => hSn) ?_
            clear hK hS hb HB5 HT5
            have hS := hSn
            clear hSn
            refine till_one 7 rfl (by kernel_rfl) fun K hK => ?_
            simp only [List.getElem_toArray, List.getElem_cons_succ, List.getElem_cons_zero]
            rw [if_pos (by rfl)]
            go_simp
            have HGB := Lib.hid (show ∀ w' a', Grew wt6 g none w' a' → Below w.heap.size w w' from fun w' a' h => HB6.out.trans (h.below HB6.out.size HG.out (fun k hk => by cases hk)))
            refine (topen_any wt6 g none [] crt cix ce ch cp clv cto pa pn pc la i lc xs root (fun w' a' h => HP.out.later (HGB.out w' a' h)) (fun w' a' h => HLV.out.later (HGB.out w' a' h)) (fun w' a' h x hx => (HPR.out x hx).later (HGB.out w' a' h)) HXL.out HOK.out HRT.out HT6.out (by simp)).mono ?_
            rintro e wt7 ⟨rfl, ag, htr, hgr⟩
            rw [HQ.out]
            have hSn := And.intro (tr_other HT6.out hgr hS.1 (by decide)) (tr_other HT6.out hgr hS.2 (by decide))
            have HB7 := Lib.hid (HGB.out _ _ hgr)
            refine hK _ _ (fun _ _ => hSn) ?_
            clear hK hS htr hgr HGB HT6 HB6
            have hS := hSn
            clear hSn
            refine till_take 8 (some 39) rfl rfl (by kernel_rfl) (by kernel_rfl) (by kernel_rfl) (by kernel_rfl) (by kernel_rfl) (by kernel_rfl) (fun _ _ _ h => h) (.inl ⟨by rfl, fun w' _ => (by go_simp; rfl)⟩) hS ?_
            go_frame
            refine till_take 9 (some 40) rfl rfl (by kernel_rfl) (by kernel_rfl) (by kernel_rfl) (by kernel_rfl) (by kernel_rfl) (by kernel_rfl) (fun _ _ _ h => h) (.inl ⟨by rfl, fun w' _ => (by go_simp; rfl)⟩) hS ?_
            go_frame
            refine till_one 10 rfl (by kernel_rfl) fun K hK => ?_
            simp only [List.getElem_toArray, List.getElem_cons_succ, List.getElem_cons_zero]
            rw [if_pos (by rfl)]
            go_simp
            refine (lives16_any wt7).mono ?_
            rintro e wt8 ⟨rfl, hb⟩
            have hSn := And.intro (below_at2 hb hS.1) (below_at2 hb hS.2)
            have HB8 := Lib.hid (HB7.out.trans (hb.mono HB7.out.size))
            refine hK _ _ (fun _ _ => hSn) ?_
            clear hK hS hb HB7
            have hS := hSn
            clear hSn
            refine till_take 11 (some 42) rfl rfl (by kernel_rfl) (by kernel_rfl) (by kernel_rfl) (by kernel_rfl) (by kernel_rfl) (by kernel_rfl) (fun _ _ _ h => h) (.inl ⟨by rfl, fun w' _ => (by go_simp; rfl)⟩) hS ?_
            go_frame
            refine till_take 12 (some 4) rfl rfl (by kernel_rfl) (by kernel_rfl) (by kernel_rfl) (by kernel_rfl) (by kernel_rfl) (by kernel_rfl) (fun _ _ _ h => h) (.inl ⟨by rfl, fun w' _ => (by go_simp; rfl)⟩) hS ?_
            go_frame
            refine till_done (by kernel_rfl) ?_ _
            clear hS
            go_wp2_with fail
            go_ret
            exact ⟨rfl, HB8.out⟩
end Go.Proofs.Ytmclmccgghnglaa
