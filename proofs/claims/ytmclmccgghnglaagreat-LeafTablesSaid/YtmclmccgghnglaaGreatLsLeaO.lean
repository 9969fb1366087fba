/- leaf.Open (code). No condition. -/
import Derived.Test.YtmclmccgghnglaaGreatLs21
import Derived.Test.YtmclmccgghnglaaGreatLs19
namespace Go.Proofs.YtmclmccgghnglaaGreat
open Go.RowKit

def leafChk (h : List UInt8) (x : CLf) : Int := checkF 2 h (tokL x.t x.m) x.i x.p
def openL (h : List UInt8) : List CLf → Int
  | [] => 0
  | x :: xs => if leafChk h x = 0 then openL h xs else leafChk h x
/-- Whether a claim stands under a root: nought, or the first error. -/
def openR (c : CCl) (root : List UInt8) : Int := if c.lv.length = 0 ∨ 8 < c.lv.length then 2 else if checkF 1 root (earL c.e c.h) c.idx c.p = 0 then openL c.h c.lv else checkF 1 root (earL c.e c.h) c.idx c.p
theorem openL_cons (h : List UInt8) (x : CLf) (xs : List CLf) : openL h (x :: xs) = if leafChk h x = 0 then openL h xs else leafChk h x := rfl
theorem openL_zero {h : List UInt8} {l : List CLf} (hz : ∀ x ∈ l, leafChk h x = 0) : openL h l = 0 := by
  induction l with
  | nil => rfl
  | cons x xs ih => rw [openL_cons, if_pos (hz x (by simp))]; exact ih fun y hy => hz y (by simp [hy])
theorem openL_at {h : List UInt8} {l : List CLf} {i : Nat} (hi : i < l.length) (hz : ∀ j (hj : j < l.length), j < i → leafChk h l[j] = 0) (hn : leafChk h l[i] ≠ 0) : openL h l = leafChk h l[i] := by
  induction l generalizing i with
  | nil => simp at hi
  | cons x xs ih =>
    rw [openL_cons]
    cases i with
    | zero => rw [if_neg (show ¬ leafChk h x = 0 from hn)]; rfl
    | succ i =>
      rw [if_pos (show leafChk h x = 0 from hz 0 (by simp) (by omega))]
      exact ih (i := i) (by simpa using hi) (fun j hj hji => hz (j + 1) (by simpa using hj) (by omega)) hn
/-- What a claim of the program holds. -/
def COk (c : CCl) : Prop := c.h.length = 32 ∧ c.e < 9223372036854775808 ∧ c.idx < 9223372036854775808 ∧ All32 c.p ∧ ∀ x ∈ c.lv, x.t < 9223372036854775808 ∧ x.i < 9223372036854775808 ∧ x.m < 2 ^ 256 ∧ All32 x.p
theorem Rd.leaf {w : World} {ad : Option Addr} {n cap : Nat} {l : List (CLf × SlV)} (h : Rd w lfE 7 (.slice ad n cap) l) (i : Nat) (hi : i < l.length) :
    ∃ b off, ad = some ⟨b, off, none⟩ ∧ w.cell? ⟨b, off + i * 7, none⟩ = some (.int .i64 l[i].1.i) ∧ w.cell? ⟨b, off + i * 7 + 1, none⟩ = some (.int .i64 l[i].1.t) ∧ w.cell? ⟨b, off + i * 7 + 2, none⟩ = some (.int .u64 (uw0 l[i].1.m)) ∧
      w.cell? ⟨b, off + i * 7 + 3, none⟩ = some (.int .u64 (uw1 l[i].1.m)) ∧ w.cell? ⟨b, off + i * 7 + 4, none⟩ = some (.int .u64 (uw2 l[i].1.m)) ∧ w.cell? ⟨b, off + i * 7 + 5, none⟩ = some (.int .u64 (uw3 l[i].1.m)) ∧ w.cell? ⟨b, off + i * 7 + 6, none⟩ = some (slV l[i].2) := by
  obtain ⟨ad', cap', he, h1, h2, h3⟩ := h
  cases he
  obtain ⟨b, off, rfl, hb, hc⟩ := h3 (by intro hl; subst hl; simp at hi)
  exact ⟨b, off, rfl, hc i hi 0 (by omega), hc i hi 1 (by omega), hc i hi 2 (by omega), hc i hi 3 (by omega), hc i hi 4 (by omega), hc i hi 5 (by omega), hc i hi 6 (by omega)⟩
set_option maxHeartbeats 16000000 in
set_option maxRecDepth 100000 in
theorem lopen_any (w : World) (v : Value) (c : CCl) (root : List UInt8) (hc : ClAt w v c) (hok : COk c) (hroot : root.length = 32) :
    Calls Tryz.prog 25 #[v, .agg (c8 root)] w (Ret w (.int .i64 (openR c root))) := by
  obtain ⟨⟨pa, pn, pc⟩, ⟨la, ln, lc⟩, rfl, hp, xs, hxl, hlv, hpr⟩ := hc
  obtain ⟨crt, cix, ce, ch, cp, clv, cto⟩ := c
  obtain ⟨RV, hRV⟩ : ∃ x, x = openR ⟨crt, cix, ce, ch, cp, clv, cto⟩ root := ⟨_, rfl⟩
  rw [← hRV]
  have hln : ln = xs.length := hlv.size
  have hll : clv.length = xs.length := by rw [← show xs.map (·.1) = clv from hxl, List.length_map]
  have HP := Lib.hid (show Rd w hE 32 (.slice pa pn pc) cp from hp); have HLV := Lib.hid (show Rd w lfE 7 (.slice la ln lc) xs from hlv); have HPR := Lib.hid hpr; have HXL := Lib.hid (show xs.map (·.1) = clv from hxl); have HRV := Lib.hid hRV; have HRT := Lib.hid hroot
  have HLN := Lib.hid (show ln = clv.length ∧ ln = xs.length by omega)
  have HCH := Lib.hid (show ch.length = 32 from hok.1); have HB := Lib.hid (show ce < 9223372036854775808 ∧ cix < 9223372036854775808 from ⟨hok.2.1, hok.2.2.1⟩); have HA := Lib.hid (show All32 cp from hok.2.2.2.1); have HLO := Lib.hid (show ∀ x ∈ clv, x.t < 9223372036854775808 ∧ x.i < 9223372036854775808 ∧ x.m < 2 ^ 256 ∧ All32 x.p from hok.2.2.2.2)
  clear hp hlv hpr hxl hRV hok hroot hln hll
  simp only []
  have hbB : Below w.heap.size w ((w.alloc (.cells (clC crt cix ce ch (pa, pn, pc) (la, ln, lc) cto) 45)).alloc (.cells (c8 root) 36)) := ((Below.refl _ _).alloc (Nat.le_refl _) _).trans (((Below.refl _ _).alloc (Nat.le_refl _) _).mono ((Below.refl w.heap.size w).alloc (Nat.le_refl _) _).size)
  have hP1 : ((w.alloc (.cells (clC crt cix ce ch (pa, pn, pc) (la, ln, lc) cto) 45)).alloc (.cells (c8 root) 36)).heap[w.heap.size]? = some (.cells (clC crt cix ce ch (pa, pn, pc) (la, ln, lc) cto) 45 (0, 0)) := below_at2 ((Below.refl _ _).alloc (Nat.le_refl _) _) (heap_alloc_new _ _)
  have hQ1 : ((w.alloc (.cells (clC crt cix ce ch (pa, pn, pc) (la, ln, lc) cto) 45)).alloc (.cells (c8 root) 36)).heap[w.heap.size + 1]? = some (.cells (c8 root) 36 (0, 0)) := by
    rw [← show (w.alloc (.cells (clC crt cix ce ch (pa, pn, pc) (la, ln, lc) cto) 45)).heap.size = w.heap.size + 1 from Array.size_push _]; exact heap_alloc_new _ _
  have c36 : ((w.alloc (.cells (clC crt cix ce ch (pa, pn, pc) (la, ln, lc) cto) 45)).alloc (.cells (c8 root) 36)).cell? ⟨w.heap.size, 36, none⟩ = some (.slice la ln lc) := (Lib.cell_of_heap hP1 36).trans (clC_36 _ _ _ HCH.out _ _ _)
  have HBB := Lib.hid hbB; have HP1 := Lib.hid hP1; have HQ1 := Lib.hid hQ1
  clear hbB hP1 hQ1
  rcases (show ln = 0 ∨ 8 < ln ∨ (¬ ln = 0 ∧ ln ≤ 8) by omega) with h0 | h8 | ⟨h0, h8⟩
  · subst h0
    have HV := Lib.hid (show RV = 2 by rw [HRV.out]; unfold openR; rw [if_pos (.inl HLN.out.1.symm)])
    go_enter Tryz.func25, Tryz.ntmps25
    go_wp2_with fail
    go_ret
    exact ⟨by rw [HV.out]; rfl, HBB.out⟩
  · have HV := Lib.hid (show RV = 2 by rw [HRV.out]; unfold openR; rw [if_pos (.inr (by rw [← HLN.out.1]; exact h8))])
    have h0 : ((ln : Int) == 0) = false := by simp; omega
    have h9 : (8 : Int) < (ln : Int) := by omega
    clear h8
    go_enter Tryz.func25, Tryz.ntmps25
    go_wp2_with fail
    go_ret
    exact ⟨by rw [HV.out]; rfl, HBB.out⟩
  · have HTL := Lib.hid (show ¬ (clv.length = 0 ∨ 8 < clv.length) by have := HLN.out; omega)
    have h10 : ((ln : Int) == 0) = false := by simp; omega
    have h9 : ¬ (8 : Int) < (ln : Int) := by omega
    go_enter Tryz.func25, Tryz.ntmps25
    go_upto_region 3 with fail
    obtain ⟨wB, hwB⟩ : ∃ wB, wB = (w.alloc (.cells (clC crt cix ce ch (pa, pn, pc) (la, ln, lc) cto) 45)).alloc (.cells (c8 root) 36) := ⟨_, rfl⟩
    rw [← hwB] at HBB HP1 HQ1 ⊢
    obtain ⟨P, hP⟩ : ∃ P, P = w.heap.size := ⟨_, rfl⟩
    rw [← hP] at HP1 HQ1 ⊢
    obtain ⟨Q, hQ⟩ : ∃ Q, Q = P + 1 := ⟨_, rfl⟩
    rw [← hQ] at HQ1 ⊢
    clear hwB hP hQ c36
    obtain ⟨wz, hwz⟩ : ∃ wz, wz = wB.drew := ⟨_, rfl⟩
    have hbz : Below wB.heap.size wB wz := by rw [hwz]; exact (Below.refl _ _).drew
    have hS := And.intro (below_at2 hbz HP1.out) (below_at2 hbz HQ1.out)
    have HBz := Lib.hid (HBB.out.trans (hbz.mono HBB.out.size))
    clear hbz HP1 HQ1
    refine wp_region_till (fun w' => w'.heap[P]? = some (.cells (clC crt cix ce ch (pa, pn, pc) (la, ln, lc) cto) 45 (0, 0)) ∧ w'.heap[Q]? = some (.cells (c8 root) 36 (0, 0))) 12 12 (by kernel_rfl) rfl ?_
    rw [← hwz]
    clear hwz
    refine till_take 0 (some 19) rfl rfl (by kernel_rfl) (by kernel_rfl) (by kernel_rfl) (by kernel_rfl) (by kernel_rfl) (by kernel_rfl) (fun _ _ _ h => h) (yields_load (by rfl) 36 _ rfl (.pointer (some ⟨Q, 0, none⟩)) rfl (.agg (c8 root)) (fun w' hS' => load_blk hS'.2 Tryz.underlying36 rfl (Tryz.sizeHc root HRT.out))) hS ?_
    go_frame
    refine till_take 1 (some 20) rfl rfl (by kernel_rfl) (by kernel_rfl) (by kernel_rfl) (by kernel_rfl) (by kernel_rfl) (by kernel_rfl) (fun _ _ _ h => h) (.inl ⟨by rfl, fun w' _ => (by go_simp; rfl)⟩) hS ?_
    go_frame
    refine till_take 2 (some 21) rfl rfl (by kernel_rfl) (by kernel_rfl) (by kernel_rfl) (by kernel_rfl) (by kernel_rfl) (by kernel_rfl) (fun _ _ _ h => h) (.inl ⟨by rfl, fun w' hS' => (by have hc : w'.cell? ⟨P, 2, none⟩ = some (.int .i64 ce) := (Lib.cell_of_heap hS'.1 2).trans (clC_2 _ _ _ _ _ _ _); go_simp; rfl)⟩) hS ?_
    go_frame
    refine till_take 3 (some 22) rfl rfl (by kernel_rfl) (by kernel_rfl) (by kernel_rfl) (by kernel_rfl) (by kernel_rfl) (by kernel_rfl) (fun _ _ _ h => h) (.inl ⟨by rfl, fun w' _ => (by go_simp; rfl)⟩) hS ?_
    go_frame
    refine till_take 4 (some 23) rfl rfl (by kernel_rfl) (by kernel_rfl) (by kernel_rfl) (by kernel_rfl) (by kernel_rfl) (by kernel_rfl) (fun _ _ _ h => h) (yieldsIf_load_mid (by rfl) 36 _ rfl P 3 rfl (ch.map byteV) _ (fun w' hS' => range_of_heap hS'.1 3 _ (clC_mid _ _ _ _ _ _)) Tryz.underlying36 rfl (Tryz.sizeHm _ HCH.out)) hS ?_
    go_frame
    refine till_take 6 (some 25) rfl rfl (by kernel_rfl) (by kernel_rfl) (by kernel_rfl) (by kernel_rfl) (by kernel_rfl) (by kernel_rfl) (fun _ _ _ h => h) (.inl ⟨by rfl, fun w' _ => (by go_simp; rfl)⟩) hS ?_
    go_frame
    refine till_take 7 (some 26) rfl rfl (by kernel_rfl) (by kernel_rfl) (by kernel_rfl) (by kernel_rfl) (by kernel_rfl) (by kernel_rfl) (fun _ _ _ h => h) (.inl ⟨by rfl, fun w' hS' => (by have hc : w'.cell? ⟨P, 1, none⟩ = some (.int .i64 cix) := (Lib.cell_of_heap hS'.1 1).trans (clC_1 _ _ _ _ _ _ _); go_simp; rfl)⟩) hS ?_
    go_frame
    refine till_take 8 (some 27) rfl rfl (by kernel_rfl) (by kernel_rfl) (by kernel_rfl) (by kernel_rfl) (by kernel_rfl) (by kernel_rfl) (fun _ _ _ h => h) (.inl ⟨by rfl, fun w' _ => (by go_simp; rfl)⟩) hS ?_
    go_frame
    refine till_take 9 (some 28) rfl rfl (by kernel_rfl) (by kernel_rfl) (by kernel_rfl) (by kernel_rfl) (by kernel_rfl) (by kernel_rfl) (fun _ _ _ h => h) (.inl ⟨by rfl, fun w' hS' => (by have hc : w'.cell? ⟨P, 35, none⟩ = some (.slice pa pn pc) := (Lib.cell_of_heap hS'.1 35).trans (clC_35 _ _ _ HCH.out _ _ _); go_simp; rfl)⟩) hS ?_
    go_frame
    refine till_one 5 rfl (by kernel_rfl) fun K hK => ?_
    simp only [List.getElem_toArray, List.getElem_cons_succ, List.getElem_cons_zero]
    rw [if_pos (by rfl)]
    go_simp
    refine (ear_any _ ce HB.out.1 HCH.out).mono ?_
    rintro e w4 ⟨v2, rfl, ho, hb⟩
    have hSn := And.intro (below_at2 hb hS.1) (below_at2 hb hS.2)
    have HEL := Lib.hid (show (earL ce ch).length ≤ 41 from earL_len HB.out.1 HCH.out)
    have HR2 := Lib.hid (ho.rd u8_len)
    clear ho
    have HB4 := Lib.hid (HBz.out.trans (hb.mono HBz.out.size))
    refine hK _ _ (fun _ _ => hSn) ?_
    clear hK hS hb HBz
    have hS := hSn
    clear hSn
    refine till_one 10 rfl (by kernel_rfl) fun K hK => ?_
    simp only [List.getElem_toArray, List.getElem_cons_succ, List.getElem_cons_zero]
    rw [if_pos (by rfl)]
    go_simp
    obtain ⟨q1, hq1⟩ : ∃ q, q = checkF 1 root (earL ce ch) cix cp := ⟨_, rfl⟩
    have hcall := pcheck_any 1 cix root (earL ce ch) cp v2 (.slice pa pn pc) w4 HRT.out HR2.out (by have := HEL.out; omega) (HP.out.later HB4.out) HA.out HB.out.2
    rw [← hq1] at hcall
    have HQ1e := Lib.hid hq1
    clear hq1
    refine (hcall).mono ?_
    rintro e w5 ⟨rfl, hb⟩
    have hSn := And.intro (below_at2 hb hS.1) (below_at2 hb hS.2)
    have HB5 := Lib.hid (HB4.out.trans (hb.mono HB4.out.size))
    refine hK _ _ (fun _ _ => hSn) ?_
    clear hK hS hb hcall HB4
    have hS := hSn
    clear hSn
    refine till_take 11 (some 5) rfl rfl (by kernel_rfl) (by kernel_rfl) (by kernel_rfl) (by kernel_rfl) (by kernel_rfl) (by kernel_rfl) (fun _ _ _ h => h) (.inl ⟨by rfl, fun w' _ => (by go_simp; rfl)⟩) hS ?_
    go_frame
    refine till_done (by kernel_rfl) ?_ _
    have HP5 := Lib.hid hS.1
    clear hS
    by_cases hz : q1 = 0
    · subst hz
      have HE1 := Lib.hid (show RV = openL ch clv by rw [HRV.out]; unfold openR; rw [if_neg HTL.out, if_pos HQ1e.out.symm])
      have c36 : w5.cell? ⟨P, 36, none⟩ = some (.slice la ln lc) := (Lib.cell_of_heap HP5.out 36).trans (clC_36 _ _ _ HCH.out _ _ _)
      have hl9 : ln < 1000000 := by omega
      go_wp2_with fail
      clear c36
      go_loopw [36] (fun y wr => ∃ i : Nat, y = .int .i64 i ∧ i ≤ ln ∧ Hid (∀ j (hj : j < xs.length), j < i → leafChk ch xs[j].1 = 0) ∧ Hid (Below w5.heap.size w5 wr)) (fun y _ => ln - (intOf y).toNat)
      case atStart => exact ⟨0, rfl, by omega, Lib.hid fun j hj h => by omega, Lib.hid (Below.refl _ _)⟩
      case round =>
        obtain ⟨i, rfl, hin, HZ, HD⟩ := hrel
        have HBi := Lib.hid (HB5.out.trans (HD.out.mono HB5.out.size))
        have HPi := Lib.hid (below_at2 HD.out HP5.out)
        by_cases hlt : i < ln
        · have hi : i < xs.length := by have := HLN.out; omega
          obtain ⟨b, off, rfl, c0, c1, c2, c3, c4, c5, c6⟩ := (HLV.out.later HBi.out).leaf i hi
          have hpr := (HPR.out xs[i] (List.getElem_mem hi)).later HBi.out
          have hlo := HLO.out xs[i].1 (by rw [← HXL.out]; exact List.mem_map.2 ⟨xs[i], List.getElem_mem hi, rfl⟩)
          have hbad : leafChk ch xs[i].1 ≠ 0 → RV = leafChk ch xs[i].1 := fun hn => by
            have hic : i < clv.length := by have := HLN.out; omega
            have hmap : ∀ j (hj : j < xs.length) (hj2 : j < clv.length), clv[j] = xs[j].1 := fun j hj hj2 => by
              have h1 : (xs.map (·.1))[j]'(by rw [List.length_map]; exact hj) = xs[j].1 := List.getElem_map _
              rw [← h1]; congr 1; exact HXL.out.symm
            rw [HE1.out, ← hmap i hi hic]
            exact openL_at hic (fun j hj hji => by rw [hmap j (by have := HLN.out; omega) hj]; exact HZ.out j (by have := HLN.out; omega) hji) (by rw [hmap i hi hic]; exact hn)
          have hgood : leafChk ch xs[i].1 = 0 → ∀ j (hj : j < xs.length), j < i + 1 → leafChk ch xs[j].1 = 0 := fun h0 j hj hji => by
            rcases (show j < i ∨ j = i by omega) with h1 | rfl
            · exact HZ.out j hj h1
            · exact h0
          obtain ⟨⟨⟨xi, xt, xm, xp⟩, ⟨sa, sn, sc⟩⟩, hx⟩ : ∃ x, x = xs[i] := ⟨_, rfl⟩
          rw [← hx] at c0 c1 c2 c3 c4 c5 c6 hpr hlo hbad hgood
          clear hx hi
          have HPX := Lib.hid (show Rd wr hE 32 (.slice sa sn sc) xp from hpr); have HLX := Lib.hid (show xt < 9223372036854775808 ∧ xi < 9223372036854775808 ∧ xm < uMax ∧ All32 xp from ⟨hlo.1, hlo.2.1, hlo.2.2.1, hlo.2.2.2⟩)
          have HBAD := Lib.hid (show checkF 2 ch (tokL xt xm) xi xp ≠ 0 → RV = checkF 2 ch (tokL xt xm) xi xp from hbad); have HGOOD := Lib.hid (show checkF 2 ch (tokL xt xm) xi xp = 0 → ∀ j (hj : j < xs.length), j < i + 1 → leafChk ch xs[j].1 = 0 from hgood)
          clear hpr hlo hbad hgood
          simp only [] at c0 c1 c2 c3 c4 c5
          replace c6 : wr.cell? ⟨b, off + i * 7 + 6, none⟩ = some (.slice sa sn sc) := c6
          go_wp2_with (refine wpList_alloc_g rfl _ rfl _ _ Tryz.zeroLf rfl ?_)
          intro L d3 hL
          go_wp2_with (refine wpList_store_row_g (t := 60) (old := lfZ) rfl 60 _ _ rfl L (lfC xi xt xm (sa, sn, sc)) rfl rfl hL.out.cells Tryz.sizeLf rfl (lfC_one _ _ _ _) ?_)
          intro w6 h6 k6 z6
          have hb6 : Below wr.heap.size wr w6 := hL.out.below.trans (k6.below (B := wr.heap.size) (fun x hx e => by have := hL.out.eq; omega) hL.out.below.size)
          have HL6 := Lib.hid h6; have HP6 := Lib.hid (below_at2 hb6 HPi.out); have HD6 := Lib.hid (HD.out.trans (hb6.mono HD.out.size)); have HPX6 := Lib.hid (HPX.out.later hb6)
          clear hL h6 k6 z6 hb6 c0 c1 c2 c3 c4 c5 c6 HPX HPi HD HBi
          go_upto_region 9 with fail
          obtain ⟨wz, hwz⟩ : ∃ wz, wz = w6.drew := ⟨_, rfl⟩
          have hbz : Below w6.heap.size w6 wz := by rw [hwz]; exact (Below.refl _ _).drew
          have hS := And.intro (below_at2 hbz HP6.out) (below_at2 hbz HL6.out)
          have HDz := Lib.hid (HD6.out.trans (hbz.mono HD6.out.size))
          have HPXz := Lib.hid (HPX6.out.later hbz)
          clear hbz HP6 HL6 HD6 HPX6
          refine wp_region_till (fun w' => w'.heap[P]? = some (.cells (clC crt cix ce ch (pa, pn, pc) (some ⟨b, off, none⟩, ln, lc) cto) 45 (0, 0)) ∧ w'.heap[L]? = some (.cells (lfC xi xt xm (sa, sn, sc)) 60 (0, 0))) 13 13 (by kernel_rfl) rfl ?_
          rw [← hwz]
          clear hwz
          refine till_take 0 (some 40) rfl rfl (by kernel_rfl) (by kernel_rfl) (by kernel_rfl) (by kernel_rfl) (by kernel_rfl) (by kernel_rfl) (fun _ _ _ h => h) (.inl ⟨by rfl, fun w' _ => (by go_simp; rfl)⟩) hS ?_
          go_frame
          refine till_take 1 (some 41) rfl rfl (by kernel_rfl) (by kernel_rfl) (by kernel_rfl) (by kernel_rfl) (by kernel_rfl) (by kernel_rfl) (fun _ _ _ h => h) (yieldsIf_load_mid (by rfl) 36 _ rfl P 3 rfl (ch.map byteV) _ (fun w' hS' => range_of_heap hS'.1 3 _ (clC_mid _ _ _ _ _ _)) Tryz.underlying36 rfl (Tryz.sizeHm _ HCH.out)) hS ?_
          go_frame
          refine till_take 2 (some 42) rfl rfl (by kernel_rfl) (by kernel_rfl) (by kernel_rfl) (by kernel_rfl) (by kernel_rfl) (by kernel_rfl) (fun _ _ _ h => h) (.inl ⟨by rfl, fun w' _ => (by go_simp; rfl)⟩) hS ?_
          go_frame
          refine till_take 3 (some 43) rfl rfl (by kernel_rfl) (by kernel_rfl) (by kernel_rfl) (by kernel_rfl) (by kernel_rfl) (by kernel_rfl) (fun _ _ _ h => h) (.inl ⟨by rfl, fun w' hS' => (by have hc : w'.cell? ⟨L, 1, none⟩ = some (.int .i64 xt) := Lib.cell_of_heap hS'.2 1; go_simp; rfl)⟩) hS ?_
          go_frame
          refine till_take 4 (some 44) rfl rfl (by kernel_rfl) (by kernel_rfl) (by kernel_rfl) (by kernel_rfl) (by kernel_rfl) (by kernel_rfl) (fun _ _ _ h => h) (.inl ⟨by rfl, fun w' _ => (by go_simp; rfl)⟩) hS ?_
          go_frame
          refine till_take 5 (some 45) rfl rfl (by kernel_rfl) (by kernel_rfl) (by kernel_rfl) (by kernel_rfl) (by kernel_rfl) (by kernel_rfl) (fun _ _ _ h => h) (yieldsIf_load_mid (by rfl) 55 _ rfl L 2 rfl [.int .u64 (uw0 xm), .int .u64 (uw1 xm), .int .u64 (uw2 xm), .int .u64 (uw3 xm)] _ (fun w' hS' => range_of_heap hS'.2 2 _ rfl) Tryz.underlying55 rfl Tryz.sizeU) hS ?_
          go_frame
          refine till_take 7 (some 47) rfl rfl (by kernel_rfl) (by kernel_rfl) (by kernel_rfl) (by kernel_rfl) (by kernel_rfl) (by kernel_rfl) (fun _ _ _ h => h) (.inl ⟨by rfl, fun w' _ => (by go_simp; rfl)⟩) hS ?_
          go_frame
          refine till_take 8 (some 48) rfl rfl (by kernel_rfl) (by kernel_rfl) (by kernel_rfl) (by kernel_rfl) (by kernel_rfl) (by kernel_rfl) (fun _ _ _ h => h) (.inl ⟨by rfl, fun w' hS' => (by have hc : w'.cell? ⟨L, 0, none⟩ = some (.int .i64 xi) := Lib.cell_of_heap hS'.2 0; go_simp; rfl)⟩) hS ?_
          go_frame
          refine till_take 9 (some 49) rfl rfl (by kernel_rfl) (by kernel_rfl) (by kernel_rfl) (by kernel_rfl) (by kernel_rfl) (by kernel_rfl) (fun _ _ _ h => h) (.inl ⟨by rfl, fun w' _ => (by go_simp; rfl)⟩) hS ?_
          go_frame
          refine till_take 10 (some 50) rfl rfl (by kernel_rfl) (by kernel_rfl) (by kernel_rfl) (by kernel_rfl) (by kernel_rfl) (by kernel_rfl) (fun _ _ _ h => h) (.inl ⟨by rfl, fun w' hS' => (by have hc : w'.cell? ⟨L, 6, none⟩ = some (.slice sa sn sc) := Lib.cell_of_heap hS'.2 6; go_simp; rfl)⟩) hS ?_
          go_frame
          refine till_one 6 rfl (by kernel_rfl) fun K hK => ?_
          simp only [List.getElem_toArray, List.getElem_cons_succ, List.getElem_cons_zero]
          rw [if_pos (by rfl)]
          go_simp
          refine (tok_any _ xt HLX.out.1 (uw_is HLX.out.2.2.1)).mono ?_
          rintro e w8 ⟨v2, rfl, ho, hb⟩
          have hSn := And.intro (below_at2 hb hS.1) (below_at2 hb hS.2)
          have HEL := Lib.hid (show (tokL xt xm).length ≤ 42 from tokL_len HLX.out.1)
          have HR2 := Lib.hid (ho.rd u8_len)
          have HPX8 := Lib.hid (HPXz.out.later hb)
          clear ho
          have HD8 := Lib.hid (HDz.out.trans (hb.mono HDz.out.size))
          refine hK _ _ (fun _ _ => hSn) ?_
          clear hK hS hb HDz HPXz
          have hS := hSn
          clear hSn
          refine till_one 11 rfl (by kernel_rfl) fun K hK => ?_
          simp only [List.getElem_toArray, List.getElem_cons_succ, List.getElem_cons_zero]
          rw [if_pos (by rfl)]
          go_simp
          obtain ⟨q2, hq2⟩ : ∃ q, q = checkF 2 ch (tokL xt xm) xi xp := ⟨_, rfl⟩
          have hcall := pcheck_any 2 xi ch (tokL xt xm) xp v2 (.slice sa sn sc) w8 HCH.out HR2.out (by have := HEL.out; omega) HPX8.out HLX.out.2.2.2 HLX.out.2.1
          rw [← hq2] at hcall
          have HQ2e := Lib.hid hq2
          clear hq2
          refine (hcall).mono ?_
          rintro e w7 ⟨rfl, hb⟩
          have hSn := And.intro (below_at2 hb hS.1) (below_at2 hb hS.2)
          have HD7 := Lib.hid (HD8.out.trans (hb.mono HD8.out.size))
          refine hK _ _ (fun _ _ => hSn) ?_
          clear hK hS hb hcall HD8 HPX8
          have hS := hSn
          clear hSn
          refine till_take 12 (some 8) rfl rfl (by kernel_rfl) (by kernel_rfl) (by kernel_rfl) (by kernel_rfl) (by kernel_rfl) (by kernel_rfl) (fun _ _ _ h => h) (.inl ⟨by rfl, fun w' _ => (by go_simp; rfl)⟩) hS ?_
          go_frame
          refine till_done (by kernel_rfl) ?_ _
          clear hS
          by_cases hz2 : q2 = 0
          · subst hz2
            have HG2 := Lib.hid (HGOOD.out HQ2e.out.symm)
            go_wp2_with fail
            go_roundw
            case rel => exact ⟨i + 1, by go_num, hlt, HG2, HD7⟩
            case measure => simp [intOf]; omega
          · have HV := Lib.hid (show RV = q2 by rw [HQ2e.out]; exact HBAD.out (by rw [← HQ2e.out]; exact hz2))
            have hne : (q2 != 0) = true := by simpa using hz2
            have HB8 := Lib.hid (HB5.out.trans (HD7.out.mono HB5.out.size))
            clear hz2
            go_wp2_with fail
            go_ret
            exact ⟨by rw [HV.out]; rfl, HB8.out⟩
        · obtain rfl : i = ln := by omega
          have HV := Lib.hid (show RV = 0 by
            rw [HE1.out]
            refine openL_zero fun x hx => ?_
            rw [← HXL.out] at hx
            obtain ⟨y, hy, rfl⟩ := List.mem_map.1 hx
            obtain ⟨j, hj, rfl⟩ := List.mem_iff_getElem.1 hy
            exact HZ.out j hj (by rw [HLN.out.2]; exact hj))
          go_wp2_with fail
          go_ret
          exact ⟨by rw [HV.out]; rfl, HBi.out⟩
    · have HV := Lib.hid (show RV = q1 by rw [HRV.out]; unfold openR; rw [if_neg HTL.out, if_neg (by rw [← HQ1e.out]; exact hz)]; exact HQ1e.out.symm)
      have hne : (q1 != 0) = true := by simpa using hz
      clear hz
      go_wp2_with fail
      go_ret
      exact ⟨by rw [HV.out]; rfl, HB5.out⟩
end Go.Proofs.YtmclmccgghnglaaGreat
