/- tallageref16.Open. No condition. -/
import Derived.Test.YtmclmccgghnglaaLeaO
import Derived.Test.YtmclmccgghnglaaPrfG
namespace Go.Proofs.Ytmclmccgghnglaa
open Go.RowKit

def leafNt (x : CLf) : List (List UInt8) := checkNt 2 (tokL x.t x.m) x.i x.p
def openLN (h : List UInt8) : List CLf → List (List UInt8)
  | [] => []
  | x :: xs => leafNt x ++ if leafChk h x = 0 then openLN h xs else []
/-- The texts that Open sums. -/
def openN (c : CCl) (root : List UInt8) : List (List UInt8) := if c.lv.length = 0 ∨ 8 < c.lv.length then [] else checkNt 1 (earL c.e c.h) c.idx c.p ++ if checkF 1 root (earL c.e c.h) c.idx c.p = 0 then openLN c.h c.lv else []
theorem openLN_cons (h : List UInt8) (x : CLf) (xs : List CLf) : openLN h (x :: xs) = leafNt x ++ if leafChk h x = 0 then openLN h xs else [] := rfl
theorem openLN_zero {h : List UInt8} {l : List CLf} (hz : ∀ x ∈ l, leafChk h x = 0) : openLN h l = l.flatMap leafNt := by
  induction l with
  | nil => rfl
  | cons x xs ih => rw [openLN_cons, if_pos (hz x (by simp)), ih fun y hy => hz y (by simp [hy]), List.flatMap_cons]
theorem openLN_at {h : List UInt8} {l : List CLf} {i : Nat} (hi : i < l.length) (hz : ∀ j (hj : j < l.length), j < i → leafChk h l[j] = 0) (hn : leafChk h l[i] ≠ 0) : openLN h l = (l.take i).flatMap leafNt ++ leafNt l[i] := by
  induction l generalizing i with
  | nil => simp at hi
  | cons x xs ih =>
    rw [openLN_cons]
    cases i with
    | zero => rw [if_neg (show ¬ leafChk h x = 0 from hn)]; simp
    | succ i =>
      rw [if_pos (show leafChk h x = 0 from hz 0 (by simp) (by omega)), ih (i := i) (by simpa using hi) (fun j hj hji => hz (j + 1) (by simpa using hj) (by omega)) hn, List.take_succ_cons, List.flatMap_cons, List.append_assoc]
      rfl
theorem checkNt_le (k : Int) (leaf : List UInt8) (i : Int) (p : List (List UInt8)) : (checkNt k leaf i p).length ≤ 12 := by
  unfold checkNt
  split
  · rename_i h
    rw [List.length_append]
    have h1 := foldNt_le k (leafK k leaf) i.toNat p p.length
    have h2 : (leafN k leaf).length ≤ 1 := leafN_le k leaf
    omega
  · simp
theorem leafNts_le (l : List CLf) : (l.flatMap leafNt).length ≤ 12 * l.length := by
  induction l with
  | nil => simp
  | cons x xs ih =>
    rw [List.flatMap_cons, List.length_append, List.length_cons]
    have := checkNt_le 2 (tokL x.t x.m) x.i x.p
    unfold leafNt at *; omega
theorem own_grew {α : Type} {w w' : World} {g : Nat} {a a' : Option Nat} {texts : List (List UInt8)} {B : Nat} {e : TypeId} {enc : α → List Value} {sz : Nat} {v : Value} {l : List α} (h : Own w B e enc sz v l) (ht : Tr w g a texts) (hg : Grew w g a w' a') (he : e ≠ 40 ∧ e ≠ 55) : Own w' B e enc sz v l := by
  refine h.keep hg.1 fun k hk hS => ?_
  obtain ⟨cs, fr, e1⟩ := h.cellsAt hk
  obtain ⟨tv, vs, h1, h2, h3, _⟩ := ht
  rcases hS with rfl | hS
  · rw [e1] at h1; cases h1; exact he.1 rfl
  · obtain ⟨cs', fr', e2⟩ := h2.cellsAt (h3.trans hS)
    rw [e1] at e2; cases e2; exact he.2 rfl
set_option maxHeartbeats 16000000 in
set_option maxRecDepth 100000 in
theorem topen_any (w : World) (g : Nat) (a : Option Nat) (texts : List (List UInt8)) (crt cix ce : Int) (ch : List UInt8) (cp : List (List UInt8)) (clv : List CLf) (cto : Int) (pa : Option Addr) (pn pc : Nat) (la : Option Addr) (ln lc : Nat) (xs : List (CLf × SlV)) (root : List UInt8)
    (hp : ∀ w' a', Grew w g a w' a' → Rd w' hE 32 (.slice pa pn pc) cp) (hlv : ∀ w' a', Grew w g a w' a' → Rd w' lfE 7 (.slice la ln lc) xs) (hpr : ∀ w' a', Grew w g a w' a' → ∀ x ∈ xs, Rd w' hE 32 (slV x.2) x.1.p) (hxl : xs.map (·.1) = clv)
    (hok : COk ⟨crt, cix, ce, ch, cp, clv, cto⟩) (hroot : root.length = 32) (ht : Tr w g a texts) (htl : texts.length < 1000000) :
    Calls Try.prog 7 #[.pointer (some ⟨g, 0, none⟩), .agg (clC crt cix ce ch (pa, pn, pc) (la, ln, lc) cto), .agg (c8 root)] w (TrRet w g a (texts ++ openN ⟨crt, cix, ce, ch, cp, clv, cto⟩ root) (.int .i64 (openR ⟨crt, cix, ce, ch, cp, clv, cto⟩ root))) := by
  have hg0 : Grew w g a w a := Grew.of_below g a (Below.refl _ _)
  obtain ⟨RV, hRV⟩ : ∃ x, x = openR ⟨crt, cix, ce, ch, cp, clv, cto⟩ root := ⟨_, rfl⟩
  obtain ⟨NT, hNT⟩ : ∃ x, x = texts ++ openN ⟨crt, cix, ce, ch, cp, clv, cto⟩ root := ⟨_, rfl⟩
  rw [← hRV, ← hNT]
  have hln : ln = xs.length := (hlv w a hg0).size
  have hll : clv.length = xs.length := by rw [← hxl, List.length_map]
  have HP := Lib.hid hp; have HLV := Lib.hid hlv; have HPR := Lib.hid hpr; have HXL := Lib.hid hxl; have HRV := Lib.hid hRV; have HNT := Lib.hid hNT; have HRT := Lib.hid hroot; have HT := Lib.hid ht; have HTL := Lib.hid htl
  have HLN := Lib.hid (show ln = clv.length ∧ ln = xs.length by omega)
  have HCH := Lib.hid (show ch.length = 32 from hok.1); have HB := Lib.hid (show ce < 9223372036854775808 ∧ cix < 9223372036854775808 from ⟨hok.2.1, hok.2.2.1⟩); have HA := Lib.hid (show All32 cp from hok.2.2.2.1); have HLO := Lib.hid (show ∀ x ∈ clv, x.t < 9223372036854775808 ∧ x.i < 9223372036854775808 ∧ x.m < 2 ^ 256 ∧ All32 x.p from hok.2.2.2.2)
  clear hp hlv hpr hxl hRV hNT hok hroot hln hll ht htl hg0
  have hbB : Below w.heap.size w ((w.alloc (.cells (clC crt cix ce ch (pa, pn, pc) (la, ln, lc) cto) 27)).alloc (.cells (c8 root) 23)) := ((Below.refl _ _).alloc (Nat.le_refl _) _).trans (((Below.refl _ _).alloc (Nat.le_refl _) _).mono ((Below.refl w.heap.size w).alloc (Nat.le_refl _) _).size)
  have hP1 : ((w.alloc (.cells (clC crt cix ce ch (pa, pn, pc) (la, ln, lc) cto) 27)).alloc (.cells (c8 root) 23)).heap[w.heap.size]? = some (.cells (clC crt cix ce ch (pa, pn, pc) (la, ln, lc) cto) 27 (0, 0)) := below_at2 ((Below.refl _ _).alloc (Nat.le_refl _) _) (heap_alloc_new _ _)
  have hQ1 : ((w.alloc (.cells (clC crt cix ce ch (pa, pn, pc) (la, ln, lc) cto) 27)).alloc (.cells (c8 root) 23)).heap[w.heap.size + 1]? = some (.cells (c8 root) 23 (0, 0)) := by
    rw [← show (w.alloc (.cells (clC crt cix ce ch (pa, pn, pc) (la, ln, lc) cto) 27)).heap.size = w.heap.size + 1 from Array.size_push _]; exact heap_alloc_new _ _
  have c36 : ((w.alloc (.cells (clC crt cix ce ch (pa, pn, pc) (la, ln, lc) cto) 27)).alloc (.cells (c8 root) 23)).cell? ⟨w.heap.size, 36, none⟩ = some (.slice la ln lc) := (Lib.cell_of_heap hP1 36).trans (clC_36 _ _ _ HCH.out _ _ _)
  have HBB := Lib.hid hbB; have HP1 := Lib.hid hP1; have HQ1 := Lib.hid hQ1
  clear hbB hP1 hQ1
  rcases (show ln = 0 ∨ 8 < ln ∨ (¬ ln = 0 ∧ ln ≤ 8) by omega) with h0 | h8 | ⟨h0, h8⟩
  · subst h0
    have HV := Lib.hid (show RV = 2 ∧ NT = texts by rw [HRV.out, HNT.out]; unfold openR openN; rw [if_pos (.inl HLN.out.1.symm), if_pos (.inl HLN.out.1.symm), List.append_nil]; exact ⟨rfl, rfl⟩)
    go_enter Try.func7, Try.ntmps7
    go_wp2_with fail
    go_ret
    exact ⟨by rw [HV.out.1]; rfl, a, by rw [HV.out.2]; exact HT.out.later HBB.out, Grew.of_below g a HBB.out⟩
  · have HV := Lib.hid (show RV = 2 ∧ NT = texts by rw [HRV.out, HNT.out]; unfold openR openN; rw [if_pos (.inr (by rw [← HLN.out.1]; exact h8)), if_pos (.inr (by rw [← HLN.out.1]; exact h8)), List.append_nil]; exact ⟨rfl, rfl⟩)
    have h0 : ((ln : Int) == 0) = false := by simp; omega
    have h9 : (8 : Int) < (ln : Int) := by omega
    clear h8
    go_enter Try.func7, Try.ntmps7
    go_wp2_with fail
    go_ret
    exact ⟨by rw [HV.out.1]; rfl, a, by rw [HV.out.2]; exact HT.out.later HBB.out, Grew.of_below g a HBB.out⟩
  · have HTLx := Lib.hid (show ¬ (clv.length = 0 ∨ 8 < clv.length) by have := HLN.out; omega)
    have h10 : ((ln : Int) == 0) = false := by simp; omega
    have h9 : ¬ (8 : Int) < (ln : Int) := by omega
    go_enter Try.func7, Try.ntmps7
    go_upto_region 3 with fail
    obtain ⟨wB, hwB⟩ : ∃ wB, wB = (w.alloc (.cells (clC crt cix ce ch (pa, pn, pc) (la, ln, lc) cto) 27)).alloc (.cells (c8 root) 23) := ⟨_, rfl⟩
    rw [← hwB] at HBB HP1 HQ1 ⊢
    obtain ⟨P, hP⟩ : ∃ P, P = w.heap.size := ⟨_, rfl⟩
    rw [← hP] at HP1 HQ1 ⊢
    obtain ⟨Q, hQ⟩ : ∃ Q, Q = P + 1 := ⟨_, rfl⟩
    rw [← hQ] at HQ1 ⊢
    clear hwB hP hQ c36
    obtain ⟨wz, hwz⟩ : ∃ wz, wz = wB.drew := ⟨_, rfl⟩
    have hbz : Below wB.heap.size wB wz := by rw [hwz]; exact (Below.refl _ _).drew
    have hS := And.intro (below_at2 hbz HP1.out) (below_at2 hbz HQ1.out)
    have hbw := HBB.out.trans (hbz.mono HBB.out.size)
    have HTz := Lib.hid (HT.out.later hbw); have HGz := Lib.hid (Grew.of_below g a hbw)
    clear hbz hbw HP1 HQ1 HBB
    refine wp_region_till (fun w' => w'.heap[P]? = some (.cells (clC crt cix ce ch (pa, pn, pc) (la, ln, lc) cto) 27 (0, 0)) ∧ w'.heap[Q]? = some (.cells (c8 root) 23 (0, 0))) 13 13 (by kernel_rfl) rfl ?_
    rw [← hwz]
    clear hwz
    refine till_take 0 (some 21) rfl rfl (by kernel_rfl) (by kernel_rfl) (by kernel_rfl) (by kernel_rfl) (by kernel_rfl) (by kernel_rfl) (fun _ _ _ h => h) (.inl ⟨by rfl, fun w' _ => (by go_simp; rfl)⟩) hS ?_
    go_frame
    refine till_take 1 (some 22) rfl rfl (by kernel_rfl) (by kernel_rfl) (by kernel_rfl) (by kernel_rfl) (by kernel_rfl) (by kernel_rfl) (fun _ _ _ h => h) (yields_load (by rfl) 23 _ rfl (.pointer (some ⟨Q, 0, none⟩)) rfl (.agg (c8 root)) (fun w' hS' => load_blk hS'.2 Try.underlying23 rfl (Try.sizeHc root HRT.out))) hS ?_
    go_frame
    refine till_take 2 (some 23) rfl rfl (by kernel_rfl) (by kernel_rfl) (by kernel_rfl) (by kernel_rfl) (by kernel_rfl) (by kernel_rfl) (fun _ _ _ h => h) (.inl ⟨by rfl, fun w' _ => (by go_simp; rfl)⟩) hS ?_
    go_frame
    refine till_take 3 (some 24) rfl rfl (by kernel_rfl) (by kernel_rfl) (by kernel_rfl) (by kernel_rfl) (by kernel_rfl) (by kernel_rfl) (fun _ _ _ h => h) (.inl ⟨by rfl, fun w' hS' => (by have hc : w'.cell? ⟨P, 2, none⟩ = some (.int .i64 ce) := (Lib.cell_of_heap hS'.1 2).trans (clC_2 _ _ _ _ _ _ _); go_simp; rfl)⟩) hS ?_
    go_frame
    refine till_take 4 (some 25) rfl rfl (by kernel_rfl) (by kernel_rfl) (by kernel_rfl) (by kernel_rfl) (by kernel_rfl) (by kernel_rfl) (fun _ _ _ h => h) (.inl ⟨by rfl, fun w' _ => (by go_simp; rfl)⟩) hS ?_
    go_frame
    refine till_take 5 (some 26) rfl rfl (by kernel_rfl) (by kernel_rfl) (by kernel_rfl) (by kernel_rfl) (by kernel_rfl) (by kernel_rfl) (fun _ _ _ h => h) (yieldsIf_load_mid (by rfl) 23 _ rfl P 3 rfl (ch.map byteV) _ (fun w' hS' => range_of_heap hS'.1 3 _ (clC_mid _ _ _ _ _ _)) Try.underlying23 rfl (Try.sizeHm _ HCH.out)) hS ?_
    go_frame
    refine till_take 7 (some 28) rfl rfl (by kernel_rfl) (by kernel_rfl) (by kernel_rfl) (by kernel_rfl) (by kernel_rfl) (by kernel_rfl) (fun _ _ _ h => h) (.inl ⟨by rfl, fun w' _ => (by go_simp; rfl)⟩) hS ?_
    go_frame
    refine till_take 8 (some 29) rfl rfl (by kernel_rfl) (by kernel_rfl) (by kernel_rfl) (by kernel_rfl) (by kernel_rfl) (by kernel_rfl) (fun _ _ _ h => h) (.inl ⟨by rfl, fun w' hS' => (by have hc : w'.cell? ⟨P, 1, none⟩ = some (.int .i64 cix) := (Lib.cell_of_heap hS'.1 1).trans (clC_1 _ _ _ _ _ _ _); go_simp; rfl)⟩) hS ?_
    go_frame
    refine till_take 9 (some 30) rfl rfl (by kernel_rfl) (by kernel_rfl) (by kernel_rfl) (by kernel_rfl) (by kernel_rfl) (by kernel_rfl) (fun _ _ _ h => h) (.inl ⟨by rfl, fun w' _ => (by go_simp; rfl)⟩) hS ?_
    go_frame
    refine till_take 10 (some 31) rfl rfl (by kernel_rfl) (by kernel_rfl) (by kernel_rfl) (by kernel_rfl) (by kernel_rfl) (by kernel_rfl) (fun _ _ _ h => h) (.inl ⟨by rfl, fun w' hS' => (by have hc : w'.cell? ⟨P, 35, none⟩ = some (.slice pa pn pc) := (Lib.cell_of_heap hS'.1 35).trans (clC_35 _ _ _ HCH.out _ _ _); go_simp; rfl)⟩) hS ?_
    go_frame
    refine till_one 6 rfl (by kernel_rfl) fun K hK => ?_
    simp only [List.getElem_toArray, List.getElem_cons_succ, List.getElem_cons_zero]
    rw [if_pos (by rfl)]
    go_simp
    refine (rear_any _ ce HB.out.1 HCH.out).mono ?_
    rintro e w4 ⟨v2, rfl, ho, hb⟩
    have hSn := And.intro (below_at2 hb hS.1) (below_at2 hb hS.2)
    have HEL := Lib.hid (show (earL ce ch).length ≤ 41 from earL_len HB.out.1 HCH.out)
    have HOW := Lib.hid ho
    have HT4 := Lib.hid (HTz.out.later hb); have HG4 := Lib.hid (HGz.out.trans (Grew.of_below g a hb))
    refine hK _ _ (fun _ _ => hSn) ?_
    clear hK hS hb ho HTz HGz
    have hS := hSn
    clear hSn
    refine till_one 11 rfl (by kernel_rfl) fun K hK => ?_
    simp only [List.getElem_toArray, List.getElem_cons_succ, List.getElem_cons_zero]
    rw [if_pos (by rfl)]
    go_simp
    obtain ⟨q1, hq1⟩ : ∃ q, q = checkF 1 root (earL ce ch) cix cp := ⟨_, rfl⟩
    have hcall := tcheck_any w4 g a texts 1 cix root (earL ce ch) cp v2 (.slice pa pn pc) HRT.out (fun w' a' h => (own_grew HOW.out HT4.out h (by decide)).rd u8_len) (by have := HEL.out; omega) (fun w' a' h => HP.out w' a' (HG4.out.trans h)) HT4.out HA.out (by have := HTL.out; omega) HB.out.2
    rw [← hq1] at hcall
    have HQ1e := Lib.hid hq1
    clear hq1
    refine hcall.mono ?_
    rintro e w5 ⟨rfl, a5, ht5, hg5⟩
    have hSn := And.intro (tr_other HT4.out hg5 hS.1 (by decide)) (tr_other HT4.out hg5 hS.2 (by decide))
    have HT5 := Lib.hid ht5; have HG5 := Lib.hid (HG4.out.trans hg5)
    refine hK _ _ (fun _ _ => hSn) ?_
    clear hK hS hcall ht5 hg5 HT4 HG4 HOW HEL
    have hS := hSn
    clear hSn
    refine till_take 12 (some 7) rfl rfl (by kernel_rfl) (by kernel_rfl) (by kernel_rfl) (by kernel_rfl) (by kernel_rfl) (by kernel_rfl) (fun _ _ _ h => h) (.inl ⟨by rfl, fun w' _ => (by go_simp; rfl)⟩) hS ?_
    go_frame
    refine till_done (by kernel_rfl) ?_ _
    have HP5 := Lib.hid hS.1
    clear hS
    by_cases hz : q1 = 0
    · subst hz
      have HE1 := Lib.hid (show RV = openL ch clv ∧ NT = texts ++ checkNt 1 (earL ce ch) cix cp ++ openLN ch clv by
        rw [HRV.out, HNT.out]; unfold openR openN; rw [if_neg HTLx.out, if_pos HQ1e.out.symm, if_neg HTLx.out, if_pos HQ1e.out.symm, List.append_assoc]; exact ⟨rfl, rfl⟩)
      have c36 : w5.cell? ⟨P, 36, none⟩ = some (.slice la ln lc) := (Lib.cell_of_heap HP5.out 36).trans (clC_36 _ _ _ HCH.out _ _ _)
      have hl9 : ln < 1000000 := by omega
      go_wp2_with fail
      clear c36
      go_loopw [39] (fun y wr => ∃ i : Nat, y = .int .i64 i ∧ i ≤ ln ∧ Hid (∀ j (hj : j < xs.length), j < i → leafChk ch xs[j].1 = 0) ∧ Hid (wr.heap[P]? = some (.cells (clC crt cix ce ch (pa, pn, pc) (la, ln, lc) cto) 27 (0, 0))) ∧ Hid (∃ ar, Tr wr g ar (texts ++ checkNt 1 (earL ce ch) cix cp ++ (clv.take i).flatMap leafNt) ∧ Grew w g a wr ar)) (fun y _ => ln - (intOf y).toNat)
      case atStart => exact ⟨0, rfl, by omega, Lib.hid fun j hj h => by omega, HP5, Lib.hid ⟨_, by rw [List.take_zero, List.flatMap_nil, List.append_nil]; exact HT5.out, HG5.out⟩⟩
      case round =>
        clear HP5 HT5 HG5
        obtain ⟨i, rfl, hin, HZ, HPi, HTi⟩ := hrel
        obtain ⟨ar, hti, hgi⟩ := HTi.out
        have HTr := Lib.hid hti; have HGr := Lib.hid hgi
        clear hti hgi HTi
        by_cases hlt : i < ln
        · have hi : i < xs.length := by have := HLN.out; omega
          have hic : i < clv.length := by have := HLN.out; omega
          obtain ⟨b, off, rfl, c0, c1, c2, c3, c4, c5, c6⟩ := (HLV.out _ _ HGr.out).leaf i hi
          have hpr : ∀ w' a', Grew w g a w' a' → Rd w' hE 32 (slV xs[i].2) xs[i].1.p := fun w' a' h => HPR.out w' a' h xs[i] (List.getElem_mem hi)
          have hlo := HLO.out xs[i].1 (by rw [← HXL.out]; exact List.mem_map.2 ⟨xs[i], List.getElem_mem hi, rfl⟩)
          have hmap : ∀ j (hj : j < xs.length) (hj2 : j < clv.length), clv[j] = xs[j].1 := fun j hj hj2 => by
            have h1 : (xs.map (·.1))[j]'(by rw [List.length_map]; exact hj) = xs[j].1 := List.getElem_map _
            rw [← h1]; congr 1; exact HXL.out.symm
          have hbad : leafChk ch xs[i].1 ≠ 0 → RV = leafChk ch xs[i].1 ∧ NT = texts ++ checkNt 1 (earL ce ch) cix cp ++ (clv.take i).flatMap leafNt ++ leafNt xs[i].1 := fun hn => by
            have hz1 : ∀ j (hj : j < clv.length), j < i → leafChk ch clv[j] = 0 := fun j hj hji => by rw [hmap j (by have := HLN.out; omega) hj]; exact HZ.out j (by have := HLN.out; omega) hji
            have hz2 : leafChk ch clv[i] ≠ 0 := by rw [hmap i hi hic]; exact hn
            rw [HE1.out.1, HE1.out.2, openL_at hic hz1 hz2, openLN_at hic hz1 hz2, hmap i hi hic]
            exact ⟨rfl, by simp only [List.append_assoc]⟩
          have htk : (clv.take (i + 1)).flatMap leafNt = (clv.take i).flatMap leafNt ++ leafNt xs[i].1 := by
            rw [List.take_succ_eq_append_getElem hic, List.flatMap_append, hmap i hi hic]; simp
          have hgood : leafChk ch xs[i].1 = 0 → ∀ j (hj : j < xs.length), j < i + 1 → leafChk ch xs[j].1 = 0 := fun h0 j hj hji => by
            rcases (show j < i ∨ j = i by omega) with h1 | rfl
            · exact HZ.out j hj h1
            · exact h0
          obtain ⟨⟨⟨xi, xt, xm, xp⟩, ⟨sa, sn, sc⟩⟩, hx⟩ : ∃ x, x = xs[i] := ⟨_, rfl⟩
          rw [← hx] at c0 c1 c2 c3 c4 c5 c6 hpr hlo hbad hgood htk
          clear hx hi hic hmap
          have HPX := Lib.hid (show ∀ w' a', Grew w g a w' a' → Rd w' hE 32 (.slice sa sn sc) xp from hpr); have HLX := Lib.hid (show xt < 9223372036854775808 ∧ xi < 9223372036854775808 ∧ xm < uMax ∧ All32 xp from ⟨hlo.1, hlo.2.1, hlo.2.2.1, hlo.2.2.2⟩)
          have HBAD := Lib.hid (show checkF 2 ch (tokL xt xm) xi xp ≠ 0 → RV = checkF 2 ch (tokL xt xm) xi xp ∧ NT = texts ++ checkNt 1 (earL ce ch) cix cp ++ (clv.take i).flatMap leafNt ++ checkNt 2 (tokL xt xm) xi xp from hbad); have HGOOD := Lib.hid (show checkF 2 ch (tokL xt xm) xi xp = 0 → ∀ j (hj : j < xs.length), j < i + 1 → leafChk ch xs[j].1 = 0 from hgood)
          have HTK := Lib.hid (show texts ++ checkNt 1 (earL ce ch) cix cp ++ (clv.take i).flatMap leafNt ++ checkNt 2 (tokL xt xm) xi xp = texts ++ checkNt 1 (earL ce ch) cix cp ++ (clv.take (i + 1)).flatMap leafNt by rw [htk]; simp only [List.append_assoc]; rfl)
          obtain ⟨tx, htx⟩ : ∃ tx, tx = texts ++ checkNt 1 (earL ce ch) cix cp ++ (clv.take i).flatMap leafNt := ⟨_, rfl⟩
          have HTXL := Lib.hid (show tx.length < 2000000 by
            rw [htx, List.length_append, List.length_append]
            have h1 := checkNt_le 1 (earL ce ch) cix cp; have h2 := leafNts_le (clv.take i); have h3 := HTL.out
            rw [List.length_take] at h2; omega)
          rw [← htx] at HTr HBAD HTK
          clear hpr hlo hbad hgood htk htx
          simp only [] at c0 c1 c2 c3 c4 c5
          replace c6 : wr.cell? ⟨b, off + i * 7 + 6, none⟩ = some (.slice sa sn sc) := c6
          go_wp2_with (refine wpList_alloc_g rfl _ rfl _ _ Try.zeroLf rfl ?_)
          intro L d3 hL
          go_wp2_with (refine wpList_store_row_g (t := 33) (old := lfZ) rfl 33 _ _ rfl L (lfC xi xt xm (sa, sn, sc)) rfl rfl hL.out.cells Try.sizeLf rfl (lfC_one _ _ _ _) ?_)
          intro w6 h6 k6 z6
          have hb6 : Below wr.heap.size wr w6 := hL.out.below.trans (k6.below (B := wr.heap.size) (fun x hx e => by have := hL.out.eq; omega) hL.out.below.size)
          have HL6 := Lib.hid h6; have HP6 := Lib.hid (below_at2 hb6 HPi.out); have HT6 := Lib.hid (HTr.out.later hb6); have HG6 := Lib.hid (HGr.out.trans (Grew.of_below g ar hb6))
          clear hL h6 k6 z6 hb6 c0 c1 c2 c3 c4 c5 c6 HPi HTr HGr
          go_upto_region 9 with fail
          obtain ⟨wz, hwz⟩ : ∃ wz, wz = w6.drew := ⟨_, rfl⟩
          have hbz : Below w6.heap.size w6 wz := by rw [hwz]; exact (Below.refl _ _).drew
          have hS := And.intro (below_at2 hbz HP6.out) (below_at2 hbz HL6.out)
          have HTz := Lib.hid (HT6.out.later hbz); have HGz := Lib.hid (HG6.out.trans (Grew.of_below g ar hbz))
          clear hbz HP6 HL6 HT6 HG6
          refine wp_region_till (fun w' => w'.heap[P]? = some (.cells (clC crt cix ce ch (pa, pn, pc) (some ⟨b, off, none⟩, ln, lc) cto) 27 (0, 0)) ∧ w'.heap[L]? = some (.cells (lfC xi xt xm (sa, sn, sc)) 33 (0, 0))) 14 14 (by kernel_rfl) rfl ?_
          rw [← hwz]
          clear hwz
          refine till_take 0 (some 43) rfl rfl (by kernel_rfl) (by kernel_rfl) (by kernel_rfl) (by kernel_rfl) (by kernel_rfl) (by kernel_rfl) (fun _ _ _ h => h) (.inl ⟨by rfl, fun w' _ => (by go_simp; rfl)⟩) hS ?_
          go_frame
          refine till_take 1 (some 44) rfl rfl (by kernel_rfl) (by kernel_rfl) (by kernel_rfl) (by kernel_rfl) (by kernel_rfl) (by kernel_rfl) (fun _ _ _ h => h) (.inl ⟨by rfl, fun w' _ => (by go_simp; rfl)⟩) hS ?_
          go_frame
          refine till_take 2 (some 45) rfl rfl (by kernel_rfl) (by kernel_rfl) (by kernel_rfl) (by kernel_rfl) (by kernel_rfl) (by kernel_rfl) (fun _ _ _ h => h) (yieldsIf_load_mid (by rfl) 23 _ rfl P 3 rfl (ch.map byteV) _ (fun w' hS' => range_of_heap hS'.1 3 _ (clC_mid _ _ _ _ _ _)) Try.underlying23 rfl (Try.sizeHm _ HCH.out)) hS ?_
          go_frame
          refine till_take 3 (some 46) rfl rfl (by kernel_rfl) (by kernel_rfl) (by kernel_rfl) (by kernel_rfl) (by kernel_rfl) (by kernel_rfl) (fun _ _ _ h => h) (.inl ⟨by rfl, fun w' _ => (by go_simp; rfl)⟩) hS ?_
          go_frame
          refine till_take 4 (some 47) rfl rfl (by kernel_rfl) (by kernel_rfl) (by kernel_rfl) (by kernel_rfl) (by kernel_rfl) (by kernel_rfl) (fun _ _ _ h => h) (.inl ⟨by rfl, fun w' hS' => (by have hc : w'.cell? ⟨L, 1, none⟩ = some (.int .i64 xt) := Lib.cell_of_heap hS'.2 1; go_simp; rfl)⟩) hS ?_
          go_frame
          refine till_take 5 (some 48) rfl rfl (by kernel_rfl) (by kernel_rfl) (by kernel_rfl) (by kernel_rfl) (by kernel_rfl) (by kernel_rfl) (fun _ _ _ h => h) (.inl ⟨by rfl, fun w' _ => (by go_simp; rfl)⟩) hS ?_
          go_frame
          refine till_take 6 (some 49) rfl rfl (by kernel_rfl) (by kernel_rfl) (by kernel_rfl) (by kernel_rfl) (by kernel_rfl) (by kernel_rfl) (fun _ _ _ h => h) (yieldsIf_load_mid (by rfl) 31 _ rfl L 2 rfl [.int .u64 (uw0 xm), .int .u64 (uw1 xm), .int .u64 (uw2 xm), .int .u64 (uw3 xm)] _ (fun w' hS' => range_of_heap hS'.2 2 _ rfl) Try.underlying31 rfl Try.sizeU) hS ?_
          go_frame
          refine till_take 8 (some 51) rfl rfl (by kernel_rfl) (by kernel_rfl) (by kernel_rfl) (by kernel_rfl) (by kernel_rfl) (by kernel_rfl) (fun _ _ _ h => h) (.inl ⟨by rfl, fun w' _ => (by go_simp; rfl)⟩) hS ?_
          go_frame
          refine till_take 9 (some 52) rfl rfl (by kernel_rfl) (by kernel_rfl) (by kernel_rfl) (by kernel_rfl) (by kernel_rfl) (by kernel_rfl) (fun _ _ _ h => h) (.inl ⟨by rfl, fun w' hS' => (by have hc : w'.cell? ⟨L, 0, none⟩ = some (.int .i64 xi) := Lib.cell_of_heap hS'.2 0; go_simp; rfl)⟩) hS ?_
          go_frame
          refine till_take 10 (some 53) rfl rfl (by kernel_rfl) (by kernel_rfl) (by kernel_rfl) (by kernel_rfl) (by kernel_rfl) (by kernel_rfl) (fun _ _ _ h => h) (.inl ⟨by rfl, fun w' _ => (by go_simp; rfl)⟩) hS ?_
          go_frame
          refine till_take 11 (some 54) rfl rfl (by kernel_rfl) (by kernel_rfl) (by kernel_rfl) (by kernel_rfl) (by kernel_rfl) (by kernel_rfl) (fun _ _ _ h => h) (.inl ⟨by rfl, fun w' hS' => (by have hc : w'.cell? ⟨L, 6, none⟩ = some (.slice sa sn sc) := Lib.cell_of_heap hS'.2 6; go_simp; rfl)⟩) hS ?_
          go_frame
          refine till_one 7 rfl (by kernel_rfl) fun K hK => ?_
          simp only [List.getElem_toArray, List.getElem_cons_succ, List.getElem_cons_zero]
          rw [if_pos (by rfl)]
          go_simp
          refine (rtok_any _ xt HLX.out.1 (uw_is HLX.out.2.2.1)).mono ?_
          rintro e w8 ⟨v2, rfl, ho, hb⟩
          have hSn := And.intro (below_at2 hb hS.1) (below_at2 hb hS.2)
          have HEL := Lib.hid (show (tokL xt xm).length ≤ 42 from tokL_len HLX.out.1)
          have HOW := Lib.hid ho
          have HT4 := Lib.hid (HTz.out.later hb); have HG4 := Lib.hid (HGz.out.trans (Grew.of_below g ar hb))
          refine hK _ _ (fun _ _ => hSn) ?_
          clear hK hS hb ho HTz HGz
          have hS := hSn
          clear hSn
          refine till_one 12 rfl (by kernel_rfl) fun K hK => ?_
          simp only [List.getElem_toArray, List.getElem_cons_succ, List.getElem_cons_zero]
          rw [if_pos (by rfl)]
          go_simp
          obtain ⟨q2, hq1⟩ : ∃ q, q = checkF 2 ch (tokL xt xm) xi xp := ⟨_, rfl⟩
          have hcall := tcheck_any w8 g ar tx 2 xi ch (tokL xt xm) xp v2 (.slice sa sn sc) HCH.out (fun w' a' h => (own_grew HOW.out HT4.out h (by decide)).rd u8_len) (by have := HEL.out; omega) (fun w' a' h => HPX.out w' a' (HG4.out.trans h)) HT4.out HLX.out.2.2.2 (by have := HTXL.out; omega) HLX.out.2.1
          rw [← hq1] at hcall
          have HQ2e := Lib.hid hq1
          clear hq1
          refine hcall.mono ?_
          rintro e w7 ⟨rfl, a7, ht5, hg5⟩
          have hSn := And.intro (tr_other HT4.out hg5 hS.1 (by decide)) (tr_other HT4.out hg5 hS.2 (by decide))
          have HT7 := Lib.hid ht5; have HG7 := Lib.hid (HG4.out.trans hg5)
          refine hK _ _ (fun _ _ => hSn) ?_
          clear hK hS hcall ht5 hg5 HT4 HG4 HOW HEL
          have hS := hSn
          clear hSn
          refine till_take 13 (some 10) rfl rfl (by kernel_rfl) (by kernel_rfl) (by kernel_rfl) (by kernel_rfl) (by kernel_rfl) (by kernel_rfl) (fun _ _ _ h => h) (.inl ⟨by rfl, fun w' _ => (by go_simp; rfl)⟩) hS ?_
          go_frame
          refine till_done (by kernel_rfl) ?_ _
          have HP7 := Lib.hid hS.1
          clear hS
          by_cases hz2 : q2 = 0
          · subst hz2
            have HG2 := Lib.hid (HGOOD.out HQ2e.out.symm)
            rw [HTK.out] at HT7
            go_wp2_with fail
            go_roundw
            case rel => exact ⟨i + 1, by go_num, hlt, HG2, HP7, Lib.hid ⟨_, HT7.out, HG7.out⟩⟩
            case measure => simp [intOf]; omega
          · have HV := Lib.hid (HBAD.out (by rw [← HQ2e.out]; exact hz2))
            have hne : (q2 != 0) = true := by simpa using hz2
            clear hz2
            go_wp2_with fail
            go_ret
            exact ⟨by rw [HV.out.1, HQ2e.out]; rfl, _, by rw [HV.out.2]; exact HT7.out, HG7.out⟩
        · obtain rfl : i = ln := by omega
          have HV := Lib.hid (show RV = 0 ∧ NT = texts ++ checkNt 1 (earL ce ch) cix cp ++ (clv.take i).flatMap leafNt by
            have hz0 : ∀ x ∈ clv, leafChk ch x = 0 := fun x hx => by
              rw [← HXL.out] at hx
              obtain ⟨y, hy, rfl⟩ := List.mem_map.1 hx
              obtain ⟨j, hj, rfl⟩ := List.mem_iff_getElem.1 hy
              exact HZ.out j hj (by rw [HLN.out.2]; exact hj)
            rw [HE1.out.1, HE1.out.2, openL_zero hz0, openLN_zero hz0, List.take_of_length_le (by rw [HLN.out.1]; exact Nat.le_refl _)]
            exact ⟨rfl, rfl⟩)
          go_wp2_with fail
          go_ret
          exact ⟨by rw [HV.out.1]; rfl, _, by rw [HV.out.2]; exact HTr.out, HGr.out⟩
    · have HV := Lib.hid (show RV = q1 ∧ NT = texts ++ checkNt 1 (earL ce ch) cix cp by
        rw [HRV.out, HNT.out]; unfold openR openN; rw [if_neg HTLx.out, if_neg (by rw [← HQ1e.out]; exact hz), if_neg HTLx.out, if_neg (by rw [← HQ1e.out]; exact hz), List.append_nil]; exact ⟨HQ1e.out.symm, rfl⟩)
      have hne : (q1 != 0) = true := by simpa using hz
      clear hz
      go_wp2_with fail
      go_ret
      exact ⟨by rw [HV.out.1]; rfl, _, by rw [HV.out.2]; exact HT5.out, HG5.out⟩
end Go.Proofs.Ytmclmccgghnglaa
