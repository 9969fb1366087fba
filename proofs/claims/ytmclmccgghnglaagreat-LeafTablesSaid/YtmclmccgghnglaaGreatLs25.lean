/- tallageref16.Open. No condition. tallageref16's rows in order, and their earners: the plain law. No condition. LeafSound's plain law: what a claim says that a table's root opens, the table says; or two unlike texts have one sum. No condition. -/
import Derived.Test.YtmclmccgghnglaaGreatLsLeaO
import Derived.Test.YtmclmccgghnglaaGreatLs22
import Derived.Test.YtmclmccgghnglaaGreatLs24
namespace Go.Proofs.YtmclmccgghnglaaGreat
section
open Go.RowKit

def leafNt (x : CLf) : List (List UInt8) := checkNt 2 (tokL x.t x.m) x.i x.p
def openLN (h : List UInt8) : List CLf → List (List UInt8)
  | [] => []
  | x :: xs => leafNt x ++ if leafChk h x = 0 then openLN h xs else []
/-- The texts that Open sums. -/
def openN (c : CCl) (root : List UInt8) : List (List UInt8) := if c.lv.length = 0 ∨ 8 < c.lv.length then [] else checkNt 1 (earL c.e c.h) c.idx c.p ++ if checkF 1 root (earL c.e c.h) c.idx c.p = 0 then openLN c.h c.lv else []
theorem openLN_cons (h : List UInt8) (x : CLf) (xs : List CLf) : openLN h (x :: xs) = leafNt x ++ if leafChk h x = 0 then openLN h xs else [] := rfl
theorem openLN_zero {h : List UInt8} {l : List CLf} (hz : ∀ x ∈ l, leafChk h x = 0) : openLN h l = l.flatMap leafNt := by
  induction l with
  | nil => rfl
  | cons x xs ih => rw [openLN_cons, if_pos (hz x (by simp)), ih fun y hy => hz y (by simp [hy]), List.flatMap_cons]
theorem openLN_at {h : List UInt8} {l : List CLf} {i : Nat} (hi : i < l.length) (hz : ∀ j (hj : j < l.length), j < i → leafChk h l[j] = 0) (hn : leafChk h l[i] ≠ 0) : openLN h l = (l.take i).flatMap leafNt ++ leafNt l[i] := by
  induction l generalizing i with
  | nil => simp at hi
  | cons x xs ih =>
    rw [openLN_cons]
    cases i with
    | zero => rw [if_neg (show ¬ leafChk h x = 0 from hn)]; simp
    | succ i =>
      rw [if_pos (show leafChk h x = 0 from hz 0 (by simp) (by omega)), ih (i := i) (by simpa using hi) (fun j hj hji => hz (j + 1) (by simpa using hj) (by omega)) hn, List.take_succ_cons, List.flatMap_cons, List.append_assoc]
      rfl
theorem checkNt_le (k : Int) (leaf : List UInt8) (i : Int) (p : List (List UInt8)) : (checkNt k leaf i p).length ≤ 12 := by
  unfold checkNt
  split
  · rename_i h
    rw [List.length_append]
    have h1 := foldNt_le k (leafK k leaf) i.toNat p p.length
    have h2 : (leafN k leaf).length ≤ 1 := leafN_le k leaf
    omega
  · simp
theorem leafNts_le (l : List CLf) : (l.flatMap leafNt).length ≤ 12 * l.length := by
  induction l with
  | nil => simp
  | cons x xs ih =>
    rw [List.flatMap_cons, List.length_append, List.length_cons]
    have := checkNt_le 2 (tokL x.t x.m) x.i x.p
    unfold leafNt at *; omega
theorem own_grew {α : Type} {w w' : World} {g : Nat} {a a' : Option Nat} {texts : List (List UInt8)} {B : Nat} {e : TypeId} {enc : α → List Value} {sz : Nat} {v : Value} {l : List α} (h : Own w B e enc sz v l) (ht : Tr w g a texts) (hg : Grew w g a w' a') (he : e ≠ 28 ∧ e ≠ 100) : Own w' B e enc sz v l := by
  refine h.keep hg.1 fun k hk hS => ?_
  obtain ⟨cs, fr, e1⟩ := h.cellsAt hk
  obtain ⟨tv, vs, h1, h2, h3, _⟩ := ht
  rcases hS with rfl | hS
  · rw [e1] at h1; cases h1; exact he.1 rfl
  · obtain ⟨cs', fr', e2⟩ := h2.cellsAt (h3.trans hS)
    rw [e1] at e2; cases e2; exact he.2 rfl
set_option maxHeartbeats 16000000 in
set_option maxRecDepth 100000 in
theorem topen_any (w : World) (g : Nat) (a : Option Nat) (texts : List (List UInt8)) (crt cix ce : Int) (ch : List UInt8) (cp : List (List UInt8)) (clv : List CLf) (cto : Int) (pa : Option Addr) (pn pc : Nat) (la : Option Addr) (ln lc : Nat) (xs : List (CLf × SlV)) (root : List UInt8)
    (hp : ∀ w' a', Grew w g a w' a' → Rd w' hE 32 (.slice pa pn pc) cp) (hlv : ∀ w' a', Grew w g a w' a' → Rd w' lfE 7 (.slice la ln lc) xs) (hpr : ∀ w' a', Grew w g a w' a' → ∀ x ∈ xs, Rd w' hE 32 (slV x.2) x.1.p) (hxl : xs.map (·.1) = clv)
    (hok : COk ⟨crt, cix, ce, ch, cp, clv, cto⟩) (hroot : root.length = 32) (ht : Tr w g a texts) (htl : texts.length < 1000000) :
    Calls Tryz.prog 26 #[.pointer (some ⟨g, 0, none⟩), .agg (clC crt cix ce ch (pa, pn, pc) (la, ln, lc) cto), .agg (c8 root)] w (TrRet w g a (texts ++ openN ⟨crt, cix, ce, ch, cp, clv, cto⟩ root) (.int .i64 (openR ⟨crt, cix, ce, ch, cp, clv, cto⟩ root))) := by
  have hg0 : Grew w g a w a := Grew.of_below g a (Below.refl _ _)
  obtain ⟨RV, hRV⟩ : ∃ x, x = openR ⟨crt, cix, ce, ch, cp, clv, cto⟩ root := ⟨_, rfl⟩
  obtain ⟨NT, hNT⟩ : ∃ x, x = texts ++ openN ⟨crt, cix, ce, ch, cp, clv, cto⟩ root := ⟨_, rfl⟩
  rw [← hRV, ← hNT]
  have hln : ln = xs.length := (hlv w a hg0).size
  have hll : clv.length = xs.length := by rw [← hxl, List.length_map]
  have HP := Lib.hid hp; have HLV := Lib.hid hlv; have HPR := Lib.hid hpr; have HXL := Lib.hid hxl; have HRV := Lib.hid hRV; have HNT := Lib.hid hNT; have HRT := Lib.hid hroot; have HT := Lib.hid ht; have HTL := Lib.hid htl
  have HLN := Lib.hid (show ln = clv.length ∧ ln = xs.length by omega)
  have HCH := Lib.hid (show ch.length = 32 from hok.1); have HB := Lib.hid (show ce < 9223372036854775808 ∧ cix < 9223372036854775808 from ⟨hok.2.1, hok.2.2.1⟩); have HA := Lib.hid (show All32 cp from hok.2.2.2.1); have HLO := Lib.hid (show ∀ x ∈ clv, x.t < 9223372036854775808 ∧ x.i < 9223372036854775808 ∧ x.m < 2 ^ 256 ∧ All32 x.p from hok.2.2.2.2)
  clear hp hlv hpr hxl hRV hNT hok hroot hln hll ht htl hg0
  have hbB : Below w.heap.size w ((w.alloc (.cells (clC crt cix ce ch (pa, pn, pc) (la, ln, lc) cto) 45)).alloc (.cells (c8 root) 36)) := ((Below.refl _ _).alloc (Nat.le_refl _) _).trans (((Below.refl _ _).alloc (Nat.le_refl _) _).mono ((Below.refl w.heap.size w).alloc (Nat.le_refl _) _).size)
  have hP1 : ((w.alloc (.cells (clC crt cix ce ch (pa, pn, pc) (la, ln, lc) cto) 45)).alloc (.cells (c8 root) 36)).heap[w.heap.size]? = some (.cells (clC crt cix ce ch (pa, pn, pc) (la, ln, lc) cto) 45 (0, 0)) := below_at2 ((Below.refl _ _).alloc (Nat.le_refl _) _) (heap_alloc_new _ _)
  have hQ1 : ((w.alloc (.cells (clC crt cix ce ch (pa, pn, pc) (la, ln, lc) cto) 45)).alloc (.cells (c8 root) 36)).heap[w.heap.size + 1]? = some (.cells (c8 root) 36 (0, 0)) := by
    rw [← show (w.alloc (.cells (clC crt cix ce ch (pa, pn, pc) (la, ln, lc) cto) 45)).heap.size = w.heap.size + 1 from Array.size_push _]; exact heap_alloc_new _ _
  have c36 : ((w.alloc (.cells (clC crt cix ce ch (pa, pn, pc) (la, ln, lc) cto) 45)).alloc (.cells (c8 root) 36)).cell? ⟨w.heap.size, 36, none⟩ = some (.slice la ln lc) := (Lib.cell_of_heap hP1 36).trans (clC_36 _ _ _ HCH.out _ _ _)
  have HBB := Lib.hid hbB; have HP1 := Lib.hid hP1; have HQ1 := Lib.hid hQ1
  clear hbB hP1 hQ1
  rcases (show ln = 0 ∨ 8 < ln ∨ (¬ ln = 0 ∧ ln ≤ 8) by omega) with h0 | h8 | ⟨h0, h8⟩
  · subst h0
    have HV := Lib.hid (show RV = 2 ∧ NT = texts by rw [HRV.out, HNT.out]; unfold openR openN; rw [if_pos (.inl HLN.out.1.symm), if_pos (.inl HLN.out.1.symm), List.append_nil]; exact ⟨rfl, rfl⟩)
    go_enter Tryz.func26, Tryz.ntmps26
    go_wp2_with fail
    go_ret
    exact ⟨by rw [HV.out.1]; rfl, a, by rw [HV.out.2]; exact HT.out.later HBB.out, Grew.of_below g a HBB.out⟩
  · have HV := Lib.hid (show RV = 2 ∧ NT = texts by rw [HRV.out, HNT.out]; unfold openR openN; rw [if_pos (.inr (by rw [← HLN.out.1]; exact h8)), if_pos (.inr (by rw [← HLN.out.1]; exact h8)), List.append_nil]; exact ⟨rfl, rfl⟩)
    have h0 : ((ln : Int) == 0) = false := by simp; omega
    have h9 : (8 : Int) < (ln : Int) := by omega
    clear h8
    go_enter Tryz.func26, Tryz.ntmps26
    go_wp2_with fail
    go_ret
    exact ⟨by rw [HV.out.1]; rfl, a, by rw [HV.out.2]; exact HT.out.later HBB.out, Grew.of_below g a HBB.out⟩
  · have HTLx := Lib.hid (show ¬ (clv.length = 0 ∨ 8 < clv.length) by have := HLN.out; omega)
    have h10 : ((ln : Int) == 0) = false := by simp; omega
    have h9 : ¬ (8 : Int) < (ln : Int) := by omega
    go_enter Tryz.func26, Tryz.ntmps26
    go_upto_region 3 with fail
    obtain ⟨wB, hwB⟩ : ∃ wB, wB = (w.alloc (.cells (clC crt cix ce ch (pa, pn, pc) (la, ln, lc) cto) 45)).alloc (.cells (c8 root) 36) := ⟨_, rfl⟩
    rw [← hwB] at HBB HP1 HQ1 ⊢
    obtain ⟨P, hP⟩ : ∃ P, P = w.heap.size := ⟨_, rfl⟩
    rw [← hP] at HP1 HQ1 ⊢
    obtain ⟨Q, hQ⟩ : ∃ Q, Q = P + 1 := ⟨_, rfl⟩
    rw [← hQ] at HQ1 ⊢
    clear hwB hP hQ c36
    obtain ⟨wz, hwz⟩ : ∃ wz, wz = wB.drew := ⟨_, rfl⟩
    have hbz : Below wB.heap.size wB wz := by rw [hwz]; exact (Below.refl _ _).drew
    have hS := And.intro (below_at2 hbz HP1.out) (below_at2 hbz HQ1.out)
    have hbw := HBB.out.trans (hbz.mono HBB.out.size)
    have HTz := Lib.hid (HT.out.later hbw); have HGz := Lib.hid (Grew.of_below g a hbw)
    clear hbz hbw HP1 HQ1 HBB
    refine wp_region_till (fun w' => w'.heap[P]? = some (.cells (clC crt cix ce ch (pa, pn, pc) (la, ln, lc) cto) 45 (0, 0)) ∧ w'.heap[Q]? = some (.cells (c8 root) 36 (0, 0))) 13 13 (by kernel_rfl) rfl ?_
    rw [← hwz]
    clear hwz
    refine till_take 0 (some 21) rfl rfl (by kernel_rfl) (by kernel_rfl) (by kernel_rfl) (by kernel_rfl) (by kernel_rfl) (by kernel_rfl) (fun _ _ _ h => h) (.inl ⟨by rfl, fun w' _ => (by go_simp; rfl)⟩) hS ?_
    go_frame
    refine till_take 1 (some 22) rfl rfl (by kernel_rfl) (by kernel_rfl) (by kernel_rfl) (by kernel_rfl) (by kernel_rfl) (by kernel_rfl) (fun _ _ _ h => h) (yields_load (by rfl) 36 _ rfl (.pointer (some ⟨Q, 0, none⟩)) rfl (.agg (c8 root)) (fun w' hS' => load_blk hS'.2 Tryz.underlying36 rfl (Tryz.sizeHc root HRT.out))) hS ?_
    go_frame
    refine till_take 2 (some 23) rfl rfl (by kernel_rfl) (by kernel_rfl) (by kernel_rfl) (by kernel_rfl) (by kernel_rfl) (by kernel_rfl) (fun _ _ _ h => h) (.inl ⟨by rfl, fun w' _ => (by go_simp; rfl)⟩) hS ?_
    go_frame
    refine till_take 3 (some 24) rfl rfl (by kernel_rfl) (by kernel_rfl) (by kernel_rfl) (by kernel_rfl) (by kernel_rfl) (by kernel_rfl) (fun _ _ _ h => h) (.inl ⟨by rfl, fun w' hS' => (by have hc : w'.cell? ⟨P, 2, none⟩ = some (.int .i64 ce) := (Lib.cell_of_heap hS'.1 2).trans (clC_2 _ _ _ _ _ _ _); go_simp; rfl)⟩) hS ?_
    go_frame
    refine till_take 4 (some 25) rfl rfl (by kernel_rfl) (by kernel_rfl) (by kernel_rfl) (by kernel_rfl) (by kernel_rfl) (by kernel_rfl) (fun _ _ _ h => h) (.inl ⟨by rfl, fun w' _ => (by go_simp; rfl)⟩) hS ?_
    go_frame
    refine till_take 5 (some 26) rfl rfl (by kernel_rfl) (by kernel_rfl) (by kernel_rfl) (by kernel_rfl) (by kernel_rfl) (by kernel_rfl) (fun _ _ _ h => h) (yieldsIf_load_mid (by rfl) 36 _ rfl P 3 rfl (ch.map byteV) _ (fun w' hS' => range_of_heap hS'.1 3 _ (clC_mid _ _ _ _ _ _)) Tryz.underlying36 rfl (Tryz.sizeHm _ HCH.out)) hS ?_
    go_frame
    refine till_take 7 (some 28) rfl rfl (by kernel_rfl) (by kernel_rfl) (by kernel_rfl) (by kernel_rfl) (by kernel_rfl) (by kernel_rfl) (fun _ _ _ h => h) (.inl ⟨by rfl, fun w' _ => (by go_simp; rfl)⟩) hS ?_
    go_frame
    refine till_take 8 (some 29) rfl rfl (by kernel_rfl) (by kernel_rfl) (by kernel_rfl) (by kernel_rfl) (by kernel_rfl) (by kernel_rfl) (fun _ _ _ h => h) (.inl ⟨by rfl, fun w' hS' => (by have hc : w'.cell? ⟨P, 1, none⟩ = some (.int .i64 cix) := (Lib.cell_of_heap hS'.1 1).trans (clC_1 _ _ _ _ _ _ _); go_simp; rfl)⟩) hS ?_
    go_frame
    refine till_take 9 (some 30) rfl rfl (by kernel_rfl) (by kernel_rfl) (by kernel_rfl) (by kernel_rfl) (by kernel_rfl) (by kernel_rfl) (fun _ _ _ h => h) (.inl ⟨by rfl, fun w' _ => (by go_simp; rfl)⟩) hS ?_
    go_frame
    refine till_take 10 (some 31) rfl rfl (by kernel_rfl) (by kernel_rfl) (by kernel_rfl) (by kernel_rfl) (by kernel_rfl) (by kernel_rfl) (fun _ _ _ h => h) (.inl ⟨by rfl, fun w' hS' => (by have hc : w'.cell? ⟨P, 35, none⟩ = some (.slice pa pn pc) := (Lib.cell_of_heap hS'.1 35).trans (clC_35 _ _ _ HCH.out _ _ _); go_simp; rfl)⟩) hS ?_
    go_frame
    refine till_one 6 rfl (by kernel_rfl) fun K hK => ?_
    simp only [List.getElem_toArray, List.getElem_cons_succ, List.getElem_cons_zero]
    rw [if_pos (by rfl)]
    go_simp
    refine (rear_any _ ce HB.out.1 HCH.out).mono ?_
    rintro e w4 ⟨v2, rfl, ho, hb⟩
    have hSn := And.intro (below_at2 hb hS.1) (below_at2 hb hS.2)
    have HEL := Lib.hid (show (earL ce ch).length ≤ 41 from earL_len HB.out.1 HCH.out)
    have HOW := Lib.hid ho
    have HT4 := Lib.hid (HTz.out.later hb); have HG4 := Lib.hid (HGz.out.trans (Grew.of_below g a hb))
    refine hK _ _ (fun _ _ => hSn) ?_
    clear hK hS hb ho HTz HGz
    have hS := hSn
    clear hSn
    refine till_one 11 rfl (by kernel_rfl) fun K hK => ?_
    simp only [List.getElem_toArray, List.getElem_cons_succ, List.getElem_cons_zero]
    rw [if_pos (by rfl)]
    go_simp
    obtain ⟨q1, hq1⟩ : ∃ q, q = checkF 1 root (earL ce ch) cix cp := ⟨_, rfl⟩
    have hcall := tcheck_any w4 g a texts 1 cix root (earL ce ch) cp v2 (.slice pa pn pc) HRT.out (fun w' a' h => (own_grew HOW.out HT4.out h (by decide)).rd u8_len) (by have := HEL.out; omega) (fun w' a' h => HP.out w' a' (HG4.out.trans h)) HT4.out HA.out (by have := HTL.out; omega) HB.out.2
    rw [← hq1] at hcall
    have HQ1e := Lib.hid hq1
    clear hq1
    refine hcall.mono ?_
    rintro e w5 ⟨rfl, a5, ht5, hg5⟩
    have hSn := And.intro (tr_other HT4.out hg5 hS.1 (by decide)) (tr_other HT4.out hg5 hS.2 (by decide))
    have HT5 := Lib.hid ht5; have HG5 := Lib.hid (HG4.out.trans hg5)
    refine hK _ _ (fun _ _ => hSn) ?_
    clear hK hS hcall ht5 hg5 HT4 HG4 HOW HEL
    have hS := hSn
    clear hSn
    refine till_take 12 (some 7) rfl rfl (by kernel_rfl) (by kernel_rfl) (by kernel_rfl) (by kernel_rfl) (by kernel_rfl) (by kernel_rfl) (fun _ _ _ h => h) (.inl ⟨by rfl, fun w' _ => (by go_simp; rfl)⟩) hS ?_
    go_frame
    refine till_done (by kernel_rfl) ?_ _
    have HP5 := Lib.hid hS.1
    clear hS
    by_cases hz : q1 = 0
    · subst hz
      have HE1 := Lib.hid (show RV = openL ch clv ∧ NT = texts ++ checkNt 1 (earL ce ch) cix cp ++ openLN ch clv by
        rw [HRV.out, HNT.out]; unfold openR openN; rw [if_neg HTLx.out, if_pos HQ1e.out.symm, if_neg HTLx.out, if_pos HQ1e.out.symm, List.append_assoc]; exact ⟨rfl, rfl⟩)
      have c36 : w5.cell? ⟨P, 36, none⟩ = some (.slice la ln lc) := (Lib.cell_of_heap HP5.out 36).trans (clC_36 _ _ _ HCH.out _ _ _)
      have hl9 : ln < 1000000 := by omega
      go_wp2_with fail
      clear c36
      go_loopw [39] (fun y wr => ∃ i : Nat, y = .int .i64 i ∧ i ≤ ln ∧ Hid (∀ j (hj : j < xs.length), j < i → leafChk ch xs[j].1 = 0) ∧ Hid (wr.heap[P]? = some (.cells (clC crt cix ce ch (pa, pn, pc) (la, ln, lc) cto) 45 (0, 0))) ∧ Hid (∃ ar, Tr wr g ar (texts ++ checkNt 1 (earL ce ch) cix cp ++ (clv.take i).flatMap leafNt) ∧ Grew w g a wr ar)) (fun y _ => ln - (intOf y).toNat)
      case atStart => exact ⟨0, rfl, by omega, Lib.hid fun j hj h => by omega, HP5, Lib.hid ⟨_, by rw [List.take_zero, List.flatMap_nil, List.append_nil]; exact HT5.out, HG5.out⟩⟩
      case round =>
        clear HP5 HT5 HG5
        obtain ⟨i, rfl, hin, HZ, HPi, HTi⟩ := hrel
        obtain ⟨ar, hti, hgi⟩ := HTi.out
        have HTr := Lib.hid hti; have HGr := Lib.hid hgi
        clear hti hgi HTi
        by_cases hlt : i < ln
        · have hi : i < xs.length := by have := HLN.out; omega
          have hic : i < clv.length := by have := HLN.out; omega
          obtain ⟨b, off, rfl, c0, c1, c2, c3, c4, c5, c6⟩ := (HLV.out _ _ HGr.out).leaf i hi
          have hpr : ∀ w' a', Grew w g a w' a' → Rd w' hE 32 (slV xs[i].2) xs[i].1.p := fun w' a' h => HPR.out w' a' h xs[i] (List.getElem_mem hi)
          have hlo := HLO.out xs[i].1 (by rw [← HXL.out]; exact List.mem_map.2 ⟨xs[i], List.getElem_mem hi, rfl⟩)
          have hmap : ∀ j (hj : j < xs.length) (hj2 : j < clv.length), clv[j] = xs[j].1 := fun j hj hj2 => by
            have h1 : (xs.map (·.1))[j]'(by rw [List.length_map]; exact hj) = xs[j].1 := List.getElem_map _
            rw [← h1]; congr 1; exact HXL.out.symm
          have hbad : leafChk ch xs[i].1 ≠ 0 → RV = leafChk ch xs[i].1 ∧ NT = texts ++ checkNt 1 (earL ce ch) cix cp ++ (clv.take i).flatMap leafNt ++ leafNt xs[i].1 := fun hn => by
            have hz1 : ∀ j (hj : j < clv.length), j < i → leafChk ch clv[j] = 0 := fun j hj hji => by rw [hmap j (by have := HLN.out; omega) hj]; exact HZ.out j (by have := HLN.out; omega) hji
            have hz2 : leafChk ch clv[i] ≠ 0 := by rw [hmap i hi hic]; exact hn
            rw [HE1.out.1, HE1.out.2, openL_at hic hz1 hz2, openLN_at hic hz1 hz2, hmap i hi hic]
            exact ⟨rfl, by simp only [List.append_assoc]⟩
          have htk : (clv.take (i + 1)).flatMap leafNt = (clv.take i).flatMap leafNt ++ leafNt xs[i].1 := by
            rw [List.take_succ_eq_append_getElem hic, List.flatMap_append, hmap i hi hic]; simp
          have hgood : leafChk ch xs[i].1 = 0 → ∀ j (hj : j < xs.length), j < i + 1 → leafChk ch xs[j].1 = 0 := fun h0 j hj hji => by
            rcases (show j < i ∨ j = i by omega) with h1 | rfl
            · exact HZ.out j hj h1
            · exact h0
          obtain ⟨⟨⟨xi, xt, xm, xp⟩, ⟨sa, sn, sc⟩⟩, hx⟩ : ∃ x, x = xs[i] := ⟨_, rfl⟩
          rw [← hx] at c0 c1 c2 c3 c4 c5 c6 hpr hlo hbad hgood htk
          clear hx hi hic hmap
          have HPX := Lib.hid (show ∀ w' a', Grew w g a w' a' → Rd w' hE 32 (.slice sa sn sc) xp from hpr); have HLX := Lib.hid (show xt < 9223372036854775808 ∧ xi < 9223372036854775808 ∧ xm < uMax ∧ All32 xp from ⟨hlo.1, hlo.2.1, hlo.2.2.1, hlo.2.2.2⟩)
          have HBAD := Lib.hid (show checkF 2 ch (tokL xt xm) xi xp ≠ 0 → RV = checkF 2 ch (tokL xt xm) xi xp ∧ NT = texts ++ checkNt 1 (earL ce ch) cix cp ++ (clv.take i).flatMap leafNt ++ checkNt 2 (tokL xt xm) xi xp from hbad); have HGOOD := Lib.hid (show checkF 2 ch (tokL xt xm) xi xp = 0 → ∀ j (hj : j < xs.length), j < i + 1 → leafChk ch xs[j].1 = 0 from hgood)
          have HTK := Lib.hid (show texts ++ checkNt 1 (earL ce ch) cix cp ++ (clv.take i).flatMap leafNt ++ checkNt 2 (tokL xt xm) xi xp = texts ++ checkNt 1 (earL ce ch) cix cp ++ (clv.take (i + 1)).flatMap leafNt by rw [htk]; simp only [List.append_assoc]; rfl)
          obtain ⟨tx, htx⟩ : ∃ tx, tx = texts ++ checkNt 1 (earL ce ch) cix cp ++ (clv.take i).flatMap leafNt := ⟨_, rfl⟩
          have HTXL := Lib.hid (show tx.length < 2000000 by
            rw [htx, List.length_append, List.length_append]
            have h1 := checkNt_le 1 (earL ce ch) cix cp; have h2 := leafNts_le (clv.take i); have h3 := HTL.out
            rw [List.length_take] at h2; omega)
          rw [← htx] at HTr HBAD HTK
          clear hpr hlo hbad hgood htk htx
          simp only [] at c0 c1 c2 c3 c4 c5
          replace c6 : wr.cell? ⟨b, off + i * 7 + 6, none⟩ = some (.slice sa sn sc) := c6
          go_wp2_with (refine wpList_alloc_g rfl _ rfl _ _ Tryz.zeroLf rfl ?_)
          intro L d3 hL
          go_wp2_with (refine wpList_store_row_g (t := 60) (old := lfZ) rfl 60 _ _ rfl L (lfC xi xt xm (sa, sn, sc)) rfl rfl hL.out.cells Tryz.sizeLf rfl (lfC_one _ _ _ _) ?_)
          intro w6 h6 k6 z6
          have hb6 : Below wr.heap.size wr w6 := hL.out.below.trans (k6.below (B := wr.heap.size) (fun x hx e => by have := hL.out.eq; omega) hL.out.below.size)
          have HL6 := Lib.hid h6; have HP6 := Lib.hid (below_at2 hb6 HPi.out); have HT6 := Lib.hid (HTr.out.later hb6); have HG6 := Lib.hid (HGr.out.trans (Grew.of_below g ar hb6))
          clear hL h6 k6 z6 hb6 c0 c1 c2 c3 c4 c5 c6 HPi HTr HGr
          go_upto_region 9 with fail
          obtain ⟨wz, hwz⟩ : ∃ wz, wz = w6.drew := ⟨_, rfl⟩
          have hbz : Below w6.heap.size w6 wz := by rw [hwz]; exact (Below.refl _ _).drew
          have hS := And.intro (below_at2 hbz HP6.out) (below_at2 hbz HL6.out)
          have HTz := Lib.hid (HT6.out.later hbz); have HGz := Lib.hid (HG6.out.trans (Grew.of_below g ar hbz))
          clear hbz HP6 HL6 HT6 HG6
          refine wp_region_till (fun w' => w'.heap[P]? = some (.cells (clC crt cix ce ch (pa, pn, pc) (some ⟨b, off, none⟩, ln, lc) cto) 45 (0, 0)) ∧ w'.heap[L]? = some (.cells (lfC xi xt xm (sa, sn, sc)) 60 (0, 0))) 14 14 (by kernel_rfl) rfl ?_
          rw [← hwz]
          clear hwz
          refine till_take 0 (some 43) rfl rfl (by kernel_rfl) (by kernel_rfl) (by kernel_rfl) (by kernel_rfl) (by kernel_rfl) (by kernel_rfl) (fun _ _ _ h => h) (.inl ⟨by rfl, fun w' _ => (by go_simp; rfl)⟩) hS ?_
          go_frame
          refine till_take 1 (some 44) rfl rfl (by kernel_rfl) (by kernel_rfl) (by kernel_rfl) (by kernel_rfl) (by kernel_rfl) (by kernel_rfl) (fun _ _ _ h => h) (.inl ⟨by rfl, fun w' _ => (by go_simp; rfl)⟩) hS ?_
          go_frame
          refine till_take 2 (some 45) rfl rfl (by kernel_rfl) (by kernel_rfl) (by kernel_rfl) (by kernel_rfl) (by kernel_rfl) (by kernel_rfl) (fun _ _ _ h => h) (yieldsIf_load_mid (by rfl) 36 _ rfl P 3 rfl (ch.map byteV) _ (fun w' hS' => range_of_heap hS'.1 3 _ (clC_mid _ _ _ _ _ _)) Tryz.underlying36 rfl (Tryz.sizeHm _ HCH.out)) hS ?_
          go_frame
          refine till_take 3 (some 46) rfl rfl (by kernel_rfl) (by kernel_rfl) (by kernel_rfl) (by kernel_rfl) (by kernel_rfl) (by kernel_rfl) (fun _ _ _ h => h) (.inl ⟨by rfl, fun w' _ => (by go_simp; rfl)⟩) hS ?_
          go_frame
          refine till_take 4 (some 47) rfl rfl (by kernel_rfl) (by kernel_rfl) (by kernel_rfl) (by kernel_rfl) (by kernel_rfl) (by kernel_rfl) (fun _ _ _ h => h) (.inl ⟨by rfl, fun w' hS' => (by have hc : w'.cell? ⟨L, 1, none⟩ = some (.int .i64 xt) := Lib.cell_of_heap hS'.2 1; go_simp; rfl)⟩) hS ?_
          go_frame
          refine till_take 5 (some 48) rfl rfl (by kernel_rfl) (by kernel_rfl) (by kernel_rfl) (by kernel_rfl) (by kernel_rfl) (by kernel_rfl) (fun _ _ _ h => h) (.inl ⟨by rfl, fun w' _ => (by go_simp; rfl)⟩) hS ?_
          go_frame
          refine till_take 6 (some 49) rfl rfl (by kernel_rfl) (by kernel_rfl) (by kernel_rfl) (by kernel_rfl) (by kernel_rfl) (by kernel_rfl) (fun _ _ _ h => h) (yieldsIf_load_mid (by rfl) 55 _ rfl L 2 rfl [.int .u64 (uw0 xm), .int .u64 (uw1 xm), .int .u64 (uw2 xm), .int .u64 (uw3 xm)] _ (fun w' hS' => range_of_heap hS'.2 2 _ rfl) Tryz.underlying55 rfl Tryz.sizeU) hS ?_
          go_frame
          refine till_take 8 (some 51) rfl rfl (by kernel_rfl) (by kernel_rfl) (by kernel_rfl) (by kernel_rfl) (by kernel_rfl) (by kernel_rfl) (fun _ _ _ h => h) (.inl ⟨by rfl, fun w' _ => (by go_simp; rfl)⟩) hS ?_
          go_frame
          refine till_take 9 (some 52) rfl rfl (by kernel_rfl) (by kernel_rfl) (by kernel_rfl) (by kernel_rfl) (by kernel_rfl) (by kernel_rfl) (fun _ _ _ h => h) (.inl ⟨by rfl, fun w' hS' => (by have hc : w'.cell? ⟨L, 0, none⟩ = some (.int .i64 xi) := Lib.cell_of_heap hS'.2 0; go_simp; rfl)⟩) hS ?_
          go_frame
          refine till_take 10 (some 53) rfl rfl (by kernel_rfl) (by kernel_rfl) (by kernel_rfl) (by kernel_rfl) (by kernel_rfl) (by kernel_rfl) (fun _ _ _ h => h) (.inl ⟨by rfl, fun w' _ => (by go_simp; rfl)⟩) hS ?_
          go_frame
          refine till_take 11 (some 54) rfl rfl (by kernel_rfl) (by kernel_rfl) (by kernel_rfl) (by kernel_rfl) (by kernel_rfl) (by kernel_rfl) (fun _ _ _ h => h) (.inl ⟨by rfl, fun w' hS' => (by have hc : w'.cell? ⟨L, 6, none⟩ = some (.slice sa sn sc) := Lib.cell_of_heap hS'.2 6; go_simp; rfl)⟩) hS ?_
          go_frame
          refine till_one 7 rfl (by kernel_rfl) fun K hK => ?_
          simp only [List.getElem_toArray, List.getElem_cons_succ, List.getElem_cons_zero]
          rw [if_pos (by rfl)]
          go_simp
          refine (rtok_any _ xt HLX.out.1 (uw_is HLX.out.2.2.1)).mono ?_
          rintro e w8 ⟨v2, rfl, ho, hb⟩
          have hSn := And.intro (below_at2 hb hS.1) (below_at2 hb hS.2)
          have HEL := Lib.hid (show (tokL xt xm).length ≤ 42 from tokL_len HLX.out.1)
          have HOW := Lib.hid ho
          have HT4 := Lib.hid (HTz.out.later hb); have HG4 := Lib.hid (HGz.out.trans (Grew.of_below g ar hb))
          refine hK _ _ (fun _ _ => hSn) ?_
          clear hK hS hb ho HTz HGz
          have hS := hSn
          clear hSn
          refine till_one 12 rfl (by kernel_rfl) fun K hK => ?_
          simp only [List.getElem_toArray, List.getElem_cons_succ, List.getElem_cons_zero]
          rw [if_pos (by rfl)]
          go_simp
          obtain ⟨q2, hq1⟩ : ∃ q, q = checkF 2 ch (tokL xt xm) xi xp := ⟨_, rfl⟩
          have hcall := tcheck_any w8 g ar tx 2 xi ch (tokL xt xm) xp v2 (.slice sa sn sc) HCH.out (fun w' a' h => (own_grew HOW.out HT4.out h (by decide)).rd u8_len) (by have := HEL.out; omega) (fun w' a' h => HPX.out w' a' (HG4.out.trans h)) HT4.out HLX.out.2.2.2 (by have := HTXL.out; omega) HLX.out.2.1
          rw [← hq1] at hcall
          have HQ2e := Lib.hid hq1
          clear hq1
          refine hcall.mono ?_
          rintro e w7 ⟨rfl, a7, ht5, hg5⟩
          have hSn := And.intro (tr_other HT4.out hg5 hS.1 (by decide)) (tr_other HT4.out hg5 hS.2 (by decide))
          have HT7 := Lib.hid ht5; have HG7 := Lib.hid (HG4.out.trans hg5)
          refine hK _ _ (fun _ _ => hSn) ?_
          clear hK hS hcall ht5 hg5 HT4 HG4 HOW HEL
          have hS := hSn
          clear hSn
          refine till_take 13 (some 10) rfl rfl (by kernel_rfl) (by kernel_rfl) (by kernel_rfl) (by kernel_rfl) (by kernel_rfl) (by kernel_rfl) (fun _ _ _ h => h) (.inl ⟨by rfl, fun w' _ => (by go_simp; rfl)⟩) hS ?_
          go_frame
          refine till_done (by kernel_rfl) ?_ _
          have HP7 := Lib.hid hS.1
          clear hS
          by_cases hz2 : q2 = 0
          · subst hz2
            have HG2 := Lib.hid (HGOOD.out HQ2e.out.symm)
            rw [HTK.out] at HT7
            go_wp2_with fail
            go_roundw
            case rel => exact ⟨i + 1, by go_num, hlt, HG2, HP7, Lib.hid ⟨_, HT7.out, HG7.out⟩⟩
            case measure => simp [intOf]; omega
          · have HV := Lib.hid (HBAD.out (by rw [← HQ2e.out]; exact hz2))
            have hne : (q2 != 0) = true := by simpa using hz2
            clear hz2
            go_wp2_with fail
            go_ret
            exact ⟨by rw [HV.out.1, HQ2e.out]; rfl, _, by rw [HV.out.2]; exact HT7.out, HG7.out⟩
        · obtain rfl : i = ln := by omega
          have HV := Lib.hid (show RV = 0 ∧ NT = texts ++ checkNt 1 (earL ce ch) cix cp ++ (clv.take i).flatMap leafNt by
            have hz0 : ∀ x ∈ clv, leafChk ch x = 0 := fun x hx => by
              rw [← HXL.out] at hx
              obtain ⟨y, hy, rfl⟩ := List.mem_map.1 hx
              obtain ⟨j, hj, rfl⟩ := List.mem_iff_getElem.1 hy
              exact HZ.out j hj (by rw [HLN.out.2]; exact hj)
            rw [HE1.out.1, HE1.out.2, openL_zero hz0, openLN_zero hz0, List.take_of_length_le (by rw [HLN.out.1]; exact Nat.le_refl _)]
            exact ⟨rfl, rfl⟩)
          go_wp2_with fail
          go_ret
          exact ⟨by rw [HV.out.1]; rfl, _, by rw [HV.out.2]; exact HTr.out, HGr.out⟩
    · have HV := Lib.hid (show RV = q1 ∧ NT = texts ++ checkNt 1 (earL ce ch) cix cp by
        rw [HRV.out, HNT.out]; unfold openR openN; rw [if_neg HTLx.out, if_neg (by rw [← HQ1e.out]; exact hz), if_neg HTLx.out, if_neg (by rw [← HQ1e.out]; exact hz), List.append_nil]; exact ⟨HQ1e.out.symm, rfl⟩)
      have hne : (q1 != 0) = true := by simpa using hz
      clear hz
      go_wp2_with fail
      go_ret
      exact ⟨by rw [HV.out.1]; rfl, _, by rw [HV.out.2]; exact HT5.out, HG5.out⟩
end
section
open Go.RowKit

theorem sortR_perm {l : List LRow} (h : (l.map rkey).Nodup) : (sortR l).Perm l := by
  have h1 : (sortR l).Perm ((l.map rkey).map fun k => (⟨k.1, k.2, lookR l k⟩ : LRow)) := (sortK_perm (l.map rkey)).map _
  have h2 : ((l.map rkey).map fun k => (⟨k.1, k.2, lookR l k⟩ : LRow)) = l := by
    refine List.ext_getElem (by simp) fun i _ h2 => ?_
    simp only [List.getElem_map]
    rw [lookR_at h i h2]
    rfl
  rw [h2] at h1
  exact h1
theorem SortedR.keys {s : List LRow} (h : SortedR s) : (s.map rkey).Pairwise (fun x y => ¬ kLt y x) := by
  rw [List.pairwise_map]
  exact h.imp fun {x y} k c => kLt_irrefl _ (kLt_trans k c)
theorem SortedR.nodup {s : List LRow} (h : SortedR s) : (s.map rkey).Nodup := by
  rw [List.Nodup, List.pairwise_map]
  exact h.imp fun {x y} k c => by rw [c] at k; exact kLt_irrefl _ k
theorem SortedR.unique {a b : List LRow} (ha : SortedR a) (hb : SortedR b) (hp : a.Perm b) : a = b := by
  have hk := perm_sorted (a.map rkey) (b.map rkey) (hp.map rkey) ha.keys hb.keys
  refine List.ext_getElem hp.length_eq fun i h1 h2 => ?_
  refine hb.inj (hp.mem_iff.1 (List.getElem_mem h1)) (List.getElem_mem h2) ?_
  have := List.getElem_of_eq hk (i := i) (by simpa using h1)
  simpa using this
/-- A row put at place i. -/
def putAt (out : List LRow) (i : Nat) (r : LRow) : List LRow := out.take i ++ [r] ++ out.drop i
theorem putAt_perm (out : List LRow) (i : Nat) (r : LRow) : (putAt out i r).Perm (out ++ [r]) := by
  unfold putAt
  have h : out ++ [r] = out.take i ++ (out.drop i ++ [r]) := by rw [← List.append_assoc, List.take_append_drop]
  rw [h, List.append_assoc]
  exact List.perm_append_comm.append_left _
theorem putAt_len (out : List LRow) (i : Nat) (r : LRow) : (putAt out i r).length = out.length + 1 := by
  have := (putAt_perm out i r).length_eq
  simpa using this
theorem putAt_sorted {out : List LRow} (h : SortedR out) {i : Nat} {r : LRow} (h1 : ∀ x ∈ out.take i, kLt (rkey x) (rkey r)) (h2 : ∀ x ∈ out.drop i, kLt (rkey r) (rkey x)) : SortedR (putAt out i r) := by
  unfold putAt SortedR
  rw [List.append_assoc, List.singleton_append, List.pairwise_append]
  refine ⟨h.sublist (List.take_sublist _ _), ?_, fun x hx y hy => ?_⟩
  · rw [List.pairwise_cons]
    exact ⟨h2, h.sublist (List.drop_sublist _ _)⟩
  · rw [List.mem_cons] at hy
    rcases hy with rfl | hy
    · exact h1 x hx
    · exact kLt_trans (h1 x hx) (h2 y hy)
theorem drop_gt {out : List LRow} (h : SortedR out) {i : Nat} {r : LRow} (hi : ∀ hl : i < out.length, kLt (rkey r) (rkey out[i])) : ∀ x ∈ out.drop i, kLt (rkey r) (rkey x) := fun x hx => by
  obtain ⟨j, hj, rfl⟩ := List.mem_iff_getElem.1 hx
  rw [List.length_drop] at hj
  rw [List.getElem_drop]
  have hl : i < out.length := by omega
  rcases Nat.eq_zero_or_pos j with rfl | hj0
  · exact hi hl
  · exact kLt_trans (hi hl) (List.pairwise_iff_getElem.1 h i (i + j) hl (by omega) (by omega))
/-- Behind k rows. -/
def InsAt (l : List LRow) (k : Nat) (out : List LRow) : Prop := SortedR out ∧ out.Perm (l.take k) ∧ ∀ r ∈ l.take k, goodR r = true
theorem InsAt.zero (l : List LRow) : InsAt l 0 [] := ⟨List.Pairwise.nil, by simp, fun r h => by simp at h⟩
theorem InsAt.len {l : List LRow} {k : Nat} {out : List LRow} (h : InsAt l k out) (hk : k ≤ l.length) : out.length = k := by
  have := h.2.1.length_eq
  rw [List.length_take] at this; omega
theorem InsAt.next {l : List LRow} {k : Nat} {out : List LRow} (h : InsAt l k out) (hk : k < l.length) (hg : goodR l[k] = true) {i : Nat} (h1 : ∀ j (hj : j < out.length), j < i → kLt (rkey out[j]) (rkey l[k])) (h2 : ∀ hl : i < out.length, kLt (rkey l[k]) (rkey out[i])) : InsAt l (k + 1) (putAt out i l[k]) := by
  have ht := List.take_succ_eq_append_getElem hk
  refine ⟨putAt_sorted h.1 (fun x hx => ?_) (drop_gt h.1 h2), ?_, fun r hr => ?_⟩
  · obtain ⟨j, hj, rfl⟩ := List.mem_iff_getElem.1 hx
    rw [List.length_take] at hj
    rw [List.getElem_take]
    exact h1 j (by omega) (by omega)
  · rw [ht]
    exact (putAt_perm out i l[k]).trans (h.2.1.append_right _)
  · rw [ht, List.mem_append] at hr
    rcases hr with hr | hr
    · exact h.2.2 r hr
    · rw [List.mem_singleton] at hr; rw [hr]; exact hg
theorem InsAt.dup {l : List LRow} {k : Nat} {out : List LRow} (h : InsAt l k out) (hk : k < l.length) {i : Nat} (hi : i < out.length) (he : rkey out[i] = rkey l[k]) : sortedF l = none := by
  refine sortedF_no fun ho => ?_
  have h1 := ((nodup_take k hk).1 (nodup_of_take (k + 1) ho.2.2)).2
  have h2 : out[i] ∈ l.take k := h.2.1.mem_iff.1 (List.getElem_mem hi)
  exact h1 (by rw [← he]; exact List.mem_map.2 ⟨_, h2, rfl⟩)
theorem InsAt.bad {l : List LRow} {k : Nat} (hk : k < l.length) (hg : goodR l[k] = false) : sortedF l = none := by
  refine sortedF_no fun ho => ?_
  have := ho.2.1 l[k] (List.getElem_mem hk)
  rw [hg] at this; cases this
theorem InsAt.done {l : List LRow} {out : List LRow} (h : InsAt l l.length out) (h1 : 0 < l.length) (h2 : l.length ≤ 1024) : sortedF l = some out := by
  obtain ⟨i1, i2, i3⟩ := h
  rw [List.take_length] at i2 i3
  have hn : (l.map rkey).Nodup := (i2.map rkey).nodup_iff.1 i1.nodup
  have ho : SortOk l := ⟨⟨h1, h2⟩, i3, hn⟩
  rw [sortedF_yes ho]
  exact congrArg some ((sortR_sorted hn).unique i1 ((sortR_perm hn).trans i2.symm))
theorem sortedF_len {l : List LRow} (h : l.length = 0 ∨ 1024 < l.length) : sortedF l = none := sortedF_no fun ho => by
  have := ho.1; omega
theorem sortedF_perm {l s : List LRow} (h : sortedF l = some s) : s.Perm l := by
  obtain ⟨h1, rfl, _⟩ := sortedF_mem h
  exact sortR_perm h1.2.2
/-- The earners of the first rows, each once. -/
def HeadsAt (s : List LRow) (i : Nat) (H : List Int) : Prop := H.Pairwise (· < ·) ∧ (∀ x, x ∈ H ↔ ∃ r ∈ s.take i, r.e = x) ∧ H.length ≤ i
theorem HeadsAt.zero (s : List LRow) : HeadsAt s 0 [] := ⟨List.Pairwise.nil, fun x => by simp, Nat.le_refl _⟩
theorem HeadsAt.same {s : List LRow} {i : Nat} {H : List Int} (h : HeadsAt s i H) (hi : i < s.length) (h0 : 0 < i) (he : s[i].e = s[i - 1].e) : HeadsAt s (i + 1) H := by
  refine ⟨h.1, fun x => ?_, Nat.le_succ_of_le h.2.2⟩
  rw [h.2.1, List.take_succ_eq_append_getElem hi]
  constructor
  · rintro ⟨r, hr, e⟩; exact ⟨r, List.mem_append_left _ hr, e⟩
  · rintro ⟨r, hr, e⟩
    rw [List.mem_append, List.mem_singleton] at hr
    rcases hr with hr | rfl
    · exact ⟨r, hr, e⟩
    · refine ⟨s[i - 1], ?_, by rw [← he]; exact e⟩
      rw [List.mem_iff_getElem]
      exact ⟨i - 1, by rw [List.length_take]; omega, by rw [List.getElem_take]⟩
theorem HeadsAt.next {s : List LRow} (hs : SortedR s) {i : Nat} {H : List Int} (h : HeadsAt s i H) (hi : i < s.length) (hne : ∀ h0 : 0 < i, s[i].e ≠ s[i - 1].e) : HeadsAt s (i + 1) (H ++ [s[i].e]) := by
  have hle := List.pairwise_iff_getElem.1 hs.le
  refine ⟨?_, fun x => ?_, by have := h.2.2; rw [List.length_append, List.length_singleton]; omega⟩
  · rw [List.pairwise_append]
    refine ⟨h.1, by simp, fun x hx y hy => ?_⟩
    rw [List.mem_singleton] at hy
    subst hy
    obtain ⟨r, hr, rfl⟩ := (h.2.1 x).1 hx
    obtain ⟨j, hj, rfl⟩ := List.mem_iff_getElem.1 hr
    rw [List.length_take] at hj
    rw [List.getElem_take]
    have h0 : 0 < i := by omega
    have h1 := hne h0
    have h2 := hle (i - 1) i (by omega) hi (by omega)
    have h3 : s[j].e ≤ s[i - 1].e := by
      rcases Nat.lt_or_ge j (i - 1) with c | c
      · exact hle j (i - 1) (by omega) (by omega) c
      · have : j = i - 1 := by omega
        subst this; exact Int.le_refl _
    omega
  · rw [List.mem_append, List.mem_singleton, h.2.1, List.take_succ_eq_append_getElem hi]
    constructor
    · rintro (⟨r, hr, e⟩ | rfl)
      · exact ⟨r, List.mem_append_left _ hr, e⟩
      · exact ⟨s[i], List.mem_append_right _ (by simp), rfl⟩
    · rintro ⟨r, hr, e⟩
      rw [List.mem_append, List.mem_singleton] at hr
      rcases hr with hr | rfl
      · exact .inl ⟨r, hr, e⟩
      · exact .inr e.symm
theorem inc_unique : ∀ a b : List Int, a.Pairwise (· < ·) → b.Pairwise (· < ·) → (∀ x, x ∈ a ↔ x ∈ b) → a = b
  | [], [], _, _, _ => rfl
  | [], y :: b, _, _, h => absurd ((h y).2 (by simp)) (by simp)
  | x :: a, [], _, _, h => absurd ((h x).1 (by simp)) (by simp)
  | x :: a, y :: b, ha, hb, h => by
    rw [List.pairwise_cons] at ha hb
    have e : x = y := by
      have h1 := (h x).1 (by simp)
      have h2 := (h y).2 (by simp)
      rw [List.mem_cons] at h1 h2
      rcases h1 with h1 | h1
      · exact h1
      · rcases h2 with h2 | h2
        · exact h2.symm
        · have := hb.1 x h1; have := ha.1 y h2; omega
    subst e
    refine congrArg (x :: ·) (inc_unique a b ha.2 hb.2 fun z => ?_)
    have hz := h z
    rw [List.mem_cons, List.mem_cons] at hz
    constructor
    · intro m
      rcases hz.1 (.inr m) with rfl | k
      · have := ha.1 z m; omega
      · exact k
    · intro m
      rcases hz.2 (.inr m) with rfl | k
      · have := hb.1 z m; omega
      · exact k
theorem HeadsAt.done {s : List LRow} (hs : SortedR s) {H : List Int} (h : HeadsAt s s.length H) : H = (groupsF s).map (·.1) := by
  obtain ⟨_, g2, g3⟩ := groups_all s hs.le
  refine inc_unique _ _ h.1 g2 fun x => ?_
  rw [h.2.1, List.take_length]
  constructor
  · rintro ⟨r, hr, rfl⟩; exact g3 r hr
  · intro hx
    obtain ⟨g, hg, rfl⟩ := List.mem_map.1 hx
    obtain ⟨m1, _, m3⟩ := (groupsF_mem s).2 g hg
    obtain ⟨r, rs, hr⟩ := List.exists_cons_of_ne_nil m1
    have := m3 r (by rw [hr]; simp)
    exact ⟨r, this.1, this.2⟩
/-- An earner's rows; the earner's leaf. -/
def ownR (s : List LRow) (e : Int) : List LRow := s.filter fun r => decide (r.e = e)
def headL (s : List LRow) (e : Int) : List UInt8 := earL e (rootF 2 (leavesG (ownR s e)))
theorem tableL_heads {s : List LRow} (hs : SortedR s) : tableL s = ((groupsF s).map (·.1)).map (headL s) := by
  obtain ⟨g1, _, _⟩ := groups_all s hs.le
  unfold tableL
  rw [List.map_map]
  refine List.map_congr_left fun g hg => ?_
  unfold earLeaf headL ownR Function.comp
  rw [g1 g hg]
theorem HeadsAt.own {s : List LRow} {i : Nat} {H : List Int} (h : HeadsAt s i H) : ∀ e ∈ H, ownR s e ≠ [] := fun e he hn => by
  obtain ⟨r, hr, rfl⟩ := (h.2.1 e).1 he
  have : r ∈ ownR s r.e := List.mem_filter.2 ⟨List.mem_of_mem_take hr, by simp⟩
  rw [hn] at this; simp at this
theorem ownR_len (s : List LRow) (e : Int) : (ownR s e).length ≤ s.length := List.length_filter_le _ _
theorem ownR_mem {s : List LRow} {e : Int} {r : LRow} : r ∈ ownR s e ↔ r ∈ s ∧ r.e = e := by unfold ownR; rw [List.mem_filter]; simp
/-- The texts that are summed for the earners' leaves. -/
def notesH (s : List LRow) (H : List Int) : List (List UInt8) := H.flatMap fun e => notesF 2 (leavesG (ownR s e))
theorem notesH_snoc (s : List LRow) (H : List Int) (e : Int) : notesH s (H ++ [e]) = notesH s H ++ notesF 2 (leavesG (ownR s e)) := by
  unfold notesH; rw [List.flatMap_append]; simp
theorem claim_own0 {l s : List LRow} {e : Int} {ts : List Int} (h : sortedF l = some s) (h2 : ¬ (ts.length = 0 ∨ 8 < ts.length)) (h3 : ownR s e = []) : claimR l e ts = .error 8 := by
  refine claimR_no h h2 (fidx_none fun j hj => ?_)
  refine decide_eq_false fun he => ?_
  obtain ⟨m1, _, m3⟩ := (groupsF_mem s).2 _ (List.getElem_mem hj)
  obtain ⟨r, rs, hr⟩ := List.exists_cons_of_ne_nil m1
  have m4 := m3 r (by rw [hr]; simp)
  have : r ∈ ownR s e := ownR_mem.2 ⟨m4.1, by rw [m4.2]; exact he⟩
  rw [h3] at this; simp at this
theorem claim_own1 {l s : List LRow} {e : Int} {ts : List Int} (h : sortedF l = some s) (h2 : ¬ (ts.length = 0 ∨ 8 < ts.length)) {q : Nat} (hq : q < ((groupsF s).map (·.1)).length) (he : ((groupsF s).map (·.1))[q] = e) : claimR l e ts = match openAll (ownR s e) ts with
    | none => .error 8
    | some lv => .ok ⟨0, q, e, rootF 2 (leavesG (ownR s e)), proofF 1 (tableL s) q, lv, e⟩ := by
  obtain ⟨g1, g2, _⟩ := groups_all s (sortedF_sorted h).le
  have hq2 : q < (groupsF s).length := by simpa using hq
  have he2 : (groupsF s)[q].1 = e := by simpa using he
  have hf : fidx (fun g : Int × List LRow => decide (g.1 = e)) (groupsF s) = q := by
    refine fidx_at hq2 (fun j hj hjq => decide_eq_false fun hc => ?_) (decide_eq_true he2)
    have := List.pairwise_iff_getElem.1 g2 j q (by simpa using hj) hq hjq
    simp only [List.getElem_map] at this
    omega
  have hg := g1 _ (List.getElem_mem hq2)
  rw [claimR_at h h2 hf (List.getElem?_eq_getElem hq2), hg, he2]
  rfl
theorem heads_at {s : List LRow} (hs : SortedR s) {e : Int} (h : ownR s e ≠ []) : ∃ q, ∃ hq : q < ((groupsF s).map (·.1)).length, ((groupsF s).map (·.1))[q] = e ∧ ∀ j (hj : j < ((groupsF s).map (·.1)).length), ((groupsF s).map (·.1))[j] = e → j = q := by
  obtain ⟨_, g2, g3⟩ := groups_all s hs.le
  obtain ⟨r, rs, hr⟩ := List.exists_cons_of_ne_nil h
  obtain ⟨m1, m2⟩ := ownR_mem.1 (show r ∈ ownR s e by rw [hr]; simp)
  have m3 := g3 r m1
  rw [m2] at m3
  obtain ⟨q, hq, e1⟩ := List.mem_iff_getElem.1 m3
  refine ⟨q, hq, e1, fun j hj e2 => ?_⟩
  rcases Nat.lt_trichotomy j q with c | c | c
  · have := List.pairwise_iff_getElem.1 g2 j q hj hq c; omega
  · exact c
  · have := List.pairwise_iff_getElem.1 g2 q j hq hj c; omega
theorem own_sorted {s : List LRow} (hs : SortedR s) (e : Int) : SortedR (ownR s e) := hs.sublist (List.filter_sublist)
theorem own_inj {s : List LRow} (hs : SortedR s) {e : Int} {i j : Nat} (hi : i < (ownR s e).length) (hj : j < (ownR s e).length) (h : (ownR s e)[i].t = (ownR s e)[j].t) : i = j := by
  have ei := (ownR_mem.1 (List.getElem_mem hi)).2
  have ej := (ownR_mem.1 (List.getElem_mem hj)).2
  have hp := List.pairwise_iff_getElem.1 (own_sorted hs e)
  rcases Nat.lt_trichotomy i j with c | c | c
  · have := hp i j hi hj c; unfold kLt rkey at this; simp only [] at this; omega
  · exact c
  · have := hp j i hj hi c; unfold kLt rkey at this; simp only [] at this; omega
def leafAt (own : List LRow) (t : Int) (q : Nat) (m : Nat) : CLf := ⟨q, t, m, proofF 2 (leavesG own) q⟩
/-- Behind the first j rows of an earner, while one looks for token t. -/
def InL (own : List LRow) (t : Int) (j : Nat) (f : Bool) (x : List CLf) : Prop := (f = false ∧ x = [] ∧ ∀ q (h : q < own.length), q < j → own[q].t ≠ t) ∨ (f = true ∧ ∃ q, ∃ h : q < own.length, q < j ∧ own[q].t = t ∧ x = [leafAt own t q own[q].m])
theorem InL.zero (own : List LRow) (t : Int) : InL own t 0 false [] := .inl ⟨rfl, rfl, fun _ _ h => by omega⟩
theorem InL.miss {own : List LRow} {t : Int} {j : Nat} {f : Bool} {x : List CLf} (h : InL own t j f x) (hj : j < own.length) (hn : own[j].t ≠ t) : InL own t (j + 1) f x := by
  rcases h with ⟨h1, h2, h3⟩ | ⟨h1, q, h2, h3, h4⟩
  · refine .inl ⟨h1, h2, fun q hq hqj => ?_⟩
    rcases Nat.lt_or_ge q j with c | c
    · exact h3 q hq c
    · have : q = j := by omega
      subst this; exact hn
  · exact .inr ⟨h1, q, h2, by omega, h4⟩
theorem InL.hit {s : List LRow} (hs : SortedR s) {e t : Int} {j : Nat} {f : Bool} {x : List CLf} (h : InL (ownR s e) t j f x) (hj : j < (ownR s e).length) (he : (ownR s e)[j].t = t) : f = false ∧ x = [] ∧ InL (ownR s e) t (j + 1) true [leafAt (ownR s e) t j (ownR s e)[j].m] := by
  rcases h with ⟨h1, h2, _⟩ | ⟨_, q, h2, h3, h4, _⟩
  · exact ⟨h1, h2, .inr ⟨rfl, j, hj, Nat.lt_succ_self _, he, rfl⟩⟩
  · exact absurd (own_inj hs h2 hj (h4.trans he.symm)) (by omega)
theorem InL.done {s : List LRow} (hs : SortedR s) {e t : Int} {f : Bool} {x : List CLf} (h : InL (ownR s e) t (ownR s e).length f x) : (f = false ∧ open1 (ownR s e) t = none) ∨ (f = true ∧ ∃ y, x = [y] ∧ open1 (ownR s e) t = some y) := by
  rcases h with ⟨h1, _, h3⟩ | ⟨h1, q, h2, _, h4, h5⟩
  · exact .inl ⟨h1, open1_no (fidx_none fun j hj => decide_eq_false (h3 j hj hj))⟩
  · refine .inr ⟨h1, _, h5, ?_⟩
    have hf : fidx (fun r : LRow => decide (r.t = t)) (ownR s e) = q := fidx_at h2 (fun j hj hjq => decide_eq_false fun hc => by
      have := own_inj hs hj h2 (hc.trans h4.symm); omega) (decide_eq_true h4)
    rw [open1_yes hf (List.getElem?_eq_getElem h2)]
    rfl
theorem notesFu_len (k : Nat) (l : List (List UInt8)) : (notesF k l).length ≤ 2 ^ (depthF l.length) * (1 + depthF l.length) := by
  unfold notesF
  rw [List.length_append, groundT_length, Nat.mul_add, Nat.mul_one]
  refine Nat.add_le_add_left ?_ _
  have hA : ∀ n, n ≤ depthF l.length → ((List.range n).flatMap fun j => upT k (rowAt k (groundF k (depthF l.length) l) j)).length ≤ 2 ^ depthF l.length * n := fun n => by
    induction n with
    | zero => intro _; simp
    | succ n ih =>
      intro hn
      rw [List.range_succ, List.flatMap_append, List.length_append]
      have h1 := ih (by omega)
      have h2 : (List.flatMap (fun j => upT k (rowAt k (groundF k (depthF l.length) l) j)) [n]).length ≤ 2 ^ depthF l.length := by
        simp only [List.flatMap_cons, List.flatMap_nil, List.append_nil]
        rw [upT_length, rowAt_pow k _ _ (groundF_length _ _ _) n (by omega)]
        have h3 : 2 ^ (depthF l.length - n) ≤ 2 ^ depthF l.length := Nat.pow_le_pow_right (by omega) (by omega)
        exact Nat.le_trans (Nat.div_le_self _ _) h3
      rw [Nat.mul_succ]; omega
  exact hA _ (Nat.le_refl _)
theorem notesF_1024 (k : Nat) {l : List (List UInt8)} (h : l.length ≤ 1024) : (notesF k l).length ≤ 11264 := by
  have h1 := notesFu_len k l
  have h2 := depthF_le l.length 10 h
  have h3 : 2 ^ depthF l.length ≤ 2 ^ 10 := Nat.pow_le_pow_right (by omega) h2
  have h4 : 2 ^ depthF l.length * (1 + depthF l.length) ≤ 2 ^ 10 * 11 := Nat.mul_le_mul h3 (by omega)
  omega
theorem notesH_len (s : List LRow) (hs : s.length ≤ 1024) (H : List Int) : (notesH s H).length ≤ 11264 * H.length := by
  induction H with
  | nil => exact Nat.zero_le _
  | cons e H ih =>
    have h1 : notesH s (e :: H) = notesF 2 (leavesG (ownR s e)) ++ notesH s H := by unfold notesH; rw [List.flatMap_cons]
    have h2 := notesF_1024 2 (l := leavesG (ownR s e)) (by rw [leavesG_len]; have := ownR_len s e; omega)
    rw [h1, List.length_append, List.length_cons]; omega
end
section
open Go.RowKit

theorem ofNat_toNat8 {n : Nat} (h : n < 256) : (UInt8.ofNat n).toNat = n := by
  rw [UInt8.toNat_ofNat']; exact Nat.mod_eq_of_lt h
theorem grp_varN (r : List UInt8) : ∀ (m n k : Nat), n ≤ m → k + (varN n).length ≤ 9 → (k = 0 ∨ 0 < n) → grp k (varN n ++ r) = some (k + (varN n).length) := by
  intro m
  induction m with
  | zero =>
    intro n k hm hk h0
    obtain rfl : n = 0 := by omega
    have hk0 : k = 0 := by omega
    subst hk0
    rw [varN_low (by omega)]
    rfl
  | succ m ih =>
    intro n k hm hk h0
    by_cases hn : n < 128
    · rw [varN_low hn] at hk ⊢
      rw [List.length_singleton] at hk ⊢
      rw [List.singleton_append, grp, if_neg (by omega), if_neg (by rw [ofNat_toNat8 (by omega)]; omega), if_neg]
      rintro ⟨h1, h2⟩
      have h3 := congrArg UInt8.toNat h1
      rw [ofNat_toNat8 (by omega)] at h3
      have : (0 : UInt8).toNat = 0 := rfl
      omega
    · rw [varN_more hn] at hk ⊢
      rw [List.length_cons] at hk ⊢
      have h1 := ih (n / 128) (k + 1) (by omega) (by omega) (.inr (by omega))
      rw [List.cons_append, grp, if_neg (by omega), if_pos (by rw [ofNat_toNat8 (by omega)]; omega), h1]
      congr 1; omega
theorem gval_varN : ∀ (m n : Nat), n ≤ m → gval (varN n) = n := by
  intro m
  induction m with
  | zero =>
    intro n hm
    obtain rfl : n = 0 := by omega
    rw [varN_low (by omega)]; rfl
  | succ m ih =>
    intro n hm
    by_cases hn : n < 128
    · rw [varN_low hn]
      show (UInt8.ofNat n).toNat % 128 + 128 * 0 = n
      rw [ofNat_toNat8 (by omega)]; omega
    · rw [varN_more hn]
      show (UInt8.ofNat (n % 128 + 128)).toNat % 128 + 128 * gval (varN (n / 128)) = n
      rw [ofNat_toNat8 (by omega), ih (n / 128) (by omega)]; omega
theorem varR_varN {n : Nat} (h : n < 9223372036854775808) (r : List UInt8) : varR (varN n ++ r) = some (n, r) := by
  have h1 := grp_varN r n n 0 (Nat.le_refl _) (by have := varN_9 h; omega) (.inl rfl)
  rw [Nat.zero_add] at h1
  unfold varR
  rw [h1]
  simp only [Option.map_some]
  rw [List.take_left, List.drop_left, gval_varN n n (Nat.le_refl _)]
theorem earL_inj {e e' : Int} {h h' : List UInt8} (he : e < 9223372036854775808) (he' : e' < 9223372036854775808) (h1 : earL e h = earL e' h') : e.toNat = e'.toNat ∧ h = h' := by
  unfold earL at h1
  have a := varR_varN (n := e.toNat) (by omega) h
  have b := varR_varN (n := e'.toNat) (by omega) h'
  rw [h1, b] at a
  have a1 := Option.some.inj a
  exact ⟨(congrArg Prod.fst a1).symm, (congrArg Prod.snd a1).symm⟩
theorem amtT_inj {m m' : Nat} (h : m < uMax) (h' : m' < uMax) (e : amtT m = amtT m') : m = m' := by
  unfold amtT at e
  have h1 := congrArg be (List.cons.inj e).2
  rw [sigB_be, sigB_be, be_amtB h, be_amtB h'] at h1
  exact h1
theorem tokL_inj {t t' : Int} {m m' : Nat} (ht : t < 9223372036854775808) (ht' : t' < 9223372036854775808) (h : m < uMax) (h' : m' < uMax) (h1 : tokL t m = tokL t' m') : t.toNat = t'.toNat ∧ m = m' := by
  unfold tokL at h1
  have a := varR_varN (n := t.toNat) (by omega) (amtT m)
  have b := varR_varN (n := t'.toNat) (by omega) (amtT m')
  rw [h1, b] at a
  have a1 := Option.some.inj a
  have a2 : t'.toNat = t.toNat := congrArg Prod.fst a1
  have a3 : amtT m' = amtT m := congrArg Prod.snd a1
  exact ⟨a2.symm, amtT_inj h h' a3.symm⟩
theorem openL_all {h : List UInt8} {l : List CLf} (hz : openL h l = 0) : ∀ x ∈ l, leafChk h x = 0 := by
  induction l with
  | nil => intro x hx; simp at hx
  | cons y ys ih =>
    rw [openL_cons] at hz
    split at hz
    · rename_i h0
      intro x hx
      rw [List.mem_cons] at hx
      rcases hx with rfl | hx
      · exact h0
      · exact ih hz x hx
    · rename_i h0; exact absurd hz h0
theorem varN_ne (n : Nat) : varN n ≠ [] := by
  rw [varN]; split <;> simp
theorem tAt_in {l : List (List UInt8)} {i : Nat} (h : tAt l i ≠ []) : ∃ hi : i < l.length, tAt l i = l[i] := by
  rcases Nat.lt_or_ge i l.length with c | c
  · exact ⟨c, tAt_get l i c⟩
  · exact absurd (by unfold tAt; rw [List.getD_eq_getElem?_getD, List.getElem?_eq_none c]; rfl) h
theorem rootT_some {l s : List LRow} (h : sortedF l = some s) : rootT l = (rootF 1 (tableL s), 0) := by unfold rootT; rw [h]
/-- The texts that Root sums. -/
def notesT (s : List LRow) : List (List UInt8) := notesH s ((groupsF s).map (·.1)) ++ notesF 1 (tableL s)
theorem sound16 {l s : List LRow} (h : sortedF l = some s) (hr : ∀ r ∈ l, ROk r) {c : CCl} (hc : COk c) (he : 0 ≤ c.e) (hp : c.p.length = depthF (tableL s).length) (hx : ∀ x ∈ c.lv, x.p.length = depthF (ownR s c.e).length ∧ 0 ≤ x.t) (ho : openR c (rootT l).1 = 0) :
    (∀ x ∈ c.lv, ∃ r ∈ s, r.e = c.e ∧ r.t = x.t ∧ r.m = x.m) ∨ Twin (notesT s ++ openN c (rootT l).1) := by
  have hso := sort_ok h hr
  have hsd := sortedF_sorted h
  obtain ⟨c1, c2, c3, c4, c5⟩ := hc
  have hN : openN c (rootT l).1 = checkNt 1 (earL c.e c.h) c.idx c.p ++ openLN c.h c.lv ∧ checkF 1 (rootT l).1 (earL c.e c.h) c.idx c.p = 0 ∧ openL c.h c.lv = 0 := by
    unfold openR at ho
    unfold openN
    split at ho
    · exact absurd ho (by decide)
    · rename_i g0
      split at ho
      · rename_i g1
        rw [if_neg g0, if_pos g1]
        exact ⟨rfl, g1, ho⟩
      · rename_i g1; exact absurd ho g1
  obtain ⟨hN, hk, hl⟩ := hN
  have hall := openL_all hl
  rw [openLN_zero hall] at hN
  rw [hN]
  rw [rootT_some h] at hk
  by_cases hT : Twin (notesT s ++ (checkNt 1 (earL c.e c.h) c.idx c.p ++ c.lv.flatMap leafNt))
  · exact .inr hT
  · left
    obtain ⟨_, s1⟩ := sound (k := 1) (.inl rfl) (tableL s) (earL c.e c.h) c.idx c.p c4 (table_1024 hso.2.2) hp hk
    have e1 : earL c.e c.h = tAt (tableL s) c.idx.toNat := by
      rcases s1 with s1 | s1
      · exact s1
      · refine absurd (s1.mono fun x hx => ?_) hT
        unfold notesT
        simp only [List.mem_append] at hx ⊢
        rcases hx with hx | hx
        · exact .inl (.inr hx)
        · exact .inr (.inl hx)
    have hne : tAt (tableL s) c.idx.toNat ≠ [] := by
      rw [← e1]; unfold earL; intro z; exact varN_ne _ (List.append_eq_nil_iff.1 z).1
    obtain ⟨hi, e2⟩ := tAt_in hne
    obtain ⟨q, hq⟩ : ∃ q, q = c.idx.toNat := ⟨_, rfl⟩
    simp only [← hq] at hi e2 e1
    have hqg : q < ((groupsF s).map (·.1)).length := by rw [List.length_map]; rw [tableL_len] at hi; exact hi
    obtain ⟨e, hee⟩ : ∃ e, e = ((groupsF s).map (·.1))[q] := ⟨_, rfl⟩
    have e3 : (tableL s)[q] = headL s e := by
      have := List.getElem_of_eq (tableL_heads hsd) hi
      rw [this, List.getElem_map, hee]
    have heR : ∃ r ∈ s, r.e = e := by
      have hm : e ∈ (groupsF s).map (·.1) := by rw [hee]; exact List.getElem_mem hqg
      obtain ⟨g, hg, rfl⟩ := List.mem_map.1 hm
      obtain ⟨m1, _, m3⟩ := (groupsF_mem s).2 g hg
      obtain ⟨r, rs, hr⟩ := List.exists_cons_of_ne_nil m1
      have := m3 r (by rw [hr]; simp)
      exact ⟨r, this.1, this.2⟩
    obtain ⟨r0, hr0, her⟩ := heR
    have hr1 := (hso.1 r0 hr0).1.1
    simp only [] at hr1
    rw [e2, e3] at e1
    unfold headL at e1
    obtain ⟨f1, f2⟩ := earL_inj c2 (by omega) e1
    have hg0 : goodR r0 = true := by
      have := (sortedF_mem h).2.2.1 r0 hr0
      exact (sortedF_mem h).1.2.1 r0 this
    have hr2 : 1 ≤ r0.e := by
      unfold goodR at hg0
      simp only [Bool.and_eq_true, decide_eq_true_eq] at hg0
      exact hg0.1
    have f3 : c.e = e := by omega
    rw [← f3] at f2
    intro x hxm
    have hk2 := hall x hxm
    unfold leafChk at hk2
    rw [f2] at hk2
    have hx5 := c5 x hxm
    obtain ⟨hx1, hx2⟩ := hx x hxm
    have hlen : (leavesG (ownR s c.e)).length ≤ 1024 := by rw [leavesG_len]; have := ownR_len s c.e; omega
    obtain ⟨_, s2⟩ := sound (k := 2) (.inr rfl) (leavesG (ownR s c.e)) (tokL x.t x.m) x.i x.p hx5.2.2.2 hlen (by rw [leavesG_len]; exact hx1) hk2
    have hem : c.e ∈ (groupsF s).map (·.1) := by rw [f3, hee]; exact List.getElem_mem hqg
    have e5 : tokL x.t x.m = tAt (leavesG (ownR s c.e)) x.i.toNat := by
      rcases s2 with s2 | s2
      · exact s2
      · refine absurd (s2.mono fun y hy => ?_) hT
        unfold notesT notesH
        simp only [List.mem_append, List.mem_flatMap] at hy ⊢
        rcases hy with hy | hy
        · exact .inl (.inl ⟨c.e, hem, hy⟩)
        · exact .inr (.inr ⟨x, hxm, hy⟩)
    have hne2 : tAt (leavesG (ownR s c.e)) x.i.toNat ≠ [] := by
      rw [← e5]; unfold tokL; intro z; exact varN_ne _ (List.append_eq_nil_iff.1 z).1
    obtain ⟨hj, e6⟩ := tAt_in hne2
    have hj2 : x.i.toNat < (ownR s c.e).length := by rw [leavesG_len] at hj; exact hj
    have e7 : (leavesG (ownR s c.e))[x.i.toNat] = tokL (ownR s c.e)[x.i.toNat].t (ownR s c.e)[x.i.toNat].m := by
      exact List.getElem_map (fun r : LRow => tokL r.t r.m)
    obtain ⟨r, hrr⟩ : ∃ r, r = (ownR s c.e)[x.i.toNat] := ⟨_, rfl⟩
    have hrm : r ∈ s ∧ r.e = c.e := ownR_mem.1 (by rw [hrr]; exact List.getElem_mem hj2)
    rw [← hrr] at e7
    rw [e6, e7] at e5
    have hrk := hso.1 r hrm.1
    obtain ⟨g1, g2⟩ := tokL_inj hx5.1 hrk.1.2.2 (show x.m < uMax from hx5.2.2.1) hrk.2 e5
    have hgr : goodR r = true := (sortedF_mem h).1.2.1 r ((sortedF_mem h).2.2.1 r hrm.1)
    unfold goodR at hgr
    simp only [Bool.and_eq_true, decide_eq_true_eq] at hgr
    exact ⟨r, hrm.1, hrm.2, by have := hgr.2.2.1; omega, g2.symm⟩
end
end Go.Proofs.YtmclmccgghnglaaGreat
