/- tallagelaw06.MerkleApart: its walk. -/
import Derived.Test.YtbfdjjaonjepnaaMerkU
namespace Go.Proofs.Ytbfdjjaonjepnaa
open Go.RowKit

/-- Alike up to number i. -/
def AlikeTo (a b : List (List UInt8)) (i : Nat) : Prop := ∀ j, j < i → tAt a j = tAt b j
theorem alike_zero (a b : List (List UInt8)) : AlikeTo a b 0 := fun _ h => absurd h (Nat.not_lt_zero _)
theorem alike_succ (a b : List (List UInt8)) (i : Nat) : AlikeTo a b (i + 1) ↔ AlikeTo a b i ∧ tAt a i = tAt b i := by
  constructor
  · exact fun h => ⟨fun j hj => h j (by omega), h i (by omega)⟩
  · rintro ⟨h, h2⟩ j hj
    rcases Nat.lt_or_ge j i with h1 | h1
    · exact h j h1
    · obtain rfl : j = i := by omega
      exact h2
theorem tAt_out (l : List (List UInt8)) (i : Nat) (h : l.length ≤ i) : tAt l i = [] := by
  unfold tAt; rw [List.getD_eq_getElem?_getD, List.getElem?_eq_none h]; rfl
theorem alike_all {a b : List (List UInt8)} {i : Nat} (h1 : a.length ≤ i) (h2 : b.length ≤ i) : AlikeTo a b i ↔ Alike a b := by
  constructor
  · intro h j
    rcases Nat.lt_or_ge j i with h3 | h3
    · exact h j h3
    · exact (tAt_out a j (by omega)).trans (tAt_out b j (by omega)).symm
  · exact fun h j _ => h j
theorem str_eq {x y : List UInt8} : ((bs x).toList == (bs y).toList) = true ↔ x = y := by
  rw [Lib.toList_data, Lib.toList_data, beq_iff_eq]; exact Iff.rfl
theorem str_none {x : List UInt8} : (bs x).toList.isEmpty = true ↔ x = [] := by
  rw [bs_isEmpty, List.isEmpty_iff]
theorem getD_le32 {l : List (List UInt8)} (h : All32 l) (i : Nat) : (l.getD i []).length ≤ 32 := by
  rw [List.getD_eq_getElem?_getD]
  cases hx : l[i]? with
  | none => simp
  | some x => exact Nat.le_of_eq (h x (List.mem_of_getElem? hx))
theorem notes_small {k : Nat} {l : List (List UInt8)} (hf : Fair l) : ∀ t ∈ notesF k l, t.length < 1099511627776 := by
  intro t ht
  unfold notesF at ht
  rcases List.mem_append.1 ht with h | h
  · unfold groundT at h
    obtain ⟨i, _, rfl⟩ := List.mem_map.1 h
    rw [List.getD_eq_getElem?_getD]
    cases hx : l[i]? with
    | none => simp [leafT]
    | some x =>
      have := hf x (List.mem_of_getElem? hx)
      show (x.length + 1) < _
      omega
  · obtain ⟨j, _, h2⟩ := List.mem_flatMap.1 h
    unfold upT at h2
    obtain ⟨i, _, rfl⟩ := List.mem_map.1 h2
    have ha := getD_le32 (rowAt_32 k _ (groundF_32 k (depthF l.length) l) j) (2 * i)
    have hb := getD_le32 (rowAt_32 k _ (groundF_32 k (depthF l.length) l) j) (2 * i + 1)
    unfold nodeT
    rw [List.length_cons, List.length_append]
    omega
theorem whyF_ok {k : Int} (hk : k = 1 ∨ k = 2) {n : Nat} (h1 : 0 < n) (hn : n ≤ 1024) : whyF k n = 0 := by unfold whyF; rw [if_pos hk, if_neg (by omega), if_neg (by omega)]
theorem rootV_ok {k : Int} {l : List (List UInt8)} (h : whyF k l.length = 0) : rootV k l = .tuple #[.agg (c8 (rootF k.toNat l)), .int .i64 0] := by unfold rootV; rw [if_pos h]
theorem notesV_ok {k : Int} {l : List (List UInt8)} (h : whyF k l.length = 0) : notesV k l = notesF k.toNat l := by unfold notesV; rw [if_pos h]

set_option maxRecDepth 100000 in
set_option maxHeartbeats 4000000 in
theorem law_apart (c : Int) (la lb : List (List UInt8)) (va vb : Value) (w : World) (ha : Texts w va la) (hb : Texts w vb lb) (hc : 0 ≤ c) (hc2 : c < 256) (za : ∀ b ∈ la, b.length ≤ 140737488355328) (zb : ∀ b ∈ lb, b.length ≤ 140737488355328) :
    Calls Try.prog 12 #[.int .u8 c, va, vb] w (Ret w (.bool true)) := by
  obtain ⟨aad, acap, rfl, ha1, ha2⟩ := ha.shape
  obtain ⟨bad, bcap, rfl, hb1, hb2⟩ := hb.shape
  have HA := Lib.hid ha; have HB := Lib.hid hb; have ZA := Lib.hid za; have ZB := Lib.hid zb
  clear ha hb za zb
  obtain ⟨n, hn⟩ : ∃ n, n = la.length := ⟨_, rfl⟩
  obtain ⟨m, hm⟩ : ∃ m, m = lb.length := ⟨_, rfl⟩
  rw [← hn] at ha1 ⊢
  rw [← hm] at hb1 ⊢
  rw [← hn] at HA; rw [← hm] at HB
  have HN := Lib.hid hn; have HM := Lib.hid hm
  cases hba : lightB la with
  | false =>
    have HL := Lib.hid hba; clear hba hn hm
    go_enter Try.func12, Try.ntmps12
    go_wp2_with fail
    refine (light_any _ la _ HA.out ZA.out).mono ?_
    rintro e w1 ⟨rfl, rfl⟩
    rw [HL.out]
    go_wp2_with fail
    refine (lives06_any _).mono ?_
    rintro e w1 ⟨rfl, hb1⟩
    go_wp2_with fail
    go_ret
    exact ⟨rfl, hb1⟩
  | true =>
    have HLA := Lib.hid hba; clear hba
    cases hbb : lightB lb with
    | false =>
      have HLB := Lib.hid hbb; clear hbb hn hm
      go_enter Try.func12, Try.ntmps12
      go_wp2_with fail
      refine (light_any _ la _ HA.out ZA.out).mono ?_
      rintro e w1 ⟨rfl, rfl⟩
      rw [HLA.out]
      go_wp2_with fail
      refine (light_any _ lb _ HB.out ZB.out).mono ?_
      rintro e w1 ⟨rfl, rfl⟩
      rw [HLB.out]
      go_wp2_with fail
      refine (lives06_any _).mono ?_
      rintro e w1 ⟨rfl, hb1⟩
      go_wp2_with fail
      go_ret
      exact ⟨rfl, hb1⟩
    | true =>
      have HLB := Lib.hid hbb; clear hbb
      obtain ⟨hfa, hna⟩ := light_fair HLA.out
      obtain ⟨hfb, hnb⟩ := light_fair HLB.out
      rw [← hn] at hna
      rw [← hm] at hnb
      have HFA := Lib.hid hfa; have HFB := Lib.hid hfb
      clear hfa hfb hn hm
      by_cases h0 : n = 0
      · subst h0
        go_enter Try.func12, Try.ntmps12
        go_wp2_with fail
        refine (light_any _ la _ HA.out ZA.out).mono ?_
        rintro e w1 ⟨rfl, rfl⟩
        rw [HLA.out]
        go_wp2_with fail
        refine (light_any _ lb _ HB.out ZB.out).mono ?_
        rintro e w1 ⟨rfl, rfl⟩
        rw [HLB.out]
        go_wp2_with fail
        refine (lives06_any _).mono ?_
        rintro e w1 ⟨rfl, hb1⟩
        go_wp2_with fail
        go_ret
        exact ⟨rfl, hb1⟩
      · by_cases h0b : m = 0
        · subst h0b
          have j1 : ((n : Int) == 0) = false := by simp; omega
          go_enter Try.func12, Try.ntmps12
          go_wp2_with fail
          refine (light_any _ la _ HA.out ZA.out).mono ?_
          rintro e w1 ⟨rfl, rfl⟩
          rw [HLA.out]
          go_wp2_with fail
          refine (light_any _ lb _ HB.out ZB.out).mono ?_
          rintro e w1 ⟨rfl, rfl⟩
          rw [HLB.out]
          go_wp2_with fail
          refine (lives06_any _).mono ?_
          rintro e w1 ⟨rfl, hb1⟩
          go_wp2_with fail
          go_ret
          exact ⟨rfl, hb1⟩
        · have j1 : ((n : Int) == 0) = false := by simp; omega
          have j2 : ((m : Int) == 0) = false := by simp; omega
          by_cases hd : depthF n = depthF m
          · have hdi : ((depthF n : Int) != (depthF m : Int)) = false := by rw [hd]; simp
            have HD := Lib.hid hd; clear hd
            go_enter Try.func12, Try.ntmps12
            go_wp2_with fail
            refine (light_any _ la _ HA.out ZA.out).mono ?_
            rintro e w1 ⟨rfl, rfl⟩
            rw [HLA.out]
            go_wp2_with fail
            refine (light_any _ lb _ HB.out ZB.out).mono ?_
            rintro e w1 ⟨rfl, rfl⟩
            rw [HLB.out]
            go_wp2_with fail
            refine (mdepth_any _ (by omega) _).mono ?_
            rintro e w1 ⟨rfl, rfl⟩
            rw [Int.toNat_natCast]
            go_wp2_with fail
            refine (mdepth_any _ (by omega) _).mono ?_
            rintro e w1 ⟨rfl, rfl⟩
            rw [Int.toNat_natCast]
            go_wp2_with fail
            obtain ⟨k, hk⟩ : ∃ k, k = 1 + c % 2 := ⟨_, rfl⟩
            have hk12 : k = 1 ∨ k = 2 := by omega
            rw [← hk]
            have HK := Lib.hid hk12
            clear hk hk12
            go_loop [8, 9] (fun x y => ∃ (i : Nat) (b : Bool), (i ≤ n ∨ i ≤ m) ∧ y = .int .i64 i ∧ x = .bool b ∧ Hid (b = true ↔ AlikeTo la lb i)) (fun _ y => n + m - (intOf y).toNat)
            case atStart => exact ⟨0, true, .inl (Nat.zero_le _), rfl, rfl, Lib.hid ⟨fun _ => alike_zero _ _, fun _ => rfl⟩⟩
            case round =>
              obtain ⟨i, b, hi, rfl, rfl, hbi⟩ := hrel
              by_cases hin : i < n
              · obtain ⟨la1, lo1, u1, rfl, hla1, hc1, hr1⟩ := HA.out.at i (by have := HN.out; omega)
                rw [← tAt_eq la i (by have := HN.out; omega)] at hr1
                obtain ⟨x, hx⟩ : ∃ x, x = tAt la i := ⟨_, rfl⟩
                rw [← hx] at hr1
                obtain ⟨ux, uxc, hux, _⟩ := hr1.shape
                subst hux
                have hcv1 := rd_conv (P := Try.prog) Try.underlying43 Try.underlying5 Try.underlying9 hr1
                obtain ⟨p, hp⟩ : ∃ p, p = x.length := ⟨_, rfl⟩
                rw [← hp] at hc1 hcv1
                have HX := Lib.hid hx
                clear hr1 hx hp
                have j3 : (i : Int) < (n : Int) := by omega
                by_cases him : i < m
                · obtain ⟨lb1, lo2, u2, rfl, hlb1, hc2', hr2⟩ := HB.out.at i (by have := HM.out; omega)
                  rw [← tAt_eq lb i (by have := HM.out; omega)] at hr2
                  obtain ⟨y, hy⟩ : ∃ y, y = tAt lb i := ⟨_, rfl⟩
                  rw [← hy] at hr2
                  obtain ⟨uy, uyc, huy, _⟩ := hr2.shape
                  subst huy
                  have hcv2 := rd_conv (P := Try.prog) Try.underlying43 Try.underlying5 Try.underlying9 hr2
                  obtain ⟨q, hq⟩ : ∃ q, q = y.length := ⟨_, rfl⟩
                  rw [← hq] at hc2' hcv2
                  have HY := Lib.hid hy
                  clear hr2 hy hq
                  have j4 : (i : Int) < (m : Int) := by omega
                  cases b with
                  | false =>
                    go_wp2_with fail
                    go_round
                    case rel => exact ⟨i + 1, false, .inl (by omega), by go_num, rfl, Lib.hid ⟨fun h => (by cases h), fun h => hbi.out.2 ((alike_succ _ _ _).1 h).1⟩⟩
                    case measure => simp [intOf]; omega
                  | true =>
                    go_wp2_with fail
                    go_round
                    case rel => exact ⟨i + 1, _, .inl (by omega), by go_num, rfl, Lib.hid (by rw [str_eq, alike_succ, HX.out, HY.out]; exact ⟨fun h => ⟨hbi.out.1 rfl, h⟩, fun h => h.2⟩)⟩
                    case measure => simp [intOf]; omega
                · have hy := tAt_out lb i (by have := HM.out; omega)
                  have HY := Lib.hid hy
                  clear hy
                  have j4 : ¬ (i : Int) < (m : Int) := by omega
                  cases b with
                  | false =>
                    go_wp2_with fail
                    go_round
                    case rel => exact ⟨i + 1, false, .inl (by omega), by go_num, rfl, Lib.hid ⟨fun h => (by cases h), fun h => hbi.out.2 ((alike_succ _ _ _).1 h).1⟩⟩
                    case measure => simp [intOf]; omega
                  | true =>
                    go_wp2_with fail
                    go_round
                    case rel => exact ⟨i + 1, _, .inl (by omega), by go_num, rfl, Lib.hid (by rw [alike_succ, ← HX.out, HY.out]; exact str_none.trans ⟨fun h => ⟨hbi.out.1 rfl, h⟩, fun h => h.2⟩)⟩
                    case measure => simp [intOf]; omega
              · have hx := tAt_out la i (by have := HN.out; omega)
                have HX := Lib.hid hx
                clear hx
                have j3 : ¬ (i : Int) < (n : Int) := by omega
                by_cases him : i < m
                · obtain ⟨lb1, lo2, u2, rfl, hlb1, hc2', hr2⟩ := HB.out.at i (by have := HM.out; omega)
                  rw [← tAt_eq lb i (by have := HM.out; omega)] at hr2
                  obtain ⟨y, hy⟩ : ∃ y, y = tAt lb i := ⟨_, rfl⟩
                  rw [← hy] at hr2
                  obtain ⟨uy, uyc, huy, _⟩ := hr2.shape
                  subst huy
                  have hcv2 := rd_conv (P := Try.prog) Try.underlying43 Try.underlying5 Try.underlying9 hr2
                  obtain ⟨q, hq⟩ : ∃ q, q = y.length := ⟨_, rfl⟩
                  rw [← hq] at hc2' hcv2
                  have HY := Lib.hid hy
                  clear hr2 hy hq
                  have j4 : (i : Int) < (m : Int) := by omega
                  cases b with
                  | false =>
                    go_wp2_with fail
                    go_round
                    case rel => exact ⟨i + 1, false, .inr (by omega), by go_num, rfl, Lib.hid ⟨fun h => (by cases h), fun h => hbi.out.2 ((alike_succ _ _ _).1 h).1⟩⟩
                    case measure => simp [intOf]; omega
                  | true =>
                    go_wp2_with fail
                    go_round
                    case rel => exact ⟨i + 1, _, .inr (by omega), by go_num, rfl, Lib.hid (by rw [alike_succ, ← HY.out, HX.out]; exact str_none.trans ⟨fun h => ⟨hbi.out.1 rfl, h.symm⟩, fun h => h.2.symm⟩)⟩
                    case measure => simp [intOf]; omega
                · have j4 : ¬ (i : Int) < (m : Int) := by omega
                  have hal : b = true ↔ Alike la lb := hbi.out.trans (alike_all (by have := HN.out; omega) (by have := HM.out; omega))
                  have HAL := Lib.hid hal
                  clear hal hbi
                  have hwa : whyF k la.length = 0 := whyF_ok HK.out (by have := HN.out; omega) (by have := HN.out; omega)
                  have hwb : whyF k lb.length = 0 := whyF_ok HK.out (by have := HM.out; omega) (by have := HM.out; omega)
                  obtain ⟨ga, hra, hga, hga32⟩ : ∃ ga, rootV k la = .tuple #[.agg (c8 ga), .int .i64 0] ∧ ga = rootF k.toNat la ∧ ga.length = 32 := ⟨_, rootV_ok hwa, rfl, rootF_length _ _⟩
                  obtain ⟨gb, hrb, hgb, hgb32⟩ : ∃ gb, rootV k lb = .tuple #[.agg (c8 gb), .int .i64 0] ∧ gb = rootF k.toNat lb ∧ gb.length = 32 := ⟨_, rootV_ok hwb, rfl, rootF_length _ _⟩
                  have hdl : depthF la.length = depthF lb.length := by rw [← HN.out, ← HM.out]; exact HD.out
                  have hcase : (ga = gb ↔ b = true) ∨ (ga = gb ∧ b = false ∧ Twin (notesV k la ++ notesV k lb)) := by
                    rw [hga, hgb, notesV_ok hwa, notesV_ok hwb]
                    by_cases he : rootF k.toNat la = rootF k.toNat lb
                    · rcases apart k.toNat la lb hdl he with h | h
                      · exact .inl ⟨fun _ => HAL.out.2 h, fun _ => he⟩
                      · cases b with
                        | true => exact .inl ⟨fun _ => rfl, fun _ => he⟩
                        | false => exact .inr ⟨he, rfl, h⟩
                    · refine .inl ⟨fun h => absurd h he, fun h => absurd (root_alike _ _ _ hdl (HAL.out.1 h)) he⟩
                  have HRA := Lib.hid hra; have HRB := Lib.hid hrb; have HGA := Lib.hid hga32; have HGB := Lib.hid hgb32; have HC := Lib.hid hcase
                  clear hwa hwb hra hrb hga hgb hga32 hgb32 hdl hcase HAL
                  go_wp2_with fail
                  refine (mroot_any k la _ _ HA.out HFA.out).mono ?_
                  rintro e w2 ⟨rfl, hb2⟩
                  rw [HRA.out]
                  have HB2 := Lib.hid hb2; clear hb2
                  go_wp2_with (refine wpList_alloc_g rfl _ rfl _ _ Try.zeroHash rfl ?_)
                  intro R1 w3 h3
                  go_wp2_with (refine wpList_store_row_g (t := 48) (old := cB 32 []) rfl 48 _ _ rfl R1 (c8 ga) rfl rfl h3.out.cells (Try.sizeHs _ HGA.out) (by rw [c8_size, HGA.out]; rfl) (by rw [← cB_full 32 _ HGA.out]; exact one_b _ _) ?_)
                  intro w4 h4 k4 z4
                  have hb24 : Below w2.heap.size w2 w4 := h3.out.below.trans (k4.below (B := w2.heap.size) (fun q hq e => by have := h3.out.eq; omega) h3.out.below.size)
                  have HB4 := Lib.hid (HB2.out.trans (hb24.mono HB2.out.size)); have HR4 := Lib.hid h4
                  clear hb24 h4 k4 z4 h3 HB2
                  go_wp2_with fail
                  refine (mroot_any k lb _ _ (HB.out.later HB4.out) HFB.out).mono ?_
                  rintro e w5 ⟨rfl, hb5⟩
                  rw [HRB.out]
                  have HB5 := Lib.hid (HB4.out.trans (hb5.mono HB4.out.size)); have HR5 := Lib.hid ((hb5.block R1 (heap_lt HR4.out)).trans HR4.out)
                  clear hb5 HB4 HR4
                  go_wp2_with (refine wpList_alloc_g rfl _ rfl _ _ Try.zeroHash rfl ?_)
                  intro R2 w6 h6
                  go_wp2_with (refine wpList_store_row_g (t := 48) (old := cB 32 []) rfl 48 _ _ rfl R2 (c8 gb) rfl rfl h6.out.cells (Try.sizeHs _ HGB.out) (by rw [c8_size, HGB.out]; rfl) (by rw [← cB_full 32 _ HGB.out]; exact one_b _ _) ?_)
                  intro w7 h7 k7 z7
                  have hb57 : Below w5.heap.size w5 w7 := h6.out.below.trans (k7.below (B := w5.heap.size) (fun q hq e => by have := h6.out.eq; omega) h6.out.below.size)
                  have HB7 := Lib.hid (HB5.out.trans (hb57.mono HB5.out.size)); have HR7 := Lib.hid ((hb57.block R1 (heap_lt HR5.out)).trans HR5.out); have HS7 := Lib.hid h7
                  clear hb57 h7 k7 z7 h6 HR5 HB5
                  have heq := Try.eqH ga gb HGA.out HGB.out
                  rcases HC.out with hc | ⟨hg, rfl, htw⟩
                  · have heb : decide (ga = gb) = b := by
                      cases b with
                      | true => exact decide_eq_true (hc.2 rfl)
                      | false => exact decide_eq_false (fun h => by cases hc.1 h)
                    rw [heb] at heq
                    clear hc heb
                    cases b
                    all_goals
                      go_wp2_with (first
                        | (refine wpList_load_row rfl _ _ rfl R1 rfl _ (c8 ga) _ _ HR7.out Try.underlying48 rfl (Try.sizeHs _ HGA.out) ?_)
                        | (refine wpList_load_row rfl _ _ rfl R2 rfl _ (c8 gb) _ _ HS7.out Try.underlying48 rfl (Try.sizeHs _ HGB.out) ?_))
                      refine (lives06_any _).mono ?_
                      rintro e w8 ⟨rfl, hb8⟩
                      go_wp2_with fail
                      go_ret
                      exact ⟨rfl, HB7.out.trans (hb8.mono HB7.out.size)⟩
                  · rw [decide_eq_true hg] at heq
                    have HTW := Lib.hid htw
                    clear hg htw HC
                    go_wp2_with (first
                      | (refine wpList_load_row rfl _ _ rfl R1 rfl _ (c8 ga) _ _ HR7.out Try.underlying48 rfl (Try.sizeHs _ HGA.out) ?_)
                      | (refine wpList_load_row rfl _ _ rfl R2 rfl _ (c8 gb) _ _ HS7.out Try.underlying48 rfl (Try.sizeHs _ HGB.out) ?_))
                    clear heq
                    obtain ⟨g, hg⟩ : ∃ g, g = w7.heap.size := ⟨_, rfl⟩
                    rw [← hg]
                    obtain ⟨w8, hw8⟩ : ∃ w8, w8 = w7.alloc (.cells #[.slice none 0 0] 70) := ⟨_, rfl⟩
                    rw [← hw8]
                    have hb8 : Below w.heap.size w w8 := by rw [hw8]; exact HB7.out.alloc HB7.out.size _
                    have ht8 : Tr w8 g none [] := tr_new (by rw [hw8, hg]; exact heap_alloc_new _ _)
                    have hgw : w.heap.size ≤ g := by rw [hg]; exact HB7.out.size
                    have HB8 := Lib.hid hb8; have HT8 := Lib.hid ht8
                    clear hg hw8 hb8 ht8
                    refine (troot_any w8 g none [] k la _ (texts_grew HA.out HB8.out hgw (fun _ h => by cases h)) HT8.out HFA.out (by simp)).mono ?_
                    rintro e w9 ⟨rfl, a9, ht9, hg9⟩
                    rw [HRA.out]
                    have hfar9 := hg9.far HB8.out.size (fun _ h => by cases h)
                    have HB9 := Lib.hid (HB8.out.trans (hg9.below HB8.out.size hgw (fun _ h => by cases h))); have HT9 := Lib.hid ht9; have HF9 := Lib.hid hfar9
                    clear ht9 hg9 hfar9
                    have htl9 : ([] ++ notesV k la).length < 900000000 := by
                      have := notesV_len k la
                      rw [List.nil_append]; omega
                    have htl10 : (([] ++ notesV k la) ++ notesV k lb).length < 900000000 := by
                      have := notesV_len k la
                      have := notesV_len k lb
                      rw [List.nil_append, List.length_append]; omega
                    have HTL9 := Lib.hid htl9; have HTL10 := Lib.hid htl10
                    clear htl9 htl10
                    go_wp2_with fail
                    refine (troot_any w9 g a9 _ k lb _ (texts_grew HB.out HB9.out hgw HF9.out) HT9.out HFB.out HTL9.out).mono ?_
                    rintro e w10 ⟨rfl, a10, ht10, hg10⟩
                    rw [HRB.out]
                    have HB10 := Lib.hid (HB9.out.trans (hg10.below HB9.out.size hgw HF9.out)); have HT10 := Lib.hid ht10
                    clear ht10 hg10
                    have hsm : ∀ t ∈ (([] ++ notesV k la) ++ notesV k lb), t.length < 1099511627776 := by
                      have key : ∀ (l : List (List UInt8)), Fair l → ∀ t ∈ notesV k l, t.length < 1099511627776 := by
                        intro l hf t ht
                        unfold notesV at ht
                        split at ht
                        · exact notes_small hf t ht
                        · simp at ht
                      intro t ht
                      rw [List.nil_append] at ht
                      rcases List.mem_append.1 ht with h | h
                      · exact key la HFA.out t h
                      · exact key lb HFB.out t h
                    have HSM := Lib.hid hsm
                    clear hsm
                    go_wp2_with fail
                    refine (twins_any w10 g a10 _ HT10.out HTL10.out HSM.out).mono ?_
                    rintro e w11 ⟨b, rfl, hbt, hb11⟩
                    obtain rfl : b = true := hbt.2 (by rw [List.nil_append]; exact HTW.out)
                    have HB11 := Lib.hid (HB10.out.trans (hb11.mono HB10.out.size))
                    clear hbt hb11
                    go_wp2_with fail
                    refine (lives06_any _).mono ?_
                    rintro e w12 ⟨rfl, hb12⟩
                    go_wp2_with fail
                    go_ret
                    exact ⟨rfl, HB11.out.trans (hb12.mono HB11.out.size)⟩
          · have hdi : ((depthF n : Int) != (depthF m : Int)) = true := by simp; omega
            have HD := Lib.hid hd; clear hd
            go_enter Try.func12, Try.ntmps12
            go_wp2_with fail
            refine (light_any _ la _ HA.out ZA.out).mono ?_
            rintro e w1 ⟨rfl, rfl⟩
            rw [HLA.out]
            go_wp2_with fail
            refine (light_any _ lb _ HB.out ZB.out).mono ?_
            rintro e w1 ⟨rfl, rfl⟩
            rw [HLB.out]
            go_wp2_with fail
            refine (mdepth_any _ (by omega) _).mono ?_
            rintro e w1 ⟨rfl, rfl⟩
            rw [Int.toNat_natCast]
            go_wp2_with fail
            refine (mdepth_any _ (by omega) _).mono ?_
            rintro e w1 ⟨rfl, rfl⟩
            rw [Int.toNat_natCast]
            go_wp2_with fail
            refine (lives06_any _).mono ?_
            rintro e w1 ⟨rfl, hb1⟩
            go_wp2_with fail
            go_ret
            exact ⟨rfl, hb1⟩
end Go.Proofs.Ytbfdjjaonjepnaa
