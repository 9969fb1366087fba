/- Law 13: acts, light; lists of rows alike; Add and Take on a store not made; lives; DueNone. No condition. -/
import Derived.Test.YthnjakomkdlglaaDueD
import Derived.Test.YthnjakomkdlglaaKeysD
import Derived.Test.YthnjakomkdlglaaLawI
namespace Go.Proofs.Ythnjakomkdlglaa
open Go.RowKit

/-- tallagelaw13.Act, read. -/
structure Act13 where
  take : Bool
  b : Int
  ld : Option Addr
  lc : Nat
  l : List Int
def act13E (a : Act13) : List Value := [.bool a.take, .int .i64 a.b, .slice a.ld a.l.length a.lc]
theorem act13E_len (a : Act13) : (act13E a).length = 3 := rfl
structure Good13 (w : World) (a : Act13) : Prop where
  b_b : -9223372036854775808 ≤ a.b ∧ a.b < 9223372036854775808
  rd_l : Rd w intE 1 (.slice a.ld a.l.length a.lc) a.l
  i64_l : I64s a.l
theorem Good13.later {w w' : World} {a : Act13} (h : Good13 w a) (hb : Below w.heap.size w w') : Good13 w' a := ⟨h.b_b, h.rd_l.later hb, h.i64_l⟩
theorem Rd.act13 {w : World} {ad : Option Addr} {n cap : Nat} {t : List Act13} (h : Rd w act13E 3 (.slice ad n cap) t) (i : Nat) (hi : i < t.length) :
    ∃ g off, ad = some ⟨g, off, none⟩ ∧ g < w.heap.size ∧ w.cell? ⟨g, off + i * 3, none⟩ = some (.bool t[i].take) ∧ w.cell? ⟨g, off + i * 3 + 1, none⟩ = some (.int .i64 t[i].b) ∧ w.cell? ⟨g, off + i * 3 + 2, none⟩ = some (.slice t[i].ld t[i].l.length t[i].lc) := by
  have hne : t ≠ [] := by rintro rfl; simp at hi
  obtain ⟨ax, cx, e3, _, _, h3⟩ := h
  obtain ⟨b, off, e4, hb, h5⟩ := h3 hne
  exact ⟨b, off, (Value.slice.inj e3).1.trans e4, hb, h5 i hi 0 (by decide), h5 i hi 1 (by decide), h5 i hi 2 (by decide)⟩
theorem Try.zeroAct13 (w : World) : (zeroValue 47).run Try.prog w = .ok (.agg #[.bool false, .int .i64 0, .slice none 0 0]) w := by kernel_rfl
theorem Try.sizeAct13 : (Try.prog.info? 47).map (·.size) = some 3 := by kernel_rfl
theorem litA13 (w : World) (a : Act13) : Rd (w.alloc (.cells #[.bool a.take, .int .i64 a.b, .slice a.ld a.l.length a.lc] 47)) act13E 3 (.slice (some ⟨w.heap.size, 0, none⟩) 1 1) [a] := by
  refine ⟨_, 1, rfl, Nat.le_refl _, (by unfold maxLen; decide), fun _ => ⟨_, 0, rfl, by rw [World.size_alloc]; omega, fun i hi j hj => ?_⟩⟩
  have h := heap_alloc_new w (.cells #[.bool a.take, .int .i64 a.b, .slice a.ld a.l.length a.lc] 47)
  simp only [List.length_singleton] at hi
  obtain rfl : i = 0 := by omega
  match j, hj with
  | 0, _ => exact Lib.cell_of_heap h 0
  | 1, _ => exact Lib.cell_of_heap h 1
  | 2, _ => exact Lib.cell_of_heap h 2
/-- What light says. -/
def Light13 (w : World) (l : List Act13) (e : Ending) (w' : World) : Prop := ∃ r : Bool, e = .returned (.bool r) ∧ (r = true → l.length ≤ 150 ∧ ∀ a ∈ l, a.l.length ≤ 10) ∧ Below w.heap.size w w'

set_option maxHeartbeats 8000000 in
set_option maxRecDepth 100000 in
theorem light13_any {w : World} {v : Value} {l : List Act13} (h : Rd w act13E 3 v l) : Calls Try.prog 15 #[v] w (Light13 w l) := by
  obtain ⟨ad, cap, e1, l1, l1'⟩ := h.shape
  obtain ⟨n, hn⟩ : ∃ n, n = l.length := ⟨_, rfl⟩
  rw [← hn] at e1 l1
  subst e1
  have H := Lib.hid h; have HN := Lib.hid hn
  clear h hn
  by_cases hl : n ≤ 150
  · have j0 : ¬ 150 < n := by omega
    go_enter Try.func15, Try.ntmps15
    go_wp2_with fail
    clear j0
    go_loopw [4, 10] (fun _ vi wr => ∃ (i : Nat), vi = .int .i64 i ∧ i ≤ n ∧ Hid (∀ a ∈ l.take i, a.l.length ≤ 10) ∧ Hid (Below w.heap.size w wr)) (fun _ vi _ => n - (intOf vi).toNat)
    case atStart => exact ⟨0, rfl, Nat.zero_le _, Lib.hid (by simp), Lib.hid (Below.refl _ _)⟩
    case round =>
      obtain ⟨i, rfl, hin, SH, BW⟩ := hrel
      by_cases hlt : i < n
      · have hi : i < l.length := by rw [← HN.out]; exact hlt
        obtain ⟨gL, off, rfl, hgL, q0, q1, q2⟩ := Rd.act13 H.out i hi
        have q0' := (BW.out.cell (p := ⟨gL, off + i * 3, none⟩) hgL).trans q0
        have q1' := (BW.out.cell (p := ⟨gL, off + i * 3 + 1, none⟩) hgL).trans q1
        have q2' := (BW.out.cell (p := ⟨gL, off + i * 3 + 2, none⟩) hgL).trans q2
        have hsh : ∀ q : (l[i].l.length ≤ 10), ∀ a ∈ l.take (i + 1), a.l.length ≤ 10 := by
          intro q a ha
          rw [List.take_succ_eq_append_getElem hi] at ha
          rcases List.mem_append.1 ha with ha | ha
          · exact SH.out a ha
          · simp only [List.mem_singleton] at ha; rw [ha]; exact q
        obtain ⟨a, ha⟩ : ∃ a, a = l[i] := ⟨_, rfl⟩
        rw [← ha] at q0' q1' q2' hsh
        have HLT := Lib.hid hlt; have HSH := Lib.hid hsh
        clear ha q0 q1 q2 hgL hi hsh
        go_wp2_with (refine wpList_alloc_g rfl _ rfl _ _ Try.zeroAct13 rfl ?_)
        intro R w1 h1
        go_wp2_with (refine wpList_store_row_g (t := 47) (old := #[.bool false, .int .i64 0, .slice none 0 0]) rfl 47 _ _ rfl R #[.bool a.take, .int .i64 a.b, .slice a.ld a.l.length a.lc] rfl rfl h1.out.cells Try.sizeAct13 rfl (by simp [Value.oneCell']) ?_)
        intro w2 h2' k12 z12
        have hb12 : Below wr.heap.size wr w2 := h1.out.below.trans (k12.below (B := wr.heap.size) (fun x hx e => by have := h1.out.eq; omega) h1.out.below.size)
        have r0 : w2.cell? ⟨R, 0, none⟩ = some (.bool a.take) := Lib.cell_of_heap h2' 0
        have r1 : w2.cell? ⟨R, 1, none⟩ = some (.int .i64 a.b) := Lib.cell_of_heap h2' 1
        have r2 : w2.cell? ⟨R, 2, none⟩ = some (.slice a.ld a.l.length a.lc) := Lib.cell_of_heap h2' 2
        have HB2 := Lib.hid (BW.out.trans (hb12.mono BW.out.size))
        clear h1 h2' k12 z12 hb12 q0' q1' q2'
        by_cases c0 : ¬ a.l.length ≤ 10
        · have c0' : 10 < a.l.length := by omega
          clear c0
          go_wp2_with fail
          go_ret
          exact ⟨false, rfl, fun h => (by cases h), HB2.out⟩
        have d0 : a.l.length ≤ 10 := by omega
        have d0' : ¬ 10 < a.l.length := by omega
        clear c0
        · skip
          go_wp2_with fail
          go_roundw
          case rel => exact ⟨i + 1, by go_num, Nat.succ_le_of_lt HLT.out, Lib.hid (HSH.out (by exact d0)), HB2⟩
          case measure => have hh : i < n := HLT.out; simp [intOf]; omega
      · have hfin : ∀ a ∈ l, a.l.length ≤ 10 := by
          have h8 := SH.out
          rwa [List.take_of_length_le (by rw [← HN.out]; omega)] at h8
        have HF := Lib.hid hfin
        clear hfin SH
        go_wp2_with fail
        go_ret
        exact ⟨true, rfl, fun _ => ⟨by rw [← HN.out]; exact hl, HF.out⟩, BW.out⟩
  · have j0 : 150 < n := by omega
    clear hl
    go_enter Try.func15, Try.ntmps15
    go_wp2_with fail
    go_ret
    exact ⟨false, rfl, fun h => (by cases h), Below.refl _ _⟩

/-! ### rows alike -/
theorem RowsV.rd {w : World} {v : Value} {ls : List (List Int)} (h : RowsV w v ls) : ∃ xs : List (Value × List Int), Rd w vE 1 v (xs.map (·.1)) ∧ xs.map (·.2) = ls ∧ ∀ x ∈ xs, Rd w intE 1 x.1 x.2 := by
  obtain ⟨xs, h1, h2, h3⟩ := h
  exact ⟨xs, h1.rd (fun _ => rfl), h2, fun x hx => (h3 x hx).rd (fun _ => rfl)⟩
theorem map_take {α β : Type} (f : α → β) (l : List α) (i : Nat) : (l.map f).take i = (l.take i).map f := List.map_take.symm

set_option maxHeartbeats 8000000 in
set_option maxRecDepth 100000 in
theorem rrows_any {w : World} {v1 v2 : Value} {xs ys : List (Value × List Int)} (h1 : Rd w vE 1 v1 (xs.map (·.1))) (h2 : Rd w vE 1 v2 (ys.map (·.1))) (hx : ∀ x ∈ xs, Rd w intE 1 x.1 x.2) (hy : ∀ x ∈ ys, Rd w intE 1 x.1 x.2) :
    Calls Try.prog 16 #[v1, v2] w (Ret w (.bool (decide (xs.map (·.2) = ys.map (·.2))))) := by
  obtain ⟨ad1, cap1, rfl, c1, c1'⟩ := h1.shape
  obtain ⟨ad2, cap2, rfl, c2, c2'⟩ := h2.shape
  rw [List.length_map] at h1 h2 c1 c2 ⊢
  rw [List.length_map]
  obtain ⟨n, hn⟩ : ∃ n, n = xs.length := ⟨_, rfl⟩
  obtain ⟨m, hm⟩ : ∃ m, m = ys.length := ⟨_, rfl⟩
  rw [← hn] at h1 c1 ⊢
  rw [← hm] at h2 c2 ⊢
  obtain ⟨q, hq⟩ : ∃ q, q = decide (xs.map (·.2) = ys.map (·.2)) := ⟨_, rfl⟩
  rw [← hq]
  have H1 := Lib.hid h1; have H2 := Lib.hid h2; have HX := Lib.hid hx; have HY := Lib.hid hy; have HN := Lib.hid hn; have HM := Lib.hid hm; have HQ := Lib.hid hq
  clear h1 h2 hx hy hn hm hq
  have HB : Hid (Below w.heap.size w w) := Lib.hid (Below.refl _ _)
  by_cases hnm : n = m
  · subst hnm
    go_enter Try.func16, Try.ntmps16
    go_wp2_with fail
    go_loopw [13] (fun vi wr => ∃ i : Nat, vi = .int .i64 i ∧ i ≤ n ∧ Hid ((xs.take i).map (·.2) = (ys.take i).map (·.2)) ∧ Hid (Below w.heap.size w wr)) (fun vi _ => n - (intOf vi).toNat)
    case atStart => exact ⟨0, rfl, Nat.zero_le _, Lib.hid rfl, HB⟩
    case round =>
      clear HB
      obtain ⟨i, rfl, hin, HS, HB⟩ := hrel
      by_cases hlt : i < n
      · have hi1 : i < (xs.map (·.1)).length := by rw [List.length_map, ← HN.out]; exact hlt
        have hi2 : i < (ys.map (·.1)).length := by rw [List.length_map, ← HM.out]; exact hlt
        have hx1 : i < xs.length := by rw [← HN.out]; exact hlt
        have hy1 : i < ys.length := by rw [← HM.out]; exact hlt
        obtain ⟨p1, o1, rfl, hp1, hc1⟩ := H1.out.at i hi1
        obtain ⟨p2, o2, rfl, hp2, hc2⟩ := H2.out.at i hi2
        have hr1 := HX.out _ (List.getElem_mem hx1)
        have hr2 := HY.out _ (List.getElem_mem hy1)
        have he1 : (xs.take (i + 1)).map (·.2) = (xs.take i).map (·.2) ++ [xs[i].2] := by rw [List.take_succ_eq_append_getElem hx1, List.map_append]; rfl
        have he2 : (ys.take (i + 1)).map (·.2) = (ys.take i).map (·.2) ++ [ys[i].2] := by rw [List.take_succ_eq_append_getElem hy1, List.map_append]; rfl
        have hqf : xs[i].2 ≠ ys[i].2 → q = false := fun hne => by
          rw [HQ.out]
          refine decide_eq_false fun e => hne ?_
          have h8 : (xs.map (·.2))[i]'(by rw [List.length_map]; exact hx1) = (ys.map (·.2))[i]'(by rw [List.length_map]; exact hy1) := by simp only [e]
          simpa using h8
        simp only [List.getElem_map, vE, List.getElem?_cons_zero] at hc1 hc2
        obtain ⟨⟨u1, a1⟩, hx9⟩ : ∃ x, x = xs[i] := ⟨_, rfl⟩
        obtain ⟨⟨u2, a2⟩, hy9⟩ : ∃ x, x = ys[i] := ⟨_, rfl⟩
        rw [← hx9] at hc1 hr1 he1 hqf
        rw [← hy9] at hc2 hr2 he2 hqf
        simp only at hc1 hc2 hr1 hr2 he1 he2 hqf
        obtain ⟨ua, uc, hu1, hul, hul'⟩ := hr1.shape
        obtain ⟨va, vc, hu2, hvl, hvl'⟩ := hr2.shape
        subst hu1; subst hu2
        have HC1 : Hid (p1 < w.heap.size ∧ w.cell? ⟨p1, o1 + i, none⟩ = some (.slice ua a1.length uc)) := Lib.hid ⟨hp1, hc1⟩
        have HC2 : Hid (p2 < w.heap.size ∧ w.cell? ⟨p2, o2 + i, none⟩ = some (.slice va a2.length vc)) := Lib.hid ⟨hp2, hc2⟩
        have HR1 := Lib.hid hr1; have HR2 := Lib.hid hr2; have HE1 := Lib.hid he1; have HE2 := Lib.hid he2; have HQF := Lib.hid hqf; have HLT := Lib.hid hlt
        clear hc1 hc2 hr1 hr2 he1 he2 hqf hx9 hy9 hi1 hi2 hx1 hy1 hp1 hp2 hul hul' hvl hvl'
        go_wp2_with fail
        obtain ⟨d1, hwz⟩ : ∃ wz, wz = wr.drew := ⟨_, rfl⟩
        have hbz : Below wr.heap.size wr d1 := by rw [hwz]; exact (Below.refl _ _).drew
        have HBm := Lib.hid (HB.out.trans (hbz.mono HB.out.size))
        clear hbz HB
        have HB := HBm
        clear HBm
        have hS : World.cell? d1 ⟨p1, o1 + i, none⟩ = some (.slice ua a1.length uc) ∧ World.cell? d1 ⟨p2, o2 + i, none⟩ = some (.slice va a2.length vc) := ⟨(HB.out.cell (p := ⟨p1, o1 + i, none⟩) HC1.out.1).trans HC1.out.2, (HB.out.cell (p := ⟨p2, o2 + i, none⟩) HC2.out.1).trans HC2.out.2⟩
        refine wp_region_till (fun w' => World.cell? w' ⟨p1, o1 + i, none⟩ = some (.slice ua a1.length uc) ∧ World.cell? w' ⟨p2, o2 + i, none⟩ = some (.slice va a2.length vc)) 10 10 (by kernel_rfl) rfl ?_
        rw [← hwz]
        clear hwz
        refine till_take 0 (some 16) rfl rfl (by kernel_rfl) (by kernel_rfl) (by kernel_rfl) (by kernel_rfl) (by kernel_rfl) (by kernel_rfl) (fun _ _ _ h => h) (.inl ⟨by rfl, fun w' _ => (by go_simp; rfl)⟩) hS ?_
        go_frame
        refine till_take 1 (some 17) rfl rfl (by kernel_rfl) (by kernel_rfl) (by kernel_rfl) (by kernel_rfl) (by kernel_rfl) (by kernel_rfl) (fun _ _ _ h => h) (.inl ⟨by rfl, fun w' _ => (by go_simp; rfl)⟩) hS ?_
        go_frame
        refine till_take 2 (some 18) rfl rfl (by kernel_rfl) (by kernel_rfl) (by kernel_rfl) (by kernel_rfl) (by kernel_rfl) (by kernel_rfl) (fun _ _ _ h => h) (.inl ⟨by rfl, fun w' _ => (by go_simp; rfl)⟩) hS ?_
        go_frame
        refine till_take 3 (some 19) rfl rfl (by kernel_rfl) (by kernel_rfl) (by kernel_rfl) (by kernel_rfl) (by kernel_rfl) (by kernel_rfl) (fun _ _ _ h => h) (.inl ⟨by rfl, fun w' hS' => (by have hc := hS'.1; go_simp; rfl)⟩) hS ?_
        go_frame
        refine till_take 4 (some 20) rfl rfl (by kernel_rfl) (by kernel_rfl) (by kernel_rfl) (by kernel_rfl) (by kernel_rfl) (by kernel_rfl) (fun _ _ _ h => h) (.inl ⟨by rfl, fun w' _ => (by go_simp; rfl)⟩) hS ?_
        go_frame
        refine till_take 5 (some 21) rfl rfl (by kernel_rfl) (by kernel_rfl) (by kernel_rfl) (by kernel_rfl) (by kernel_rfl) (by kernel_rfl) (fun _ _ _ h => h) (.inl ⟨by rfl, fun w' _ => (by go_simp; rfl)⟩) hS ?_
        go_frame
        refine till_take 6 (some 22) rfl rfl (by kernel_rfl) (by kernel_rfl) (by kernel_rfl) (by kernel_rfl) (by kernel_rfl) (by kernel_rfl) (fun _ _ _ h => h) (.inl ⟨by rfl, fun w' _ => (by go_simp; rfl)⟩) hS ?_
        go_frame
        refine till_take 7 (some 23) rfl rfl (by kernel_rfl) (by kernel_rfl) (by kernel_rfl) (by kernel_rfl) (by kernel_rfl) (by kernel_rfl) (fun _ _ _ h => h) (.inl ⟨by rfl, fun w' hS' => (by have hc := hS'.2; go_simp; rfl)⟩) hS ?_
        go_frame
        refine till_one 8 rfl (by kernel_rfl) fun K hK => ?_
        simp only [List.getElem_toArray, List.getElem_cons_succ, List.getElem_cons_zero]
        rw [if_pos (by rfl)]
        go_simp
        refine (ints_any a1 a2 _ _ _ (HR1.out.later HB.out) (HR2.out.later HB.out)).mono ?_
        obtain ⟨qq, hqq⟩ : ∃ x, x = decide (a1 = a2) := ⟨_, rfl⟩
        rw [← hqq]
        have HQQ := Lib.hid hqq
        clear hqq
        rintro e d2 ⟨rfl, hb⟩
        have HBm := Lib.hid (HB.out.trans (hb.mono HB.out.size))
        clear hb HB
        have HB := HBm
        clear HBm
        have hS2 : World.cell? d2 ⟨p1, o1 + i, none⟩ = some (.slice ua a1.length uc) ∧ World.cell? d2 ⟨p2, o2 + i, none⟩ = some (.slice va a2.length vc) := ⟨(HB.out.cell (p := ⟨p1, o1 + i, none⟩) HC1.out.1).trans HC1.out.2, (HB.out.cell (p := ⟨p2, o2 + i, none⟩) HC2.out.1).trans HC2.out.2⟩
        refine hK _ _ (fun _ _ => hS2) ?_
        clear hK hS
        have hS := hS2
        clear hS2
        refine till_take 9 (some 25) rfl rfl (by kernel_rfl) (by kernel_rfl) (by kernel_rfl) (by kernel_rfl) (by kernel_rfl) (by kernel_rfl) (fun _ _ _ h => h) (.inl ⟨by rfl, fun w' _ => (by go_simp; rfl)⟩) hS ?_
        go_frame
        refine till_done (by kernel_rfl) ?_ _
        clear hS
        cases qq with
        | false =>
          have HF : Hid (q = false) := Lib.hid (HQF.out (of_decide_eq_false HQQ.out.symm))
          go_wp2_with fail
          go_ret
          rw [HF.out]; exact ⟨rfl, HB.out⟩
        | true =>
          have HT : Hid ((xs.take (i + 1)).map (·.2) = (ys.take (i + 1)).map (·.2)) := Lib.hid (by rw [HE1.out, HE2.out, HS.out, of_decide_eq_true HQQ.out.symm])
          go_wp2_with fail
          go_roundw
          case rel => exact ⟨i + 1, by go_num, HLT.out, HT, HB⟩
          case measure => have := HLT.out; simp [intOf]; omega
      · obtain rfl : i = n := by omega
        have HQT : Hid (q = true) := Lib.hid (by
          have h9 := HS.out
          rw [List.take_of_length_le (by rw [← HN.out]; omega), List.take_of_length_le (by rw [← HM.out]; omega)] at h9
          rw [HQ.out]; exact decide_eq_true h9)
        go_wp2_with fail
        go_ret
        rw [HQT.out]; exact ⟨rfl, HB.out⟩
  · have HQF : Hid (q = false) := Lib.hid (by
      rw [HQ.out]
      refine decide_eq_false fun e => hnm ?_
      have h9 := congrArg List.length e
      rw [List.length_map, List.length_map] at h9
      rw [HN.out, HM.out]; exact h9)
    have hne : ((n : Int) == (m : Int)) = false := beq_eq_false_iff_ne.2 (by omega)
    have hne2 : ((n : Int) != (m : Int)) = true := by rw [bne, hne]; rfl
    go_enter Try.func16, Try.ntmps16
    go_wp2_with fail
    go_ret
    rw [HQF.out]; exact ⟨rfl, HB.out⟩
theorem rrows_of {w : World} {v1 v2 : Value} {ls ms : List (List Int)} (h1 : RowsV w v1 ls) (h2 : RowsV w v2 ms) : Calls Try.prog 16 #[v1, v2] w (Ret w (.bool (decide (ls = ms)))) := by
  obtain ⟨xs, a1, rfl, a3⟩ := h1.rd
  obtain ⟨ys, b1, rfl, b3⟩ := h2.rd
  exact rrows_any a1 b1 a3 b3

/-! ### a store not made -/
set_option maxHeartbeats 8000000 in
set_option maxRecDepth 100000 in
theorem dadd_not {w : World} {x : Option Addr} (h : NotMade w x) (bk : Int) (v : Value) : Calls Try.prog 12 #[.pointer x, .int .i64 bk, v] w (Ret w (.int .i64 1)) := by
  have hmk := smade_not h
  clear h
  refine (callsIn_wide (n := 9)).1 (callsIn_of_wp_marks Try.func12 rfl trivial ?_ rfl)
  simp only [Try.ntmps12, List.size_toArray, List.length_cons, List.length_nil, Nat.reduceAdd, Nat.reduceSub, Array.replicate_succ, Array.replicate_zero, List.push_toArray, List.append_toArray, List.nil_append, List.cons_append]
  refine wpIn_wide.2 ?_
  go_wp2_with fail
  refine hmk.mono ?_
  rintro e _ ⟨rfl, rfl⟩
  clear hmk
  go_wp2_with fail
  refine leave_aside (B := w.heap.size) _ _ ⟨List.Pairwise.nil, fun _ h => by cases h⟩ fun w' hw' => ?_
  exact ⟨_, results_tmp rfl _ _ _, rfl, below_aside (Below.refl _ _) hw' (Nat.le_refl _) (Nat.le_refl _)⟩

set_option maxHeartbeats 8000000 in
set_option maxRecDepth 100000 in
theorem dtake_not {w : World} {x : Option Addr} (h : NotMade w x) (bk : Int) : Calls Try.prog 13 #[.pointer x, .int .i64 bk] w (Ret w (.slice none 0 0)) := by
  have HU : Hid (Und w x (keyF 26 []) []) := Lib.hid fun W hW => (sunder_not (h.later hW) _).mono fun e W2 ⟨e1, e2⟩ => ⟨_, e1, by rw [← e2]; exact ⟨LO.nil _ _ _ _, Below.refl _ _, fun k e => by cases e⟩⟩
  have L : Hid (Below w.heap.size w w) := Lib.hid (Below.refl _ _)
  clear h
  refine (callsIn_wide (n := 9)).1 (callsIn_of_wp_marks Try.func13 rfl trivial ?_ rfl)
  simp only [Try.ntmps13, List.size_toArray, List.length_cons, List.length_nil, Nat.reduceAdd, Nat.reduceSub, Array.replicate_succ, Array.replicate_zero, List.push_toArray, List.append_toArray, List.nil_append, List.cons_append]
  refine wpIn_wide.2 ?_
  go_upto_region 2 with fail
  obtain ⟨w1, hw1⟩ : ∃ w1, w1 = ((w.alloc (.cells #[.pointer x] 30)).alloc (.cells #[.int .i64 bk] 3)).alloc (.cells #[.slice none 0 0] 35) := ⟨_, rfl⟩
  obtain ⟨BS, hBS⟩ : ∃ B, B = w.heap.size := ⟨_, rfl⟩
  obtain ⟨BK, hBK⟩ : ∃ B, B = w.heap.size + 1 := ⟨_, rfl⟩
  obtain ⟨BO, hBO⟩ : ∃ B, B = w.heap.size + 1 + 1 := ⟨_, rfl⟩
  rw [← hw1, ← hBO, ← hBK, ← hBS]
  have hbx := three_boxes w #[.pointer x] #[.int .i64 bk] #[.slice none 0 0] 30 3 35 w1 hw1
  rw [← hBO, ← hBK, ← hBS] at hbx
  have HBS := Lib.hid hbx.1; have HBK := Lib.hid hbx.2.1; have HBO := Lib.hid hbx.2.2.1
  have L1 := Lib.hid (show Below w.heap.size w w1 by rw [← hBS]; exact hbx.2.2.2)
  have HU1 := Lib.hid (HU.out.later (show Below w.heap.size w w1 by rw [← hBS]; exact hbx.2.2.2))
  have WBO : Hid (w.heap.size ≤ BO) := Lib.hid (by omega)
  have NBSBO : Hid (BS ≠ BO) := Lib.hid (by omega)
  have NBKBO : Hid (BK ≠ BO) := Lib.hid (by omega)
  clear hbx hw1 hBS hBK hBO L HU
  have L := L1
  have HU := HU1
  clear L1 HU1
  obtain ⟨a1, hwz⟩ : ∃ wz, wz = w1.drew := ⟨_, rfl⟩
  have hbz : Below w1.heap.size w1 a1 := by rw [hwz]; exact (Below.refl _ _).drew
  have Lm := Lib.hid (L.out.trans (hbz.mono L.out.size))
  have HBSm := Lib.hid (below_at' hbz HBS.out)
  have HBKm := Lib.hid (below_at' hbz HBK.out)
  have HBOm := Lib.hid (below_at' hbz HBO.out)
  have HUm := Lib.hid (HU.out.later hbz)
  clear hbz L HBS HBK HBO HU
  have L := Lm
  have HBS := HBSm
  have HBK := HBKm
  have HBO := HBOm
  have HU := HUm
  clear Lm HBSm HBKm HBOm HUm
  have hS : a1.heap[BS]? = some (.cells #[.pointer x] 30 (0, 0)) := HBS.out
  refine wp_region_only (fun w' => w'.heap[BS]? = some (.cells #[.pointer x] 30 (0, 0))) 3 3 (by kernel_rfl) rfl ?_
  rw [← hwz]
  clear hwz
  refine till_take 0 (some 8) rfl rfl (by kernel_rfl) (by kernel_rfl) (by kernel_rfl) (by kernel_rfl) (by kernel_rfl) (by kernel_rfl) (fun _ _ _ h => h) (.inl ⟨by rfl, fun w' hS' => (by have hc : w'.cell? ⟨BS, 0, none⟩ = some (.pointer x) := Lib.cell_of_heap (hS') 0; go_simp; rfl)⟩) hS ?_
  go_frame
  refine till_one 1 rfl (by kernel_rfl) fun K hK => ?_
  simp only [List.getElem_toArray, List.getElem_cons_succ, List.getElem_cons_zero]
  rw [if_pos (by rfl)]
  go_simp
  refine (table_any 26 _).mono ?_
  rintro e a2 ⟨rfl, hb⟩
  have Lm := Lib.hid (L.out.trans (hb.mono L.out.size))
  have HBSm := Lib.hid (below_at' hb HBS.out)
  have HBKm := Lib.hid (below_at' hb HBK.out)
  have HBOm := Lib.hid (below_at' hb HBO.out)
  have HUm := Lib.hid (HU.out.later hb)
  clear hb L HBS HBK HBO HU
  have L := Lm
  have HBS := HBSm
  have HBK := HBKm
  have HBO := HBOm
  have HU := HUm
  clear Lm HBSm HBKm HBOm HUm
  have hS2 : a2.heap[BS]? = some (.cells #[.pointer x] 30 (0, 0)) := HBS.out
  refine hK _ _ (fun _ _ => hS2) ?_
  clear hK hS
  have hS := hS2
  clear hS2
  refine till_one 2 rfl (by kernel_rfl) fun K hK => ?_
  simp only [List.getElem_toArray, List.getElem_cons_succ, List.getElem_cons_zero]
  rw [if_pos (by rfl)]
  go_simp
  refine (all_any _ (keyF 26 []) _).mono ?_
  rintro e a3 ⟨rfl, hw3⟩
  obtain ⟨A1, hA1⟩ : ∃ A1, A1 = (World.heap a2).size := ⟨_, rfl⟩
  obtain ⟨A2, hA2⟩ : ∃ A2, A2 = (World.heap a2).size + 1 := ⟨_, rfl⟩
  have hbx := two_boxes a2 #[.pointer x] #[.string (bs (keyF 26 []))] 30 9 a3 hw3
  rw [← hA2, ← hA1] at hbx ⊢
  have hb3 : Below (World.heap a2).size a2 a3 := by rw [← hA1]; exact hbx.2.2.1
  have R1 := Lib.hid hbx.1; have R2 := Lib.hid hbx.2.1
  clear hbx hA1 hA2 hw3
  have Lm := Lib.hid (L.out.trans (hb3.mono L.out.size))
  have HBSm := Lib.hid (below_at' hb3 HBS.out)
  have HBKm := Lib.hid (below_at' hb3 HBK.out)
  have HBOm := Lib.hid (below_at' hb3 HBO.out)
  have HUm := Lib.hid (HU.out.later hb3)
  clear hb3 L HBS HBK HBO HU
  have L := Lm
  have HBS := HBSm
  have HBK := HBKm
  have HBO := HBOm
  have HU := HUm
  clear Lm HBSm HBKm HBOm HUm
  have hS2 : a3.heap[BS]? = some (.cells #[.pointer x] 30 (0, 0)) := HBS.out
  refine hK _ _ (fun _ _ => hS2) ?_
  clear hK hS
  have hS := hS2
  clear hS2
  refine till_done (by kernel_rfl) ?_ _
  clear hS
  simp only [Only]
  go_wp2_with fail
  have SZ : Hid (w.heap.size ≤ (World.heap a3).size) := Lib.hid L.out.size
  refine (wpIn_wide (n := 9)).1 (wpIn_range_g (w0 := a3) (by omega) (gf := 74) (lb := #[.pointer (some ⟨A1, 0, none⟩), .pointer (some ⟨A2, 0, none⟩)]) rfl (enters_of Try.func74 (by kernel_rfl) rfl)
    (all_seq R1.out R2.out HU.out (by show 0 < 1099511627776; decide) (fun p hp => by cases hp) 8) (Below.refl _ _) (fun _ => rfl) KpP.trans KpP.aside
    (fun pre W => W.heap[BO]? = some (.cells #[.slice none 0 0] 35 (0, 0)) ∧ Below w.heap.size w W)
    (fun _ _ _ => False)
    (fun pre A B h a => ⟨cells_aside h.1 a, below_aside h.2 a SZ.out (Nat.le_refl _)⟩)
    (fun c pre A B h a => h)
    ⟨HBO.out, L.out⟩
    (fun _ _ _ => False) (fun y a' A B h a => h) ?assign ?body ?done ?stop)
  case assign =>
    intro l0 pre y W K hi hg hlen hK
    exact absurd hlen (Nat.not_lt_zero _)
  case body =>
    intro l0 pre y a' W hl hi hax hlen
    exact hax.elim
  case done =>
    rintro D xs W hD hS ⟨q0, qb⟩ hmk
    have c0 : W.cell? ⟨BO, 0, none⟩ = some (.slice none 0 0) := Lib.cell_of_heap q0 0
    have HD := Lib.hid hD; have MK := Lib.hid hmk; have QB := Lib.hid qb
    clear hD hS q0 qb hmk HBO HBS HBK L R1 R2 HU
    go_wp2_with fail
    refine leave_aside (B := (World.heap a3).size) _ _ (Marks.cons ⟨List.Pairwise.nil, fun _ h => by cases h⟩ HD.out MK.out (fun _ h => by cases h)) fun w' hw' => ?_
    exact ⟨_, results_tmp rfl _ _ _, rfl, below_aside QB.out hw' SZ.out (Nat.le_refl _)⟩
  case stop =>
    rintro D c pre W hD hSp h hmk
    exact h.elim
end Go.Proofs.Ythnjakomkdlglaa
