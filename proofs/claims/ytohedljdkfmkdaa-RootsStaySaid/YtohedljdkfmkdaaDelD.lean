/- The document's delay.Set: its contract. -/
import Derived.Test.YtohedljdkfmkdaaDelC
namespace Go.Proofs.Ytohedljdkfmkdaa
open Go.RowKit

/-- A block of the call's own turns, that is none of the store's. -/
theorem RLiv.turn {w0 w w' : World} {F0 : List Nat} {g R : Nat} {s : PS} {o : Obj} (L : RLiv w0 F0 w g s) (hR : w.heap[R]? = some o) (hk : rstKind o = false) (hn : w0.heap.size ≤ R) (k : Keep (· = R) w w') : RLiv w0 F0 w' g s := by
  obtain ⟨F, h1, h2, h3⟩ := L
  refine ⟨F, h1.keep k fun x hx e => ?_, h2.trans (k.mono fun x _ e => .inr (by rw [e]; exact hn)), h3⟩
  obtain ⟨o', ho', k1⟩ := h1.kind x hx
  rw [e, hR] at ho'; cases ho'
  rw [hk] at k1; cases k1
theorem Liv.turn {w0 w w' : World} {F0 : List Nat} {g R : Nat} {s : PS} {o : Obj} (L : Liv w0 F0 w g s) (hR : w.heap[R]? = some o) (hk : stoKind o = false) (hn : w0.heap.size ≤ R) (k : Keep (· = R) w w') : Liv w0 F0 w' g s := by
  obtain ⟨F, h1, h2, h3⟩ := L
  refine ⟨F, h1.keep k fun x hx e => ?_, h2.trans (k.mono fun x _ e => .inr (by rw [e]; exact hn)), h3⟩
  obtain ⟨o', ho', k1⟩ := h1.kind x hx
  rw [e, hR] at ho'; cases ho'
  rw [hk] at k1; cases k1

theorem idx30 (p q r : Value) (w : World) : (Instr.index 140 (.agg #[p, q, r]) (.int .i64 0)).run Try.prog w = .ok p w := by kernel_rfl
theorem idx31 (p q r : Value) (w : World) : (Instr.index 140 (.agg #[p, q, r]) (.int .i64 1)).run Try.prog w = .ok q w := by kernel_rfl
theorem idx32 (p q r : Value) (w : World) : (Instr.index 140 (.agg #[p, q, r]) (.int .i64 2)).run Try.prog w = .ok r w := by kernel_rfl

set_option maxHeartbeats 4000000 in
set_option maxRecDepth 100000 in
theorem rset28_any {w : World} {g : Nat} {s : PS} {F : List Nat} (h : RS w g s F) (hz : s.sz < 1099511627776) (hf : Fit s) (t : Int) {ids : List Int} {vi : Value} (hl : ids.length ≤ 100000000) (hi : I64s ids) (hrd : Rd w intE 1 vi ids) (v b wt : Int) :
    Calls Try.prog 32 #[.pointer (some ⟨g, 0, none⟩), .int .i64 t, vi, .int .i64 v, .int .i64 b, .int .i64 wt] w (RRet w g F (putD s t ids v b wt) (.int .i64 (putDE t ids v b wt))) := by
  have L := Lib.hid (RLiv.start h); have HZ := Lib.hid hz; have HF := Lib.hid hf
  clear h hz hf
  go_enter Try.func32, Try.ntmps32
  go_wp2_with fail
  refine (refKey_any t ids vi _ hl hi hrd).mono ?_
  rintro e w1 ⟨rfl, hb1⟩
  have L1 := Lib.hid (L.out.later hb1); have HID1 : Hid (ids.length ≤ 100000000 ∧ I64s ids ∧ Rd w1 intE 1 vi ids) := Lib.hid ⟨hl, hi, hrd.later hb1⟩
  obtain ⟨k, hk⟩ : ∃ k, k = keyF t ids := ⟨_, rfl⟩
  rw [← hk]
  have hbad : badD t ids v b wt = (k.isEmpty || !goodB v || !goodB b || !goodB wt) := by rw [hk]; rfl
  have HBAD := Lib.hid hbad; have HK := Lib.hid hk
  clear hb1 hl hi hrd L hbad hk
  by_cases hk0 : k = []
  · subst hk0
    have hbd : badD t ids v b wt = true := by rw [HBAD.out]; simp
    obtain ⟨hp1, hp2⟩ := putD_bad (s := s) hbd
    have HP1 := Lib.hid hp1; have HP2 := Lib.hid hp2
    have h1t : (bs ([] : Txt)).toList.isEmpty = true := by rw [txt_empty]; rfl
    clear hp1 hp2 hbd
    go_wp2_with fail
    go_ret
    rw [HP1.out, HP2.out]
    exact L1.out.ret
  have jk : k.isEmpty = false := by simpa using hk0
  have h1t : (bs k).toList.isEmpty = false := by rw [txt_empty]; exact jk
  have JK := Lib.hid jk
  clear hk0 jk
  go_wp2_with fail
  clear h1t
  go_loopw [26] (fun vi' wr => (vi' = .int .i64 0 ∨ (vi' = .int .i64 1 ∧ Hid (goodB v = true)) ∨ (vi' = .int .i64 2 ∧ Hid (goodB v = true ∧ goodB b = true)) ∨ (vi' = .int .i64 3 ∧ Hid (goodB v = true ∧ goodB b = true ∧ goodB wt = true))) ∧ wr = w1) (fun vi' _ => 3 - (intOf vi').toNat)
  case atStart => exact ⟨.inl rfl, rfl⟩
  case round =>
    obtain ⟨hv, rfl⟩ := hrel
    have i0 := fun w => idx30 (.int .i64 v) (.int .i64 b) (.int .i64 wt) w
    have i1 := fun w => idx31 (.int .i64 v) (.int .i64 b) (.int .i64 wt) w
    have i2 := fun w => idx32 (.int .i64 v) (.int .i64 b) (.int .i64 wt) w
    rcases hv with rfl | ⟨rfl, G⟩ | ⟨rfl, G⟩ | ⟨rfl, G⟩
    · by_cases n1 : v < 0
      · have hbd : badD t ids v b wt = true := by
          have h9 : goodB v = false := goodB_no.2 (.inl n1)
          rw [HBAD.out, h9]; simp
        obtain ⟨hp1, hp2⟩ := putD_bad (s := s) hbd
        have HP1 := Lib.hid hp1; have HP2 := Lib.hid hp2
        clear hp1 hp2 hbd
        go_wp2_with fail
        go_ret
        rw [HP1.out, HP2.out]
        exact L1.out.ret
      by_cases n2 : 1099511627776 < v
      · have hbd : badD t ids v b wt = true := by
          have h9 : goodB v = false := goodB_no.2 (.inr n2)
          rw [HBAD.out, h9]; simp
        obtain ⟨hp1, hp2⟩ := putD_bad (s := s) hbd
        have HP1 := Lib.hid hp1; have HP2 := Lib.hid hp2
        clear hp1 hp2 hbd
        go_wp2_with fail
        go_ret
        rw [HP1.out, HP2.out]
        exact L1.out.ret
      · have hgx : Hid (goodB v = true) := Lib.hid (goodB_yes.2 ⟨by omega, by omega⟩)
        go_wp2_with fail
        go_roundw
        case rel => exact ⟨.inr (.inl ⟨rfl, hgx⟩), by first | rfl | trivial⟩
        case measure => simp [intOf]
    · by_cases n1 : b < 0
      · have hbd : badD t ids v b wt = true := by
          have h9 : goodB b = false := goodB_no.2 (.inl n1)
          rw [HBAD.out, h9]; simp
        obtain ⟨hp1, hp2⟩ := putD_bad (s := s) hbd
        have HP1 := Lib.hid hp1; have HP2 := Lib.hid hp2
        clear hp1 hp2 hbd
        go_wp2_with fail
        go_ret
        rw [HP1.out, HP2.out]
        exact L1.out.ret
      by_cases n2 : 1099511627776 < b
      · have hbd : badD t ids v b wt = true := by
          have h9 : goodB b = false := goodB_no.2 (.inr n2)
          rw [HBAD.out, h9]; simp
        obtain ⟨hp1, hp2⟩ := putD_bad (s := s) hbd
        have HP1 := Lib.hid hp1; have HP2 := Lib.hid hp2
        clear hp1 hp2 hbd
        go_wp2_with fail
        go_ret
        rw [HP1.out, HP2.out]
        exact L1.out.ret
      · have hgx : Hid (goodB b = true) := Lib.hid (goodB_yes.2 ⟨by omega, by omega⟩)
        go_wp2_with fail
        go_roundw
        case rel => exact ⟨.inr (.inr (.inl ⟨rfl, Lib.hid ⟨G.out, hgx.out⟩⟩)), by first | rfl | trivial⟩
        case measure => simp [intOf]
    · by_cases n1 : wt < 0
      · have hbd : badD t ids v b wt = true := by
          have h9 : goodB wt = false := goodB_no.2 (.inl n1)
          rw [HBAD.out, h9]; simp
        obtain ⟨hp1, hp2⟩ := putD_bad (s := s) hbd
        have HP1 := Lib.hid hp1; have HP2 := Lib.hid hp2
        clear hp1 hp2 hbd
        go_wp2_with fail
        go_ret
        rw [HP1.out, HP2.out]
        exact L1.out.ret
      by_cases n2 : 1099511627776 < wt
      · have hbd : badD t ids v b wt = true := by
          have h9 : goodB wt = false := goodB_no.2 (.inr n2)
          rw [HBAD.out, h9]; simp
        obtain ⟨hp1, hp2⟩ := putD_bad (s := s) hbd
        have HP1 := Lib.hid hp1; have HP2 := Lib.hid hp2
        clear hp1 hp2 hbd
        go_wp2_with fail
        go_ret
        rw [HP1.out, HP2.out]
        exact L1.out.ret
      · have hgx : Hid (goodB wt = true) := Lib.hid (goodB_yes.2 ⟨by omega, by omega⟩)
        go_wp2_with fail
        go_roundw
        case rel => exact ⟨.inr (.inr (.inr ⟨rfl, Lib.hid ⟨G.out.1, G.out.2, hgx.out⟩⟩)), by first | rfl | trivial⟩
        case measure => simp [intOf]
    · obtain ⟨hgv, hgb, hgw⟩ := G.out
      have q1 := goodB_yes.1 hgv; have q2 := goodB_yes.1 hgb; have q3 := goodB_yes.1 hgw
      have hok : badD t ids v b wt = false := by rw [HBAD.out, JK.out, hgv, hgb, hgw]; rfl
      have hbn : Hid (I64s (rowD (nextD (getD (getP s.t) t ids) v b wt))) := Lib.hid ((Bd.get _ _ _).nextD hgv hgb hgw).row
      obtain ⟨hp1, hp2⟩ := putD_ok (s := s) hok
      have HP1 := Lib.hid hp1; have HP2 := Lib.hid hp2
      clear hok hp1 hp2 hgv hgb hgw G i0 i1 i2
      go_wp2_with fail
      obtain ⟨F1, p1, _⟩ := L1.out
      have P1 := Lib.hid p1
      clear p1
      refine (rget28_any P1.out HZ.out HF.out t HID1.out.1 HID1.out.2.1 HID1.out.2.2).mono ?_
      rintro e w2 ⟨rfl, hb2⟩
      obtain ⟨u, hu⟩ : ∃ u, u = getD (getP s.t) t ids := ⟨_, rfl⟩
      rw [← hu] at hbn HP1 ⊢
      have L2 := Lib.hid (L1.out.later hb2)
      clear hb2 hu L1 P1 HID1
      go_wp2_with fail
      refine (rsettle_any u b _).mono ?_
      rintro e w3 ⟨rfl, hb3⟩
      have L3 := Lib.hid (L2.out.later hb3)
      obtain ⟨z, hz⟩ : ∃ z, z = settleD u b := ⟨_, rfl⟩
      rw [← hz]
      have hnx : nextD u v b wt = settleD ⟨z.has, z.now, v, b + wt, true⟩ b := by rw [hz]; rfl
      rw [hnx] at hbn HP1
      clear hb3 hz hnx L2
      obtain ⟨za, zn, zx, zt, zm⟩ := z
      go_wp2_with (refine wpList_alloc_g rfl _ rfl _ _ Try.zeroRDV rfl ?_)
      intro R w4 h4
      go_wp2_with (refine wpList_store_row_g (t := 64) (old := #[.bool false, .int .i64 0, .int .i64 0, .int .i64 0, .bool false]) rfl 64 _ _ rfl R #[.bool za, .int .i64 zn, .int .i64 zx, .int .i64 zt, .bool zm] rfl rfl h4.out.cells Try.sizeRDV rfl (by simp [Value.oneCell']) ?_)
      intro w5 h5 k45 _
      go_wp2_with (refine wpList_store1_g rfl 4 _ _ rfl R 4 _ rfl rfl rfl rfl 64 _ h5 (by kernel_rfl) (by simp) #[.bool za, .int .i64 zn, .int .i64 zx, .int .i64 zt, .bool true] rfl ?_)
      intro w6 h6 k56 _
      go_wp2_with (refine wpList_store1_g rfl 3 _ _ rfl R 2 _ rfl rfl rfl rfl 64 _ h6 (by kernel_rfl) (by simp) #[.bool za, .int .i64 zn, .int .i64 v, .int .i64 zt, .bool true] rfl ?_)
      intro w7 h7 k67 _
      go_wp2_with (refine wpList_store1_g rfl 3 _ _ rfl R 3 _ rfl rfl rfl rfl 64 _ h7 (by kernel_rfl) (by simp) #[.bool za, .int .i64 zn, .int .i64 v, .int .i64 (b + wt), .bool true] rfl ?_)
      intro w8 h8 k78 _
      have hb38 : Below w3.heap.size w3 w8 := by
        have hR : w3.heap.size ≤ R := Nat.le_of_eq h4.out.eq.symm
        have s4 := h4.out.below
        have s5 := s4.trans (k45.below (B := w3.heap.size) (fun x hx e => by omega) s4.size)
        have s6 := s5.trans (k56.below (B := w3.heap.size) (fun x hx e => by omega) s5.size)
        have s7 := s6.trans (k67.below (B := w3.heap.size) (fun x hx e => by omega) s6.size)
        exact s7.trans (k78.below (B := w3.heap.size) (fun x hx e => by omega) s7.size)
      have L8 := Lib.hid (L3.out.later hb38); have HX := Lib.hid h8
      have HRW : Hid (w.heap.size ≤ R) := Lib.hid (by have h9 := L3.out.keep.size; have h10 := h4.out.eq; omega)
      clear hb38 h4 h5 h6 h7 h8 k45 k56 k67 k78 L3
      go_wp2_with (refine wpList_load_row rfl 64 _ rfl R rfl 64 _ _ _ HX.out Try.underlying64 rfl Try.sizeRDV ?_)
      refine (rsettle_any ⟨za, zn, v, b + wt, true⟩ b _).mono ?_
      rintro e w9 ⟨rfl, hb9⟩
      have L9 := Lib.hid (L8.out.later hb9); have HX9 := Lib.hid (below_at' hb9 HX.out)
      obtain ⟨y, hy⟩ : ∃ y, y = settleD ⟨za, zn, v, b + wt, true⟩ b := ⟨_, rfl⟩
      have hbn2 : Hid (I64s (rowD y)) := by rw [hy]; exact hbn
      have HP3 : Hid (putD s t ids v b wt = s.setRow (keyF t ids) (rowD y)) := by rw [hy]; exact HP1
      rw [← hy]
      clear hb9 hy L8 HX hbn HP1
      obtain ⟨ya, yn, yx, yt, ym⟩ := y
      have hbn3 : Hid (I64s [bitD ya, yn, bitD ym, yx, yt]) := hbn2
      go_wp2_with (refine wpList_store_row_g (t := 64) (old := #[.bool za, .int .i64 zn, .int .i64 v, .int .i64 (b + wt), .bool true]) rfl 64 _ _ rfl R #[.bool ya, .int .i64 yn, .int .i64 yx, .int .i64 yt, .bool ym] rfl rfl HX9.out Try.sizeRDV rfl (by simp [Value.oneCell']) ?_)
      intro wb hb k9b z9b
      have LB : Hid (RLiv w F wb g s) := Lib.hid (L9.out.turn HX9.out rfl HRW.out k9b)
      have hS : wb.drew.cell? ⟨R, 0, none⟩ = some (.bool ya) ∧ wb.drew.cell? ⟨R, 1, none⟩ = some (.int .i64 yn) ∧ wb.drew.cell? ⟨R, 2, none⟩ = some (.int .i64 yx) ∧ wb.drew.cell? ⟨R, 3, none⟩ = some (.int .i64 yt) ∧ wb.drew.cell? ⟨R, 4, none⟩ = some (.bool ym) := ⟨Lib.cell_of_heap hb 0, Lib.cell_of_heap hb 1, Lib.cell_of_heap hb 2, Lib.cell_of_heap hb 3, Lib.cell_of_heap hb 4⟩
      have HXB := Lib.hid hb; have HBB : Hid (Below wb.heap.size wb wb) := Lib.hid (Below.refl _ _)
      clear hb k9b z9b L9 HX9
      go_wp2_with fail
      refine wp_region_till (fun w' => w'.cell? ⟨R, 0, none⟩ = some (.bool ya) ∧ w'.cell? ⟨R, 1, none⟩ = some (.int .i64 yn) ∧ w'.cell? ⟨R, 2, none⟩ = some (.int .i64 yx) ∧ w'.cell? ⟨R, 3, none⟩ = some (.int .i64 yt) ∧ w'.cell? ⟨R, 4, none⟩ = some (.bool ym)) 15 16 (by kernel_rfl) rfl ?_
      refine till_take 0 (some 52) rfl rfl (by kernel_rfl) (by kernel_rfl) (by kernel_rfl) (by kernel_rfl) (by kernel_rfl) (by kernel_rfl) (fun _ _ _ h => h) (.inl ⟨by rfl, fun w' _ => (by go_simp; rfl)⟩) hS ?_
      go_frame
      refine till_take 1 (some 53) rfl rfl (by kernel_rfl) (by kernel_rfl) (by kernel_rfl) (by kernel_rfl) (by kernel_rfl) (by kernel_rfl) (fun _ _ _ h => h) (.inl ⟨by rfl, fun w' _ => (by go_simp; rfl)⟩) hS ?_
      go_frame
      refine till_take 2 (some 54) rfl rfl (by kernel_rfl) (by kernel_rfl) (by kernel_rfl) (by kernel_rfl) (by kernel_rfl) (by kernel_rfl) (fun _ _ _ h => h) (.inl ⟨by rfl, fun w' _ => (by go_simp; rfl)⟩) hS ?_
      go_frame
      refine till_take 3 (some 55) rfl rfl (by kernel_rfl) (by kernel_rfl) (by kernel_rfl) (by kernel_rfl) (by kernel_rfl) (by kernel_rfl) (fun _ _ _ h => h) (.inl ⟨by rfl, fun w' hS' => (by obtain ⟨hc1, hc2, hc3, hc4, hc5⟩ := hS'; go_simp; rfl)⟩) hS ?_
      go_frame
      refine till_take 5 (some 57) rfl rfl (by kernel_rfl) (by kernel_rfl) (by kernel_rfl) (by kernel_rfl) (by kernel_rfl) (by kernel_rfl) (fun _ _ _ h => h) (.inl ⟨by rfl, fun w' _ => (by go_simp; rfl)⟩) hS ?_
      go_frame
      refine till_take 6 (some 58) rfl rfl (by kernel_rfl) (by kernel_rfl) (by kernel_rfl) (by kernel_rfl) (by kernel_rfl) (by kernel_rfl) (fun _ _ _ h => h) (.inl ⟨by rfl, fun w' hS' => (by obtain ⟨hc1, hc2, hc3, hc4, hc5⟩ := hS'; go_simp; rfl)⟩) hS ?_
      go_frame
      refine till_take 7 (some 59) rfl rfl (by kernel_rfl) (by kernel_rfl) (by kernel_rfl) (by kernel_rfl) (by kernel_rfl) (by kernel_rfl) (fun _ _ _ h => h) (.inl ⟨by rfl, fun w' _ => (by go_simp; rfl)⟩) hS ?_
      go_frame
      refine till_take 8 (some 60) rfl rfl (by kernel_rfl) (by kernel_rfl) (by kernel_rfl) (by kernel_rfl) (by kernel_rfl) (by kernel_rfl) (fun _ _ _ h => h) (.inl ⟨by rfl, fun w' hS' => (by obtain ⟨hc1, hc2, hc3, hc4, hc5⟩ := hS'; go_simp; rfl)⟩) hS ?_
      go_frame
      refine till_take 10 (some 62) rfl rfl (by kernel_rfl) (by kernel_rfl) (by kernel_rfl) (by kernel_rfl) (by kernel_rfl) (by kernel_rfl) (fun _ _ _ h => h) (.inl ⟨by rfl, fun w' _ => (by go_simp; rfl)⟩) hS ?_
      go_frame
      refine till_take 11 (some 63) rfl rfl (by kernel_rfl) (by kernel_rfl) (by kernel_rfl) (by kernel_rfl) (by kernel_rfl) (by kernel_rfl) (fun _ _ _ h => h) (.inl ⟨by rfl, fun w' hS' => (by obtain ⟨hc1, hc2, hc3, hc4, hc5⟩ := hS'; go_simp; rfl)⟩) hS ?_
      go_frame
      refine till_take 12 (some 64) rfl rfl (by kernel_rfl) (by kernel_rfl) (by kernel_rfl) (by kernel_rfl) (by kernel_rfl) (by kernel_rfl) (fun _ _ _ h => h) (.inl ⟨by rfl, fun w' _ => (by go_simp; rfl)⟩) hS ?_
      go_frame
      refine till_take 13 (some 65) rfl rfl (by kernel_rfl) (by kernel_rfl) (by kernel_rfl) (by kernel_rfl) (by kernel_rfl) (by kernel_rfl) (fun _ _ _ h => h) (.inl ⟨by rfl, fun w' hS' => (by obtain ⟨hc1, hc2, hc3, hc4, hc5⟩ := hS'; go_simp; rfl)⟩) hS ?_
      go_frame
      refine till_one 4 rfl (by kernel_rfl) fun K hK => ?_
      simp only [List.getElem_toArray, List.getElem_cons_succ, List.getElem_cons_zero]
      rw [if_pos (by rfl)]
      go_simp
      refine (rbit_any ya _).mono ?_
      rintro e w8 ⟨rfl, rfl⟩
      refine hK _ _ (fun _ _ => hS) ?_
      clear hK
      refine till_one 9 rfl (by kernel_rfl) fun K hK => ?_
      simp only [List.getElem_toArray, List.getElem_cons_succ, List.getElem_cons_zero]
      rw [if_pos (by rfl)]
      go_simp
      refine (rbit_any ym _).mono ?_
      rintro e w8 ⟨rfl, rfl⟩
      refine hK _ _ (fun _ _ => hS) ?_
      clear hK
      refine till_one 14 rfl (by kernel_rfl) fun K hK => ?_
      simp only [List.getElem_toArray, List.getElem_cons_succ, List.getElem_cons_zero]
      rw [if_pos (by rfl)]
      go_simp
      obtain ⟨w2, hw2⟩ : ∃ w2, w2 = (World.alloc wb (.cells #[.int .i64 (bitD ya), .int .i64 yn, .int .i64 (bitD ym), .int .i64 yx, .int .i64 yt] 3)).drew := ⟨_, rfl⟩
      obtain ⟨Q, hQ⟩ : ∃ Q, Q = (World.heap wb).size := ⟨_, rfl⟩
      rw [← hw2, ← hQ]
      have hbx : Below (World.heap wb).size wb w2 := by rw [hw2]; exact ((Below.refl _ _).alloc (Nat.le_refl _) _).drew
      have hx2 : w2.heap[Q]? = some (.cells ([bitD ya, yn, bitD ym, yx, yt].map (Value.int .i64)).toArray 3 (0, 0)) := by rw [hw2, hQ]; exact heap_alloc_new _ _
      have HO := Lib.hid (own_lit (B := wb.heap.size) hx2 (by rw [hQ]; exact HBB.out.size) (by unfold maxLen; simp))
      have HB2 := Lib.hid (HBB.out.trans (hbx.mono HBB.out.size) : Below wb.heap.size wb w2)
      have hx3 := below_at' hbx HXB.out
      refine hK _ _ (fun _ _ => ⟨Lib.cell_of_heap hx3 0, Lib.cell_of_heap hx3 1, Lib.cell_of_heap hx3 2, Lib.cell_of_heap hx3 3, Lib.cell_of_heap hx3 4⟩) ?_
      clear hK hS
      have hS : w2.cell? ⟨R, 0, none⟩ = some (.bool ya) ∧ w2.cell? ⟨R, 1, none⟩ = some (.int .i64 yn) ∧ w2.cell? ⟨R, 2, none⟩ = some (.int .i64 yx) ∧ w2.cell? ⟨R, 3, none⟩ = some (.int .i64 yt) ∧ w2.cell? ⟨R, 4, none⟩ = some (.bool ym) := ⟨Lib.cell_of_heap hx3 0, Lib.cell_of_heap hx3 1, Lib.cell_of_heap hx3 2, Lib.cell_of_heap hx3 3, Lib.cell_of_heap hx3 4⟩
      clear hw2 hQ hbx hx2 hx3
      refine till_one 15 rfl (by kernel_rfl) fun K hK => ?_
      simp only [List.getElem_toArray, List.getElem_cons_succ, List.getElem_cons_zero]
      rw [if_pos (by rfl)]
      go_simp
      have LC := Lib.hid (LB.out.later HB2.out)
      refine (LC.out.call fun F h => rsetRow_any h HZ.out k (by simp) hbn3.out (RowRet.rd HO.out)).mono ?_
      rintro e wd ⟨rfl, LD, _⟩
      have LD := Lib.hid LD
      refine hK _ _ (fun h => absurd rfl h) ?_
      clear hK hS
      refine till_done (by kernel_rfl) ?_ _
      go_wp2_with fail
      go_ret
      rw [HP3.out, HP2.out, ← HK.out]
      exact LD.out.ret
end Go.Proofs.Ytohedljdkfmkdaa
