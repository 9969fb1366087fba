/- delay's and the document's Get: their contracts. -/
import Derived.Test.YtohedljdkfmkdaaDelA
namespace Go.Proofs.Ytohedljdkfmkdaa
open Go.RowKit

def getD (f : Txt → Option Txt) (t : Int) (ids : List Int) : DV := readD (rowF (valF f (keyF t ids)))
theorem five {l : List Int} (h : l.length = 5) : ∃ a b c d e, l = [a, b, c, d, e] := by
  match l, h with
  | [a, b, c, d, e], _ => exact ⟨a, b, c, d, e, rfl⟩

set_option maxHeartbeats 4000000 in
set_option maxRecDepth 100000 in
theorem dget_any {w : World} {x : Option Addr} {m : Bool} {f : Txt → Option Txt} (h : Look w x m f) (hf : FitF f) (t : Int) {ids : List Int} {vi : Value} (hl : ids.length ≤ 100000000) (hi : I64s ids) (hrd : Rd w intE 1 vi ids) :
    Calls Try.prog 31 #[.pointer x, .int .i64 t, vi] w (Ret w (.agg (dvC (getD f t ids)))) := by
  have H := Lib.hid h; have HF := Lib.hid hf
  clear h hf
  go_enter Try.func31, Try.ntmps31
  go_wp2_with (refine wpList_alloc_g rfl _ rfl _ _ Try.zeroDDV rfl ?_)
  intro R w1 h1
  have HRW : Hid (w.heap.size ≤ R) := Lib.hid (Nat.le_of_eq h1.out.eq.symm)
  have HR1 := Lib.hid h1.out.cells; have HB1 := Lib.hid h1.out.below
  clear h1
  go_wp2_with fail
  refine (key_any t ids vi _ hl hi (hrd.later HB1.out)).mono ?_
  rintro e w2 ⟨rfl, hb2⟩
  have HR2 := Lib.hid ((Keep.of_below (S := fun _ => False) hb2).at HR1.out id); have HB2 := Lib.hid (HB1.out.trans (hb2.mono HB1.out.size))
  clear hb2 HR1 HB1 hrd hl hi
  go_wp2_with fail
  refine (row_any (H.out.later HB2.out) HF.out (keyF t ids)).mono ?_
  rintro e w3 ⟨v, rfl, ho, hb3⟩
  obtain ⟨l, hll⟩ : ∃ l, l = rowF (valF f (keyF t ids)) := ⟨_, rfl⟩
  rw [← hll] at ho
  have HG : Hid (getD f t ids = readD l) := Lib.hid (by rw [hll]; rfl)
  have hrd := RowRet.rd ho
  have HR3 := Lib.hid ((Keep.of_below (S := fun _ => False) hb3).at HR2.out id); have HB3 := Lib.hid (HB2.out.trans (hb3.mono HB2.out.size))
  clear ho hll HR2 HB2 hb3
  obtain ⟨ad, cap, rfl, c1, c2⟩ := hrd.shape
  obtain ⟨n, hn⟩ : ∃ n, n = l.length := ⟨_, rfl⟩
  rw [← hn] at c1 ⊢
  by_cases h5 : n = 5
  · subst h5
    obtain ⟨a, b, c, d, e, rfl⟩ := five hn.symm
    obtain ⟨q, off, rfl, hq, t0⟩ := hrd.at 0 (by simp)
    obtain ⟨q1, off1, he1, _, t1⟩ := hrd.at 1 (by simp)
    cases he1
    obtain ⟨q1, off1, he1, _, t2⟩ := hrd.at 2 (by simp)
    cases he1
    obtain ⟨q1, off1, he1, _, t3⟩ := hrd.at 3 (by simp)
    cases he1
    obtain ⟨q1, off1, he1, _, t4⟩ := hrd.at 4 (by simp)
    cases he1
    have hb4 : Below w3.heap.size w3 w3.drew := Below.drew (Below.refl _ _)
    have HR4 := Lib.hid ((Keep.of_below (S := fun _ => False) hb4).at HR3.out id); have HB4 := Lib.hid (HB3.out.trans (hb4.mono HB3.out.size))
    have hS : w3.drew.cell? ⟨q, off, none⟩ = some (.int .i64 a) ∧ w3.drew.cell? ⟨q, off + 1, none⟩ = some (.int .i64 b) ∧ w3.drew.cell? ⟨q, off + 2, none⟩ = some (.int .i64 c) ∧ w3.drew.cell? ⟨q, off + 3, none⟩ = some (.int .i64 d) ∧ w3.drew.cell? ⟨q, off + 4, none⟩ = some (.int .i64 e) := ⟨t0, t1, t2, t3, t4⟩
    clear hb4 HR3 HB3 hq t0 t1 t2 t3 t4 hrd hn
    go_wp2_with fail
    refine wp_region_till (fun w' => w'.cell? ⟨q, off, none⟩ = some (.int .i64 a) ∧ w'.cell? ⟨q, off + 1, none⟩ = some (.int .i64 b) ∧ w'.cell? ⟨q, off + 2, none⟩ = some (.int .i64 c) ∧ w'.cell? ⟨q, off + 3, none⟩ = some (.int .i64 d) ∧ w'.cell? ⟨q, off + 4, none⟩ = some (.int .i64 e)) 18 19 (by kernel_rfl) rfl ?_
    refine till_take 0 (some 17) rfl rfl (by kernel_rfl) (by kernel_rfl) (by kernel_rfl) (by kernel_rfl) (by kernel_rfl) (by kernel_rfl) (fun _ _ _ h => h) (.inl ⟨by rfl, fun w' _ => (by go_simp; rfl)⟩) hS ?_
    go_frame
    refine till_take 1 (some 18) rfl rfl (by kernel_rfl) (by kernel_rfl) (by kernel_rfl) (by kernel_rfl) (by kernel_rfl) (by kernel_rfl) (fun _ _ _ h => h) (.inl ⟨by rfl, fun w' _ => (by go_simp; rfl)⟩) hS ?_
    go_frame
    refine till_take 2 (some 19) rfl rfl (by kernel_rfl) (by kernel_rfl) (by kernel_rfl) (by kernel_rfl) (by kernel_rfl) (by kernel_rfl) (fun _ _ _ h => h) (.inl ⟨by rfl, fun w' hS' => (by obtain ⟨hc1, hc2, hc3, hc4, hc5⟩ := hS'; go_simp; rfl)⟩) hS ?_
    go_frame
    refine till_take 3 (some 20) rfl rfl (by kernel_rfl) (by kernel_rfl) (by kernel_rfl) (by kernel_rfl) (by kernel_rfl) (by kernel_rfl) (fun _ _ _ h => h) (.inl ⟨by rfl, fun w' _ => (by go_simp; rfl)⟩) hS ?_
    go_frame
    refine till_take 4 (some 21) rfl rfl (by kernel_rfl) (by kernel_rfl) (by kernel_rfl) (by kernel_rfl) (by kernel_rfl) (by kernel_rfl) (fun _ _ _ h => h) (.inl ⟨by rfl, fun w' _ => (by go_simp; rfl)⟩) hS ?_
    go_frame
    refine till_take 5 (some 22) rfl rfl (by kernel_rfl) (by kernel_rfl) (by kernel_rfl) (by kernel_rfl) (by kernel_rfl) (by kernel_rfl) (fun _ _ _ h => h) (.inl ⟨by rfl, fun w' _ => (by go_simp; rfl)⟩) hS ?_
    go_frame
    refine till_take 6 (some 23) rfl rfl (by kernel_rfl) (by kernel_rfl) (by kernel_rfl) (by kernel_rfl) (by kernel_rfl) (by kernel_rfl) (fun _ _ _ h => h) (.inl ⟨by rfl, fun w' hS' => (by obtain ⟨hc1, hc2, hc3, hc4, hc5⟩ := hS'; go_simp; rfl)⟩) hS ?_
    go_frame
    refine till_take 7 (some 24) rfl rfl (by kernel_rfl) (by kernel_rfl) (by kernel_rfl) (by kernel_rfl) (by kernel_rfl) (by kernel_rfl) (fun _ _ _ h => h) (.inl ⟨by rfl, fun w' _ => (by go_simp; rfl)⟩) hS ?_
    go_frame
    refine till_take 8 (some 25) rfl rfl (by kernel_rfl) (by kernel_rfl) (by kernel_rfl) (by kernel_rfl) (by kernel_rfl) (by kernel_rfl) (fun _ _ _ h => h) (.inl ⟨by rfl, fun w' _ => (by go_simp; rfl)⟩) hS ?_
    go_frame
    refine till_take 9 (some 26) rfl rfl (by kernel_rfl) (by kernel_rfl) (by kernel_rfl) (by kernel_rfl) (by kernel_rfl) (by kernel_rfl) (fun _ _ _ h => h) (.inl ⟨by rfl, fun w' hS' => (by obtain ⟨hc1, hc2, hc3, hc4, hc5⟩ := hS'; go_simp; rfl)⟩) hS ?_
    go_frame
    refine till_take 10 (some 27) rfl rfl (by kernel_rfl) (by kernel_rfl) (by kernel_rfl) (by kernel_rfl) (by kernel_rfl) (by kernel_rfl) (fun _ _ _ h => h) (.inl ⟨by rfl, fun w' _ => (by go_simp; rfl)⟩) hS ?_
    go_frame
    refine till_take 11 (some 28) rfl rfl (by kernel_rfl) (by kernel_rfl) (by kernel_rfl) (by kernel_rfl) (by kernel_rfl) (by kernel_rfl) (fun _ _ _ h => h) (.inl ⟨by rfl, fun w' _ => (by go_simp; rfl)⟩) hS ?_
    go_frame
    refine till_take 12 (some 29) rfl rfl (by kernel_rfl) (by kernel_rfl) (by kernel_rfl) (by kernel_rfl) (by kernel_rfl) (by kernel_rfl) (fun _ _ _ h => h) (.inl ⟨by rfl, fun w' _ => (by go_simp; rfl)⟩) hS ?_
    go_frame
    refine till_take 13 (some 30) rfl rfl (by kernel_rfl) (by kernel_rfl) (by kernel_rfl) (by kernel_rfl) (by kernel_rfl) (by kernel_rfl) (fun _ _ _ h => h) (.inl ⟨by rfl, fun w' hS' => (by obtain ⟨hc1, hc2, hc3, hc4, hc5⟩ := hS'; go_simp; rfl)⟩) hS ?_
    go_frame
    refine till_take 14 (some 31) rfl rfl (by kernel_rfl) (by kernel_rfl) (by kernel_rfl) (by kernel_rfl) (by kernel_rfl) (by kernel_rfl) (fun _ _ _ h => h) (.inl ⟨by rfl, fun w' _ => (by go_simp; rfl)⟩) hS ?_
    go_frame
    refine till_take 15 (some 32) rfl rfl (by kernel_rfl) (by kernel_rfl) (by kernel_rfl) (by kernel_rfl) (by kernel_rfl) (by kernel_rfl) (fun _ _ _ h => h) (.inl ⟨by rfl, fun w' _ => (by go_simp; rfl)⟩) hS ?_
    go_frame
    refine till_take 16 (some 33) rfl rfl (by kernel_rfl) (by kernel_rfl) (by kernel_rfl) (by kernel_rfl) (by kernel_rfl) (by kernel_rfl) (fun _ _ _ h => h) (.inl ⟨by rfl, fun w' hS' => (by obtain ⟨hc1, hc2, hc3, hc4, hc5⟩ := hS'; go_simp; rfl)⟩) hS ?_
    go_frame
    refine till_take 17 (some 34) rfl rfl (by kernel_rfl) (by kernel_rfl) (by kernel_rfl) (by kernel_rfl) (by kernel_rfl) (by kernel_rfl) (fun _ _ _ h => h) (.inl ⟨by rfl, fun w' _ => (by go_simp; rfl)⟩) hS ?_
    go_frame
    refine till_one 18 rfl (by kernel_rfl) fun K hK => ?_
    simp only [List.getElem_toArray, List.getElem_cons_succ, List.getElem_cons_zero]
    rw [if_pos (by rfl)]
    refine wp_store_row_g (t := 53) (old := #[.bool false, .int .i64 0, .int .i64 0, .int .i64 0, .bool false]) 53 _ _ rfl R #[.bool (a == 1), .int .i64 b, .int .i64 d, .int .i64 e, .bool (c == 1)] rfl rfl HR4.out Try.sizeDDV rfl (by simp [Value.oneCell']) ?_
    intro w5 h5 k45 _
    have HX := Lib.hid h5
    have HB5 : Hid (Below w.heap.size w w5) := Lib.hid (HB4.out.trans (k45.below (B := w.heap.size) (fun x hx e => by have := HRW.out; omega) HB4.out.size))
    refine hK _ _ (fun h => absurd rfl h) ?_
    clear hK h5 k45
    refine till_done (by kernel_rfl) ?_ _
    go_wp2_with fail
    exact bodyPost_ret (results_cell_row rfl _ _ _ _ _ _ _ rfl HX.out Try.underlying53 rfl Try.sizeDDV) rfl ⟨by rw [HG.out]; rfl, HB5.out⟩
  · have h5' : ((n : Int) != 5) = true := by rw [bne_iff_ne]; omega
    have HG0 : Hid (getD f t ids = DV.zero) := Lib.hid (by rw [HG.out, readD_len (by omega)])
    clear h5 hn hrd
    go_wp2_with (refine wpList_store_row_g (t := 53) (old := #[.bool false, .int .i64 0, .int .i64 0, .int .i64 0, .bool false]) rfl 53 _ _ rfl R #[.bool false, .int .i64 0, .int .i64 0, .int .i64 0, .bool false] rfl rfl HR3.out Try.sizeDDV rfl (by simp [Value.oneCell']) ?_)
    intro w4 h4 k34 _
    have HX := Lib.hid h4
    have HB4 : Hid (Below w.heap.size w w4) := Lib.hid (HB3.out.trans (k34.below (B := w.heap.size) (fun x hx e => by have := HRW.out; omega) HB3.out.size))
    clear h4 k34
    go_wp2_with fail
    exact bodyPost_ret (results_cell_row rfl _ _ _ _ _ _ _ rfl HX.out Try.underlying53 rfl Try.sizeDDV) rfl ⟨by rw [HG0.out]; rfl, HB4.out⟩

set_option maxHeartbeats 4000000 in
set_option maxRecDepth 100000 in
theorem rget28_any {w : World} {g : Nat} {s : PS} {F : List Nat} (h : RS w g s F) (hz : s.sz < 1099511627776) (hf : Fit s) (t : Int) {ids : List Int} {vi : Value} (hl : ids.length ≤ 100000000) (hi : I64s ids) (hrd : Rd w intE 1 vi ids) :
    Calls Try.prog 33 #[.pointer (some ⟨g, 0, none⟩), .int .i64 t, vi] w (Ret w (.agg (dvC (getD (getP s.t) t ids)))) := by
  have H := Lib.hid h; have HF := Lib.hid hf
  clear h hf
  go_enter Try.func33, Try.ntmps33
  go_wp2_with (refine wpList_alloc_g rfl _ rfl _ _ Try.zeroRDV rfl ?_)
  intro R w1 h1
  have HRW : Hid (w.heap.size ≤ R) := Lib.hid (Nat.le_of_eq h1.out.eq.symm)
  have HR1 := Lib.hid h1.out.cells; have HB1 := Lib.hid h1.out.below
  clear h1
  go_wp2_with fail
  refine (refKey_any t ids vi _ hl hi (hrd.later HB1.out)).mono ?_
  rintro e w2 ⟨rfl, hb2⟩
  have HR2 := Lib.hid ((Keep.of_below (S := fun _ => False) hb2).at HR1.out id); have HB2 := Lib.hid (HB1.out.trans (hb2.mono HB1.out.size))
  clear hb2 HR1 HB1 hrd hl hi
  go_wp2_with fail
  refine (rrow_any (H.out.later HB2.out) hz HF.out (keyF t ids)).mono ?_
  rintro e w3 ⟨v, rfl, ho, hb3⟩
  obtain ⟨l, hll⟩ : ∃ l, l = rowF (valF (getP s.t) (keyF t ids)) := ⟨_, rfl⟩
  rw [← hll] at ho
  have HG : Hid (getD (getP s.t) t ids = readD l) := Lib.hid (by rw [hll]; rfl)
  have hrd := RowRet.rd ho
  have HR3 := Lib.hid ((Keep.of_below (S := fun _ => False) hb3).at HR2.out id); have HB3 := Lib.hid (HB2.out.trans (hb3.mono HB2.out.size))
  clear ho hll HR2 HB2 hb3
  obtain ⟨ad, cap, rfl, c1, c2⟩ := hrd.shape
  obtain ⟨n, hn⟩ : ∃ n, n = l.length := ⟨_, rfl⟩
  rw [← hn] at c1 ⊢
  by_cases h5 : n = 5
  · subst h5
    obtain ⟨a, b, c, d, e, rfl⟩ := five hn.symm
    obtain ⟨q, off, rfl, hq, t0⟩ := hrd.at 0 (by simp)
    obtain ⟨q1, off1, he1, _, t1⟩ := hrd.at 1 (by simp)
    cases he1
    obtain ⟨q1, off1, he1, _, t2⟩ := hrd.at 2 (by simp)
    cases he1
    obtain ⟨q1, off1, he1, _, t3⟩ := hrd.at 3 (by simp)
    cases he1
    obtain ⟨q1, off1, he1, _, t4⟩ := hrd.at 4 (by simp)
    cases he1
    have hb4 : Below w3.heap.size w3 w3.drew := Below.drew (Below.refl _ _)
    have HR4 := Lib.hid ((Keep.of_below (S := fun _ => False) hb4).at HR3.out id); have HB4 := Lib.hid (HB3.out.trans (hb4.mono HB3.out.size))
    have hS : w3.drew.cell? ⟨q, off, none⟩ = some (.int .i64 a) ∧ w3.drew.cell? ⟨q, off + 1, none⟩ = some (.int .i64 b) ∧ w3.drew.cell? ⟨q, off + 2, none⟩ = some (.int .i64 c) ∧ w3.drew.cell? ⟨q, off + 3, none⟩ = some (.int .i64 d) ∧ w3.drew.cell? ⟨q, off + 4, none⟩ = some (.int .i64 e) := ⟨t0, t1, t2, t3, t4⟩
    clear hb4 HR3 HB3 hq t0 t1 t2 t3 t4 hrd hn
    go_wp2_with fail
    refine wp_region_till (fun w' => w'.cell? ⟨q, off, none⟩ = some (.int .i64 a) ∧ w'.cell? ⟨q, off + 1, none⟩ = some (.int .i64 b) ∧ w'.cell? ⟨q, off + 2, none⟩ = some (.int .i64 c) ∧ w'.cell? ⟨q, off + 3, none⟩ = some (.int .i64 d) ∧ w'.cell? ⟨q, off + 4, none⟩ = some (.int .i64 e)) 18 19 (by kernel_rfl) rfl ?_
    refine till_take 0 (some 17) rfl rfl (by kernel_rfl) (by kernel_rfl) (by kernel_rfl) (by kernel_rfl) (by kernel_rfl) (by kernel_rfl) (fun _ _ _ h => h) (.inl ⟨by rfl, fun w' _ => (by go_simp; rfl)⟩) hS ?_
    go_frame
    refine till_take 1 (some 18) rfl rfl (by kernel_rfl) (by kernel_rfl) (by kernel_rfl) (by kernel_rfl) (by kernel_rfl) (by kernel_rfl) (fun _ _ _ h => h) (.inl ⟨by rfl, fun w' _ => (by go_simp; rfl)⟩) hS ?_
    go_frame
    refine till_take 2 (some 19) rfl rfl (by kernel_rfl) (by kernel_rfl) (by kernel_rfl) (by kernel_rfl) (by kernel_rfl) (by kernel_rfl) (fun _ _ _ h => h) (.inl ⟨by rfl, fun w' hS' => (by obtain ⟨hc1, hc2, hc3, hc4, hc5⟩ := hS'; go_simp; rfl)⟩) hS ?_
    go_frame
    refine till_take 3 (some 20) rfl rfl (by kernel_rfl) (by kernel_rfl) (by kernel_rfl) (by kernel_rfl) (by kernel_rfl) (by kernel_rfl) (fun _ _ _ h => h) (.inl ⟨by rfl, fun w' _ => (by go_simp; rfl)⟩) hS ?_
    go_frame
    refine till_take 4 (some 21) rfl rfl (by kernel_rfl) (by kernel_rfl) (by kernel_rfl) (by kernel_rfl) (by kernel_rfl) (by kernel_rfl) (fun _ _ _ h => h) (.inl ⟨by rfl, fun w' _ => (by go_simp; rfl)⟩) hS ?_
    go_frame
    refine till_take 5 (some 22) rfl rfl (by kernel_rfl) (by kernel_rfl) (by kernel_rfl) (by kernel_rfl) (by kernel_rfl) (by kernel_rfl) (fun _ _ _ h => h) (.inl ⟨by rfl, fun w' _ => (by go_simp; rfl)⟩) hS ?_
    go_frame
    refine till_take 6 (some 23) rfl rfl (by kernel_rfl) (by kernel_rfl) (by kernel_rfl) (by kernel_rfl) (by kernel_rfl) (by kernel_rfl) (fun _ _ _ h => h) (.inl ⟨by rfl, fun w' hS' => (by obtain ⟨hc1, hc2, hc3, hc4, hc5⟩ := hS'; go_simp; rfl)⟩) hS ?_
    go_frame
    refine till_take 7 (some 24) rfl rfl (by kernel_rfl) (by kernel_rfl) (by kernel_rfl) (by kernel_rfl) (by kernel_rfl) (by kernel_rfl) (fun _ _ _ h => h) (.inl ⟨by rfl, fun w' _ => (by go_simp; rfl)⟩) hS ?_
    go_frame
    refine till_take 8 (some 25) rfl rfl (by kernel_rfl) (by kernel_rfl) (by kernel_rfl) (by kernel_rfl) (by kernel_rfl) (by kernel_rfl) (fun _ _ _ h => h) (.inl ⟨by rfl, fun w' _ => (by go_simp; rfl)⟩) hS ?_
    go_frame
    refine till_take 9 (some 26) rfl rfl (by kernel_rfl) (by kernel_rfl) (by kernel_rfl) (by kernel_rfl) (by kernel_rfl) (by kernel_rfl) (fun _ _ _ h => h) (.inl ⟨by rfl, fun w' hS' => (by obtain ⟨hc1, hc2, hc3, hc4, hc5⟩ := hS'; go_simp; rfl)⟩) hS ?_
    go_frame
    refine till_take 10 (some 27) rfl rfl (by kernel_rfl) (by kernel_rfl) (by kernel_rfl) (by kernel_rfl) (by kernel_rfl) (by kernel_rfl) (fun _ _ _ h => h) (.inl ⟨by rfl, fun w' _ => (by go_simp; rfl)⟩) hS ?_
    go_frame
    refine till_take 11 (some 28) rfl rfl (by kernel_rfl) (by kernel_rfl) (by kernel_rfl) (by kernel_rfl) (by kernel_rfl) (by kernel_rfl) (fun _ _ _ h => h) (.inl ⟨by rfl, fun w' _ => (by go_simp; rfl)⟩) hS ?_
    go_frame
    refine till_take 12 (some 29) rfl rfl (by kernel_rfl) (by kernel_rfl) (by kernel_rfl) (by kernel_rfl) (by kernel_rfl) (by kernel_rfl) (fun _ _ _ h => h) (.inl ⟨by rfl, fun w' _ => (by go_simp; rfl)⟩) hS ?_
    go_frame
    refine till_take 13 (some 30) rfl rfl (by kernel_rfl) (by kernel_rfl) (by kernel_rfl) (by kernel_rfl) (by kernel_rfl) (by kernel_rfl) (fun _ _ _ h => h) (.inl ⟨by rfl, fun w' hS' => (by obtain ⟨hc1, hc2, hc3, hc4, hc5⟩ := hS'; go_simp; rfl)⟩) hS ?_
    go_frame
    refine till_take 14 (some 31) rfl rfl (by kernel_rfl) (by kernel_rfl) (by kernel_rfl) (by kernel_rfl) (by kernel_rfl) (by kernel_rfl) (fun _ _ _ h => h) (.inl ⟨by rfl, fun w' _ => (by go_simp; rfl)⟩) hS ?_
    go_frame
    refine till_take 15 (some 32) rfl rfl (by kernel_rfl) (by kernel_rfl) (by kernel_rfl) (by kernel_rfl) (by kernel_rfl) (by kernel_rfl) (fun _ _ _ h => h) (.inl ⟨by rfl, fun w' _ => (by go_simp; rfl)⟩) hS ?_
    go_frame
    refine till_take 16 (some 33) rfl rfl (by kernel_rfl) (by kernel_rfl) (by kernel_rfl) (by kernel_rfl) (by kernel_rfl) (by kernel_rfl) (fun _ _ _ h => h) (.inl ⟨by rfl, fun w' hS' => (by obtain ⟨hc1, hc2, hc3, hc4, hc5⟩ := hS'; go_simp; rfl)⟩) hS ?_
    go_frame
    refine till_take 17 (some 34) rfl rfl (by kernel_rfl) (by kernel_rfl) (by kernel_rfl) (by kernel_rfl) (by kernel_rfl) (by kernel_rfl) (fun _ _ _ h => h) (.inl ⟨by rfl, fun w' _ => (by go_simp; rfl)⟩) hS ?_
    go_frame
    refine till_one 18 rfl (by kernel_rfl) fun K hK => ?_
    simp only [List.getElem_toArray, List.getElem_cons_succ, List.getElem_cons_zero]
    rw [if_pos (by rfl)]
    refine wp_store_row_g (t := 64) (old := #[.bool false, .int .i64 0, .int .i64 0, .int .i64 0, .bool false]) 64 _ _ rfl R #[.bool (a == 1), .int .i64 b, .int .i64 d, .int .i64 e, .bool (c == 1)] rfl rfl HR4.out Try.sizeRDV rfl (by simp [Value.oneCell']) ?_
    intro w5 h5 k45 _
    have HX := Lib.hid h5
    have HB5 : Hid (Below w.heap.size w w5) := Lib.hid (HB4.out.trans (k45.below (B := w.heap.size) (fun x hx e => by have := HRW.out; omega) HB4.out.size))
    refine hK _ _ (fun h => absurd rfl h) ?_
    clear hK h5 k45
    refine till_done (by kernel_rfl) ?_ _
    go_wp2_with fail
    exact bodyPost_ret (results_cell_row rfl _ _ _ _ _ _ _ rfl HX.out Try.underlying64 rfl Try.sizeRDV) rfl ⟨by rw [HG.out]; rfl, HB5.out⟩
  · have h5' : ((n : Int) != 5) = true := by rw [bne_iff_ne]; omega
    have HG0 : Hid (getD (getP s.t) t ids = DV.zero) := Lib.hid (by rw [HG.out, readD_len (by omega)])
    clear h5 hn hrd
    go_wp2_with (refine wpList_store_row_g (t := 64) (old := #[.bool false, .int .i64 0, .int .i64 0, .int .i64 0, .bool false]) rfl 64 _ _ rfl R #[.bool false, .int .i64 0, .int .i64 0, .int .i64 0, .bool false] rfl rfl HR3.out Try.sizeRDV rfl (by simp [Value.oneCell']) ?_)
    intro w4 h4 k34 _
    have HX := Lib.hid h4
    have HB4 : Hid (Below w.heap.size w w4) := Lib.hid (HB3.out.trans (k34.below (B := w.heap.size) (fun x hx e => by have := HRW.out; omega) HB3.out.size))
    clear h4 k34
    go_wp2_with fail
    exact bodyPost_ret (results_cell_row rfl _ _ _ _ _ _ _ rfl HX.out Try.underlying64 rfl Try.sizeRDV) rfl ⟨by rw [HG0.out]; rfl, HB4.out⟩
end Go.Proofs.Ytohedljdkfmkdaa
