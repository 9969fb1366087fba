/- delay's row, good, Set and the document's Set: their contracts. -/
import Derived.Test.YtohedljdkfmkdaaDelB
namespace Go.Proofs.Ytohedljdkfmkdaa
open Go.RowKit

def goodB (n : Int) : Bool := decide (0 ≤ n) && decide (n ≤ 1099511627776)
theorem goodB_yes {n : Int} : goodB n = true ↔ 0 ≤ n ∧ n ≤ 1099511627776 := by unfold goodB; simp
theorem goodB_no {n : Int} : goodB n = false ↔ n < 0 ∨ 1099511627776 < n := by unfold goodB; simp; omega
theorem dgood_any (n : Int) (w : World) : Calls Try.prog 78 #[.int .i64 n] w fun e w' => e = .returned (.bool (goodB n)) ∧ w = w' := by
  by_cases h1 : 0 ≤ n
  · by_cases h2 : n ≤ 1099511627776
    · have e : goodB n = true := goodB_yes.2 ⟨h1, h2⟩
      rw [e]
      clear e
      go_enter Try.func78, Try.ntmps78
      go_wp2
      go_ret
      exact ⟨rfl, rfl⟩
    · have e : goodB n = false := goodB_no.2 (.inr (by omega))
      rw [e]
      clear e
      go_enter Try.func78, Try.ntmps78
      go_wp2
      go_ret
      exact ⟨rfl, rfl⟩
  · have e : goodB n = false := goodB_no.2 (.inl (by omega))
    rw [e]
    clear e
    go_enter Try.func78, Try.ntmps78
    go_wp2
    go_ret
    exact ⟨rfl, rfl⟩

theorem flat_intE (l : List Int) : l.flatMap intE = l.map (Value.int .i64) := by
  induction l with
  | nil => rfl
  | cons x l ih => rw [List.flatMap_cons, ih]; rfl
/-- A literal slice of numbers. -/
theorem own_lit {w : World} {g B : Nat} {l : List Int} (hg : w.heap[g]? = some (.cells (l.map (Value.int .i64)).toArray 3 (0, 0))) (hB : B ≤ g) (hl : l.length ≤ maxLen) : Own w B 3 intE 1 (.slice (some ⟨g, 0, none⟩) l.length l.length) l := by
  refine ⟨by rw [flat_intE]; simp, .inr ⟨g, l.length, _, rfl, hB, hg, Nat.le_refl _, hl, by simp, ?_⟩⟩
  rw [flat_intE, List.take_of_length_le (by simp)]
theorem below_at' {a b : World} (h : Below a.heap.size a b) {k : Nat} {o : Obj} (ho : a.heap[k]? = some o) : b.heap[k]? = some o := (Keep.of_below (S := fun _ => False) h).at ho id

set_option maxHeartbeats 4000000 in
theorem drow_any (v : DV) (w : World) : Calls Try.prog 80 #[.agg (dvC v)] w (RowRet w (rowD v)) := by
  obtain ⟨h, n, x, t, m⟩ := v
  show Calls Try.prog 80 #[.agg #[.bool h, .int .i64 n, .int .i64 x, .int .i64 t, .bool m]] w (RowRet w [bitD h, n, bitD m, x, t])
  go_enter Try.func80, Try.ntmps80
  go_wp2_with fail
  obtain ⟨w1, hw1⟩ : ∃ w1, w1 = w.alloc (.cells #[.bool h, .int .i64 n, .int .i64 x, .int .i64 t, .bool m] 53) := ⟨_, rfl⟩
  obtain ⟨R, hR⟩ : ∃ R, R = w.heap.size := ⟨_, rfl⟩
  rw [← hw1, ← hR]
  have hx1 : w1.heap[R]? = some (.cells #[.bool h, .int .i64 n, .int .i64 x, .int .i64 t, .bool m] 53 (0, 0)) := by rw [hw1, hR]; exact heap_alloc_new _ _
  have hb1 : Below w.heap.size w w1 := by rw [hw1]; exact (Below.refl _ _).alloc (Nat.le_refl _) _
  have hS : w1.drew.cell? ⟨R, 0, none⟩ = some (.bool h) ∧ w1.drew.cell? ⟨R, 1, none⟩ = some (.int .i64 n) ∧ w1.drew.cell? ⟨R, 2, none⟩ = some (.int .i64 x) ∧ w1.drew.cell? ⟨R, 3, none⟩ = some (.int .i64 t) ∧ w1.drew.cell? ⟨R, 4, none⟩ = some (.bool m) := ⟨Lib.cell_of_heap hx1 0, Lib.cell_of_heap hx1 1, Lib.cell_of_heap hx1 2, Lib.cell_of_heap hx1 3, Lib.cell_of_heap hx1 4⟩
  have HB1 := Lib.hid hb1; have HX1 := Lib.hid hx1
  clear hw1 hR hx1 hb1
  refine wp_region_till (fun w' => w'.cell? ⟨R, 0, none⟩ = some (.bool h) ∧ w'.cell? ⟨R, 1, none⟩ = some (.int .i64 n) ∧ w'.cell? ⟨R, 2, none⟩ = some (.int .i64 x) ∧ w'.cell? ⟨R, 3, none⟩ = some (.int .i64 t) ∧ w'.cell? ⟨R, 4, none⟩ = some (.bool m)) 14 14 (by kernel_rfl) rfl ?_
  refine till_take 0 (some 3) rfl rfl (by kernel_rfl) (by kernel_rfl) (by kernel_rfl) (by kernel_rfl) (by kernel_rfl) (by kernel_rfl) (fun _ _ _ h => h) (.inl ⟨by rfl, fun w' _ => (by go_simp; rfl)⟩) hS ?_
  go_frame
  refine till_take 1 (some 4) rfl rfl (by kernel_rfl) (by kernel_rfl) (by kernel_rfl) (by kernel_rfl) (by kernel_rfl) (by kernel_rfl) (fun _ _ _ h => h) (.inl ⟨by rfl, fun w' hS' => (by obtain ⟨hc1, hc2, hc3, hc4, hc5⟩ := hS'; go_simp; rfl)⟩) hS ?_
  go_frame
  refine till_take 3 (some 6) rfl rfl (by kernel_rfl) (by kernel_rfl) (by kernel_rfl) (by kernel_rfl) (by kernel_rfl) (by kernel_rfl) (fun _ _ _ h => h) (.inl ⟨by rfl, fun w' _ => (by go_simp; rfl)⟩) hS ?_
  go_frame
  refine till_take 4 (some 7) rfl rfl (by kernel_rfl) (by kernel_rfl) (by kernel_rfl) (by kernel_rfl) (by kernel_rfl) (by kernel_rfl) (fun _ _ _ h => h) (.inl ⟨by rfl, fun w' hS' => (by obtain ⟨hc1, hc2, hc3, hc4, hc5⟩ := hS'; go_simp; rfl)⟩) hS ?_
  go_frame
  refine till_take 5 (some 8) rfl rfl (by kernel_rfl) (by kernel_rfl) (by kernel_rfl) (by kernel_rfl) (by kernel_rfl) (by kernel_rfl) (fun _ _ _ h => h) (.inl ⟨by rfl, fun w' _ => (by go_simp; rfl)⟩) hS ?_
  go_frame
  refine till_take 6 (some 9) rfl rfl (by kernel_rfl) (by kernel_rfl) (by kernel_rfl) (by kernel_rfl) (by kernel_rfl) (by kernel_rfl) (fun _ _ _ h => h) (.inl ⟨by rfl, fun w' hS' => (by obtain ⟨hc1, hc2, hc3, hc4, hc5⟩ := hS'; go_simp; rfl)⟩) hS ?_
  go_frame
  refine till_take 8 (some 11) rfl rfl (by kernel_rfl) (by kernel_rfl) (by kernel_rfl) (by kernel_rfl) (by kernel_rfl) (by kernel_rfl) (fun _ _ _ h => h) (.inl ⟨by rfl, fun w' _ => (by go_simp; rfl)⟩) hS ?_
  go_frame
  refine till_take 9 (some 12) rfl rfl (by kernel_rfl) (by kernel_rfl) (by kernel_rfl) (by kernel_rfl) (by kernel_rfl) (by kernel_rfl) (fun _ _ _ h => h) (.inl ⟨by rfl, fun w' hS' => (by obtain ⟨hc1, hc2, hc3, hc4, hc5⟩ := hS'; go_simp; rfl)⟩) hS ?_
  go_frame
  refine till_take 10 (some 13) rfl rfl (by kernel_rfl) (by kernel_rfl) (by kernel_rfl) (by kernel_rfl) (by kernel_rfl) (by kernel_rfl) (fun _ _ _ h => h) (.inl ⟨by rfl, fun w' _ => (by go_simp; rfl)⟩) hS ?_
  go_frame
  refine till_take 11 (some 14) rfl rfl (by kernel_rfl) (by kernel_rfl) (by kernel_rfl) (by kernel_rfl) (by kernel_rfl) (by kernel_rfl) (fun _ _ _ h => h) (.inl ⟨by rfl, fun w' hS' => (by obtain ⟨hc1, hc2, hc3, hc4, hc5⟩ := hS'; go_simp; rfl)⟩) hS ?_
  go_frame
  refine till_one 2 rfl (by kernel_rfl) fun K hK => ?_
  simp only [List.getElem_toArray, List.getElem_cons_succ, List.getElem_cons_zero]
  rw [if_pos (by rfl)]
  go_simp
  refine (dbit_any h _).mono ?_
  rintro e w8 ⟨rfl, rfl⟩
  refine hK _ _ (fun _ _ => hS) ?_
  clear hK
  refine till_one 7 rfl (by kernel_rfl) fun K hK => ?_
  simp only [List.getElem_toArray, List.getElem_cons_succ, List.getElem_cons_zero]
  rw [if_pos (by rfl)]
  go_simp
  refine (dbit_any m _).mono ?_
  rintro e w8 ⟨rfl, rfl⟩
  refine hK _ _ (fun _ _ => hS) ?_
  clear hK
  refine till_one 12 rfl (by kernel_rfl) fun K hK => ?_
  simp only [List.getElem_toArray, List.getElem_cons_succ, List.getElem_cons_zero]
  rw [if_pos (by rfl)]
  go_simp
  obtain ⟨w2, hw2⟩ : ∃ w2, w2 = (World.alloc w1 (.cells #[.int .i64 (bitD h), .int .i64 n, .int .i64 (bitD m), .int .i64 x, .int .i64 t] 3)).drew := ⟨_, rfl⟩
  obtain ⟨Q, hQ⟩ : ∃ Q, Q = (World.heap w1).size := ⟨_, rfl⟩
  rw [← hw2, ← hQ]
  have hbx : Below (World.heap w1).size w1 w2 := by rw [hw2]; exact ((Below.refl _ _).alloc (Nat.le_refl _) _).drew
  have hx2 : w2.heap[Q]? = some (.cells ([bitD h, n, bitD m, x, t].map (Value.int .i64)).toArray 3 (0, 0)) := by rw [hw2, hQ]; exact heap_alloc_new _ _
  have HO := Lib.hid (own_lit (B := w.heap.size) hx2 (by rw [hQ]; exact HB1.out.size) (by unfold maxLen; simp))
  have HB2 := Lib.hid (HB1.out.trans (hbx.mono HB1.out.size) : Below w.heap.size w w2)
  have hx3 := below_at' hbx HX1.out
  refine hK _ _ (fun _ _ => ⟨Lib.cell_of_heap hx3 0, Lib.cell_of_heap hx3 1, Lib.cell_of_heap hx3 2, Lib.cell_of_heap hx3 3, Lib.cell_of_heap hx3 4⟩) ?_
  clear hK hS
  have hS : w2.cell? ⟨R, 0, none⟩ = some (.bool h) ∧ w2.cell? ⟨R, 1, none⟩ = some (.int .i64 n) ∧ w2.cell? ⟨R, 2, none⟩ = some (.int .i64 x) ∧ w2.cell? ⟨R, 3, none⟩ = some (.int .i64 t) ∧ w2.cell? ⟨R, 4, none⟩ = some (.bool m) := ⟨Lib.cell_of_heap hx3 0, Lib.cell_of_heap hx3 1, Lib.cell_of_heap hx3 2, Lib.cell_of_heap hx3 3, Lib.cell_of_heap hx3 4⟩
  clear hw2 hQ hbx hx2 hx3
  refine till_take 13 (some 2) rfl rfl (by kernel_rfl) (by kernel_rfl) (by kernel_rfl) (by kernel_rfl) (by kernel_rfl) (by kernel_rfl) (fun _ _ _ h => h) (.inl ⟨by rfl, fun w' _ => (by go_simp; rfl)⟩) hS ?_
  go_frame
  refine till_done (by kernel_rfl) ?_ _
  clear hS
  go_wp2_with fail
  go_ret
  exact ⟨_, rfl, HO.out, HB2.out⟩

/-- Its numbers may be. -/
structure Bd (v : DV) : Prop where
  now : 0 ≤ v.now ∧ v.now < 9223372036854775808
  next : 0 ≤ v.next ∧ v.next < 9223372036854775808
  at_ : 0 ≤ v.at_ ∧ v.at_ < 9223372036854775808
theorem Bd.zero : Bd DV.zero := by constructor <;> (constructor <;> decide)
theorem Bd.get (f : Txt → Option Txt) (t : Int) (ids : List Int) : Bd (getD f t ids) := by
  unfold getD
  have h := rowF_bound (valF f (keyF t ids))
  generalize rowF (valF f (keyF t ids)) = l at h
  by_cases h5 : l.length = 5
  · obtain ⟨a, b, c, d, e, rfl⟩ := five h5
    exact ⟨h b (by simp), h d (by simp), h e (by simp)⟩
  · rw [readD_len h5]; exact Bd.zero
theorem Bd.settle {v : DV} (h : Bd v) (b : Int) : Bd (settleD v b) := by
  unfold settleD
  split
  · exact ⟨h.next, (by show (0 : Int) ≤ 0 ∧ (0 : Int) < _; omega), (by show (0 : Int) ≤ 0 ∧ (0 : Int) < _; omega)⟩
  · exact h
theorem bitD_bd (b : Bool) : 0 ≤ bitD b ∧ bitD b ≤ 1 := by cases b <;> decide
theorem Bd.row {v : DV} (h : Bd v) : I64s (rowD v) := by
  have h1 := bitD_bd v.has
  have h2 := bitD_bd v.more
  have h3 := h.now; have h4 := h.next; have h5 := h.at_
  intro x hx
  simp only [rowD, List.mem_cons, List.not_mem_nil, or_false] at hx
  rcases hx with rfl | rfl | rfl | rfl | rfl <;> omega
/-- What is laid. -/
def nextD (u : DV) (v b wt : Int) : DV := settleD ⟨(settleD u b).has, (settleD u b).now, v, b + wt, true⟩ b
theorem Bd.nextD {u : DV} (h : Bd u) {v b wt : Int} (hv : goodB v = true) (hb : goodB b = true) (hw : goodB wt = true) : Bd (nextD u v b wt) := by
  rw [goodB_yes] at hv hb hw
  unfold Go.Proofs.Ytohedljdkfmkdaa.nextD
  refine Bd.settle (v := ⟨(settleD u b).has, (settleD u b).now, v, b + wt, true⟩) ⟨(h.settle b).now, ?_, ?_⟩ b
  · show 0 ≤ v ∧ v < _; omega
  · show 0 ≤ b + wt ∧ b + wt < _; omega
def badD (t : Int) (ids : List Int) (v b wt : Int) : Bool := (keyF t ids).isEmpty || !goodB v || !goodB b || !goodB wt
def putD (s : PS) (t : Int) (ids : List Int) (v b wt : Int) : PS := if badD t ids v b wt then s else s.setRow (keyF t ids) (rowD (nextD (getD (getP s.t) t ids) v b wt))
def putDE (t : Int) (ids : List Int) (v b wt : Int) : Int := if badD t ids v b wt then 2 else 0
theorem putD_bad {s : PS} {t : Int} {ids : List Int} {v b wt : Int} (h : badD t ids v b wt = true) : putD s t ids v b wt = s ∧ putDE t ids v b wt = 2 := by unfold putD putDE; rw [if_pos h, if_pos h]; exact ⟨rfl, rfl⟩
theorem putD_ok {s : PS} {t : Int} {ids : List Int} {v b wt : Int} (h : badD t ids v b wt = false) : putD s t ids v b wt = s.setRow (keyF t ids) (rowD (nextD (getD (getP s.t) t ids) v b wt)) ∧ putDE t ids v b wt = 0 := by unfold putD putDE; rw [h]; exact ⟨rfl, rfl⟩
theorem sz_putD (s : PS) (t : Int) (ids : List Int) (v b wt : Int) : (putD s t ids v b wt).sz ≤ s.sz + 2 := by
  unfold putD
  split
  · omega
  · exact sz_setRow _ _ _
theorem Fit.putD {s : PS} (h : Fit s) (t : Int) (ids : List Int) (v b wt : Int) : Fit (putD s t ids v b wt) := by
  unfold Go.Proofs.Ytohedljdkfmkdaa.putD
  split
  · exact h
  · exact h.setRow _ (by simp [rowD])
theorem txt_empty (k : Txt) : (bs k).toList.isEmpty = k.isEmpty := by rw [toList_bs]

set_option maxHeartbeats 4000000 in
set_option maxRecDepth 100000 in
theorem dset_not {w : World} {x : Option Addr} (h : NotMade w x) (t : Int) {ids : List Int} {vi : Value} (hl : ids.length ≤ 100000000) (hi : I64s ids) (hrd : Rd w intE 1 vi ids) (v b wt : Int) :
    Calls Try.prog 29 #[.pointer x, .int .i64 t, vi, .int .i64 v, .int .i64 b, .int .i64 wt] w (Ret w (.int .i64 1)) := by
  have H := Lib.hid h
  clear h
  go_enter Try.func29, Try.ntmps29
  go_wp2_with fail
  refine (key_any t ids vi _ hl hi hrd).mono ?_
  rintro e w1 ⟨rfl, hb1⟩
  have H1 := Lib.hid (H.out.later hb1); have HB1 := Lib.hid hb1
  clear hb1 hl hi hrd H
  go_wp2_with fail
  refine (smade_not H1.out).mono ?_
  rintro e w2 ⟨rfl, rfl⟩
  go_wp2_with fail
  go_ret
  exact ⟨rfl, HB1.out⟩

set_option maxHeartbeats 4000000 in
set_option maxRecDepth 100000 in
theorem dset_any {w : World} {g : Nat} {s : PS} {F : List Nat} (h : St w g s F) (hz : s.sz < 1099511627776) (hf : Fit s) (t : Int) {ids : List Int} {vi : Value} (hl : ids.length ≤ 100000000) (hi : I64s ids) (hrd : Rd w intE 1 vi ids) (v b wt : Int) :
    Calls Try.prog 29 #[.pointer (some ⟨g, 0, none⟩), .int .i64 t, vi, .int .i64 v, .int .i64 b, .int .i64 wt] w (StRet w g F (putD s t ids v b wt) (.int .i64 (putDE t ids v b wt))) := by
  have L := Lib.hid (Liv.start h); have HZ := Lib.hid hz; have HF := Lib.hid hf; have HID := Lib.hid (And.intro hl (And.intro hi hrd))
  clear h hz hf
  go_enter Try.func29, Try.ntmps29
  go_wp2_with fail
  refine (key_any t ids vi _ hl hi hrd).mono ?_
  rintro e w1 ⟨rfl, hb1⟩
  have L1 := Lib.hid (L.out.later hb1); have HB1 := Lib.hid hb1; have HID1 : Hid (ids.length ≤ 100000000 ∧ I64s ids ∧ Rd w1 intE 1 vi ids) := Lib.hid ⟨hl, hi, hrd.later hb1⟩
  obtain ⟨k, hk⟩ : ∃ k, k = keyF t ids := ⟨_, rfl⟩
  rw [← hk]
  have hbad : badD t ids v b wt = (k.isEmpty || !goodB v || !goodB b || !goodB wt) := by rw [hk]; rfl
  have HBAD := Lib.hid hbad; have HK := Lib.hid hk
  clear hb1 hl hi hrd L HID hbad hk
  have h1t := txt_empty k
  go_wp2_with fail
  obtain ⟨F1, p1, _⟩ := L1.out
  have P1 := Lib.hid p1
  clear p1
  refine (smade_any P1.out).mono ?_
  rintro e w2 ⟨rfl, rfl⟩
  by_cases hk0 : k = []
  · subst hk0
    have hbd : badD t ids v b wt = true := by rw [HBAD.out]; simp
    obtain ⟨hp1, hp2⟩ := putD_bad (s := s) hbd
    have HP1 := Lib.hid hp1; have HP2 := Lib.hid hp2
    have h1t : (bs ([] : Txt)).toList.isEmpty = true := by rw [txt_empty]; rfl
    clear hp1 hp2 hbd
    go_wp2_with fail
    go_ret
    rw [HP1.out, HP2.out]
    exact L1.out.ret
  cases hv : goodB v with
  | false =>
    have hbd : badD t ids v b wt = true := by rw [HBAD.out]; simp [hv]
    obtain ⟨hp1, hp2⟩ := putD_bad (s := s) hbd
    have HP1 := Lib.hid hp1; have HP2 := Lib.hid hp2
    have h1t : (bs k).toList.isEmpty = false := by rw [txt_empty]; simpa using hk0
    clear hp1 hp2 hbd
    go_wp2_with fail
    refine (dgood_any v _).mono ?_
    rintro e w2 ⟨rfl, rfl⟩
    rw [hv]
    go_wp2_with fail
    go_ret
    rw [HP1.out, HP2.out]
    exact L1.out.ret
  | true =>
  cases hb : goodB b with
  | false =>
    have hbd : badD t ids v b wt = true := by rw [HBAD.out]; simp [hb]
    obtain ⟨hp1, hp2⟩ := putD_bad (s := s) hbd
    have HP1 := Lib.hid hp1; have HP2 := Lib.hid hp2
    have h1t : (bs k).toList.isEmpty = false := by rw [txt_empty]; simpa using hk0
    clear hp1 hp2 hbd
    go_wp2_with fail
    refine (dgood_any v _).mono ?_
    rintro e w2 ⟨rfl, rfl⟩
    rw [hv]
    go_wp2_with fail
    refine (dgood_any b _).mono ?_
    rintro e w2 ⟨rfl, rfl⟩
    rw [hb]
    go_wp2_with fail
    go_ret
    rw [HP1.out, HP2.out]
    exact L1.out.ret
  | true =>
  cases hw : goodB wt with
  | false =>
    have hbd : badD t ids v b wt = true := by rw [HBAD.out]; simp [hw]
    obtain ⟨hp1, hp2⟩ := putD_bad (s := s) hbd
    have HP1 := Lib.hid hp1; have HP2 := Lib.hid hp2
    have h1t : (bs k).toList.isEmpty = false := by rw [txt_empty]; simpa using hk0
    clear hp1 hp2 hbd
    go_wp2_with fail
    refine (dgood_any v _).mono ?_
    rintro e w2 ⟨rfl, rfl⟩
    rw [hv]
    go_wp2_with fail
    refine (dgood_any b _).mono ?_
    rintro e w2 ⟨rfl, rfl⟩
    rw [hb]
    go_wp2_with fail
    refine (dgood_any wt _).mono ?_
    rintro e w2 ⟨rfl, rfl⟩
    rw [hw]
    go_wp2_with fail
    go_ret
    rw [HP1.out, HP2.out]
    exact L1.out.ret
  | true =>
  have jk : k.isEmpty = false := by simpa using hk0
  have q1 := goodB_yes.1 hv; have q2 := goodB_yes.1 hb; have q3 := goodB_yes.1 hw
  have hok : badD t ids v b wt = false := by rw [HBAD.out, jk, hv, hb, hw]; rfl
  have hbn : Hid (I64s (rowD (nextD (getD (getP s.t) t ids) v b wt))) := Lib.hid ((Bd.get _ _ _).nextD hv hb hw).row
  obtain ⟨hp1, hp2⟩ := putD_ok (s := s) hok
  have HP1 := Lib.hid hp1; have HP2 := Lib.hid hp2
  rw [jk] at h1t
  clear hok hp1 hp2 hk0 jk
  go_wp2_with fail
  refine (dgood_any v _).mono ?_
  rintro e w2 ⟨rfl, rfl⟩
  rw [hv]
  go_wp2_with fail
  refine (dgood_any b _).mono ?_
  rintro e w2 ⟨rfl, rfl⟩
  rw [hb]
  go_wp2_with fail
  refine (dgood_any wt _).mono ?_
  rintro e w2 ⟨rfl, rfl⟩
  rw [hw]
  clear hv hb hw h1t
  go_wp2_with fail
  refine (dget_any (Look.of_st P1.out) HF.out.f t HID1.out.1 HID1.out.2.1 HID1.out.2.2).mono ?_
  rintro e w2 ⟨rfl, hb2⟩
  obtain ⟨u, hu⟩ : ∃ u, u = getD (getP s.t) t ids := ⟨_, rfl⟩
  rw [← hu] at hbn HP1 ⊢
  have L2 := Lib.hid (L1.out.later hb2)
  clear hb2 hu L1 P1 HB1 HID1
  go_wp2_with fail
  refine (dsettle_any u b _).mono ?_
  rintro e w3 ⟨rfl, hb3⟩
  have L3 := Lib.hid (L2.out.later hb3)
  obtain ⟨z, hz⟩ : ∃ z, z = settleD u b := ⟨_, rfl⟩
  rw [← hz]
  have hnx : nextD u v b wt = settleD ⟨z.has, z.now, v, b + wt, true⟩ b := by rw [hz]; rfl
  rw [hnx] at hbn HP1
  clear hb3 hz hnx L2
  obtain ⟨za, zn, zx, zt, zm⟩ := z
  go_wp2_with (refine wpList_alloc_g rfl _ rfl _ _ Try.zeroDDV rfl ?_)
  intro R w4 h4
  go_wp2_with (refine wpList_store_row_g (t := 53) (old := #[.bool false, .int .i64 0, .int .i64 0, .int .i64 0, .bool false]) rfl 53 _ _ rfl R #[.bool za, .int .i64 zn, .int .i64 zx, .int .i64 zt, .bool zm] rfl rfl h4.out.cells Try.sizeDDV rfl (by simp [Value.oneCell']) ?_)
  intro w5 h5 k45 _
  go_wp2_with (refine wpList_store1_g rfl 4 _ _ rfl R 4 _ rfl rfl rfl rfl 53 _ h5 (by kernel_rfl) (by simp) #[.bool za, .int .i64 zn, .int .i64 zx, .int .i64 zt, .bool true] rfl ?_)
  intro w6 h6 k56 _
  go_wp2_with (refine wpList_store1_g rfl 3 _ _ rfl R 2 _ rfl rfl rfl rfl 53 _ h6 (by kernel_rfl) (by simp) #[.bool za, .int .i64 zn, .int .i64 v, .int .i64 zt, .bool true] rfl ?_)
  intro w7 h7 k67 _
  go_wp2_with (refine wpList_store1_g rfl 3 _ _ rfl R 3 _ rfl rfl rfl rfl 53 _ h7 (by kernel_rfl) (by simp) #[.bool za, .int .i64 zn, .int .i64 v, .int .i64 (b + wt), .bool true] rfl ?_)
  intro w8 h8 k78 _
  have hb38 : Below w3.heap.size w3 w8 := by
    have hR : w3.heap.size ≤ R := Nat.le_of_eq h4.out.eq.symm
    have s4 := h4.out.below
    have s5 := s4.trans (k45.below (B := w3.heap.size) (fun x hx e => by omega) s4.size)
    have s6 := s5.trans (k56.below (B := w3.heap.size) (fun x hx e => by omega) s5.size)
    have s7 := s6.trans (k67.below (B := w3.heap.size) (fun x hx e => by omega) s6.size)
    exact s7.trans (k78.below (B := w3.heap.size) (fun x hx e => by omega) s7.size)
  have L8 := Lib.hid (L3.out.later hb38); have HX := Lib.hid h8
  clear hb38 h4 h5 h6 h7 h8 k45 k56 k67 k78 L3
  go_wp2_with (refine wpList_load_row rfl 53 _ rfl R rfl 53 _ _ _ HX.out Try.underlying53 rfl Try.sizeDDV ?_)
  refine (dsettle_any ⟨za, zn, v, b + wt, true⟩ b _).mono ?_
  rintro e w9 ⟨rfl, hb9⟩
  have L9 := Lib.hid (L8.out.later hb9)
  obtain ⟨y, hy⟩ : ∃ y, y = settleD ⟨za, zn, v, b + wt, true⟩ b := ⟨_, rfl⟩
  have hbn2 : Hid (I64s (rowD y)) := by rw [hy]; exact hbn
  have HP3 : Hid (putD s t ids v b wt = s.setRow (keyF t ids) (rowD y)) := by rw [hy]; exact HP1
  rw [← hy]
  clear hb9 hy L8 HX hbn HP1
  go_wp2_with fail
  refine (drow_any y _).mono ?_
  rintro e wa ⟨vr, rfl, ho, hba⟩
  have LA := Lib.hid (L9.out.later hba); have HO := Lib.hid ho
  clear ho hba L9
  go_wp2_with fail
  refine (LA.out.call fun F h => setRow_any h HZ.out k (by simp [rowD]) hbn2.out (RowRet.rd HO.out)).mono ?_
  rintro e wb ⟨rfl, LB, _⟩
  have LB := Lib.hid LB
  go_wp2_with fail
  go_ret
  rw [HP3.out, HP2.out, ← HK.out]
  exact LB.out.ret
end Go.Proofs.Ytohedljdkfmkdaa
