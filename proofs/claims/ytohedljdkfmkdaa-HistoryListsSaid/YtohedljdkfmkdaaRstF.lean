/- Copy of the document's store: no condition. -/
import Derived.Test.YtohedljdkfmkdaaRstE
namespace Go.Proofs.Ytohedljdkfmkdaa
open Go.RowKit

/-- Numbers i and j alone may come up now. -/
theorem till_two {P : Program} {md : Region.Mode} {ops : Array Oper} {Q : Exit → Act → World → Prop} {S : World → Prop} {z : Nat} (i j : Nat) {oi oj : Oper} {fuel : Nat} {listed : Array Bool} {a : Act} {w : World} (hi : ops[i]? = some oi) (hj : ops[j]? = some oj) (hr : Region.ready md ops listed = [i, j])
    (h1 : ∀ K : Act → World → Prop, (∀ a w, (i ≠ z → listed.getD z false = false → S w) → AnyTill P md ops Q S z fuel (listed.setIfInBounds i true) a w → K a w) → if Region.wanted oi (yielded ops a.tmps) = true then Oper.wp P oi a w K Q else K (a.put oi.dst undef) w)
    (h2 : ∀ K : Act → World → Prop, (∀ a w, (j ≠ z → listed.getD z false = false → S w) → AnyTill P md ops Q S z fuel (listed.setIfInBounds j true) a w → K a w) → if Region.wanted oj (yielded ops a.tmps) = true then Oper.wp P oj a w K Q else K (a.put oj.dst undef) w) :
    AnyTill P md ops Q S z (fuel + 1) listed a w :=
  ⟨fun h0 => (by rw [hr] at h0; cases h0), by
    rw [hr]
    intro k hk
    rcases (by simpa using hk : k = i ∨ k = j) with rfl | rfl
    · exact wpOp_step hi (fun K hK => h1 K (fun a w hS hA => hK a w ⟨hS, hA⟩))
    · exact wpOp_step hj (fun K hK => h2 K (fun a w hS hA => hK a w ⟨hS, hA⟩))⟩
theorem LO.aside {α β : Type} {w w' : World} {e1 e2 : TypeId} {enc1 : α → List Value} {enc2 : β → List Value} {sz1 sz2 : Nat} {v1 v2 : Value} {l1 : List α} {l2 : List β} (h1 : LO w e1 enc1 sz1 v1 l1) (h2 : LO w e2 enc2 sz2 v2 l2) (hne : e1 ≠ e2) (k : Keep (fun k => v2.ownBlock = some k) w w') : LO w' e1 enc1 sz1 v1 l1 :=
  h1.keep k fun q e e3 => by
    obtain ⟨cs, hc⟩ := h1.kind e
    exact h2.apart hc (by first | exact hne | exact hne.symm) e3
/-- A store that has been copied: its block is new, and so are all blocks that it has. -/
def RCopyRet (w : World) (s : PS) (x : Ending) (w' : World) : Prop := ∃ g' F', x = .returned (.pointer (some ⟨g', 0, none⟩)) ∧ RS w' g' s F' ∧ Below w.heap.size w w' ∧ ∀ k ∈ F', w.heap.size ≤ k

set_option maxHeartbeats 8000000 in
set_option maxRecDepth 100000 in
theorem rcopy_any {w : World} {g : Nat} {s : PS} {F : List Nat} (h : RS w g s F) (htl : s.t.length < 1099511627776) (hpl : s.past.length < 1099511627776) :
    Calls Try.prog 23 #[.pointer (some ⟨g, 0, none⟩)] w (RCopyRet w s) := by
  obtain ⟨vL, vP, h, _⟩ := h
  obtain ⟨ad, cap, hvL, h1, h2⟩ := h.list.shape
  obtain ⟨n, hn⟩ : ∃ n, n = s.t.length := ⟨_, rfl⟩
  obtain ⟨adp, capp, hvP, h3, h4⟩ := h.past.shape
  obtain ⟨np, hnp⟩ : ∃ np, np = s.past.length := ⟨_, rfl⟩
  rw [← hn] at hvL h1
  rw [← hnp] at hvP h3
  subst hvL hvP
  have H := Lib.hid h; have HN := Lib.hid hn; have HNP := Lib.hid hnp; have HTL := Lib.hid htl; have HPL := Lib.hid hpl
  have CC : Hid (∀ wx : World, Below w.heap.size w wx → wx.cell? ⟨g, 0, none⟩ = some (.slice ad n cap) ∧ wx.cell? ⟨g, 1, none⟩ = some (.slice adp np capp)) := Lib.hid fun wx hb =>
    have hg := (hb.block g (heap_lt h.head)).trans h.head
    ⟨Lib.cell_of_heap hg 0, Lib.cell_of_heap hg 1⟩
  clear h hn hnp htl hpl
  go_enter Try.func23, Try.ntmps23
  go_wp2_with fail
  have hS : Below w.heap.size w w.drew := (Below.refl _ _).drew
  refine wp_region_till (fun w' => Below w.heap.size w w') 14 15 (by kernel_rfl) rfl ?_
  refine till_take 1 (some 4) rfl rfl (by kernel_rfl) (by kernel_rfl) (by kernel_rfl) (by kernel_rfl) (by kernel_rfl) (by kernel_rfl) (fun _ _ _ h => h) (.inl ⟨by rfl, fun w' _ => (by go_simp; rfl)⟩) hS ?_
  go_frame
  refine till_take 2 (some 5) rfl rfl (by kernel_rfl) (by kernel_rfl) (by kernel_rfl) (by kernel_rfl) (by kernel_rfl) (by kernel_rfl) (fun _ _ _ h => h) (.inl ⟨by rfl, fun w' _ => (by go_simp; rfl)⟩) hS ?_
  go_frame
  refine till_take 3 (some 6) rfl rfl (by kernel_rfl) (by kernel_rfl) (by kernel_rfl) (by kernel_rfl) (by kernel_rfl) (by kernel_rfl) (fun _ _ _ h => h) (.inl ⟨by rfl, fun w' _ => (by go_simp; rfl)⟩) hS ?_
  go_frame
  refine till_take 4 (some 7) rfl rfl (by kernel_rfl) (by kernel_rfl) (by kernel_rfl) (by kernel_rfl) (by kernel_rfl) (by kernel_rfl) (fun _ _ _ h => h) (.inl ⟨by rfl, fun w' hS' => (by have hc := (CC.out w' hS').1; go_simp; rfl)⟩) hS ?_
  go_frame
  refine till_take 7 (some 10) rfl rfl (by kernel_rfl) (by kernel_rfl) (by kernel_rfl) (by kernel_rfl) (by kernel_rfl) (by kernel_rfl) (fun _ _ _ h => h) (.inl ⟨by rfl, fun w' _ => (by go_simp; rfl)⟩) hS ?_
  go_frame
  refine till_take 8 (some 11) rfl rfl (by kernel_rfl) (by kernel_rfl) (by kernel_rfl) (by kernel_rfl) (by kernel_rfl) (by kernel_rfl) (fun _ _ _ h => h) (.inl ⟨by rfl, fun w' _ => (by go_simp; rfl)⟩) hS ?_
  go_frame
  refine till_take 9 (some 12) rfl rfl (by kernel_rfl) (by kernel_rfl) (by kernel_rfl) (by kernel_rfl) (by kernel_rfl) (by kernel_rfl) (fun _ _ _ h => h) (.inl ⟨by rfl, fun w' _ => (by go_simp; rfl)⟩) hS ?_
  go_frame
  refine till_take 10 (some 13) rfl rfl (by kernel_rfl) (by kernel_rfl) (by kernel_rfl) (by kernel_rfl) (by kernel_rfl) (by kernel_rfl) (fun _ _ _ h => h) (.inl ⟨by rfl, fun w' hS' => (by have hc := (CC.out w' hS').2; go_simp; rfl)⟩) hS ?_
  go_frame
  obtain ⟨w0, hw0⟩ : ∃ w0, w0 = w.drew := ⟨_, rfl⟩
  rw [← hw0] at hS ⊢
  clear hw0
  refine till_two 0 6 rfl rfl (by kernel_rfl) (fun K hK => ?_) (fun K hK => ?_)
  · simp only [List.getElem_toArray, List.getElem_cons_zero]
    rw [if_pos (by rfl)]
    go_simp
    obtain ⟨w1, hw1⟩ : ∃ w1, w1 = w0.alloc (.cells #[] 127) := ⟨_, rfl⟩
    obtain ⟨XL, hXL⟩ : ∃ XL, XL = w0.heap.size := ⟨_, rfl⟩
    rw [← hw1, ← hXL]
    have hb : Below w0.heap.size w0 w1 := by rw [hw1]; exact (Below.refl _ _).alloc (Nat.le_refl _) _
    have hx : w1.heap[XL]? = some (.cells #[] 127 (0, 0)) := by rw [hw1, hXL]; exact heap_alloc_new _ _
    have hl : LO w1 127 pairE 2 (.slice (some ⟨XL, 0, none⟩) 0 0) ([] : List (Txt × Txt)) := LO.mk rfl hx (Nat.le_refl _) (Nat.zero_le _) (Nat.zero_le _) rfl
    have ho : ∀ k, Value.ownBlock (.slice (some ⟨XL, 0, none⟩) 0 0) = some k → w.heap.size ≤ k := fun k e => by cases e; rw [hXL]; exact hS.size
    have hS' : Below w.heap.size w w1 := hS.trans (hb.mono hS.size)
    refine hK _ _ (fun _ _ => hS') ?_
    have HL := Lib.hid hl; have OL := Lib.hid ho
    clear hK hS hw1 hXL hb hx hl ho
    have hS := hS'
    clear hS'
    refine till_two 5 6 rfl rfl (by kernel_rfl) (fun K hK => ?_) (fun K hK => ?_)
    · simp only [List.getElem_toArray, List.getElem_cons_succ, List.getElem_cons_zero]
      rw [if_pos (by rfl)]
      refine wp_lo_apps (l2 := s.t) _ _ 28 28 rfl Try.underlying28 Try.underlying28 Try.infoPair rfl (by decide) pairE_len (pairE_ones _) HL.out rfl _ rfl ((H.out.list.later hS).rd pairE_len) (by have := HTL.out; unfold maxLen; simp; omega) (by have := HTL.out; simp; omega) ?_
      intro vL w2 hl k1 hm
      have hb : Below w.heap.size w w2 := hS.trans (k1.below (B := w.heap.size) (fun q hq e => by have := OL.out q e; omega) hS.size)
      have ho : ∀ k, vL.ownBlock = some k → w.heap.size ≤ k := by
        intro k e
        rcases hm with h | ⟨q, h, h'⟩
        · exact OL.out k (by rw [← h]; exact e)
        · rw [e] at h; cases h; exact Nat.le_trans hS.size h'
      refine hK _ _ (fun _ _ => hb) ?_
      rw [List.nil_append] at hl
      have HL := Lib.hid hl; have OL := Lib.hid ho
      clear hK hS hl k1 hm ho
      have hS := hb
      clear hb
      obtain ⟨adL, capL, e1, _, _⟩ := HL.out.shape
      obtain ⟨nL, hnL⟩ : ∃ nL, nL = s.t.length := ⟨_, rfl⟩
      rw [← hnL] at e1
      clear hnL
      subst e1
      refine till_one 6 rfl (by kernel_rfl) fun K hK => ?_
      simp only [List.getElem_toArray, List.getElem_cons_succ, List.getElem_cons_zero]
      rw [if_pos (by rfl)]
      go_simp
      obtain ⟨w3, hw3⟩ : ∃ w3, w3 = w2.alloc (.cells #[] 170) := ⟨_, rfl⟩
      obtain ⟨XQ, hXQ⟩ : ∃ XQ, XQ = w2.heap.size := ⟨_, rfl⟩
      rw [← hw3, ← hXQ]
      have hb : Below w2.heap.size w2 w3 := by rw [hw3]; exact (Below.refl _ _).alloc (Nat.le_refl _) _
      have hx : w3.heap[XQ]? = some (.cells #[] 170 (0, 0)) := by rw [hw3, hXQ]; exact heap_alloc_new _ _
      have hl : LO w3 170 wasE 3 (.slice (some ⟨XQ, 0, none⟩) 0 0) ([] : List WasP) := LO.mk rfl hx (Nat.le_refl _) (Nat.zero_le _) (Nat.zero_le _) rfl
      have ho : ∀ k, Value.ownBlock (.slice (some ⟨XQ, 0, none⟩) 0 0) = some k → w.heap.size ≤ k := fun k e => by cases e; rw [hXQ]; exact hS.size
      have hS' : Below w.heap.size w w3 := hS.trans (hb.mono hS.size)
      refine hK _ _ (fun _ _ => hS') ?_
      have HQ := Lib.hid hl; have OQ := Lib.hid ho
      have HL := Lib.hid (HL.out.later hb)
      clear hK hS hw3 hXQ hb hx hl ho
      have hS := hS'
      clear hS'
      refine till_one 11 rfl (by kernel_rfl) fun K hK => ?_
      simp only [List.getElem_toArray, List.getElem_cons_succ, List.getElem_cons_zero]
      rw [if_pos (by rfl)]
      refine wp_lo_apps (l2 := s.past) _ _ 29 29 rfl Try.underlying29 Try.underlying29 Try.infoRWas rfl (by decide) wasE_len (wasE_ones _) HQ.out rfl _ rfl ((H.out.past.later hS).rd wasE_len) (by have := HPL.out; unfold maxLen; simp; omega) (by have := HPL.out; simp; omega) ?_
      intro vQ w4 hl k1 hm
      have hb : Below w.heap.size w w4 := hS.trans (k1.below (B := w.heap.size) (fun q hq e => by have := OQ.out q e; omega) hS.size)
      have ho : ∀ k, vQ.ownBlock = some k → w.heap.size ≤ k := by
        intro k e
        rcases hm with h | ⟨q, h, h'⟩
        · exact OQ.out k (by rw [← h]; exact e)
        · rw [e] at h; cases h; exact Nat.le_trans hS.size h'
      refine hK _ _ (fun _ _ => hb) ?_
      have HL := Lib.hid (HL.out.aside HQ.out (by decide) k1)
      rw [List.nil_append] at hl
      have HQ := Lib.hid hl; have OQ := Lib.hid ho
      clear hK hS hl k1 hm ho
      have hS := hb
      clear hb
      obtain ⟨adQ, capQ, e1, _, _⟩ := HQ.out.shape
      obtain ⟨nQ, hnQ⟩ : ∃ nQ, nQ = s.past.length := ⟨_, rfl⟩
      rw [← hnQ] at e1
      clear hnQ
      subst e1
      refine till_take 12 (some 15) rfl rfl (by kernel_rfl) (by kernel_rfl) (by kernel_rfl) (by kernel_rfl) (by kernel_rfl) (by kernel_rfl) (fun _ _ _ h => h) (.inl ⟨by rfl, fun w' _ => (by go_simp; rfl)⟩) hS ?_
      go_frame
      refine till_one 13 rfl (by kernel_rfl) fun K hK => ?_
      simp only [List.getElem_toArray, List.getElem_cons_succ, List.getElem_cons_zero]
      rw [if_pos (by rfl)]
      go_simp
      obtain ⟨w9, hw9⟩ : ∃ w9, w9 = w4.alloc (.cells #[.slice adL nL capL, .slice adQ nQ capQ] 31) := ⟨_, rfl⟩
      obtain ⟨X, hX⟩ : ∃ X, X = w4.heap.size := ⟨_, rfl⟩
      rw [← hw9, ← hX]
      have hb9 : Below w4.heap.size w4 w9 := by rw [hw9]; exact (Below.refl _ _).alloc (Nat.le_refl _) _
      have hx9 : w9.heap[X]? = some (.cells #[.slice adL nL capL, .slice adQ nQ capQ] 31 (0, 0)) := by rw [hw9, hX]; exact heap_alloc_new _ _
      have hS9 := hS.trans (hb9.mono hS.size)
      have hXw : w.heap.size ≤ X := by rw [hX]; exact hS.size
      refine hK _ _ (fun _ _ => hS9) ?_
      have HL9 := Lib.hid (HL.out.later hb9); have HQ9 := Lib.hid (HQ.out.later hb9); have HX9 := Lib.hid hx9; have HS9 := Lib.hid hS9; have HXW := Lib.hid hXw
      clear hK hS hw9 hX hb9 hx9 hXw
      have hS := hS9
      clear hS9
      refine till_one 14 rfl (by kernel_rfl) fun K hK => ?_
      simp only [List.getElem_toArray, List.getElem_cons_succ, List.getElem_cons_zero]
      rw [if_pos (by rfl)]
      go_simp
      refine hK _ _ (fun h => absurd rfl h) ?_
      clear hK hS
      refine till_done (by kernel_rfl) ?_ _
      go_wp2_with fail
      go_ret
      refine ⟨X, _, rfl, ⟨_, _, ⟨HX9.out, HL9.out, HQ9.out, H.out.up⟩, rfl⟩, HS9.out, fun k hk => ?_⟩
      rw [rfoot_eq] at hk
      rcases hk with h | h | h
      · rw [h]; exact HXW.out
      · exact OL.out k h
      · exact OQ.out k h
    · simp only [List.getElem_toArray, List.getElem_cons_succ, List.getElem_cons_zero]
      rw [if_pos (by rfl)]
      go_simp
      obtain ⟨w2, hw2⟩ : ∃ w2, w2 = w1.alloc (.cells #[] 170) := ⟨_, rfl⟩
      obtain ⟨XQ, hXQ⟩ : ∃ XQ, XQ = w1.heap.size := ⟨_, rfl⟩
      rw [← hw2, ← hXQ]
      have hb : Below w1.heap.size w1 w2 := by rw [hw2]; exact (Below.refl _ _).alloc (Nat.le_refl _) _
      have hx : w2.heap[XQ]? = some (.cells #[] 170 (0, 0)) := by rw [hw2, hXQ]; exact heap_alloc_new _ _
      have hl : LO w2 170 wasE 3 (.slice (some ⟨XQ, 0, none⟩) 0 0) ([] : List WasP) := LO.mk rfl hx (Nat.le_refl _) (Nat.zero_le _) (Nat.zero_le _) rfl
      have ho : ∀ k, Value.ownBlock (.slice (some ⟨XQ, 0, none⟩) 0 0) = some k → w.heap.size ≤ k := fun k e => by cases e; rw [hXQ]; exact hS.size
      have hS' : Below w.heap.size w w2 := hS.trans (hb.mono hS.size)
      refine hK _ _ (fun _ _ => hS') ?_
      have HQ := Lib.hid hl; have OQ := Lib.hid ho
      have HL := Lib.hid (HL.out.later hb)
      clear hK hS hw2 hXQ hb hx hl ho
      have hS := hS'
      clear hS'
      refine till_one 5 rfl (by kernel_rfl) fun K hK => ?_
      simp only [List.getElem_toArray, List.getElem_cons_succ, List.getElem_cons_zero]
      rw [if_pos (by rfl)]
      refine wp_lo_apps (l2 := s.t) _ _ 28 28 rfl Try.underlying28 Try.underlying28 Try.infoPair rfl (by decide) pairE_len (pairE_ones _) HL.out rfl _ rfl ((H.out.list.later hS).rd pairE_len) (by have := HTL.out; unfold maxLen; simp; omega) (by have := HTL.out; simp; omega) ?_
      intro vL w3 hl k1 hm
      have hb : Below w.heap.size w w3 := hS.trans (k1.below (B := w.heap.size) (fun q hq e => by have := OL.out q e; omega) hS.size)
      have ho : ∀ k, vL.ownBlock = some k → w.heap.size ≤ k := by
        intro k e
        rcases hm with h | ⟨q, h, h'⟩
        · exact OL.out k (by rw [← h]; exact e)
        · rw [e] at h; cases h; exact Nat.le_trans hS.size h'
      refine hK _ _ (fun _ _ => hb) ?_
      have HQ := Lib.hid (HQ.out.aside HL.out (by decide) k1)
      rw [List.nil_append] at hl
      have HL := Lib.hid hl; have OL := Lib.hid ho
      clear hK hS hl k1 hm ho
      have hS := hb
      clear hb
      obtain ⟨adL, capL, e1, _, _⟩ := HL.out.shape
      obtain ⟨nL, hnL⟩ : ∃ nL, nL = s.t.length := ⟨_, rfl⟩
      rw [← hnL] at e1
      clear hnL
      subst e1
      refine till_one 11 rfl (by kernel_rfl) fun K hK => ?_
      simp only [List.getElem_toArray, List.getElem_cons_succ, List.getElem_cons_zero]
      rw [if_pos (by rfl)]
      refine wp_lo_apps (l2 := s.past) _ _ 29 29 rfl Try.underlying29 Try.underlying29 Try.infoRWas rfl (by decide) wasE_len (wasE_ones _) HQ.out rfl _ rfl ((H.out.past.later hS).rd wasE_len) (by have := HPL.out; unfold maxLen; simp; omega) (by have := HPL.out; simp; omega) ?_
      intro vQ w4 hl k1 hm
      have hb : Below w.heap.size w w4 := hS.trans (k1.below (B := w.heap.size) (fun q hq e => by have := OQ.out q e; omega) hS.size)
      have ho : ∀ k, vQ.ownBlock = some k → w.heap.size ≤ k := by
        intro k e
        rcases hm with h | ⟨q, h, h'⟩
        · exact OQ.out k (by rw [← h]; exact e)
        · rw [e] at h; cases h; exact Nat.le_trans hS.size h'
      refine hK _ _ (fun _ _ => hb) ?_
      have HL := Lib.hid (HL.out.aside HQ.out (by decide) k1)
      rw [List.nil_append] at hl
      have HQ := Lib.hid hl; have OQ := Lib.hid ho
      clear hK hS hl k1 hm ho
      have hS := hb
      clear hb
      obtain ⟨adQ, capQ, e1, _, _⟩ := HQ.out.shape
      obtain ⟨nQ, hnQ⟩ : ∃ nQ, nQ = s.past.length := ⟨_, rfl⟩
      rw [← hnQ] at e1
      clear hnQ
      subst e1
      refine till_take 12 (some 15) rfl rfl (by kernel_rfl) (by kernel_rfl) (by kernel_rfl) (by kernel_rfl) (by kernel_rfl) (by kernel_rfl) (fun _ _ _ h => h) (.inl ⟨by rfl, fun w' _ => (by go_simp; rfl)⟩) hS ?_
      go_frame
      refine till_one 13 rfl (by kernel_rfl) fun K hK => ?_
      simp only [List.getElem_toArray, List.getElem_cons_succ, List.getElem_cons_zero]
      rw [if_pos (by rfl)]
      go_simp
      obtain ⟨w9, hw9⟩ : ∃ w9, w9 = w4.alloc (.cells #[.slice adL nL capL, .slice adQ nQ capQ] 31) := ⟨_, rfl⟩
      obtain ⟨X, hX⟩ : ∃ X, X = w4.heap.size := ⟨_, rfl⟩
      rw [← hw9, ← hX]
      have hb9 : Below w4.heap.size w4 w9 := by rw [hw9]; exact (Below.refl _ _).alloc (Nat.le_refl _) _
      have hx9 : w9.heap[X]? = some (.cells #[.slice adL nL capL, .slice adQ nQ capQ] 31 (0, 0)) := by rw [hw9, hX]; exact heap_alloc_new _ _
      have hS9 := hS.trans (hb9.mono hS.size)
      have hXw : w.heap.size ≤ X := by rw [hX]; exact hS.size
      refine hK _ _ (fun _ _ => hS9) ?_
      have HL9 := Lib.hid (HL.out.later hb9); have HQ9 := Lib.hid (HQ.out.later hb9); have HX9 := Lib.hid hx9; have HS9 := Lib.hid hS9; have HXW := Lib.hid hXw
      clear hK hS hw9 hX hb9 hx9 hXw
      have hS := hS9
      clear hS9
      refine till_one 14 rfl (by kernel_rfl) fun K hK => ?_
      simp only [List.getElem_toArray, List.getElem_cons_succ, List.getElem_cons_zero]
      rw [if_pos (by rfl)]
      go_simp
      refine hK _ _ (fun h => absurd rfl h) ?_
      clear hK hS
      refine till_done (by kernel_rfl) ?_ _
      go_wp2_with fail
      go_ret
      refine ⟨X, _, rfl, ⟨_, _, ⟨HX9.out, HL9.out, HQ9.out, H.out.up⟩, rfl⟩, HS9.out, fun k hk => ?_⟩
      rw [rfoot_eq] at hk
      rcases hk with h | h | h
      · rw [h]; exact HXW.out
      · exact OL.out k h
      · exact OQ.out k h
  · simp only [List.getElem_toArray, List.getElem_cons_succ, List.getElem_cons_zero]
    rw [if_pos (by rfl)]
    go_simp
    obtain ⟨w1, hw1⟩ : ∃ w1, w1 = w0.alloc (.cells #[] 170) := ⟨_, rfl⟩
    obtain ⟨XQ, hXQ⟩ : ∃ XQ, XQ = w0.heap.size := ⟨_, rfl⟩
    rw [← hw1, ← hXQ]
    have hb : Below w0.heap.size w0 w1 := by rw [hw1]; exact (Below.refl _ _).alloc (Nat.le_refl _) _
    have hx : w1.heap[XQ]? = some (.cells #[] 170 (0, 0)) := by rw [hw1, hXQ]; exact heap_alloc_new _ _
    have hl : LO w1 170 wasE 3 (.slice (some ⟨XQ, 0, none⟩) 0 0) ([] : List WasP) := LO.mk rfl hx (Nat.le_refl _) (Nat.zero_le _) (Nat.zero_le _) rfl
    have ho : ∀ k, Value.ownBlock (.slice (some ⟨XQ, 0, none⟩) 0 0) = some k → w.heap.size ≤ k := fun k e => by cases e; rw [hXQ]; exact hS.size
    have hS' : Below w.heap.size w w1 := hS.trans (hb.mono hS.size)
    refine hK _ _ (fun _ _ => hS') ?_
    have HQ := Lib.hid hl; have OQ := Lib.hid ho
    clear hK hS hw1 hXQ hb hx hl ho
    have hS := hS'
    clear hS'
    refine till_one 0 rfl (by kernel_rfl) fun K hK => ?_
    simp only [List.getElem_toArray, List.getElem_cons_zero]
    rw [if_pos (by rfl)]
    go_simp
    obtain ⟨w2, hw2⟩ : ∃ w2, w2 = w1.alloc (.cells #[] 127) := ⟨_, rfl⟩
    obtain ⟨XL, hXL⟩ : ∃ XL, XL = w1.heap.size := ⟨_, rfl⟩
    rw [← hw2, ← hXL]
    have hb : Below w1.heap.size w1 w2 := by rw [hw2]; exact (Below.refl _ _).alloc (Nat.le_refl _) _
    have hx : w2.heap[XL]? = some (.cells #[] 127 (0, 0)) := by rw [hw2, hXL]; exact heap_alloc_new _ _
    have hl : LO w2 127 pairE 2 (.slice (some ⟨XL, 0, none⟩) 0 0) ([] : List (Txt × Txt)) := LO.mk rfl hx (Nat.le_refl _) (Nat.zero_le _) (Nat.zero_le _) rfl
    have ho : ∀ k, Value.ownBlock (.slice (some ⟨XL, 0, none⟩) 0 0) = some k → w.heap.size ≤ k := fun k e => by cases e; rw [hXL]; exact hS.size
    have hS' : Below w.heap.size w w2 := hS.trans (hb.mono hS.size)
    refine hK _ _ (fun _ _ => hS') ?_
    have HL := Lib.hid hl; have OL := Lib.hid ho
    have HQ := Lib.hid (HQ.out.later hb)
    clear hK hS hw2 hXL hb hx hl ho
    have hS := hS'
    clear hS'
    refine till_one 5 rfl (by kernel_rfl) fun K hK => ?_
    simp only [List.getElem_toArray, List.getElem_cons_succ, List.getElem_cons_zero]
    rw [if_pos (by rfl)]
    refine wp_lo_apps (l2 := s.t) _ _ 28 28 rfl Try.underlying28 Try.underlying28 Try.infoPair rfl (by decide) pairE_len (pairE_ones _) HL.out rfl _ rfl ((H.out.list.later hS).rd pairE_len) (by have := HTL.out; unfold maxLen; simp; omega) (by have := HTL.out; simp; omega) ?_
    intro vL w3 hl k1 hm
    have hb : Below w.heap.size w w3 := hS.trans (k1.below (B := w.heap.size) (fun q hq e => by have := OL.out q e; omega) hS.size)
    have ho : ∀ k, vL.ownBlock = some k → w.heap.size ≤ k := by
      intro k e
      rcases hm with h | ⟨q, h, h'⟩
      · exact OL.out k (by rw [← h]; exact e)
      · rw [e] at h; cases h; exact Nat.le_trans hS.size h'
    refine hK _ _ (fun _ _ => hb) ?_
    have HQ := Lib.hid (HQ.out.aside HL.out (by decide) k1)
    rw [List.nil_append] at hl
    have HL := Lib.hid hl; have OL := Lib.hid ho
    clear hK hS hl k1 hm ho
    have hS := hb
    clear hb
    obtain ⟨adL, capL, e1, _, _⟩ := HL.out.shape
    obtain ⟨nL, hnL⟩ : ∃ nL, nL = s.t.length := ⟨_, rfl⟩
    rw [← hnL] at e1
    clear hnL
    subst e1
    refine till_one 11 rfl (by kernel_rfl) fun K hK => ?_
    simp only [List.getElem_toArray, List.getElem_cons_succ, List.getElem_cons_zero]
    rw [if_pos (by rfl)]
    refine wp_lo_apps (l2 := s.past) _ _ 29 29 rfl Try.underlying29 Try.underlying29 Try.infoRWas rfl (by decide) wasE_len (wasE_ones _) HQ.out rfl _ rfl ((H.out.past.later hS).rd wasE_len) (by have := HPL.out; unfold maxLen; simp; omega) (by have := HPL.out; simp; omega) ?_
    intro vQ w4 hl k1 hm
    have hb : Below w.heap.size w w4 := hS.trans (k1.below (B := w.heap.size) (fun q hq e => by have := OQ.out q e; omega) hS.size)
    have ho : ∀ k, vQ.ownBlock = some k → w.heap.size ≤ k := by
      intro k e
      rcases hm with h | ⟨q, h, h'⟩
      · exact OQ.out k (by rw [← h]; exact e)
      · rw [e] at h; cases h; exact Nat.le_trans hS.size h'
    refine hK _ _ (fun _ _ => hb) ?_
    have HL := Lib.hid (HL.out.aside HQ.out (by decide) k1)
    rw [List.nil_append] at hl
    have HQ := Lib.hid hl; have OQ := Lib.hid ho
    clear hK hS hl k1 hm ho
    have hS := hb
    clear hb
    obtain ⟨adQ, capQ, e1, _, _⟩ := HQ.out.shape
    obtain ⟨nQ, hnQ⟩ : ∃ nQ, nQ = s.past.length := ⟨_, rfl⟩
    rw [← hnQ] at e1
    clear hnQ
    subst e1
    refine till_take 12 (some 15) rfl rfl (by kernel_rfl) (by kernel_rfl) (by kernel_rfl) (by kernel_rfl) (by kernel_rfl) (by kernel_rfl) (fun _ _ _ h => h) (.inl ⟨by rfl, fun w' _ => (by go_simp; rfl)⟩) hS ?_
    go_frame
    refine till_one 13 rfl (by kernel_rfl) fun K hK => ?_
    simp only [List.getElem_toArray, List.getElem_cons_succ, List.getElem_cons_zero]
    rw [if_pos (by rfl)]
    go_simp
    obtain ⟨w9, hw9⟩ : ∃ w9, w9 = w4.alloc (.cells #[.slice adL nL capL, .slice adQ nQ capQ] 31) := ⟨_, rfl⟩
    obtain ⟨X, hX⟩ : ∃ X, X = w4.heap.size := ⟨_, rfl⟩
    rw [← hw9, ← hX]
    have hb9 : Below w4.heap.size w4 w9 := by rw [hw9]; exact (Below.refl _ _).alloc (Nat.le_refl _) _
    have hx9 : w9.heap[X]? = some (.cells #[.slice adL nL capL, .slice adQ nQ capQ] 31 (0, 0)) := by rw [hw9, hX]; exact heap_alloc_new _ _
    have hS9 := hS.trans (hb9.mono hS.size)
    have hXw : w.heap.size ≤ X := by rw [hX]; exact hS.size
    refine hK _ _ (fun _ _ => hS9) ?_
    have HL9 := Lib.hid (HL.out.later hb9); have HQ9 := Lib.hid (HQ.out.later hb9); have HX9 := Lib.hid hx9; have HS9 := Lib.hid hS9; have HXW := Lib.hid hXw
    clear hK hS hw9 hX hb9 hx9 hXw
    have hS := hS9
    clear hS9
    refine till_one 14 rfl (by kernel_rfl) fun K hK => ?_
    simp only [List.getElem_toArray, List.getElem_cons_succ, List.getElem_cons_zero]
    rw [if_pos (by rfl)]
    go_simp
    refine hK _ _ (fun h => absurd rfl h) ?_
    clear hK hS
    refine till_done (by kernel_rfl) ?_ _
    go_wp2_with fail
    go_ret
    refine ⟨X, _, rfl, ⟨_, _, ⟨HX9.out, HL9.out, HQ9.out, H.out.up⟩, rfl⟩, HS9.out, fun k hk => ?_⟩
    rw [rfoot_eq] at hk
    rcases hk with h | h | h
    · rw [h]; exact HXW.out
    · exact OL.out k h
    · exact OQ.out k h
end Go.Proofs.Ytohedljdkfmkdaa
