/- lay, Set and Delete of the document's store: no condition. -/
import Derived.Test.YthnjakomkdlglaaRstA
namespace Go.Proofs.Ythnjakomkdlglaa
open Go.RowKit

theorem at_cons {p : Txt × Txt} {t : Tab} {k : Txt} {i : Nat} (h : At (keysP (p :: t)) k (i + 1)) : less p.1 k = true ∧ At (keysP t) k i := by
  refine ⟨h.lo 0 (by simp [keysP]) (Nat.succ_pos _), ⟨?_, fun j hj hji => ?_, fun j hj hij => ?_⟩⟩
  · have := h.le; simp [keysP] at this ⊢; omega
  · exact h.lo (j + 1) (by simp [keysP] at hj ⊢; omega) (by omega)
  · exact h.hi (j + 1) (by simp [keysP] at hj ⊢; omega) (by omega)
theorem ins_at : ∀ {t : Tab} {k : Txt} {i : Nat} (v : Txt), Up t → At (keysP t) k i → insP t k v = t.take i ++ (k, v) :: t.drop (if (getP t k).isSome = true then i + 1 else i)
  | [], k, i, v, _, h => by
    have : i = 0 := by have := h.le; simpa [keysP] using this
    subst this; rfl
  | p :: t, k, 0, v, hu, h => by
    have hp := List.pairwise_cons.1 hu
    have h0 := h.hi 0 (by simp [keysP]) (Nat.le_refl _)
    have h0' : less p.1 k = false := h0
    unfold insP
    rcases not_less h0' with e | e
    · rw [if_pos e, getP_cons, if_pos e]; rfl
    · have hne : p.1 ≠ k := (less_ne e).symm
      have hnone : getP (p :: t) k = none := getP_none.2 fun q hq e2 => by
        rcases List.mem_cons.1 hq with rfl | hq
        · exact hne e2
        · have := less_trans e (hp.1 q hq); rw [e2, less_irrefl] at this; cases this
      rw [if_neg hne, if_neg (by rw [h0']; simp), hnone]; rfl
  | p :: t, k, i + 1, v, hu, h => by
    have hp := List.pairwise_cons.1 hu
    obtain ⟨h1, h2⟩ := at_cons h
    unfold insP
    rw [if_neg (less_ne h1), if_pos h1, ins_at v hp.2 h2, getP_cons, if_neg (less_ne h1)]
    split <;> rfl
theorem del_at : ∀ {t : Tab} {k : Txt} {i : Nat}, Up t → At (keysP t) k i → delP t k = t.take i ++ t.drop (if (getP t k).isSome = true then i + 1 else i)
  | [], k, i, _, h => by
    have : i = 0 := by have := h.le; simpa [keysP] using this
    subst this; rfl
  | p :: t, k, 0, hu, h => by
    have hp := List.pairwise_cons.1 hu
    have h0' : less p.1 k = false := h.hi 0 (by simp [keysP]) (Nat.le_refl _)
    rcases not_less h0' with e | e
    · have h1 : delP t k = t := del_none (getP_none.2 fun q hq e2 => by have := hp.1 q hq; rw [e, e2, less_irrefl] at this; cases this)
      have h2 : delP (p :: t) k = delP t k := by unfold delP; rw [List.filter_cons_of_neg (by simp [e])]
      rw [h2, h1, getP_cons, if_pos e]; rfl
    · have hne : p.1 ≠ k := (less_ne e).symm
      have hnone : getP (p :: t) k = none := getP_none.2 fun q hq e2 => by
        rcases List.mem_cons.1 hq with rfl | hq
        · exact hne e2
        · have := less_trans e (hp.1 q hq); rw [e2, less_irrefl] at this; cases this
      rw [del_none hnone, hnone]; rfl
  | p :: t, k, i + 1, hu, h => by
    have hp := List.pairwise_cons.1 hu
    obtain ⟨h1, h2⟩ := at_cons h
    have h3 : delP (p :: t) k = p :: delP t k := by unfold delP; rw [List.filter_cons_of_pos (by simp [less_ne h1])]
    rw [h3, del_at hp.2 h2, getP_cons, if_neg (less_ne h1)]
    split <;> rfl
theorem Try.sizePair : (Try.prog.info? 99).map (·.size) = some 2 := by kernel_rfl
theorem Try.infoRWas : (Try.prog.info? 148).map (fun i => (i.zero, i.size, i.bytes)) = some (some (.agg #[.string ⟨#[]⟩, .string ⟨#[]⟩, .bool false]), 3, 40) := by kernel_rfl

/-- The list has been laid anew. -/
theorem rlist_close {w w4 w5 : World} {g : Nat} {vL vP vL' : Value} {s : PS} {t' : Tab} (h0 : RAt w g s vL vP) (hb : Below w.heap.size w w4) (hl : LO w4 99 pairE 2 vL' t') (ho : ∀ k, vL'.ownBlock = some k → w.heap.size ≤ k) (hu : Up t')
    (h5 : w5.heap[g]? = some (.cells #[vL', vP] 45 (0, 0))) (k45 : Keep (· = g) w4 w5) :
    RAt w5 g ⟨t', s.past⟩ vL' vP ∧ Keep (· ∈ rfoot g vL vP) w w5 ∧ ∀ x ∈ rfoot g vL' vP, x ∈ rfoot g vL vP ∨ w.heap.size ≤ x := by
  have hg4 := (hb.block g (heap_lt h0.head)).trans h0.head
  refine ⟨⟨h5, hl.keep k45 fun k e e2 => hl.apart hg4 (by decide) (by rw [e, e2]), (h0.past.later hb).keep k45 fun k e e2 => (h0.past.later hb).apart hg4 (by decide) (by rw [e, e2]), hu⟩, ?_, ?_⟩
  · exact (Keep.of_below hb).then k45 fun x hx => .inl ((rfoot_eq _ _ _ _).2 (.inl hx))
  · intro x hx
    rw [rfoot_eq] at hx ⊢
    rcases hx with h | h | h
    · exact .inl (.inl h)
    · exact .inr (ho x h)
    · exact .inl (.inr (.inr h))
set_option maxHeartbeats 8000000 in
set_option maxRecDepth 100000 in
theorem rlay_any {w : World} {g : Nat} {s : PS} {F : List Nat} (h : RS w g s F) (hl : s.t.length < 1099511627776) (k v : Txt) (there : Bool) :
    Calls Try.prog 89 #[.pointer (some ⟨g, 0, none⟩), .string (bs k), .string (bs v), .bool there] w (RRet w g F ⟨layP s.t k v there, s.past⟩ (.tuple #[])) := by
  have HS := Lib.hid h
  obtain ⟨vL, vP, h, rfl⟩ := h
  obtain ⟨ad, cap, hvL, h1, h2⟩ := h.list.shape
  obtain ⟨n, hn⟩ : ∃ n, n = s.t.length := ⟨_, rfl⟩
  have HL := Lib.hid hl
  rw [← hn] at hvL h1 hl
  have HVL := Lib.hid hvL
  have c0 : w.cell? ⟨g, 0, none⟩ = some vL := Lib.cell_of_heap h.head 0
  rw [hvL] at c0
  have H := Lib.hid h; have HN := Lib.hid hn
  obtain ⟨ok, hok⟩ : ∃ ok, ok = (getP s.t k).isSome := ⟨_, rfl⟩
  have HOK := Lib.hid hok
  clear h hn hok hvL
  go_enter Try.func89, Try.ntmps89
  go_wp2_with fail
  refine (rplace_any HS.out (by have := HL.out; omega) k).mono ?_
  rintro e w1 ⟨i, rfl, ha, rfl⟩
  have HA := Lib.hid ha
  have hle : i ≤ n := by have := ha.le; unfold keysP at this; rw [List.length_map] at this; rw [HN.out]; exact this
  obtain ⟨j, hj⟩ : ∃ j, j = if ok = true then i + 1 else i := ⟨_, rfl⟩
  have hjn : j ≤ s.t.length := by
    rw [hj]
    rcases get_at H.out.up ha with ⟨hi, _, e2⟩ | ⟨_, e2⟩
    · split <;> omega
    · have : ok = false := by rw [HOK.out, e2]; rfl
      have h9 := HN.out
      rw [this, if_neg (by simp)]; omega
  obtain ⟨vA, hA1, hA2, hA3⟩ := (H.out.list.rd pairE_len).upto (P := Try.prog) (t := 42) Try.underlying42 Try.sizePair i (by rw [← HN.out]; exact hle)
  obtain ⟨vB, hB1, hB2, hB3⟩ := (H.out.list.rd pairE_len).from (P := Try.prog) (t := 42) Try.underlying42 Try.sizePair j hjn
  rw [HVL.out] at hA1 hB1
  have HA1 := Lib.hid hA1; have HB1 := Lib.hid hB1; have HA2 := Lib.hid hA2; have HB2 := Lib.hid hB2; have HJ := Lib.hid hj; have HJN := Lib.hid hjn
  have hcase : (∃ hi : i < s.t.length, ok = true ∧ s.t[i].1 = k) ∨ (ok = false ∧ ∀ hi : i < s.t.length, s.t[i].1 ≠ k) := by
    rcases get_at H.out.up ha with ⟨hi, e1, e2⟩ | ⟨e1, e2⟩
    · exact .inl ⟨hi, by rw [HOK.out, e2]; rfl, e1⟩
    · exact .inr ⟨by rw [HOK.out, e2]; rfl, e1⟩
  clear ha hA1 hA2 hA3 hB1 hB2 hB3 hj hjn
  rcases hcase with ⟨hi, hokt, e1⟩ | ⟨hokf, e1⟩
  · subst hokt
    have hji : j = i + 1 := by rw [HJ.out]; rfl
    subst hji
    obtain ⟨gL, hadL, hgL, q0, q1⟩ := (HVL.out ▸ H.out.list).pair i hi
    subst hadL
    rw [e1] at q0
    have g1 : ((bs k).toList == (bs k).toList) = true := by simp
    have hin : i < n := by rw [HN.out]; exact hi
    clear hgL q1 hi e1
    have hA1 := HA1.out
    have hB1 : ∀ (w : World) (kl : IntKind), (Instr.slice 42 (.slice (some ⟨gL, 0, none⟩) n cap) (some (.int kl ((i : Int) + 1))) none none).run Try.prog w = .ok vB w := fun w kl => by
      have := HB1.out w kl
      rwa [show ((i + 1 : Nat) : Int) = (i : Int) + 1 by omega] at this
    cases there with
    | true =>
      go_wp2_with (at_builtin; refine lo_apps (l2 := s.t.take i) (enc := pairE) rfl _ _ 42 42 rfl Try.underlying42 Try.underlying42 Try.infoPair rfl (by decide) pairE_len (pairE_ones _) (LO.nil w _ pairE 2) rfl _ rfl HA2.out (by have := HL.out; unfold maxLen; simp [List.length_take]; omega) (by have := HL.out; simp [List.length_take]; omega) ?_)
      intro v1 w1 r1 k1 m1
      have hb1 : Below w.heap.size w w1 := k1.none fun q _ e => by cases e
      have ho1 : ∀ q, v1.ownBlock = some q → w.heap.size ≤ q := by
        intro q e
        rcases m1 with h | ⟨q', h, h'⟩
        · rw [h] at e; cases e
        · rw [e] at h; cases h; exact h'
      have R1 := Lib.hid r1; have B1 := Lib.hid hb1; have O1 := Lib.hid ho1
      clear r1 k1 m1 hb1 ho1
      have cc : w1.cell? ⟨g, 0, none⟩ = _ := (B1.out.cell (p := ⟨g, 0, none⟩) (heap_lt H.out.head)).trans c0
      have hbal : Below w1.heap.size w1 (w1.alloc (.cells #[.string (bs k), .string (bs v)] 99)) := (Below.refl _ _).alloc (Nat.le_refl _) _
      have HBAL := Lib.hid hbal
      clear hbal
      go_wp2_with (at_builtin; refine lo_app1 (enc := pairE) rfl _ _ 42 42 rfl Try.underlying42 Try.underlying42 Try.infoPair rfl (by decide) pairE_len (R1.out.later HBAL.out) rfl (k, v) (pairE_ones [(k, v)] _ List.mem_cons_self) w1.heap.size #[.string (bs k), .string (bs v)] 99 (heap_alloc_new _ _) rfl rfl (by have := HL.out; unfold maxLen; simp [List.length_take]; omega) (by have := HL.out; simp [List.length_take]; omega) ?_)
      intro v2 w2 r2 k2 m2
      have hb2 : Below w.heap.size w w2 := (B1.out.trans (HBAL.out.mono B1.out.size)).trans (k2.below (B := w.heap.size) (fun q hq e => by have := O1.out q e; omega) (Nat.le_trans B1.out.size HBAL.out.size))
      have ho2 : ∀ q, v2.ownBlock = some q → w.heap.size ≤ q := by
        intro q e
        rcases m2 with h | ⟨q', h, h'⟩
        · exact O1.out q (by rw [← h]; exact e)
        · rw [e] at h; cases h; exact Nat.le_trans (Nat.le_trans B1.out.size HBAL.out.size) h'
      have R2 := Lib.hid r2; have B2 := Lib.hid hb2; have O2 := Lib.hid ho2
      clear r2 k2 m2 hb2 ho2 cc
      have cc : w2.cell? ⟨g, 0, none⟩ = _ := (B2.out.cell (p := ⟨g, 0, none⟩) (heap_lt H.out.head)).trans c0
      go_wp2_with (at_builtin; refine lo_apps (l2 := s.t.drop (i + 1)) (enc := pairE) rfl _ _ 42 42 rfl Try.underlying42 Try.underlying42 Try.infoPair rfl (by decide) pairE_len (pairE_ones _) R2.out rfl _ rfl (HB2.out.later B2.out) (by have := HL.out; unfold maxLen; simp [List.length_take]; omega) (by have := HL.out; simp [List.length_take]; omega) ?_)
      intro v3 w3 r3 k3 m3
      have hb3 : Below w.heap.size w w3 := B2.out.trans (k3.below (B := w.heap.size) (fun q hq e => by have := O2.out q e; omega) B2.out.size)
      have ho3 : ∀ q, v3.ownBlock = some q → w.heap.size ≤ q := by
        intro q e
        rcases m3 with h | ⟨q', h, h'⟩
        · exact O2.out q (by rw [← h]; exact e)
        · rw [e] at h; cases h; exact Nat.le_trans B2.out.size h'
      have hlist : s.t.take i ++ (k, v) :: s.t.drop (i + 1) = layP s.t k v true := by
        unfold layP
        have h9 := HOK.out
        rw [if_pos rfl, ins_at v H.out.up HA.out, ← h9]
        simp
      rw [hlist] at r3
      have hg3 := (hb3.block g (heap_lt H.out.head)).trans H.out.head
      obtain ⟨ad3, cap3, hv3, _, _⟩ := r3.shape
      obtain ⟨n3, hn3⟩ : ∃ n3, n3 = (layP s.t k v true).length := ⟨_, rfl⟩
      rw [← hn3] at hv3
      clear hn3
      subst hv3
      have R3 := Lib.hid r3; have B3 := Lib.hid hb3; have O3 := Lib.hid ho3; have G3 := Lib.hid hg3
      clear r3 k3 m3 hb3 ho3 hlist hg3 cc
      go_wp2_with (refine wpList_store1_g rfl 42 _ _ rfl g 0 _ rfl rfl rfl rfl 45 _ G3.out (by kernel_rfl) (by simp) _ rfl ?_)
      intro w5 h5 k5 _
      have hcl := rlist_close H.out B3.out R3.out O3.out (up_lay H.out.up k v true) h5 k5
      have HCL := Lib.hid hcl
      clear hcl h5 k5
      go_wp2_with fail
      go_end0
      exact ⟨rfl, _, ⟨_, _, HCL.out.1, rfl⟩, HCL.out.2.1, HCL.out.2.2⟩
    | false =>
      go_wp2_with (at_builtin; refine lo_apps (l2 := s.t.take i) (enc := pairE) rfl _ _ 42 42 rfl Try.underlying42 Try.underlying42 Try.infoPair rfl (by decide) pairE_len (pairE_ones _) (LO.nil w _ pairE 2) rfl _ rfl HA2.out (by have := HL.out; unfold maxLen; simp [List.length_take]; omega) (by have := HL.out; simp [List.length_take]; omega) ?_)
      intro v1 w1 r1 k1 m1
      have hb1 : Below w.heap.size w w1 := k1.none fun q _ e => by cases e
      have ho1 : ∀ q, v1.ownBlock = some q → w.heap.size ≤ q := by
        intro q e
        rcases m1 with h | ⟨q', h, h'⟩
        · rw [h] at e; cases e
        · rw [e] at h; cases h; exact h'
      have R1 := Lib.hid r1; have B1 := Lib.hid hb1; have O1 := Lib.hid ho1
      clear r1 k1 m1 hb1 ho1
      have cc : w1.cell? ⟨g, 0, none⟩ = _ := (B1.out.cell (p := ⟨g, 0, none⟩) (heap_lt H.out.head)).trans c0
      obtain ⟨v2, hv2⟩ : ∃ v2, v2 = v1 := ⟨_, rfl⟩
      obtain ⟨w2, hw2⟩ : ∃ w2, w2 = w1 := ⟨_, rfl⟩
      rw [← hv2, ← hw2]
      have r2 : LO w2 99 pairE 2 v2 (s.t.take i) := by rw [hv2, hw2]; exact R1.out
      have hb2 : Below w.heap.size w w2 := by rw [hw2]; exact B1.out
      have ho2 : ∀ q, v2.ownBlock = some q → w.heap.size ≤ q := by rw [hv2]; exact O1.out
      clear hv2 hw2 cc
      have R2 := Lib.hid r2; have B2 := Lib.hid hb2; have O2 := Lib.hid ho2
      clear r2 hb2 ho2
      have cc : w2.cell? ⟨g, 0, none⟩ = _ := (B2.out.cell (p := ⟨g, 0, none⟩) (heap_lt H.out.head)).trans c0
      go_wp2_with (at_builtin; refine lo_apps (l2 := s.t.drop (i + 1)) (enc := pairE) rfl _ _ 42 42 rfl Try.underlying42 Try.underlying42 Try.infoPair rfl (by decide) pairE_len (pairE_ones _) R2.out rfl _ rfl (HB2.out.later B2.out) (by have := HL.out; unfold maxLen; simp [List.length_take]; omega) (by have := HL.out; simp [List.length_take]; omega) ?_)
      intro v3 w3 r3 k3 m3
      have hb3 : Below w.heap.size w w3 := B2.out.trans (k3.below (B := w.heap.size) (fun q hq e => by have := O2.out q e; omega) B2.out.size)
      have ho3 : ∀ q, v3.ownBlock = some q → w.heap.size ≤ q := by
        intro q e
        rcases m3 with h | ⟨q', h, h'⟩
        · exact O2.out q (by rw [← h]; exact e)
        · rw [e] at h; cases h; exact Nat.le_trans B2.out.size h'
      have hlist : s.t.take i ++ s.t.drop (i + 1) = layP s.t k v false := by
        unfold layP
        have h9 := HOK.out
        rw [if_neg (by simp), del_at H.out.up HA.out, ← h9]
        simp
      rw [hlist] at r3
      have hg3 := (hb3.block g (heap_lt H.out.head)).trans H.out.head
      obtain ⟨ad3, cap3, hv3, _, _⟩ := r3.shape
      obtain ⟨n3, hn3⟩ : ∃ n3, n3 = (layP s.t k v false).length := ⟨_, rfl⟩
      rw [← hn3] at hv3
      clear hn3
      subst hv3
      have R3 := Lib.hid r3; have B3 := Lib.hid hb3; have O3 := Lib.hid ho3; have G3 := Lib.hid hg3
      clear r3 k3 m3 hb3 ho3 hlist hg3 cc
      go_wp2_with (refine wpList_store1_g rfl 42 _ _ rfl g 0 _ rfl rfl rfl rfl 45 _ G3.out (by kernel_rfl) (by simp) _ rfl ?_)
      intro w5 h5 k5 _
      have hcl := rlist_close H.out B3.out R3.out O3.out (up_lay H.out.up k v false) h5 k5
      have HCL := Lib.hid hcl
      clear hcl h5 k5
      go_wp2_with fail
      go_end0
      exact ⟨rfl, _, ⟨_, _, HCL.out.1, rfl⟩, HCL.out.2.1, HCL.out.2.2⟩
  · subst hokf
    have hji : j = i := by rw [HJ.out]; rfl
    subst hji
    have hA1 := HA1.out; have hB1 := HB1.out
    by_cases hin : j < n
    · have hi : j < s.t.length := by rw [← HN.out]; exact hin
      obtain ⟨gL, hadL, hgL, q0, q1⟩ := (HVL.out ▸ H.out.list).pair j hi
      subst hadL
      have g1 : ((bs s.t[j].1).toList == (bs k).toList) = false := by rw [toList_bs, toList_bs, beq_eq_false_iff_ne]; exact e1 hi
      obtain ⟨x, hx⟩ : ∃ x, x = s.t[j].1 := ⟨_, rfl⟩
      rw [← hx] at q0 g1
      clear hgL q1 hi e1 hx
      cases there with
      | true =>
        go_wp2_with (at_builtin; refine lo_apps (l2 := s.t.take j) (enc := pairE) rfl _ _ 42 42 rfl Try.underlying42 Try.underlying42 Try.infoPair rfl (by decide) pairE_len (pairE_ones _) (LO.nil w _ pairE 2) rfl _ rfl HA2.out (by have := HL.out; unfold maxLen; simp [List.length_take]; omega) (by have := HL.out; simp [List.length_take]; omega) ?_)
        intro v1 w1 r1 k1 m1
        have hb1 : Below w.heap.size w w1 := k1.none fun q _ e => by cases e
        have ho1 : ∀ q, v1.ownBlock = some q → w.heap.size ≤ q := by
          intro q e
          rcases m1 with h | ⟨q', h, h'⟩
          · rw [h] at e; cases e
          · rw [e] at h; cases h; exact h'
        have R1 := Lib.hid r1; have B1 := Lib.hid hb1; have O1 := Lib.hid ho1
        clear r1 k1 m1 hb1 ho1
        have cc : w1.cell? ⟨g, 0, none⟩ = _ := (B1.out.cell (p := ⟨g, 0, none⟩) (heap_lt H.out.head)).trans c0
        have hbal : Below w1.heap.size w1 (w1.alloc (.cells #[.string (bs k), .string (bs v)] 99)) := (Below.refl _ _).alloc (Nat.le_refl _) _
        have HBAL := Lib.hid hbal
        clear hbal
        go_wp2_with (at_builtin; refine lo_app1 (enc := pairE) rfl _ _ 42 42 rfl Try.underlying42 Try.underlying42 Try.infoPair rfl (by decide) pairE_len (R1.out.later HBAL.out) rfl (k, v) (pairE_ones [(k, v)] _ List.mem_cons_self) w1.heap.size #[.string (bs k), .string (bs v)] 99 (heap_alloc_new _ _) rfl rfl (by have := HL.out; unfold maxLen; simp [List.length_take]; omega) (by have := HL.out; simp [List.length_take]; omega) ?_)
        intro v2 w2 r2 k2 m2
        have hb2 : Below w.heap.size w w2 := (B1.out.trans (HBAL.out.mono B1.out.size)).trans (k2.below (B := w.heap.size) (fun q hq e => by have := O1.out q e; omega) (Nat.le_trans B1.out.size HBAL.out.size))
        have ho2 : ∀ q, v2.ownBlock = some q → w.heap.size ≤ q := by
          intro q e
          rcases m2 with h | ⟨q', h, h'⟩
          · exact O1.out q (by rw [← h]; exact e)
          · rw [e] at h; cases h; exact Nat.le_trans (Nat.le_trans B1.out.size HBAL.out.size) h'
        have R2 := Lib.hid r2; have B2 := Lib.hid hb2; have O2 := Lib.hid ho2
        clear r2 k2 m2 hb2 ho2 cc
        have cc : w2.cell? ⟨g, 0, none⟩ = _ := (B2.out.cell (p := ⟨g, 0, none⟩) (heap_lt H.out.head)).trans c0
        go_wp2_with (at_builtin; refine lo_apps (l2 := s.t.drop j) (enc := pairE) rfl _ _ 42 42 rfl Try.underlying42 Try.underlying42 Try.infoPair rfl (by decide) pairE_len (pairE_ones _) R2.out rfl _ rfl (HB2.out.later B2.out) (by have := HL.out; unfold maxLen; simp [List.length_take]; omega) (by have := HL.out; simp [List.length_take]; omega) ?_)
        intro v3 w3 r3 k3 m3
        have hb3 : Below w.heap.size w w3 := B2.out.trans (k3.below (B := w.heap.size) (fun q hq e => by have := O2.out q e; omega) B2.out.size)
        have ho3 : ∀ q, v3.ownBlock = some q → w.heap.size ≤ q := by
          intro q e
          rcases m3 with h | ⟨q', h, h'⟩
          · exact O2.out q (by rw [← h]; exact e)
          · rw [e] at h; cases h; exact Nat.le_trans B2.out.size h'
        have hlist : s.t.take j ++ (k, v) :: s.t.drop j = layP s.t k v true := by
          unfold layP
          have h9 := HOK.out
          rw [if_pos rfl, ins_at v H.out.up HA.out, ← h9]
          simp
        rw [hlist] at r3
        have hg3 := (hb3.block g (heap_lt H.out.head)).trans H.out.head
        obtain ⟨ad3, cap3, hv3, _, _⟩ := r3.shape
        obtain ⟨n3, hn3⟩ : ∃ n3, n3 = (layP s.t k v true).length := ⟨_, rfl⟩
        rw [← hn3] at hv3
        clear hn3
        subst hv3
        have R3 := Lib.hid r3; have B3 := Lib.hid hb3; have O3 := Lib.hid ho3; have G3 := Lib.hid hg3
        clear r3 k3 m3 hb3 ho3 hlist hg3 cc
        go_wp2_with (refine wpList_store1_g rfl 42 _ _ rfl g 0 _ rfl rfl rfl rfl 45 _ G3.out (by kernel_rfl) (by simp) _ rfl ?_)
        intro w5 h5 k5 _
        have hcl := rlist_close H.out B3.out R3.out O3.out (up_lay H.out.up k v true) h5 k5
        have HCL := Lib.hid hcl
        clear hcl h5 k5
        go_wp2_with fail
        go_end0
        exact ⟨rfl, _, ⟨_, _, HCL.out.1, rfl⟩, HCL.out.2.1, HCL.out.2.2⟩
      | false =>
        go_wp2_with (at_builtin; refine lo_apps (l2 := s.t.take j) (enc := pairE) rfl _ _ 42 42 rfl Try.underlying42 Try.underlying42 Try.infoPair rfl (by decide) pairE_len (pairE_ones _) (LO.nil w _ pairE 2) rfl _ rfl HA2.out (by have := HL.out; unfold maxLen; simp [List.length_take]; omega) (by have := HL.out; simp [List.length_take]; omega) ?_)
        intro v1 w1 r1 k1 m1
        have hb1 : Below w.heap.size w w1 := k1.none fun q _ e => by cases e
        have ho1 : ∀ q, v1.ownBlock = some q → w.heap.size ≤ q := by
          intro q e
          rcases m1 with h | ⟨q', h, h'⟩
          · rw [h] at e; cases e
          · rw [e] at h; cases h; exact h'
        have R1 := Lib.hid r1; have B1 := Lib.hid hb1; have O1 := Lib.hid ho1
        clear r1 k1 m1 hb1 ho1
        have cc : w1.cell? ⟨g, 0, none⟩ = _ := (B1.out.cell (p := ⟨g, 0, none⟩) (heap_lt H.out.head)).trans c0
        obtain ⟨v2, hv2⟩ : ∃ v2, v2 = v1 := ⟨_, rfl⟩
        obtain ⟨w2, hw2⟩ : ∃ w2, w2 = w1 := ⟨_, rfl⟩
        rw [← hv2, ← hw2]
        have r2 : LO w2 99 pairE 2 v2 (s.t.take j) := by rw [hv2, hw2]; exact R1.out
        have hb2 : Below w.heap.size w w2 := by rw [hw2]; exact B1.out
        have ho2 : ∀ q, v2.ownBlock = some q → w.heap.size ≤ q := by rw [hv2]; exact O1.out
        clear hv2 hw2 cc
        have R2 := Lib.hid r2; have B2 := Lib.hid hb2; have O2 := Lib.hid ho2
        clear r2 hb2 ho2
        have cc : w2.cell? ⟨g, 0, none⟩ = _ := (B2.out.cell (p := ⟨g, 0, none⟩) (heap_lt H.out.head)).trans c0
        go_wp2_with (at_builtin; refine lo_apps (l2 := s.t.drop j) (enc := pairE) rfl _ _ 42 42 rfl Try.underlying42 Try.underlying42 Try.infoPair rfl (by decide) pairE_len (pairE_ones _) R2.out rfl _ rfl (HB2.out.later B2.out) (by have := HL.out; unfold maxLen; simp [List.length_take]; omega) (by have := HL.out; simp [List.length_take]; omega) ?_)
        intro v3 w3 r3 k3 m3
        have hb3 : Below w.heap.size w w3 := B2.out.trans (k3.below (B := w.heap.size) (fun q hq e => by have := O2.out q e; omega) B2.out.size)
        have ho3 : ∀ q, v3.ownBlock = some q → w.heap.size ≤ q := by
          intro q e
          rcases m3 with h | ⟨q', h, h'⟩
          · exact O2.out q (by rw [← h]; exact e)
          · rw [e] at h; cases h; exact Nat.le_trans B2.out.size h'
        have hlist : s.t = layP s.t k v false := by
          unfold layP
          have h9 := HOK.out
          rw [if_neg (by simp), del_at H.out.up HA.out, ← h9]
          simp
        rw [hlist] at r3
        have hg3 := (hb3.block g (heap_lt H.out.head)).trans H.out.head
        obtain ⟨ad3, cap3, hv3, _, _⟩ := r3.shape
        obtain ⟨n3, hn3⟩ : ∃ n3, n3 = (layP s.t k v false).length := ⟨_, rfl⟩
        rw [← hn3] at hv3
        clear hn3
        subst hv3
        have R3 := Lib.hid r3; have B3 := Lib.hid hb3; have O3 := Lib.hid ho3; have G3 := Lib.hid hg3
        clear r3 k3 m3 hb3 ho3 hlist hg3 cc
        go_wp2_with (refine wpList_store1_g rfl 42 _ _ rfl g 0 _ rfl rfl rfl rfl 45 _ G3.out (by kernel_rfl) (by simp) _ rfl ?_)
        intro w5 h5 k5 _
        have hcl := rlist_close H.out B3.out R3.out O3.out (up_lay H.out.up k v false) h5 k5
        have HCL := Lib.hid hcl
        clear hcl h5 k5
        go_wp2_with fail
        go_end0
        exact ⟨rfl, _, ⟨_, _, HCL.out.1, rfl⟩, HCL.out.2.1, HCL.out.2.2⟩
    · clear e1
      cases there with
      | true =>
        go_wp2_with (at_builtin; refine lo_apps (l2 := s.t.take j) (enc := pairE) rfl _ _ 42 42 rfl Try.underlying42 Try.underlying42 Try.infoPair rfl (by decide) pairE_len (pairE_ones _) (LO.nil w _ pairE 2) rfl _ rfl HA2.out (by have := HL.out; unfold maxLen; simp [List.length_take]; omega) (by have := HL.out; simp [List.length_take]; omega) ?_)
        intro v1 w1 r1 k1 m1
        have hb1 : Below w.heap.size w w1 := k1.none fun q _ e => by cases e
        have ho1 : ∀ q, v1.ownBlock = some q → w.heap.size ≤ q := by
          intro q e
          rcases m1 with h | ⟨q', h, h'⟩
          · rw [h] at e; cases e
          · rw [e] at h; cases h; exact h'
        have R1 := Lib.hid r1; have B1 := Lib.hid hb1; have O1 := Lib.hid ho1
        clear r1 k1 m1 hb1 ho1
        have cc : w1.cell? ⟨g, 0, none⟩ = _ := (B1.out.cell (p := ⟨g, 0, none⟩) (heap_lt H.out.head)).trans c0
        have hbal : Below w1.heap.size w1 (w1.alloc (.cells #[.string (bs k), .string (bs v)] 99)) := (Below.refl _ _).alloc (Nat.le_refl _) _
        have HBAL := Lib.hid hbal
        clear hbal
        go_wp2_with (at_builtin; refine lo_app1 (enc := pairE) rfl _ _ 42 42 rfl Try.underlying42 Try.underlying42 Try.infoPair rfl (by decide) pairE_len (R1.out.later HBAL.out) rfl (k, v) (pairE_ones [(k, v)] _ List.mem_cons_self) w1.heap.size #[.string (bs k), .string (bs v)] 99 (heap_alloc_new _ _) rfl rfl (by have := HL.out; unfold maxLen; simp [List.length_take]; omega) (by have := HL.out; simp [List.length_take]; omega) ?_)
        intro v2 w2 r2 k2 m2
        have hb2 : Below w.heap.size w w2 := (B1.out.trans (HBAL.out.mono B1.out.size)).trans (k2.below (B := w.heap.size) (fun q hq e => by have := O1.out q e; omega) (Nat.le_trans B1.out.size HBAL.out.size))
        have ho2 : ∀ q, v2.ownBlock = some q → w.heap.size ≤ q := by
          intro q e
          rcases m2 with h | ⟨q', h, h'⟩
          · exact O1.out q (by rw [← h]; exact e)
          · rw [e] at h; cases h; exact Nat.le_trans (Nat.le_trans B1.out.size HBAL.out.size) h'
        have R2 := Lib.hid r2; have B2 := Lib.hid hb2; have O2 := Lib.hid ho2
        clear r2 k2 m2 hb2 ho2 cc
        have cc : w2.cell? ⟨g, 0, none⟩ = _ := (B2.out.cell (p := ⟨g, 0, none⟩) (heap_lt H.out.head)).trans c0
        go_wp2_with (at_builtin; refine lo_apps (l2 := s.t.drop j) (enc := pairE) rfl _ _ 42 42 rfl Try.underlying42 Try.underlying42 Try.infoPair rfl (by decide) pairE_len (pairE_ones _) R2.out rfl _ rfl (HB2.out.later B2.out) (by have := HL.out; unfold maxLen; simp [List.length_take]; omega) (by have := HL.out; simp [List.length_take]; omega) ?_)
        intro v3 w3 r3 k3 m3
        have hb3 : Below w.heap.size w w3 := B2.out.trans (k3.below (B := w.heap.size) (fun q hq e => by have := O2.out q e; omega) B2.out.size)
        have ho3 : ∀ q, v3.ownBlock = some q → w.heap.size ≤ q := by
          intro q e
          rcases m3 with h | ⟨q', h, h'⟩
          · exact O2.out q (by rw [← h]; exact e)
          · rw [e] at h; cases h; exact Nat.le_trans B2.out.size h'
        have hlist : s.t.take j ++ (k, v) :: s.t.drop j = layP s.t k v true := by
          unfold layP
          have h9 := HOK.out
          rw [if_pos rfl, ins_at v H.out.up HA.out, ← h9]
          simp
        rw [hlist] at r3
        have hg3 := (hb3.block g (heap_lt H.out.head)).trans H.out.head
        obtain ⟨ad3, cap3, hv3, _, _⟩ := r3.shape
        obtain ⟨n3, hn3⟩ : ∃ n3, n3 = (layP s.t k v true).length := ⟨_, rfl⟩
        rw [← hn3] at hv3
        clear hn3
        subst hv3
        have R3 := Lib.hid r3; have B3 := Lib.hid hb3; have O3 := Lib.hid ho3; have G3 := Lib.hid hg3
        clear r3 k3 m3 hb3 ho3 hlist hg3 cc
        go_wp2_with (refine wpList_store1_g rfl 42 _ _ rfl g 0 _ rfl rfl rfl rfl 45 _ G3.out (by kernel_rfl) (by simp) _ rfl ?_)
        intro w5 h5 k5 _
        have hcl := rlist_close H.out B3.out R3.out O3.out (up_lay H.out.up k v true) h5 k5
        have HCL := Lib.hid hcl
        clear hcl h5 k5
        go_wp2_with fail
        go_end0
        exact ⟨rfl, _, ⟨_, _, HCL.out.1, rfl⟩, HCL.out.2.1, HCL.out.2.2⟩
      | false =>
        go_wp2_with (at_builtin; refine lo_apps (l2 := s.t.take j) (enc := pairE) rfl _ _ 42 42 rfl Try.underlying42 Try.underlying42 Try.infoPair rfl (by decide) pairE_len (pairE_ones _) (LO.nil w _ pairE 2) rfl _ rfl HA2.out (by have := HL.out; unfold maxLen; simp [List.length_take]; omega) (by have := HL.out; simp [List.length_take]; omega) ?_)
        intro v1 w1 r1 k1 m1
        have hb1 : Below w.heap.size w w1 := k1.none fun q _ e => by cases e
        have ho1 : ∀ q, v1.ownBlock = some q → w.heap.size ≤ q := by
          intro q e
          rcases m1 with h | ⟨q', h, h'⟩
          · rw [h] at e; cases e
          · rw [e] at h; cases h; exact h'
        have R1 := Lib.hid r1; have B1 := Lib.hid hb1; have O1 := Lib.hid ho1
        clear r1 k1 m1 hb1 ho1
        have cc : w1.cell? ⟨g, 0, none⟩ = _ := (B1.out.cell (p := ⟨g, 0, none⟩) (heap_lt H.out.head)).trans c0
        obtain ⟨v2, hv2⟩ : ∃ v2, v2 = v1 := ⟨_, rfl⟩
        obtain ⟨w2, hw2⟩ : ∃ w2, w2 = w1 := ⟨_, rfl⟩
        rw [← hv2, ← hw2]
        have r2 : LO w2 99 pairE 2 v2 (s.t.take j) := by rw [hv2, hw2]; exact R1.out
        have hb2 : Below w.heap.size w w2 := by rw [hw2]; exact B1.out
        have ho2 : ∀ q, v2.ownBlock = some q → w.heap.size ≤ q := by rw [hv2]; exact O1.out
        clear hv2 hw2 cc
        have R2 := Lib.hid r2; have B2 := Lib.hid hb2; have O2 := Lib.hid ho2
        clear r2 hb2 ho2
        have cc : w2.cell? ⟨g, 0, none⟩ = _ := (B2.out.cell (p := ⟨g, 0, none⟩) (heap_lt H.out.head)).trans c0
        go_wp2_with (at_builtin; refine lo_apps (l2 := s.t.drop j) (enc := pairE) rfl _ _ 42 42 rfl Try.underlying42 Try.underlying42 Try.infoPair rfl (by decide) pairE_len (pairE_ones _) R2.out rfl _ rfl (HB2.out.later B2.out) (by have := HL.out; unfold maxLen; simp [List.length_take]; omega) (by have := HL.out; simp [List.length_take]; omega) ?_)
        intro v3 w3 r3 k3 m3
        have hb3 : Below w.heap.size w w3 := B2.out.trans (k3.below (B := w.heap.size) (fun q hq e => by have := O2.out q e; omega) B2.out.size)
        have ho3 : ∀ q, v3.ownBlock = some q → w.heap.size ≤ q := by
          intro q e
          rcases m3 with h | ⟨q', h, h'⟩
          · exact O2.out q (by rw [← h]; exact e)
          · rw [e] at h; cases h; exact Nat.le_trans B2.out.size h'
        have hlist : s.t = layP s.t k v false := by
          unfold layP
          have h9 := HOK.out
          rw [if_neg (by simp), del_at H.out.up HA.out, ← h9]
          simp
        rw [hlist] at r3
        have hg3 := (hb3.block g (heap_lt H.out.head)).trans H.out.head
        obtain ⟨ad3, cap3, hv3, _, _⟩ := r3.shape
        obtain ⟨n3, hn3⟩ : ∃ n3, n3 = (layP s.t k v false).length := ⟨_, rfl⟩
        rw [← hn3] at hv3
        clear hn3
        subst hv3
        have R3 := Lib.hid r3; have B3 := Lib.hid hb3; have O3 := Lib.hid ho3; have G3 := Lib.hid hg3
        clear r3 k3 m3 hb3 ho3 hlist hg3 cc
        go_wp2_with (refine wpList_store1_g rfl 42 _ _ rfl g 0 _ rfl rfl rfl rfl 45 _ G3.out (by kernel_rfl) (by simp) _ rfl ?_)
        intro w5 h5 k5 _
        have hcl := rlist_close H.out B3.out R3.out O3.out (up_lay H.out.up k v false) h5 k5
        have HCL := Lib.hid hcl
        clear hcl h5 k5
        go_wp2_with fail
        go_end0
        exact ⟨rfl, _, ⟨_, _, HCL.out.1, rfl⟩, HCL.out.2.1, HCL.out.2.2⟩
end Go.Proofs.Ythnjakomkdlglaa
