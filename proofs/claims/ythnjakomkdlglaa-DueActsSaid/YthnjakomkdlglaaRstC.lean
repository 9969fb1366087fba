/- Set, Delete and Undo of the document's store: no condition. -/
import Derived.Test.YthnjakomkdlglaaRstB
namespace Go.Proofs.Ythnjakomkdlglaa
open Go.RowKit

/-- The list of changes has grown, or was cut. -/
theorem rpast_close {w w3 w4 w5 : World} {g : Nat} {vL vP vP' : Value} {s : PS} {p' : List WasP} (h0 : RAt w g s vL vP) (hb : Below w.heap.size w w3) (hp : LO w4 148 wasE 3 vP' p') (k34 : Keep (fun k => vP.ownBlock = some k) w3 w4) (hm : vP'.ownBlock = vP.ownBlock ∨ ∀ k, vP'.ownBlock = some k → w.heap.size ≤ k)
    (h5 : w5.heap[g]? = some (.cells #[vL, vP'] 45 (0, 0))) (k45 : Keep (· = g) w4 w5) :
    RAt w5 g ⟨s.t, p'⟩ vL vP' ∧ Keep (· ∈ rfoot g vL vP) w w5 ∧ ∀ x ∈ rfoot g vL vP', x ∈ rfoot g vL vP ∨ w.heap.size ≤ x := by
  have hg3 := (hb.block g (heap_lt h0.head)).trans h0.head
  have hl3 := h0.list.later hb
  have hp3 := h0.past.later hb
  have hg4 := k34.at hg3 (hp3.apart hg3 (by decide))
  have hl4 := hl3.keep k34 fun k e e2 => by
    obtain ⟨cs, hc⟩ := hl3.kind e
    exact hp3.apart hc (by decide) e2
  refine ⟨⟨h5, hl4.keep k45 fun k e e2 => hl4.apart hg4 (by decide) (by rw [e, e2]), hp.keep k45 fun k e e2 => hp.apart hg4 (by decide) (by rw [e, e2]), h0.up⟩, ?_, ?_⟩
  · refine ((Keep.of_below hb).then k34 ?_).then k45 ?_
    · intro x hx; exact .inl ((rfoot_eq _ _ _ _).2 (.inr (.inr hx)))
    · intro x hx; exact .inl ((rfoot_eq _ _ _ _).2 (.inl hx))
  · intro x hx
    rw [rfoot_eq] at hx ⊢
    rcases hx with h | h | h
    · exact .inl (.inl h)
    · exact .inl (.inr (.inl h))
    · rcases hm with hm | hm
      · rw [hm] at h; exact .inl (.inr (.inr h))
      · exact .inr (hm x h)
theorem RRet.then {w w1 w2 : World} {g : Nat} {F F1 : List Nat} {s2 : PS} {v : Value} {e : Ending} (hk : Keep (· ∈ F) w w1) (hf : ∀ x ∈ F1, x ∈ F ∨ w.heap.size ≤ x) (h : RRet w1 g F1 s2 v e w2) : RRet w g F s2 v e w2 := by
  obtain ⟨he, F2, h1, h2, h3⟩ := h
  refine ⟨he, F2, h1, hk.then h2 hf, fun x hx => ?_⟩
  rcases h3 x hx with h | h
  · exact hf x h
  · exact .inr (Nat.le_trans hk.size h)

set_option maxHeartbeats 8000000 in
set_option maxRecDepth 100000 in
theorem rset_any {w : World} {g : Nat} {s : PS} {F : List Nat} (h : RS w g s F) (htl : s.t.length < 1099511627776) (hpl : s.past.length < 1099511627776) (k v : Txt) :
    Calls Try.prog 91 #[.pointer (some ⟨g, 0, none⟩), .string (bs k), .string (bs v)] w (RRet w g F (s.set k v) (.int .i64 (setE k))) := by
  have HS := Lib.hid h
  obtain ⟨vL, vP, h, rfl⟩ := h
  obtain ⟨ad, cap, hvP, h1, h2⟩ := h.past.shape
  obtain ⟨n, hn⟩ : ∃ n, n = s.past.length := ⟨_, rfl⟩
  rw [← hn] at hvP h1 hpl
  subst hvP
  have c1 : w.cell? ⟨g, 1, none⟩ = some (.slice ad n cap) := Lib.cell_of_heap h.head 1
  obtain ⟨ok, hok⟩ : ∃ ok, ok = (getP s.t k).isSome := ⟨_, rfl⟩
  obtain ⟨old, hold⟩ : ∃ old, old = (getP s.t k).getD [] := ⟨_, rfl⟩
  have H := Lib.hid h; have HN := Lib.hid hn; have HTL := Lib.hid htl; have HOK := Lib.hid hok; have HOLD := Lib.hid hold
  clear h hn htl hok hold
  by_cases hk : k = []
  · have je : (bs k).toList.isEmpty = true := by rw [toList_bs, hk]; rfl
    have hres : s.set k v = s := by unfold PS.set; rw [if_pos (.inl hk)]
    have hE : setE k = 2 := by unfold setE; rw [if_pos hk]
    rw [hres, hE]
    clear hk hres hE
    go_enter Try.func91, Try.ntmps91
    go_wp2_with fail
    go_ret
    exact ⟨rfl, _, HS.out, Keep.refl _ _, fun x hx => .inl hx⟩
  have je : (bs k).toList.isEmpty = false := by rw [toList_bs]; cases k with | nil => exact absurd rfl hk | cons _ _ => rfl
  have hE : setE k = 0 := by unfold setE; rw [if_neg hk]
  rw [hE]
  by_cases hsame : getP s.t k = some v
  · have hres : s.set k v = s := by unfold PS.set; rw [if_pos (.inr hsame)]
    have ho : old = v := by rw [HOLD.out, hsame]; rfl
    have hk1 : ok = true := by rw [HOK.out, hsame]; rfl
    have jv : ((bs old).toList == (bs v).toList) = true := by rw [ho]; simp
    rw [hres]
    clear hk hres hE ho hsame
    subst hk1
    go_enter Try.func91, Try.ntmps91
    go_wp2_with fail
    refine (rget_any HS.out (by have := HTL.out; omega) k).mono ?_
    rintro e w1 ⟨rfl, rfl⟩
    rw [← HOK.out, ← HOLD.out]
    go_wp2_with fail
    go_ret
    exact ⟨rfl, _, HS.out, Keep.refl _ _, fun x hx => .inl hx⟩
  have hres : s.set k v = s.put k v true := by unfold PS.set; rw [if_neg (by rintro (h | h); exact hk h; exact hsame h)]
  have hput : s.put k v true = ⟨layP s.t k v true, s.past ++ [(k, old, ok)]⟩ := by unfold PS.put; rw [← HOLD.out, ← HOK.out]
  rw [hres, hput]
  have hn2 : n < 1099511627776 := hpl
  have hjv : ok = true → ((bs old).toList == (bs v).toList) = false := by
    intro e
    rw [toList_bs, toList_bs]
    rw [beq_eq_false_iff_ne]
    intro e2
    apply hsame
    have h3 := HOK.out
    rw [e] at h3
    cases hg : getP s.t k with
    | none => rw [hg] at h3; cases h3
    | some z => have := HOLD.out; rw [hg] at this; rw [← e2, this]; rfl
  clear hk hres hput hE hsame
  go_enter Try.func91, Try.ntmps91
  go_wp2_with fail
  refine (rget_any HS.out (by have := HTL.out; omega) k).mono ?_
  rintro e w1 ⟨rfl, rfl⟩
  rw [← HOK.out, ← HOLD.out]
  have HJ := Lib.hid hjv
  clear hjv
  cases ok with
  | true =>
    have jv := HJ.out rfl
    have hbal : Below w.heap.size w (w.alloc (.cells #[.string (bs k), .string (bs old), .bool true] 148)) := (Below.refl _ _).alloc (Nat.le_refl _) _
    have HBAL := Lib.hid hbal
    clear hbal
    go_wp2_with (at_builtin; refine lo_app1 (enc := wasE) rfl _ _ 43 43 rfl Try.underlying43 Try.underlying43 Try.infoRWas rfl (by decide) wasE_len (H.out.past.later HBAL.out) rfl (k, old, true) (wasE_ones [(k, old, true)] _ List.mem_cons_self) w.heap.size #[.string (bs k), .string (bs old), .bool true] 148 (heap_alloc_new _ _) rfl rfl (by have := HN.out; unfold maxLen; omega) (by have := HN.out; omega) ?_)
    intro vP' w4 r1 k4 m4
    obtain ⟨ad', cap', hvp', _, _⟩ := r1.shape
    obtain ⟨n', hn'⟩ : ∃ n', n' = (s.past ++ [(k, old, true)]).length := ⟨_, rfl⟩
    rw [← hn'] at hvp'
    clear hn'
    subst hvp'
    have hg4 : w4.heap[g]? = some (.cells #[vL, .slice ad n cap] 45 (0, 0)) := by
      have hg3 := (HBAL.out.block g (heap_lt H.out.head)).trans H.out.head
      exact k4.at hg3 ((H.out.past.later HBAL.out).apart hg3 (by decide))
    have hm4 : Value.ownBlock (.slice ad' n' cap') = Value.ownBlock (.slice ad n cap) ∨ ∀ q, Value.ownBlock (.slice ad' n' cap') = some q → w.heap.size ≤ q := by
      rcases m4 with h | ⟨q, h, h'⟩
      · exact .inl h
      · right
        intro q' e
        rw [e] at h; cases h
        exact Nat.le_trans HBAL.out.size h'
    have R1 := Lib.hid r1; have K4 := Lib.hid k4; have M4 := Lib.hid hm4; have G4 := Lib.hid hg4
    clear r1 k4 m4 hm4 hg4
    go_wp2_with (refine wpList_store1_g rfl 43 _ _ rfl g 1 _ rfl rfl rfl rfl 45 _ G4.out (by kernel_rfl) (by simp) _ rfl ?_)
    intro w5 h5 k45 _
    have hcl := rpast_close H.out HBAL.out R1.out K4.out M4.out h5 k45
    have HCL := Lib.hid hcl
    clear h5 k45 hcl
    go_wp2_with fail
    refine (rlay_any (F := rfoot g vL (.slice ad' n' cap')) ⟨_, _, HCL.out.1, rfl⟩ HTL.out k v true).mono ?_
    intro e w6 hr
    have hr2 := RRet.then HCL.out.2.1 HCL.out.2.2 hr
    obtain ⟨rfl, hr3⟩ := hr2
    have HR3 := Lib.hid hr3
    clear hr hr3
    go_wp2_with fail
    go_ret
    exact ⟨rfl, HR3.out⟩
  | false =>
    have hbal : Below w.heap.size w (w.alloc (.cells #[.string (bs k), .string (bs old), .bool false] 148)) := (Below.refl _ _).alloc (Nat.le_refl _) _
    have HBAL := Lib.hid hbal
    clear hbal
    go_wp2_with (at_builtin; refine lo_app1 (enc := wasE) rfl _ _ 43 43 rfl Try.underlying43 Try.underlying43 Try.infoRWas rfl (by decide) wasE_len (H.out.past.later HBAL.out) rfl (k, old, false) (wasE_ones [(k, old, false)] _ List.mem_cons_self) w.heap.size #[.string (bs k), .string (bs old), .bool false] 148 (heap_alloc_new _ _) rfl rfl (by have := HN.out; unfold maxLen; omega) (by have := HN.out; omega) ?_)
    intro vP' w4 r1 k4 m4
    obtain ⟨ad', cap', hvp', _, _⟩ := r1.shape
    obtain ⟨n', hn'⟩ : ∃ n', n' = (s.past ++ [(k, old, false)]).length := ⟨_, rfl⟩
    rw [← hn'] at hvp'
    clear hn'
    subst hvp'
    have hg4 : w4.heap[g]? = some (.cells #[vL, .slice ad n cap] 45 (0, 0)) := by
      have hg3 := (HBAL.out.block g (heap_lt H.out.head)).trans H.out.head
      exact k4.at hg3 ((H.out.past.later HBAL.out).apart hg3 (by decide))
    have hm4 : Value.ownBlock (.slice ad' n' cap') = Value.ownBlock (.slice ad n cap) ∨ ∀ q, Value.ownBlock (.slice ad' n' cap') = some q → w.heap.size ≤ q := by
      rcases m4 with h | ⟨q, h, h'⟩
      · exact .inl h
      · right
        intro q' e
        rw [e] at h; cases h
        exact Nat.le_trans HBAL.out.size h'
    have R1 := Lib.hid r1; have K4 := Lib.hid k4; have M4 := Lib.hid hm4; have G4 := Lib.hid hg4
    clear r1 k4 m4 hm4 hg4
    go_wp2_with (refine wpList_store1_g rfl 43 _ _ rfl g 1 _ rfl rfl rfl rfl 45 _ G4.out (by kernel_rfl) (by simp) _ rfl ?_)
    intro w5 h5 k45 _
    have hcl := rpast_close H.out HBAL.out R1.out K4.out M4.out h5 k45
    have HCL := Lib.hid hcl
    clear h5 k45 hcl
    go_wp2_with fail
    refine (rlay_any (F := rfoot g vL (.slice ad' n' cap')) ⟨_, _, HCL.out.1, rfl⟩ HTL.out k v true).mono ?_
    intro e w6 hr
    have hr2 := RRet.then HCL.out.2.1 HCL.out.2.2 hr
    obtain ⟨rfl, hr3⟩ := hr2
    have HR3 := Lib.hid hr3
    clear hr hr3
    go_wp2_with fail
    go_ret
    exact ⟨rfl, HR3.out⟩

set_option maxHeartbeats 8000000 in
set_option maxRecDepth 100000 in
theorem rdel_any {w : World} {g : Nat} {s : PS} {F : List Nat} (h : RS w g s F) (htl : s.t.length < 1099511627776) (hpl : s.past.length < 1099511627776) (k : Txt) :
    Calls Try.prog 48 #[.pointer (some ⟨g, 0, none⟩), .string (bs k)] w (RRet w g F (s.del k) (.bool (getP s.t k).isSome)) := by
  have HS := Lib.hid h
  obtain ⟨vL, vP, h, rfl⟩ := h
  obtain ⟨ad, cap, hvP, h1, h2⟩ := h.past.shape
  obtain ⟨n, hn⟩ : ∃ n, n = s.past.length := ⟨_, rfl⟩
  rw [← hn] at hvP h1 hpl
  subst hvP
  have c1 : w.cell? ⟨g, 1, none⟩ = some (.slice ad n cap) := Lib.cell_of_heap h.head 1
  obtain ⟨ok, hok⟩ : ∃ ok, ok = (getP s.t k).isSome := ⟨_, rfl⟩
  obtain ⟨old, hold⟩ : ∃ old, old = (getP s.t k).getD [] := ⟨_, rfl⟩
  have H := Lib.hid h; have HN := Lib.hid hn; have HTL := Lib.hid htl; have HOK := Lib.hid hok; have HOLD := Lib.hid hold
  rw [← hok]
  clear h hn htl hok hold
  have hn2 : n < 1099511627776 := hpl
  cases ok with
  | false =>
    have hres : s.del k = s := by unfold PS.del; rw [if_pos (by have := HOK.out; cases hg : getP s.t k with | none => rfl | some _ => rw [hg] at this; cases this)]
    rw [hres]
    clear hres
    go_enter Try.func48, Try.ntmps48
    go_wp2_with fail
    refine (rget_any HS.out (by have := HTL.out; omega) k).mono ?_
    rintro e w1 ⟨rfl, rfl⟩
    rw [← HOK.out, ← HOLD.out]
    go_wp2_with fail
    go_ret
    exact ⟨rfl, _, HS.out, Keep.refl _ _, fun x hx => .inl hx⟩
  | true =>
    have hres : s.del k = s.put k [] false := by unfold PS.del; rw [if_neg (by intro e; have := HOK.out; rw [e] at this; cases this)]
    have hput : s.put k [] false = ⟨layP s.t k [] false, s.past ++ [(k, old, true)]⟩ := by unfold PS.put; rw [← HOLD.out, ← HOK.out]
    rw [hres, hput]
    clear hres hput
    go_enter Try.func48, Try.ntmps48
    go_wp2_with fail
    refine (rget_any HS.out (by have := HTL.out; omega) k).mono ?_
    rintro e w1 ⟨rfl, rfl⟩
    rw [← HOK.out, ← HOLD.out]
    have hbal : Below w.heap.size w (w.alloc (.cells #[.string (bs k), .string (bs old), .bool true] 148)) := (Below.refl _ _).alloc (Nat.le_refl _) _
    have HBAL := Lib.hid hbal
    clear hbal
    go_wp2_with (at_builtin; refine lo_app1 (enc := wasE) rfl _ _ 43 43 rfl Try.underlying43 Try.underlying43 Try.infoRWas rfl (by decide) wasE_len (H.out.past.later HBAL.out) rfl (k, old, true) (wasE_ones [(k, old, true)] _ List.mem_cons_self) w.heap.size #[.string (bs k), .string (bs old), .bool true] 148 (heap_alloc_new _ _) rfl rfl (by have := HN.out; unfold maxLen; omega) (by have := HN.out; omega) ?_)
    intro vP' w4 r1 k4 m4
    obtain ⟨ad', cap', hvp', _, _⟩ := r1.shape
    obtain ⟨n', hn'⟩ : ∃ n', n' = (s.past ++ [(k, old, true)]).length := ⟨_, rfl⟩
    rw [← hn'] at hvp'
    clear hn'
    subst hvp'
    have hg4 : w4.heap[g]? = some (.cells #[vL, .slice ad n cap] 45 (0, 0)) := by
      have hg3 := (HBAL.out.block g (heap_lt H.out.head)).trans H.out.head
      exact k4.at hg3 ((H.out.past.later HBAL.out).apart hg3 (by decide))
    have hm4 : Value.ownBlock (.slice ad' n' cap') = Value.ownBlock (.slice ad n cap) ∨ ∀ q, Value.ownBlock (.slice ad' n' cap') = some q → w.heap.size ≤ q := by
      rcases m4 with h | ⟨q, h, h'⟩
      · exact .inl h
      · right
        intro q' e
        rw [e] at h; cases h
        exact Nat.le_trans HBAL.out.size h'
    have R1 := Lib.hid r1; have K4 := Lib.hid k4; have M4 := Lib.hid hm4; have G4 := Lib.hid hg4
    clear r1 k4 m4 hm4 hg4
    go_wp2_with (refine wpList_store1_g rfl 43 _ _ rfl g 1 _ rfl rfl rfl rfl 45 _ G4.out (by kernel_rfl) (by simp) _ rfl ?_)
    intro w5 h5 k45 _
    have hcl := rpast_close H.out HBAL.out R1.out K4.out M4.out h5 k45
    have HCL := Lib.hid hcl
    clear h5 k45 hcl
    go_wp2_with fail
    refine (rlay_any (F := rfoot g vL (.slice ad' n' cap')) ⟨_, _, HCL.out.1, rfl⟩ HTL.out k [] false).mono ?_
    intro e w6 hr
    have hr2 := RRet.then HCL.out.2.1 HCL.out.2.2 hr
    obtain ⟨rfl, hr3⟩ := hr2
    have HR3 := Lib.hid hr3
    clear hr hr3
    go_wp2_with fail
    go_ret
    exact ⟨rfl, HR3.out⟩
end Go.Proofs.Ythnjakomkdlglaa
