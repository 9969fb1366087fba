/- lay, Set and Delete of the document's store: no condition. -/
import Derived.Test.YteaigmoldlbjdaaRstA
namespace Go.Proofs.Yteaigmoldlbjdaa
open Go.RowKit

theorem at_cons {p : Txt × Txt} {t : Tab} {k : Txt} {i : Nat} (h : At (keysP (p :: t)) k (i + 1)) : less p.1 k = true ∧ At (keysP t) k i := by
  refine ⟨h.lo 0 (by simp [keysP]) (Nat.succ_pos _), ⟨?_, fun j hj hji => ?_, fun j hj hij => ?_⟩⟩
  · have := h.le; simp [keysP] at this ⊢; omega
  · exact h.lo (j + 1) (by simp [keysP] at hj ⊢; omega) (by omega)
  · exact h.hi (j + 1) (by simp [keysP] at hj ⊢; omega) (by omega)
theorem ins_at : ∀ {t : Tab} {k : Txt} {i : Nat} (v : Txt), Up t → At (keysP t) k i → insP t k v = t.take i ++ (k, v) :: t.drop (if (getP t k).isSome = true then i + 1 else i)
  | [], k, i, v, _, h => by
    have : i = 0 := by have := h.le; simpa [keysP] using this
    subst this; rfl
  | p :: t, k, 0, v, hu, h => by
    have hp := List.pairwise_cons.1 hu
    have h0 := h.hi 0 (by simp [keysP]) (Nat.le_refl _)
    have h0' : less p.1 k = false := h0
    unfold insP
    rcases not_less h0' with e | e
    · rw [if_pos e, getP_cons, if_pos e]; rfl
    · have hne : p.1 ≠ k := (less_ne e).symm
      have hnone : getP (p :: t) k = none := getP_none.2 fun q hq e2 => by
        rcases List.mem_cons.1 hq with rfl | hq
        · exact hne e2
        · have := less_trans e (hp.1 q hq); rw [e2, less_irrefl] at this; cases this
      rw [if_neg hne, if_neg (by rw [h0']; simp), hnone]; rfl
  | p :: t, k, i + 1, v, hu, h => by
    have hp := List.pairwise_cons.1 hu
    obtain ⟨h1, h2⟩ := at_cons h
    unfold insP
    rw [if_neg (less_ne h1), if_pos h1, ins_at v hp.2 h2, getP_cons, if_neg (less_ne h1)]
    split <;> rfl
theorem del_at : ∀ {t : Tab} {k : Txt} {i : Nat}, Up t → At (keysP t) k i → delP t k = t.take i ++ t.drop (if (getP t k).isSome = true then i + 1 else i)
  | [], k, i, _, h => by
    have : i = 0 := by have := h.le; simpa [keysP] using this
    subst this; rfl
  | p :: t, k, 0, hu, h => by
    have hp := List.pairwise_cons.1 hu
    have h0' : less p.1 k = false := h.hi 0 (by simp [keysP]) (Nat.le_refl _)
    rcases not_less h0' with e | e
    · have h1 : delP t k = t := del_none (getP_none.2 fun q hq e2 => by have := hp.1 q hq; rw [e, e2, less_irrefl] at this; cases this)
      have h2 : delP (p :: t) k = delP t k := by unfold delP; rw [List.filter_cons_of_neg (by simp [e])]
      rw [h2, h1, getP_cons, if_pos e]; rfl
    · have hne : p.1 ≠ k := (less_ne e).symm
      have hnone : getP (p :: t) k = none := getP_none.2 fun q hq e2 => by
        rcases List.mem_cons.1 hq with rfl | hq
        · exact hne e2
        · have := less_trans e (hp.1 q hq); rw [e2, less_irrefl] at this; cases this
      rw [del_none hnone, hnone]; rfl
  | p :: t, k, i + 1, hu, h => by
    have hp := List.pairwise_cons.1 hu
    obtain ⟨h1, h2⟩ := at_cons h
    have h3 : delP (p :: t) k = p :: delP t k := by unfold delP; rw [List.filter_cons_of_pos (by simp [less_ne h1])]
    rw [h3, del_at hp.2 h2, getP_cons, if_neg (less_ne h1)]
    split <;> rfl
theorem Try.sizePair : (Try.prog.info? 121).map (·.size) = some 2 := by kernel_rfl
theorem Try.infoRWas : (Try.prog.info? 201).map (fun i => (i.zero, i.size, i.bytes)) = some (some (.agg #[.string ⟨#[]⟩, .string ⟨#[]⟩, .bool false]), 3, 40) := by kernel_rfl

/-- The list has been laid anew. -/
theorem rlist_close {w w4 w5 : World} {g : Nat} {vL vP vL' : Value} {s : PS} {t' : Tab} (h0 : RAt w g s vL vP) (hb : Below w.heap.size w w4) (hl : LO w4 121 pairE 2 vL' t') (ho : ∀ k, vL'.ownBlock = some k → w.heap.size ≤ k) (hu : Up t')
    (h5 : w5.heap[g]? = some (.cells #[vL', vP] 52 (0, 0))) (k45 : Keep (· = g) w4 w5) :
    RAt w5 g ⟨t', s.past⟩ vL' vP ∧ Keep (· ∈ rfoot g vL vP) w w5 ∧ ∀ x ∈ rfoot g vL' vP, x ∈ rfoot g vL vP ∨ w.heap.size ≤ x := by
  have hg4 := (hb.block g (heap_lt h0.head)).trans h0.head
  refine ⟨⟨h5, hl.keep k45 fun k e e2 => hl.apart hg4 (by decide) (by rw [e, e2]), (h0.past.later hb).keep k45 fun k e e2 => (h0.past.later hb).apart hg4 (by decide) (by rw [e, e2]), hu⟩, ?_, ?_⟩
  · exact (Keep.of_below hb).then k45 fun x hx => .inl ((rfoot_eq _ _ _ _).2 (.inl hx))
  · intro x hx
    rw [rfoot_eq] at hx ⊢
    rcases hx with h | h | h
    · exact .inl (.inl h)
    · exact .inr (ho x h)
    · exact .inl (.inr (.inr h))
end Go.Proofs.Yteaigmoldlbjdaa
