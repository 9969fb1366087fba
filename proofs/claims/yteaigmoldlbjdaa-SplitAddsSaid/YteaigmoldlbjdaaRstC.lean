/- Set, Delete and Undo of the document's store: no condition. -/
import Derived.Test.YteaigmoldlbjdaaRstB
namespace Go.Proofs.Yteaigmoldlbjdaa
open Go.RowKit

/-- The list of changes has grown, or was cut. -/
theorem rpast_close {w w3 w4 w5 : World} {g : Nat} {vL vP vP' : Value} {s : PS} {p' : List WasP} (h0 : RAt w g s vL vP) (hb : Below w.heap.size w w3) (hp : LO w4 201 wasE 3 vP' p') (k34 : Keep (fun k => vP.ownBlock = some k) w3 w4) (hm : vP'.ownBlock = vP.ownBlock ∨ ∀ k, vP'.ownBlock = some k → w.heap.size ≤ k)
    (h5 : w5.heap[g]? = some (.cells #[vL, vP'] 52 (0, 0))) (k45 : Keep (· = g) w4 w5) :
    RAt w5 g ⟨s.t, p'⟩ vL vP' ∧ Keep (· ∈ rfoot g vL vP) w w5 ∧ ∀ x ∈ rfoot g vL vP', x ∈ rfoot g vL vP ∨ w.heap.size ≤ x := by
  have hg3 := (hb.block g (heap_lt h0.head)).trans h0.head
  have hl3 := h0.list.later hb
  have hp3 := h0.past.later hb
  have hg4 := k34.at hg3 (hp3.apart hg3 (by decide))
  have hl4 := hl3.keep k34 fun k e e2 => by
    obtain ⟨cs, hc⟩ := hl3.kind e
    exact hp3.apart hc (by decide) e2
  refine ⟨⟨h5, hl4.keep k45 fun k e e2 => hl4.apart hg4 (by decide) (by rw [e, e2]), hp.keep k45 fun k e e2 => hp.apart hg4 (by decide) (by rw [e, e2]), h0.up⟩, ?_, ?_⟩
  · refine ((Keep.of_below hb).then k34 ?_).then k45 ?_
    · intro x hx; exact .inl ((rfoot_eq _ _ _ _).2 (.inr (.inr hx)))
    · intro x hx; exact .inl ((rfoot_eq _ _ _ _).2 (.inl hx))
  · intro x hx
    rw [rfoot_eq] at hx ⊢
    rcases hx with h | h | h
    · exact .inl (.inl h)
    · exact .inl (.inr (.inl h))
    · rcases hm with hm | hm
      · rw [hm] at h; exact .inl (.inr (.inr h))
      · exact .inr (hm x h)
theorem RRet.then {w w1 w2 : World} {g : Nat} {F F1 : List Nat} {s2 : PS} {v : Value} {e : Ending} (hk : Keep (· ∈ F) w w1) (hf : ∀ x ∈ F1, x ∈ F ∨ w.heap.size ≤ x) (h : RRet w1 g F1 s2 v e w2) : RRet w g F s2 v e w2 := by
  obtain ⟨he, F2, h1, h2, h3⟩ := h
  refine ⟨he, F2, h1, hk.then h2 hf, fun x hx => ?_⟩
  rcases h3 x hx with h | h
  · exact hf x h
  · exact .inr (Nat.le_trans hk.size h)

end Go.Proofs.Yteaigmoldlbjdaa
