/- Copy of the document's store: no condition. -/
import Derived.Test.YthnjakomkdlglaaRstE
namespace Go.Proofs.Ythnjakomkdlglaa
open Go.RowKit

/-- Numbers i and j alone may come up now. -/
theorem till_two {P : Program} {md : Region.Mode} {ops : Array Oper} {Q : Exit → Act → World → Prop} {S : World → Prop} {z : Nat} (i j : Nat) {oi oj : Oper} {fuel : Nat} {listed : Array Bool} {a : Act} {w : World} (hi : ops[i]? = some oi) (hj : ops[j]? = some oj) (hr : Region.ready md ops listed = [i, j])
    (h1 : ∀ K : Act → World → Prop, (∀ a w, (i ≠ z → listed.getD z false = false → S w) → AnyTill P md ops Q S z fuel (listed.setIfInBounds i true) a w → K a w) → if Region.wanted oi (yielded ops a.tmps) = true then Oper.wp P oi a w K Q else K (a.put oi.dst undef) w)
    (h2 : ∀ K : Act → World → Prop, (∀ a w, (j ≠ z → listed.getD z false = false → S w) → AnyTill P md ops Q S z fuel (listed.setIfInBounds j true) a w → K a w) → if Region.wanted oj (yielded ops a.tmps) = true then Oper.wp P oj a w K Q else K (a.put oj.dst undef) w) :
    AnyTill P md ops Q S z (fuel + 1) listed a w :=
  ⟨fun h0 => (by rw [hr] at h0; cases h0), by
    rw [hr]
    intro k hk
    rcases (by simpa using hk : k = i ∨ k = j) with rfl | rfl
    · exact wpOp_step hi (fun K hK => h1 K (fun a w hS hA => hK a w ⟨hS, hA⟩))
    · exact wpOp_step hj (fun K hK => h2 K (fun a w hS hA => hK a w ⟨hS, hA⟩))⟩
theorem LO.aside {α β : Type} {w w' : World} {e1 e2 : TypeId} {enc1 : α → List Value} {enc2 : β → List Value} {sz1 sz2 : Nat} {v1 v2 : Value} {l1 : List α} {l2 : List β} (h1 : LO w e1 enc1 sz1 v1 l1) (h2 : LO w e2 enc2 sz2 v2 l2) (hne : e1 ≠ e2) (k : Keep (fun k => v2.ownBlock = some k) w w') : LO w' e1 enc1 sz1 v1 l1 :=
  h1.keep k fun q e e3 => by
    obtain ⟨cs, hc⟩ := h1.kind e
    exact h2.apart hc (by first | exact hne | exact hne.symm) e3
/-- A store that has been copied: its block is new, and so are all blocks that it has. -/
def RCopyRet (w : World) (s : PS) (x : Ending) (w' : World) : Prop := ∃ g' F', x = .returned (.pointer (some ⟨g', 0, none⟩)) ∧ RS w' g' s F' ∧ Below w.heap.size w w' ∧ ∀ k ∈ F', w.heap.size ≤ k

end Go.Proofs.Ythnjakomkdlglaa
