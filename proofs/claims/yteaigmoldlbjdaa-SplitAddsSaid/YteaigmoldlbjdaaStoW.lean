/- All and Copy of a store: no condition. -/
import Derived.Test.YteaigmoldlbjdaaStoV
namespace Go.Proofs.Yteaigmoldlbjdaa
open Go.RowKit

/-- A copy of its own. -/
def CopyRet (w : World) (s : PS) (e : Ending) (w' : World) : Prop := ∃ X F', e = .returned (.pointer (some ⟨X, 0, none⟩)) ∧ St w' X s F' ∧ Below w.heap.size w w' ∧ ∀ x ∈ F', w.heap.size ≤ x

end Go.Proofs.Yteaigmoldlbjdaa
