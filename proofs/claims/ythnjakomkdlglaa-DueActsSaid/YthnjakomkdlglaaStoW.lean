/- All and Copy of a store: no condition. -/
import Derived.Test.YthnjakomkdlglaaStoV
namespace Go.Proofs.Ythnjakomkdlglaa
open Go.RowKit

theorem sall_any {w : World} {g : Nat} {s : PS} {F : List Nat} (h : St w g s F) (htl : s.t.length < 1099511627776) :
    Calls Try.prog 23 #[.pointer (some ⟨g, 0, none⟩)] w (CloneRet w 99 pairE 2 s.t) := by
  have HS := Lib.hid h; have HT := Lib.hid htl
  clear h htl
  go_enter Try.func23, Try.ntmps23
  go_wp2_with fail
  refine (sunder_any HS.out HT.out []).mono ?_
  rintro e w1 ⟨v, rfl, r1, r2, r3⟩
  rw [under_nil] at r1
  have R1 := Lib.hid r1; have R2 := Lib.hid r2; have R3 := Lib.hid r3
  clear r1 r2 r3
  go_wp2_with fail
  go_ret
  exact ⟨_, rfl, R1.out, R2.out, R3.out⟩
/-- A copy of its own. -/
def CopyRet (w : World) (s : PS) (e : Ending) (w' : World) : Prop := ∃ X F', e = .returned (.pointer (some ⟨X, 0, none⟩)) ∧ St w' X s F' ∧ Below w.heap.size w w' ∧ ∀ x ∈ F', w.heap.size ≤ x

end Go.Proofs.Ythnjakomkdlglaa
