/- From the frame's reading of a slice of amounts to the walks' own. No condition. -/
import Derived.Test.YtnoocidoblndgaaOpenU
import Derived.Test.YtnoocidoblndgaaCelN
namespace Go.Proofs.Ytnoocidoblndgaa
open Go.RowKit

section
variable {H : Type} {enc : TypeId × Value → H} {w : World} {base : Nat} {spare : Nat → Bool} {held : Bool}
theorem open_us {fuel : Nat} {cs : List Value} {x : DataW H × List MemPlace} (h : DataW.trod enc Try.prog w base spare held fuel 22 cs = some x) (hw : Sized Try.prog 22 x.1) : ∃ v, ∃ l : List Nat, cs = [v] ∧ Rd w uE 4 v l ∧ ∀ m ∈ l, m < uMax := by
  obtain ⟨v, l, h1, h2, _, h4⟩ := open_slice_rd uE (fun m => m < uMax) Try.underlying22 (by kernel_rfl) (by omega) uE_len (fun fuel cs x h1 _ => open_u Try.underlying30 Try.underlying28 (by kernel_rfl) (by kernel_rfl) h1) h hw
  exact ⟨v, l, h1, h2, h4⟩
end
end Go.Proofs.Ytnoocidoblndgaa
