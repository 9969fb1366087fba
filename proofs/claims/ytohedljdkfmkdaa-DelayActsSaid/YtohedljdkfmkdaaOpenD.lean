/- From the frame's reading of acts of chapter 28 to the walks' own. No condition. -/
import Derived.Test.YtohedljdkfmkdaaOpenS
import Derived.Test.YtohedljdkfmkdaaDelE
namespace Go.Proofs.Ytohedljdkfmkdaa
open Go.RowKit

section
variable {H : Type} {enc : TypeId × Value → H} {w : World} {base : Nat} {spare : Nat → Bool} {held : Bool}
theorem open_act28 {fuel : Nat} {cs : List Value} {x : DataW H × List MemPlace} (h : DataW.trod enc Try.prog w base spare held fuel 45 cs = some x) (hw : Sized Try.prog 45 x.1) : ∃ a : Act28, cs = act28E a ∧ Good28 w a := by
  obtain ⟨hl, hf⟩ := open_flat Try.underlying45 (by kernel_rfl) h hw
  match cs, hl with
  | [c0, c1, c2, c3], _ =>
    obtain ⟨v0, e0, r0⟩ := hf 0 _ rfl
    obtain ⟨v1, e1, r1⟩ := hf 1 _ rfl
    obtain ⟨v2, e2, r2⟩ := hf 2 _ rfl
    obtain ⟨v3, e3, r3⟩ := hf 3 _ rfl
    obtain ⟨l, hrd, hlen, hi⟩ := r0.ints Try.underlying43 Try.underlying3 (by kernel_rfl) (by kernel_rfl)
    obtain ⟨ad, cap, rfl, _, _⟩ := hrd.shape
    obtain ⟨n1, rfl, _⟩ := r1.int Try.underlying3
    obtain ⟨n2, rfl, _⟩ := r2.int Try.underlying3
    obtain ⟨n3, rfl, _⟩ := r3.int Try.underlying3
    cases e0; cases e1; cases e2; cases e3
    exact ⟨⟨ad, cap, l, n1, n2, n3⟩, rfl, hrd, hi, hlen⟩
theorem open_acts28 {fuel : Nat} {cs : List Value} {x : DataW H × List MemPlace} (h : DataW.trod enc Try.prog w base spare held fuel 42 cs = some x) (hw : Sized Try.prog 42 x.1) : ∃ v, ∃ l : List Act28, cs = [v] ∧ Rd w act28E 4 v l ∧ ∀ a ∈ l, Good28 w a := by
  obtain ⟨v, l, h1, h2, _, h4⟩ := open_slice_rd act28E (Good28 w) Try.underlying42 (by kernel_rfl) (by omega) act28E_len (fun fuel cs x h1 h2 => open_act28 h1 h2) h hw
  exact ⟨v, l, h1, h2, h4⟩
end
end Go.Proofs.Ytohedljdkfmkdaa
