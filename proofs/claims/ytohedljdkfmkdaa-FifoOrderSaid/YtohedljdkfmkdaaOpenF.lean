/- From the frame's reading of acts of chapter 12 to the walks' own. No condition. -/
import Derived.Test.YtohedljdkfmkdaaOpenS
import Derived.Test.YtohedljdkfmkdaaFifD
namespace Go.Proofs.Ytohedljdkfmkdaa
open Go.RowKit

section
variable {H : Type} {enc : TypeId × Value → H} {w : World} {base : Nat} {spare : Nat → Bool} {held : Bool}
theorem open_act12 {fuel : Nat} {cs : List Value} {x : DataW H × List MemPlace} (h : DataW.trod enc Try.prog w base spare held fuel 71 cs = some x) (hw : Sized Try.prog 71 x.1) : ∃ a : Act12, cs = act12E a ∧ Good12 w a := by
  obtain ⟨hl, hf⟩ := open_flat Try.underlying71 (by kernel_rfl) h hw
  match cs, hl with
  | [c0, c1, c2], _ =>
    obtain ⟨v0, e0, r0⟩ := hf 0 _ rfl
    obtain ⟨v1, e1, r1⟩ := hf 1 _ rfl
    obtain ⟨v2, e2, r2⟩ := hf 2 _ rfl
    obtain ⟨b, rfl⟩ := r0.bool Try.underlying4
    obtain ⟨l, hrd, _, hi⟩ := r1.ints Try.underlying43 Try.underlying3 (by kernel_rfl) (by kernel_rfl)
    obtain ⟨m, hrm, _, hj⟩ := r2.ints Try.underlying43 Try.underlying3 (by kernel_rfl) (by kernel_rfl)
    obtain ⟨ad, cap, rfl, _, _⟩ := hrd.shape
    obtain ⟨ad2, cap2, rfl, _, _⟩ := hrm.shape
    cases e0; cases e1; cases e2
    exact ⟨⟨b, ad, cap, l, ad2, cap2, m⟩, rfl, hrd, hi, hrm, hj⟩
theorem open_acts12 {fuel : Nat} {cs : List Value} {x : DataW H × List MemPlace} (h : DataW.trod enc Try.prog w base spare held fuel 73 cs = some x) (hw : Sized Try.prog 73 x.1) : ∃ v, ∃ l : List Act12, cs = [v] ∧ Rd w act12E 3 v l ∧ ∀ a ∈ l, Good12 w a := by
  obtain ⟨v, l, h1, h2, _, h4⟩ := open_slice_rd act12E (Good12 w) Try.underlying73 (by kernel_rfl) (by omega) act12E_len (fun fuel cs x h1 h2 => open_act12 h1 h2) h hw
  exact ⟨v, l, h1, h2, h4⟩
end
end Go.Proofs.Ytohedljdkfmkdaa
