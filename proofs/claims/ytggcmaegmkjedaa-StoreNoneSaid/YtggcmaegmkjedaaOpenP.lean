/- From the frame's reading of acts on a store to the walks' own. No condition. -/
import Derived.Test.YtggcmaegmkjedaaOpenS
import Derived.Test.YtggcmaegmkjedaaLawF
namespace Go.Proofs.Ytggcmaegmkjedaa
open Go.RowKit

section
variable {H : Type} {enc : TypeId × Value → H} {w : World} {base : Nat} {spare : Nat → Bool} {held : Bool}
theorem open_act {fuel : Nat} {cs : List Value} {x : DataW H × List MemPlace} (h : DataW.trod enc Try.prog w base spare held fuel 39 cs = some x) (hw : Sized Try.prog 39 x.1) : ∃ a : ActP, cs = actE a ∧ True := by
  obtain ⟨hl, hf⟩ := open_flat Try.underlying39 (by kernel_rfl) h hw
  match cs, hl with
  | [c0, c1, c2, c3], _ =>
    obtain ⟨v0, e0, r0⟩ := hf 0 _ rfl
    obtain ⟨v1, e1, r1⟩ := hf 1 _ rfl
    obtain ⟨v2, e2, r2⟩ := hf 2 _ rfl
    obtain ⟨v3, e3, r3⟩ := hf 3 _ rfl
    obtain ⟨n0, rfl, _⟩ := r0.int Try.underlying3
    obtain ⟨n1, rfl, _⟩ := r1.str Try.underlying9
    obtain ⟨n2, rfl, _⟩ := r2.str Try.underlying9
    obtain ⟨n3, rfl, _⟩ := r3.int Try.underlying3
    cases e0; cases e1; cases e2; cases e3
    exact ⟨⟨n0, n1, n2, n3⟩, rfl, trivial⟩
theorem open_acts {fuel : Nat} {cs : List Value} {x : DataW H × List MemPlace} (h : DataW.trod enc Try.prog w base spare held fuel 34 cs = some x) (hw : Sized Try.prog 34 x.1) : ∃ v, ∃ l : List ActP, cs = [v] ∧ Rd w actE 4 v l := by
  obtain ⟨v, l, h1, h2, _⟩ := open_slice_rd actE (fun _ => True) Try.underlying34 (by kernel_rfl) (by omega) actE_len (fun fuel cs x h1 h2 => open_act h1 h2) h hw
  exact ⟨v, l, h1, h2⟩
end
end Go.Proofs.Ytggcmaegmkjedaa
