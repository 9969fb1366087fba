/- A slice of slices of bytes, from the frame's reading. No condition. -/
import Derived.Test.YtbfdjjaonjepnaaOpen
import Derived.Test.YtbfdjjaonjepnaaMerkA
namespace Go.Proofs.Ytbfdjjaonjepnaa
open Go.RowKit

section
variable {H : Type} {enc : TypeId × Value → H} {P : Program} {w : World} {base : Nat} {spare : Nat → Bool} {held : Bool}
theorem open_texts {t e q : TypeId} (ht : P.underlying t = some (.slice e)) (he : P.underlying e = some (.slice q)) (hq : P.underlying q = some (.int .u8)) (ce : P.cellsOf e = 1) (cq : P.cellsOf q = 1) (bq : P.bytesOf q = 1)
    {fuel : Nat} {cs : List Value} {x : DataW H × List MemPlace} (h : DataW.trod enc P w base spare held fuel t cs = some x) (hw : Sized P t x.1) :
    ∃ v, ∃ l : List (List UInt8), cs = [v] ∧ Texts w v l ∧ ∀ b ∈ l, b.length ≤ 140737488355328 := by
  obtain ⟨v, vs, h1, h2, _, h4⟩ := open_slice_rd slE (fun u => ∃ b, Rd w u8E 1 u b ∧ b.length ≤ 140737488351232) ht ce (by omega) slE_len (fun fuel cs x h1 h2 => by
    obtain ⟨u, b, r1, r2, r3⟩ := open_bytes he hq cq bq h1 h2
    exact ⟨u, r1, b, r2, r3⟩) h hw
  obtain ⟨l, l1, l2⟩ := list_of (p := fun i (b : List UInt8) => ∀ u, vs[i]? = some u → Rd w u8E 1 u b ∧ b.length ≤ 140737488351232) vs.length (fun i hi => by
    obtain ⟨b, r1, r2⟩ := h4 vs[i] (List.getElem_mem hi)
    exact ⟨b, fun u hu => by rw [List.getElem?_eq_getElem hi] at hu; cases hu; exact ⟨r1, r2⟩⟩)
  refine ⟨v, l, h1, ⟨vs, h2, l1.symm, fun i u b p q => ?_⟩, fun b hb => ?_⟩
  · have hi : i < l.length := (List.getElem?_eq_some_iff.1 q).1
    rw [List.getElem?_eq_getElem hi] at q
    cases q
    exact (l2 i hi u p).1
  · obtain ⟨i, hi, rfl⟩ := List.getElem_of_mem hb
    have := (l2 i hi vs[i] (List.getElem?_eq_getElem (by omega))).2
    omega
end
end Go.Proofs.Ytbfdjjaonjepnaa
