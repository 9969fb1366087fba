/- Same of the document's store: no condition. -/
import Derived.Test.YteaigmoldlbjdaaRstF
namespace Go.Proofs.Yteaigmoldlbjdaa
open Go.RowKit

theorem Rd.pair {w : World} {ad : Option Addr} {n cap : Nat} {t : Tab} (h : Rd w pairE 2 (.slice ad n cap) t) (i : Nat) (hi : i < t.length) :
    ∃ g off, ad = some ⟨g, off, none⟩ ∧ g < w.heap.size ∧ w.cell? ⟨g, off + i * 2, none⟩ = some (.string (bs t[i].1)) ∧ w.cell? ⟨g, off + i * 2 + 1, none⟩ = some (.string (bs t[i].2)) := by
  have hne : t ≠ [] := by rintro rfl; simp at hi
  obtain ⟨ax, cx, e3, _, _, h3⟩ := h
  obtain ⟨b, off, e4, hb, h5⟩ := h3 hne
  exact ⟨b, off, (Value.slice.inj e3).1.trans e4, hb, h5 i hi 0 (by decide), h5 i hi 1 (by decide)⟩
def SameRet (w : World) (r : Bool) (x : Ending) (w' : World) : Prop := x = .returned (.bool r) ∧ Below w.heap.size w w'
theorem take_step {a b : Tab} {i : Nat} (h : a.take i = b.take i) (ha : i < a.length) (hb : i < b.length) (h1 : a[i].1 = b[i].1) (h2 : a[i].2 = b[i].2) : a.take (i + 1) = b.take (i + 1) := by
  rw [List.take_succ_eq_append_getElem ha, List.take_succ_eq_append_getElem hb, h]
  congr 2
  exact Prod.ext h1 h2

end Go.Proofs.Yteaigmoldlbjdaa
