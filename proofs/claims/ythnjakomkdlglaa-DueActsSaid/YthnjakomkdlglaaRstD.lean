/- Undo of the document's store: no condition. -/
import Derived.Test.YthnjakomkdlglaaRstC
namespace Go.Proofs.Ythnjakomkdlglaa
open Go.RowKit

theorem Try.zeroRWas : (Try.prog.info? 148).map (·.zero) = some (some (.agg #[.string ⟨#[]⟩, .string ⟨#[]⟩, .bool false])) := by kernel_rfl
theorem Try.sizeRWas : (Try.prog.info? 148).map (·.size) = some 3 := by kernel_rfl
theorem h'keep {w w' : World} {g : Nat} {s : PS} {vL vP : Value} (h : RAt w g s vL vP) (hb : Below w.heap.size w w') : RAt w' g s vL vP :=
  ⟨(hb.block g (heap_lt h.head)).trans h.head, h.list.later hb, h.past.later hb, h.up⟩
/-- How many changes the document's store in memory has. -/
def rpastLen (w : World) (g : Nat) : Nat := match w.cell? ⟨g, 1, none⟩ with
  | some (.slice _ n _) => n
  | _ => 0
theorem wp_store_row_g {P : Program} {o : Oper} {a : Act} {w : World} {K : Act → World → Prop} {Q : Exit → Act → World → Prop} (ty : TypeId) (x y : Operand) (ho : o.op = .store ty x y)
    (g : Nat) (cells : Array Value) (hx : a.eval x = .pointer (some ⟨g, 0, none⟩)) (hy : a.eval y = .agg cells)
    (t : TypeId) (old : Array Value) (hg : w.heap[g]? = some (.cells old t (0, 0))) (hi : (P.info? ty).map (·.size) = some cells.size)
    (hold : old.size = cells.size) (h1 : cells.all (·.oneCell') = true)
    (h : ∀ w', w'.heap[g]? = some (.cells cells t (0, 0)) → Keep (· = g) w w' → w'.heap.size = w.heap.size → K (a.put o.dst undef) w') : o.wp P a w K Q :=
  wp_store_row ty x y ho g cells hx hy t old hg hi hold h1 (h _ (setRow_heap _ _ _ _ _ _ hg) (Keep.setRow (S := (· = g)) (Keep.refl _ _) (.inl rfl) _) (setRow_size _ _ _))
theorem rpastLen_of {w : World} {g : Nat} {s : PS} {F : List Nat} (h : RS w g s F) : rpastLen w g = s.past.length := by
  obtain ⟨vL, vP, h, rfl⟩ := h
  obtain ⟨ad, cap, hvp, h1, h2⟩ := h.past.shape
  unfold rpastLen
  rw [show w.cell? ⟨g, 1, none⟩ = some vP from Lib.cell_of_heap h.head 1, hvp]

end Go.Proofs.Ythnjakomkdlglaa
