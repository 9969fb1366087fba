/- From the frame's reading of rows of a table to the walks' own. No condition. -/
import Derived.Test.YtmclmccgghnglaaLeaE
import Derived.Test.YtmclmccgghnglaaOpenU
namespace Go.Proofs.Ytmclmccgghnglaa
open Go.RowKit

section
variable {H : Type} {enc : TypeId × Value → H} {w : World} {base : Nat} {spare : Nat → Bool} {held : Bool}
set_option maxRecDepth 100000 in
theorem open_lrow {fuel : Nat} {cs : List Value} {x : DataW H × List MemPlace} (h : DataW.trod enc Try.prog w base spare held fuel 49 cs = some x) (_hw : Sized Try.prog 49 x.1) : ∃ a : LRow, cs = rowE a ∧ ROk a := by
  obtain ⟨xs, n, _, rfl, hl, hlen, hf⟩ := DataW.trod_struct Try.underlying49 h
  match xs, hlen with
  | [y0, y1, y2], _ =>
    have g0 : DataW.trod enc Try.prog w base spare held n 3 ((cs.drop 0).take (Try.prog.cellsOf 3)) = some y0 := hf 0 _ rfl
    rw [show Try.prog.cellsOf 3 = 1 by kernel_rfl] at g0
    obtain ⟨v0, e0, b0⟩ := open_i64 Try.underlying3 g0
    have g1 : DataW.trod enc Try.prog w base spare held n 3 ((cs.drop 1).take (Try.prog.cellsOf 3)) = some y1 := hf 1 _ rfl
    rw [show Try.prog.cellsOf 3 = 1 by kernel_rfl] at g1
    obtain ⟨v1, e1, b1⟩ := open_i64 Try.underlying3 g1
    have g2 : DataW.trod enc Try.prog w base spare held n 31 ((cs.drop 2).take (Try.prog.cellsOf 31)) = some y2 := hf 2 _ rfl
    rw [show Try.prog.cellsOf 31 = 4 by kernel_rfl] at g2
    obtain ⟨z2, e2, k2⟩ := open_u Try.underlying31 Try.underlying29 (by kernel_rfl) (by kernel_rfl) g2
    refine ⟨⟨v0, v1, z2⟩, ?_, ⟨⟨b0, b1⟩, k2⟩⟩
    rw [show Try.prog.cellsOf 49 = 6 by kernel_rfl] at hl
    have a0 : cs = (cs.drop 0).take 1 ++ ((cs.drop 1).take 1 ++ ((cs.drop 2).take 4)) := by
      have q (m j : Nat) : cs.drop m = (cs.drop m).take j ++ cs.drop (m + j) := by rw [← List.drop_drop, List.take_append_drop]
      conv => lhs; rw [show cs = cs.drop 0 from rfl, q 0 1, q 1 1, q 2 4]
      simp [List.drop_of_length_le (show cs.length ≤ 6 by omega)]
    rw [a0, e0, e1, e2]
    rfl
theorem open_lrows {fuel : Nat} {cs : List Value} {x : DataW H × List MemPlace} (h : DataW.trod enc Try.prog w base spare held fuel 42 cs = some x) (hw : Sized Try.prog 42 x.1) : ∃ v, ∃ l : List LRow, cs = [v] ∧ Rd w rowE 6 v l ∧ (∀ r ∈ l, ROk r) ∧ l.length ≤ 140737488351232 := by
  obtain ⟨v, l, h1, h2, h3, h4⟩ := open_slice_rd rowE ROk Try.underlying42 (by kernel_rfl) (by omega) rowE_len (fun fuel cs x h1 h2 => open_lrow h1 h2) h hw
  rw [show Try.prog.bytesOf 49 = 48 by kernel_rfl] at h3
  exact ⟨v, l, h1, h2, h4, by omega⟩
end
end Go.Proofs.Ytmclmccgghnglaa
