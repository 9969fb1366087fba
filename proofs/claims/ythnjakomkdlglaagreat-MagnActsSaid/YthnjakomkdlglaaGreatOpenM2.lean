/- From the frame's reading of acts of chapter 22 to the walks' own. No condition. -/
import Derived.Test.YthnjakomkdlglaaGreatOpenU
import Derived.Test.YthnjakomkdlglaaGreatMagK
namespace Go.Proofs.YthnjakomkdlglaaGreat
open Go.RowKit

section
variable {H : Type} {enc : TypeId × Value → H} {w : World} {base : Nat} {spare : Nat → Bool} {held : Bool}
set_option maxRecDepth 100000 in
theorem open_act22 {fuel : Nat} {cs : List Value} {x : DataW H × List MemPlace} (h : DataW.trod enc Tryz.prog w base spare held fuel 48 cs = some x) (_hw : Sized Tryz.prog 48 x.1) : ∃ a : Act22, cs = act22E a ∧ Good22 w a := by
  obtain ⟨xs, n, _, rfl, hl, hlen, hf⟩ := DataW.trod_struct Tryz.underlying48 h
  match xs, hlen with
  | [y0, y1, y2, y3], _ =>
    have g0 : DataW.trod enc Tryz.prog w base spare held n 3 ((cs.drop 0).take (Tryz.prog.cellsOf 3)) = some y0 := hf 0 _ rfl
    rw [show Tryz.prog.cellsOf 3 = 1 by kernel_rfl] at g0
    obtain ⟨v0, e0, b0⟩ := open_i64 Tryz.underlying3 g0
    have g1 : DataW.trod enc Tryz.prog w base spare held n 3 ((cs.drop 1).take (Tryz.prog.cellsOf 3)) = some y1 := hf 1 _ rfl
    rw [show Tryz.prog.cellsOf 3 = 1 by kernel_rfl] at g1
    obtain ⟨v1, e1, b1⟩ := open_i64 Tryz.underlying3 g1
    have g2 : DataW.trod enc Tryz.prog w base spare held n 3 ((cs.drop 2).take (Tryz.prog.cellsOf 3)) = some y2 := hf 2 _ rfl
    rw [show Tryz.prog.cellsOf 3 = 1 by kernel_rfl] at g2
    obtain ⟨v2, e2, b2⟩ := open_i64 Tryz.underlying3 g2
    have g3 : DataW.trod enc Tryz.prog w base spare held n 33 ((cs.drop 3).take (Tryz.prog.cellsOf 33)) = some y3 := hf 3 _ rfl
    rw [show Tryz.prog.cellsOf 33 = 4 by kernel_rfl] at g3
    obtain ⟨z3, e3, k3⟩ := open_u Tryz.underlying33 Tryz.underlying31 (by kernel_rfl) (by kernel_rfl) g3
    refine ⟨⟨v0, v1, v2, z3⟩, ?_, ⟨b0, b1, b2, k3⟩⟩
    rw [show Tryz.prog.cellsOf 48 = 7 by kernel_rfl] at hl
    have a0 : cs = (cs.drop 0).take 1 ++ ((cs.drop 1).take 1 ++ ((cs.drop 2).take 1 ++ ((cs.drop 3).take 4))) := by
      have q (m j : Nat) : cs.drop m = (cs.drop m).take j ++ cs.drop (m + j) := by rw [← List.drop_drop, List.take_append_drop]
      conv => lhs; rw [show cs = cs.drop 0 from rfl, q 0 1, q 1 1, q 2 1, q 3 4]
      simp [List.drop_of_length_le (show cs.length ≤ 7 by omega)]
    rw [a0, e0, e1, e2, e3]
    rfl
theorem open_acts22 {fuel : Nat} {cs : List Value} {x : DataW H × List MemPlace} (h : DataW.trod enc Tryz.prog w base spare held fuel 46 cs = some x) (hw : Sized Tryz.prog 46 x.1) : ∃ v, ∃ l : List Act22, cs = [v] ∧ Rd w act22E 7 v l ∧ ∀ a ∈ l, Good22 w a := by
  obtain ⟨v, l, h1, h2, _, h4⟩ := open_slice_rd act22E (Good22 w) Tryz.underlying46 (by kernel_rfl) (by omega) act22E_len (fun fuel cs x h1 h2 => open_act22 h1 h2) h hw
  exact ⟨v, l, h1, h2, h4⟩
end
end Go.Proofs.YthnjakomkdlglaaGreat
