/- From the frame's reading of acts of chapter 34 to the walks' own. No condition. -/
import Derived.Test.YthnjakomkdlglaaGreatSplN
import Derived.Test.YthnjakomkdlglaaGreatOpenU
namespace Go.Proofs.YthnjakomkdlglaaGreat
open Go.RowKit

section
variable {H : Type} {enc : TypeId × Value → H} {w : World} {base : Nat} {spare : Nat → Bool} {held : Bool}
set_option maxRecDepth 100000 in
theorem open_act34 {fuel : Nat} {cs : List Value} {x : DataW H × List MemPlace} (h : DataW.trod enc Tryz.prog w base spare held fuel 80 cs = some x) (_hw : Sized Tryz.prog 80 x.1) : ∃ a : Act34, cs = act34E a ∧ Good34 w a := by
  obtain ⟨xs, n, _, rfl, hl, hlen, hf⟩ := DataW.trod_struct Tryz.underlying80 h
  match xs, hlen with
  | [y0, y1, y2, y3, y4], _ =>
    have g0 : DataW.trod enc Tryz.prog w base spare held n 3 ((cs.drop 0).take (Tryz.prog.cellsOf 3)) = some y0 := hf 0 _ rfl
    rw [show Tryz.prog.cellsOf 3 = 1 by kernel_rfl] at g0
    obtain ⟨v0, e0, b0⟩ := open_i64 Tryz.underlying3 g0
    have g1 : DataW.trod enc Tryz.prog w base spare held n 3 ((cs.drop 1).take (Tryz.prog.cellsOf 3)) = some y1 := hf 1 _ rfl
    rw [show Tryz.prog.cellsOf 3 = 1 by kernel_rfl] at g1
    obtain ⟨v1, e1, b1⟩ := open_i64 Tryz.underlying3 g1
    have g2 : DataW.trod enc Tryz.prog w base spare held n 3 ((cs.drop 2).take (Tryz.prog.cellsOf 3)) = some y2 := hf 2 _ rfl
    rw [show Tryz.prog.cellsOf 3 = 1 by kernel_rfl] at g2
    obtain ⟨v2, e2, b2⟩ := open_i64 Tryz.underlying3 g2
    have g3 : DataW.trod enc Tryz.prog w base spare held n 3 ((cs.drop 3).take (Tryz.prog.cellsOf 3)) = some y3 := hf 3 _ rfl
    rw [show Tryz.prog.cellsOf 3 = 1 by kernel_rfl] at g3
    obtain ⟨v3, e3, b3⟩ := open_i64 Tryz.underlying3 g3
    have g4 : DataW.trod enc Tryz.prog w base spare held n 3 ((cs.drop 4).take (Tryz.prog.cellsOf 3)) = some y4 := hf 4 _ rfl
    rw [show Tryz.prog.cellsOf 3 = 1 by kernel_rfl] at g4
    obtain ⟨v4, e4, b4⟩ := open_i64 Tryz.underlying3 g4
    refine ⟨⟨v0, v1, v2, v3, v4⟩, ?_, ⟨b0, b1, b2, b3, b4⟩⟩
    rw [show Tryz.prog.cellsOf 80 = 5 by kernel_rfl] at hl
    have a0 : cs = (cs.drop 0).take 1 ++ ((cs.drop 1).take 1 ++ ((cs.drop 2).take 1 ++ ((cs.drop 3).take 1 ++ ((cs.drop 4).take 1)))) := by
      have q (m j : Nat) : cs.drop m = (cs.drop m).take j ++ cs.drop (m + j) := by rw [← List.drop_drop, List.take_append_drop]
      conv => lhs; rw [show cs = cs.drop 0 from rfl, q 0 1, q 1 1, q 2 1, q 3 1, q 4 1]
      simp [List.drop_of_length_le (show cs.length ≤ 5 by omega)]
    rw [a0, e0, e1, e2, e3, e4]
    rfl
theorem open_acts34 {fuel : Nat} {cs : List Value} {x : DataW H × List MemPlace} (h : DataW.trod enc Tryz.prog w base spare held fuel 78 cs = some x) (hw : Sized Tryz.prog 78 x.1) : ∃ v, ∃ l : List Act34, cs = [v] ∧ Rd w act34E 5 v l ∧ ∀ a ∈ l, Good34 w a := by
  obtain ⟨v, l, h1, h2, _, h4⟩ := open_slice_rd act34E (Good34 w) Tryz.underlying78 (by kernel_rfl) (by omega) act34E_len (fun fuel cs x h1 h2 => open_act34 h1 h2) h hw
  exact ⟨v, l, h1, h2, h4⟩
end
end Go.Proofs.YthnjakomkdlglaaGreat
