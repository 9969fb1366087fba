/- From the frame's reading of acts of chapter 13 to the walks' own. No condition. -/
import Derived.Test.YthnjakomkdlglaaOpenU
import Derived.Test.YthnjakomkdlglaaDueE
namespace Go.Proofs.Ythnjakomkdlglaa
open Go.RowKit

section
variable {H : Type} {enc : TypeId × Value → H} {w : World} {base : Nat} {spare : Nat → Bool} {held : Bool}
set_option maxRecDepth 100000 in
theorem open_act13 {fuel : Nat} {cs : List Value} {x : DataW H × List MemPlace} (h : DataW.trod enc Try.prog w base spare held fuel 47 cs = some x) (hw : Sized Try.prog 47 x.1) : ∃ a : Act13, cs = act13E a ∧ Good13 w a := by
  obtain ⟨xs, n, _, rfl, hl, hlen, hf⟩ := DataW.trod_struct Try.underlying47 h
  match xs, hlen with
  | [y0, y1, y2], _ =>
    have g0 : DataW.trod enc Try.prog w base spare held n 4 ((cs.drop 0).take (Try.prog.cellsOf 4)) = some y0 := hf 0 _ rfl
    rw [show Try.prog.cellsOf 4 = 1 by kernel_rfl] at g0
    obtain ⟨v0, e0, _⟩ := DataW.trod_bool Try.underlying4 g0
    have g1 : DataW.trod enc Try.prog w base spare held n 3 ((cs.drop 1).take (Try.prog.cellsOf 3)) = some y1 := hf 1 _ rfl
    rw [show Try.prog.cellsOf 3 = 1 by kernel_rfl] at g1
    obtain ⟨v1, e1, b1⟩ := open_i64 Try.underlying3 g1
    have g2 : DataW.trod enc Try.prog w base spare held n 34 ((cs.drop 2).take (Try.prog.cellsOf 34)) = some y2 := hf 2 _ rfl
    rw [show Try.prog.cellsOf 34 = 1 by kernel_rfl] at g2
    obtain ⟨s2, l2, e2, r2, _, i2⟩ := open_slice_rd intE (fun n => -9223372036854775808 ≤ n ∧ n < 9223372036854775808) Try.underlying34 (sz := 1) (by kernel_rfl) (by omega) (fun _ => rfl) (fun fuel cs x h1 _ => open_i64 Try.underlying3 h1) g2 (Sized.field Try.underlying47 hw (i := 2) (d := y2.1) rfl rfl)
    obtain ⟨ad2, cap2, rfl, _, _⟩ := r2.shape
    refine ⟨⟨v0, v1, ad2, cap2, l2⟩, ?_, ⟨b1, r2, i2⟩⟩
    rw [show Try.prog.cellsOf 47 = 3 by kernel_rfl] at hl
    have a0 : cs = (cs.drop 0).take 1 ++ ((cs.drop 1).take 1 ++ ((cs.drop 2).take 1)) := by
      have q (m j : Nat) : cs.drop m = (cs.drop m).take j ++ cs.drop (m + j) := by rw [← List.drop_drop, List.take_append_drop]
      conv => lhs; rw [show cs = cs.drop 0 from rfl, q 0 1, q 1 1, q 2 1]
      simp [List.drop_of_length_le (show cs.length ≤ 3 by omega)]
    rw [a0, e0, e1, e2]
    rfl
theorem open_acts13 {fuel : Nat} {cs : List Value} {x : DataW H × List MemPlace} (h : DataW.trod enc Try.prog w base spare held fuel 39 cs = some x) (hw : Sized Try.prog 39 x.1) : ∃ v, ∃ l : List Act13, cs = [v] ∧ Rd w act13E 3 v l ∧ ∀ a ∈ l, Good13 w a := by
  obtain ⟨v, l, h1, h2, _, h4⟩ := open_slice_rd act13E (Good13 w) Try.underlying39 (by kernel_rfl) (by omega) act13E_len (fun fuel cs x h1 h2 => open_act13 h1 h2) h hw
  exact ⟨v, l, h1, h2, h4⟩
end
end Go.Proofs.Ythnjakomkdlglaa
