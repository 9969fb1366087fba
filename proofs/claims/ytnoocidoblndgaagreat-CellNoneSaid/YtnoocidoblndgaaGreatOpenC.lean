/- From the frame's reading of acts of chapter 10 to the walks' own. No condition. -/
import Derived.Test.YtnoocidoblndgaaGreatOpenU
import Derived.Test.YtnoocidoblndgaaGreatCelE
namespace Go.Proofs.YtnoocidoblndgaaGreat
open Go.RowKit

section
variable {H : Type} {enc : TypeId × Value → H} {w : World} {base : Nat} {spare : Nat → Bool} {held : Bool}
set_option maxRecDepth 100000 in
theorem open_act10 {fuel : Nat} {cs : List Value} {x : DataW H × List MemPlace} (h : DataW.trod enc Tryz.prog w base spare held fuel 27 cs = some x) (hw : Sized Tryz.prog 27 x.1) : ∃ a : Act10, cs = act10E a ∧ Good10 w a := by
  obtain ⟨xs, n, _, rfl, hl, hlen, hf⟩ := DataW.trod_struct Tryz.underlying27 h
  match xs, hlen with
  | [y0, y1, y2, y3, y4, y5], _ =>
    have g0 : DataW.trod enc Tryz.prog w base spare held n 3 ((cs.drop 0).take (Tryz.prog.cellsOf 3)) = some y0 := hf 0 _ rfl
    rw [show Tryz.prog.cellsOf 3 = 1 by kernel_rfl] at g0
    obtain ⟨v0, e0, b0⟩ := open_i64 Tryz.underlying3 g0
    have g1 : DataW.trod enc Tryz.prog w base spare held n 3 ((cs.drop 1).take (Tryz.prog.cellsOf 3)) = some y1 := hf 1 _ rfl
    rw [show Tryz.prog.cellsOf 3 = 1 by kernel_rfl] at g1
    obtain ⟨v1, e1, b1⟩ := open_i64 Tryz.underlying3 g1
    have g2 : DataW.trod enc Tryz.prog w base spare held n 3 ((cs.drop 2).take (Tryz.prog.cellsOf 3)) = some y2 := hf 2 _ rfl
    rw [show Tryz.prog.cellsOf 3 = 1 by kernel_rfl] at g2
    obtain ⟨v2, e2, b2⟩ := open_i64 Tryz.underlying3 g2
    have g3 : DataW.trod enc Tryz.prog w base spare held n 3 ((cs.drop 3).take (Tryz.prog.cellsOf 3)) = some y3 := hf 3 _ rfl
    rw [show Tryz.prog.cellsOf 3 = 1 by kernel_rfl] at g3
    obtain ⟨v3, e3, b3⟩ := open_i64 Tryz.underlying3 g3
    have g4 : DataW.trod enc Tryz.prog w base spare held n 24 ((cs.drop 4).take (Tryz.prog.cellsOf 24)) = some y4 := hf 4 _ rfl
    rw [show Tryz.prog.cellsOf 24 = 4 by kernel_rfl] at g4
    obtain ⟨z4, e4, k4⟩ := open_u Tryz.underlying24 Tryz.underlying22 (by kernel_rfl) (by kernel_rfl) g4
    have g5 : DataW.trod enc Tryz.prog w base spare held n 25 ((cs.drop 8).take (Tryz.prog.cellsOf 25)) = some y5 := hf 5 _ rfl
    rw [show Tryz.prog.cellsOf 25 = 1 by kernel_rfl] at g5
    obtain ⟨s5, l5, e5, r5, _, i5⟩ := open_slice_rd intE (fun n => -9223372036854775808 ≤ n ∧ n < 9223372036854775808) Tryz.underlying25 (sz := 1) (by kernel_rfl) (by omega) (fun _ => rfl) (fun fuel cs x h1 _ => open_i64 Tryz.underlying3 h1) g5 (Sized.field Tryz.underlying27 hw (i := 5) (d := y5.1) rfl rfl)
    obtain ⟨ad5, cap5, rfl, _, _⟩ := r5.shape
    refine ⟨⟨v0, v1, v2, v3, z4, ad5, cap5, l5⟩, ?_, ⟨b0, b1, b2, b3, k4, r5, i5⟩⟩
    rw [show Tryz.prog.cellsOf 27 = 9 by kernel_rfl] at hl
    have a0 : cs = (cs.drop 0).take 1 ++ ((cs.drop 1).take 1 ++ ((cs.drop 2).take 1 ++ ((cs.drop 3).take 1 ++ ((cs.drop 4).take 4 ++ ((cs.drop 8).take 1))))) := by
      have q (m j : Nat) : cs.drop m = (cs.drop m).take j ++ cs.drop (m + j) := by rw [← List.drop_drop, List.take_append_drop]
      conv => lhs; rw [show cs = cs.drop 0 from rfl, q 0 1, q 1 1, q 2 1, q 3 1, q 4 4, q 8 1]
      simp [List.drop_of_length_le (show cs.length ≤ 9 by omega)]
    rw [a0, e0, e1, e2, e3, e4, e5]
    rfl
theorem open_acts10 {fuel : Nat} {cs : List Value} {x : DataW H × List MemPlace} (h : DataW.trod enc Tryz.prog w base spare held fuel 29 cs = some x) (hw : Sized Tryz.prog 29 x.1) : ∃ v, ∃ l : List Act10, cs = [v] ∧ Rd w act10E 9 v l ∧ ∀ a ∈ l, Good10 w a := by
  obtain ⟨v, l, h1, h2, _, h4⟩ := open_slice_rd act10E (Good10 w) Tryz.underlying29 (by kernel_rfl) (by omega) act10E_len (fun fuel cs x h1 h2 => open_act10 h1 h2) h hw
  exact ⟨v, l, h1, h2, h4⟩
end
end Go.Proofs.YtnoocidoblndgaaGreat
