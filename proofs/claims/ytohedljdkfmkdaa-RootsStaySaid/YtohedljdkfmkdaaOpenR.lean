/- From the frame's reading of acts of chapter 32 to the walks' own. No condition. -/
import Derived.Test.YtohedljdkfmkdaaOpenS
import Derived.Test.YtohedljdkfmkdaaRootD
namespace Go.Proofs.Ytohedljdkfmkdaa
open Go.RowKit

section
variable {H : Type} {enc : TypeId × Value → H} {w : World} {base : Nat} {spare : Nat → Bool} {held : Bool}
theorem open_act32 {fuel : Nat} {cs : List Value} {x : DataW H × List MemPlace} (h : DataW.trod enc Try.prog w base spare held fuel 85 cs = some x) : ∃ a : Act32, cs = act32E a ∧ Good32 a := by
  obtain ⟨xs, n, _, rfl, hl, hlen, hf⟩ := DataW.trod_struct Try.underlying85 h
  match xs, hlen with
  | [y0, y1, y2, y3, y4], _ =>
    have g0 : DataW.trod enc Try.prog w base spare held n 4 ((cs.drop 0).take (Try.prog.cellsOf 4)) = some y0 := hf 0 _ rfl
    have g1 : DataW.trod enc Try.prog w base spare held n 3 ((cs.drop 1).take (Try.prog.cellsOf 3)) = some y1 := hf 1 _ rfl
    have g2 : DataW.trod enc Try.prog w base spare held n 3 ((cs.drop 2).take (Try.prog.cellsOf 3)) = some y2 := hf 2 _ rfl
    have g3 : DataW.trod enc Try.prog w base spare held n 3 ((cs.drop 3).take (Try.prog.cellsOf 3)) = some y3 := hf 3 _ rfl
    have g4 : DataW.trod enc Try.prog w base spare held n 83 ((cs.drop 4).take (Try.prog.cellsOf 83)) = some y4 := hf 4 _ rfl
    rw [show Try.prog.cellsOf 4 = 1 by kernel_rfl] at g0
    rw [show Try.prog.cellsOf 3 = 1 by kernel_rfl] at g1 g2 g3
    rw [show Try.prog.cellsOf 83 = 32 by kernel_rfl] at g4
    obtain ⟨d, hd, _⟩ := DataW.trod_bool Try.underlying4 g0
    obtain ⟨i, hi, hib⟩ := open_i64 Try.underlying3 g1
    obtain ⟨b, hb, _⟩ := open_i64 Try.underlying3 g2
    obtain ⟨wt, hw, _⟩ := open_i64 Try.underlying3 g3
    obtain ⟨l, hr, hr2⟩ := open_arr_u8 Try.underlying83 Try.underlying5 (by kernel_rfl) (by kernel_rfl) g4
    refine ⟨⟨d, i, b, wt, l⟩, ?_, ⟨hr2, hib⟩⟩
    rw [show Try.prog.cellsOf 85 = 36 by kernel_rfl] at hl
    have a0 : cs = (cs.drop 0).take 1 ++ ((cs.drop 1).take 1 ++ ((cs.drop 2).take 1 ++ ((cs.drop 3).take 1 ++ (cs.drop 4).take 32))) := by
      have q (m j : Nat) : cs.drop m = (cs.drop m).take j ++ cs.drop (m + j) := by rw [← List.drop_drop, List.take_append_drop]
      conv => lhs; rw [show cs = cs.drop 0 from rfl, q 0 1, q 1 1, q 2 1, q 3 1, q 4 32]
      simp [List.drop_of_length_le (show cs.length ≤ 36 by omega)]
    rw [a0, hd, hi, hb, hw, hr]
    unfold act32E
    rw [fixT_of hr2]
    simp [intE]
theorem open_acts32 {fuel : Nat} {cs : List Value} {x : DataW H × List MemPlace} (h : DataW.trod enc Try.prog w base spare held fuel 81 cs = some x) (hw : Sized Try.prog 81 x.1) : ∃ v, ∃ l : List Act32, cs = [v] ∧ Rd w act32E 36 v l ∧ ∀ a ∈ l, Good32 a := by
  obtain ⟨v, l, h1, h2, _, h4⟩ := open_slice_rd act32E Good32 Try.underlying81 (by kernel_rfl) (by omega) act32E_len (fun fuel cs x h1 _ => open_act32 h1) h hw
  exact ⟨v, l, h1, h2, h4⟩
end
end Go.Proofs.Ytohedljdkfmkdaa
