/- From the frame's reading of acts of chapter 11 to the walks' own. No condition. -/
import Derived.Test.YtohedljdkfmkdaaOpenU
import Derived.Test.YtohedljdkfmkdaaHisC
namespace Go.Proofs.Ytohedljdkfmkdaa
open Go.RowKit

section
variable {H : Type} {enc : TypeId × Value → H} {w : World} {base : Nat} {spare : Nat → Bool} {held : Bool}
set_option maxRecDepth 100000 in
theorem open_act11 {fuel : Nat} {cs : List Value} {x : DataW H × List MemPlace} (h : DataW.trod enc Try.prog w base spare held fuel 107 cs = some x) (hw : Sized Try.prog 107 x.1) : ∃ a : Act11, cs = act11E a ∧ Good11 w a := by
  obtain ⟨xs, n, _, rfl, hl, hlen, hf⟩ := DataW.trod_struct Try.underlying107 h
  match xs, hlen with
  | [y0, y1, y2], _ =>
    have g0 : DataW.trod enc Try.prog w base spare held n 43 ((cs.drop 0).take (Try.prog.cellsOf 43)) = some y0 := hf 0 _ rfl
    rw [show Try.prog.cellsOf 43 = 1 by kernel_rfl] at g0
    obtain ⟨s0, l0, e0, r0, _, i0⟩ := open_slice_rd intE (fun n => -9223372036854775808 ≤ n ∧ n < 9223372036854775808) Try.underlying43 (sz := 1) (by kernel_rfl) (by omega) (fun _ => rfl) (fun fuel cs x h1 _ => open_i64 Try.underlying3 h1) g0 (Sized.field Try.underlying107 hw (i := 0) (d := y0.1) rfl rfl)
    obtain ⟨ad0, cap0, rfl, _, _⟩ := r0.shape
    have g1 : DataW.trod enc Try.prog w base spare held n 3 ((cs.drop 1).take (Try.prog.cellsOf 3)) = some y1 := hf 1 _ rfl
    rw [show Try.prog.cellsOf 3 = 1 by kernel_rfl] at g1
    obtain ⟨v1, e1, b1⟩ := open_i64 Try.underlying3 g1
    have g2 : DataW.trod enc Try.prog w base spare held n 105 ((cs.drop 2).take (Try.prog.cellsOf 105)) = some y2 := hf 2 _ rfl
    rw [show Try.prog.cellsOf 105 = 4 by kernel_rfl] at g2
    obtain ⟨z2, e2, k2⟩ := open_u Try.underlying105 Try.underlying103 (by kernel_rfl) (by kernel_rfl) g2
    refine ⟨⟨ad0, cap0, l0, v1, z2⟩, ?_, ⟨r0, i0, b1, k2⟩⟩
    rw [show Try.prog.cellsOf 107 = 6 by kernel_rfl] at hl
    have a0 : cs = (cs.drop 0).take 1 ++ ((cs.drop 1).take 1 ++ ((cs.drop 2).take 4)) := by
      have q (m j : Nat) : cs.drop m = (cs.drop m).take j ++ cs.drop (m + j) := by rw [← List.drop_drop, List.take_append_drop]
      conv => lhs; rw [show cs = cs.drop 0 from rfl, q 0 1, q 1 1, q 2 4]
      simp [List.drop_of_length_le (show cs.length ≤ 6 by omega)]
    rw [a0, e0, e1, e2]
    rfl
theorem open_acts11 {fuel : Nat} {cs : List Value} {x : DataW H × List MemPlace} (h : DataW.trod enc Try.prog w base spare held fuel 101 cs = some x) (hw : Sized Try.prog 101 x.1) : ∃ v, ∃ l : List Act11, cs = [v] ∧ Rd w act11E 6 v l ∧ ∀ a ∈ l, Good11 w a := by
  obtain ⟨v, l, h1, h2, _, h4⟩ := open_slice_rd act11E (Good11 w) Try.underlying101 (by kernel_rfl) (by omega) act11E_len (fun fuel cs x h1 h2 => open_act11 h1 h2) h hw
  exact ⟨v, l, h1, h2, h4⟩
end
end Go.Proofs.Ytohedljdkfmkdaa
