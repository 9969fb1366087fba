/- From the frame's reading of an amount to its words. No condition. -/
import Derived.Test.YtmclmccgghnglaaGreatLfOpen
import Derived.Test.YtmclmccgghnglaaGreatLfUn
namespace Go.Proofs.YtmclmccgghnglaaGreat
open Go.RowKit

section
variable {H : Type} {enc : TypeId × Value → H} {P : Program} {w : World} {base : Nat} {spare : Nat → Bool} {held : Bool}
theorem open_u {t e : TypeId} (ht : P.underlying t = some (.array 4 e)) (he : P.underlying e = some (.int .u64)) (hce : P.cellsOf e = 1) (hct : P.cellsOf t = 4) {fuel : Nat} {cs : List Value} {x : DataW H × List MemPlace} (h : DataW.trod enc P w base spare held fuel t cs = some x) :
    ∃ n : Nat, cs = [.int .u64 (uw0 n), .int .u64 (uw1 n), .int .u64 (uw2 n), .int .u64 (uw3 n)] ∧ n < uMax := by
  obtain ⟨l, rfl, hn, hw⟩ := open_arr_ints ht he hce hct h
  match l, hn with
  | [a, b, c, d], _ =>
    obtain ⟨n, hu⟩ := UIs.some (wf_u64 (hw a (by simp))) (wf_u64 (hw b (by simp))) (wf_u64 (hw c (by simp))) (wf_u64 (hw d (by simp)))
    obtain ⟨e1, e2, e3, e4⟩ := hu.uw
    refine ⟨n, ?_, hu.lt⟩
    rw [← e1, ← e2, ← e3, ← e4]; rfl
end
end Go.Proofs.YtmclmccgghnglaaGreat
