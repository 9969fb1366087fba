/- keys.Num: its contract; no condition but that the number is an int. -/
import Derived.Test.YtabminbgoclnkaaGreatVkBase
namespace Go.Proofs.YtabminbgoclnkaaGreat
set_option maxHeartbeats 1000000
set_option maxRecDepth 100000
open Go.RowKit

def numL (n : Int) : List UInt8 := (List.range 8).map fun i => UInt8.ofNat (n / 256 ^ (7 - i) % 256).toNat
theorem numL_length (n : Int) : (numL n).length = 8 := by simp [numL]

theorem num_pos (n : Int) (w : World) (h0 : 0 ≤ n) (h1 : n < 9223372036854775808) :
  Calls Tryz.prog 119 #[.int .i64 n] w (Ret w (.string (bs (numL n)))) := by
 go_enter Tryz.func119, Tryz.ntmps119
 go_wp2
 go_rounds 9
 rw [conv_row _ _ _ 5 Tryz.underlying140 Tryz.underlying5 Tryz.underlying9 _ _ _ _ (numL n) (numL_length n) _ _ _ (heap_alloc_new _ _) (by
  simp [numL, List.range_succ, byteV_of, Int.emod_nonneg, Int.emod_lt_of_pos]; omega)]
 go_wp2
 go_ret
 exact ⟨rfl, (Below.refl _ _).alloc (Nat.le_refl _) _⟩

def nb (n : Int) (i : Nat) : UInt8 := UInt8.ofNat (n / 256 ^ (7 - i) % 256).toNat
def numTo (n : Int) (k : Nat) : List UInt8 := (List.range k).map (nb n)
theorem pow256 (m : Nat) : (256 : Int) ^ m = 2 ^ (8 * m) := by rw [Int.pow_mul]; rfl
end Go.Proofs.YtabminbgoclnkaaGreat
