/- keys.Num: its contract; no condition but that the number is an int. -/
import Derived.Test.YtmclmccgghnglaaGreatLsBase
namespace Go.Proofs.YtmclmccgghnglaaGreat
open Go.RowKit

/-- A number's eight bytes, the greatest first. -/
def numL (n : Int) : List UInt8 := (List.range 8).map fun i => UInt8.ofNat (n / 256 ^ (7 - i) % 256).toNat
def nb (n : Int) (i : Nat) : UInt8 := UInt8.ofNat (n / 256 ^ (7 - i) % 256).toNat
def numTo (n : Int) (k : Nat) : List UInt8 := (List.range k).map (nb n)
theorem pow256 (m : Nat) : (256 : Int) ^ m = 2 ^ (8 * m) := by rw [Int.pow_mul]; rfl
end Go.Proofs.YtmclmccgghnglaaGreat
