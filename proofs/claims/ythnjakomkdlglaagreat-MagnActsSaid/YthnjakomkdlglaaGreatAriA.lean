/- u256: words with carries. No condition. -/
import Derived.Test.YthnjakomkdlglaaGreatUm
import Derived.Laws.BitsAll
namespace Go.Proofs.YthnjakomkdlglaaGreat
open Go.RowKit

theorem top_and (x y : Nat) : (x &&& y) / 9223372036854775808 = (x / 9223372036854775808) &&& (y / 9223372036854775808) := by
  have := Nat.shiftRight_and_distrib (a := x) (b := y) (i := 63)
  simpa [Nat.shiftRight_eq_div_pow] using this
theorem top_or (x y : Nat) : (x ||| y) / 9223372036854775808 = (x / 9223372036854775808) ||| (y / 9223372036854775808) := by
  have := Nat.shiftRight_or_distrib (a := x) (b := y) (i := 63)
  simpa [Nat.shiftRight_eq_div_pow] using this
theorem carry_nat {a b c : Nat} (ha : a < 18446744073709551616) (hb : b < 18446744073709551616) (hc : c ≤ 1) :
    ((a &&& b) ||| ((a ||| b) &&& (18446744073709551615 - (a + b + c) % 18446744073709551616))) / 9223372036854775808 = (a + b + c) / 18446744073709551616 := by
  rw [top_or, top_and, top_and, top_or]
  have h1 : a / 9223372036854775808 = 0 ∨ a / 9223372036854775808 = 1 := by omega
  have h2 : b / 9223372036854775808 = 0 ∨ b / 9223372036854775808 = 1 := by omega
  have h3 : (18446744073709551615 - (a + b + c) % 18446744073709551616) / 9223372036854775808 = 0 ∨ (18446744073709551615 - (a + b + c) % 18446744073709551616) / 9223372036854775808 = 1 := by omega
  rcases h1 with h1 | h1 <;> rcases h2 with h2 | h2 <;> rcases h3 with h3 | h3 <;> rw [h1, h2, h3] <;> simp <;> omega
theorem borrow_nat {a b c d : Nat} (ha : a < 18446744073709551616) (hb : b < 18446744073709551616) (hc : c ≤ 1) (hd : d < 18446744073709551616) (h : d + b + c = a ∨ d + b + c = a + 18446744073709551616) :
    (((18446744073709551615 - a) &&& b) ||| (((18446744073709551615 - a) ||| b) &&& d)) / 9223372036854775808 = if a < b + c then 1 else 0 := by
  rw [top_or, top_and, top_and, top_or]
  have h1 : (18446744073709551615 - a) / 9223372036854775808 = 0 ∨ (18446744073709551615 - a) / 9223372036854775808 = 1 := by omega
  have h2 : b / 9223372036854775808 = 0 ∨ b / 9223372036854775808 = 1 := by omega
  have h3 : d / 9223372036854775808 = 0 ∨ d / 9223372036854775808 = 1 := by omega
  rcases h1 with h1 | h1 <;> rcases h2 with h2 | h2 <;> rcases h3 with h3 | h3 <;> rw [h1, h2, h3] <;> simp <;> omega

theorem wrap_sum {a b c s k : Nat} (_ha : a < 18446744073709551616) (_hb : b < 18446744073709551616) (_hc : c ≤ 1) (hs : s < 18446744073709551616) (h : s + 18446744073709551616 * k = a + b + c) : IntKind.u64.wrap (IntKind.u64.wrap ((a : Int) + (b : Int)) + (c : Int)) = (s : Int) := by
  rw [IntKind.wrap_u64, IntKind.wrap_u64]; omega
theorem carry_bits {a b c s k : Nat} (ha : a < 18446744073709551616) (hb : b < 18446744073709551616) (hc : c ≤ 1) (hs : s < 18446744073709551616) (h : s + 18446744073709551616 * k = a + b + c) :
    bits BinOp.or IntKind.u64 (bits BinOp.and IntKind.u64 (a : Int) (b : Int)) (bits BinOp.andNot IntKind.u64 (bits BinOp.or IntKind.u64 (a : Int) (b : Int)) (s : Int)) / 9223372036854775808 = (k : Int) := by
  have h1 : a &&& b < 18446744073709551616 := Nat.and_lt_two_pow (n := 64) _ hb
  have h2 : a ||| b < 18446744073709551616 := Nat.or_lt_two_pow (n := 64) ha hb
  have h3 : (a ||| b) &&& (18446744073709551615 - s) < 18446744073709551616 := Nat.and_lt_two_pow (n := 64) _ (by omega)
  rw [u64_and_nat a b ha hb, u64_or_nat a b ha hb, u64_andNot_nat _ s h2 hs, u64_or_nat _ _ h1 h3]
  have h4 := carry_nat ha hb hc
  rw [show (a + b + c) % 18446744073709551616 = s by omega, show (a + b + c) / 18446744073709551616 = k by omega] at h4
  omega
theorem u64_not_nat (a : Nat) (ha : a < 18446744073709551616) : bits BinOp.xor IntKind.u64 IntKind.u64.max (a : Int) = ((18446744073709551615 - a : Nat) : Int) := by
  have h1 : BitVec.ofInt 64 IntKind.u64.max = BitVec.allOnes 64 := by decide
  show IntKind.u64.wrap ((BitVec.ofInt 64 IntKind.u64.max ^^^ BitVec.ofInt 64 (a : Int)).toNat : Int) = _
  rw [h1, BitVec.allOnes_xor, BitVec.toNat_not, ofInt_u64 a ha, IntKind.wrap_u64]
  omega
theorem wrap_diff {a b c d k : Nat} (_ha : a < 18446744073709551616) (_hb : b < 18446744073709551616) (_hc : c ≤ 1) (hd : d < 18446744073709551616) (h : d + b + c = a + 18446744073709551616 * k) : IntKind.u64.wrap (IntKind.u64.wrap ((a : Int) - (b : Int)) - (c : Int)) = (d : Int) := by
  rw [IntKind.wrap_u64, IntKind.wrap_u64]; omega
theorem borrow_bits {a b c d k : Nat} (ha : a < 18446744073709551616) (hb : b < 18446744073709551616) (hc : c ≤ 1) (hd : d < 18446744073709551616) (h : d + b + c = a + 18446744073709551616 * k) :
    bits BinOp.or IntKind.u64 (bits BinOp.and IntKind.u64 (bits BinOp.xor IntKind.u64 IntKind.u64.max (a : Int)) (b : Int)) (bits BinOp.and IntKind.u64 (bits BinOp.or IntKind.u64 (bits BinOp.xor IntKind.u64 IntKind.u64.max (a : Int)) (b : Int)) (d : Int)) / 9223372036854775808 = (k : Int) := by
  rw [u64_not_nat a ha]
  have h0 : 18446744073709551615 - a < 18446744073709551616 := by omega
  have h1 : (18446744073709551615 - a) &&& b < 18446744073709551616 := Nat.and_lt_two_pow (n := 64) _ hb
  have h2 : (18446744073709551615 - a) ||| b < 18446744073709551616 := Nat.or_lt_two_pow (n := 64) h0 hb
  have h3 : ((18446744073709551615 - a) ||| b) &&& d < 18446744073709551616 := Nat.and_lt_two_pow (n := 64) _ hd
  rw [u64_and_nat _ b h0 hb, u64_or_nat _ b h0 hb, u64_and_nat _ d h2 hd, u64_or_nat _ _ h1 h3]
  have hk : k ≤ 1 := by omega
  have h4 := borrow_nat ha hb hc hd (by omega)
  have h5 : (if a < b + c then 1 else 0) = k := by
    split <;> omega
  rw [h5] at h4
  omega

set_option maxHeartbeats 1000000 in
theorem carry_any {a b c s k : Nat} (ha : a < 18446744073709551616) (hb : b < 18446744073709551616) (hc : c ≤ 1) (hs : s < 18446744073709551616) (h : s + 18446744073709551616 * k = a + b + c) (w : World) :
    Calls Tryz.prog 171 #[.int .u64 a, .int .u64 b, .int .u64 c] w fun e w' => e = .returned (.tuple #[.int .u64 s, .int .u64 k]) ∧ w = w' := by
  have e1 := wrap_sum ha hb hc hs h
  have e2 := carry_bits ha hb hc hs h
  have E2 := Lib.hid e2
  clear ha hb hc hs h e2
  go_enter Tryz.func171, Tryz.ntmps171
  go_wp2_with fail
  go_ret2
  exact ⟨by rw [E2.out]; rfl, rfl⟩
set_option maxHeartbeats 1000000 in
theorem borrow_any {a b c d k : Nat} (ha : a < 18446744073709551616) (hb : b < 18446744073709551616) (hc : c ≤ 1) (hd : d < 18446744073709551616) (h : d + b + c = a + 18446744073709551616 * k) (w : World) :
    Calls Tryz.prog 131 #[.int .u64 a, .int .u64 b, .int .u64 c] w fun e w' => e = .returned (.tuple #[.int .u64 d, .int .u64 k]) ∧ w = w' := by
  have e1 := wrap_diff ha hb hc hd h
  have e2 := borrow_bits ha hb hc hd h
  have E2 := Lib.hid e2
  have hsg : IntKind.u64.signed = false := rfl
  clear ha hb hc hd h e2
  go_enter Tryz.func131, Tryz.ntmps131
  go_wp2_with fail
  go_ret2
  exact ⟨by rw [E2.out]; rfl, rfl⟩
end Go.Proofs.YthnjakomkdlglaaGreat
