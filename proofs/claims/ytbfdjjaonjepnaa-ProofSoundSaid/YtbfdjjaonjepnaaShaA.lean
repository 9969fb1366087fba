/- sha.turn, small, great and the reference's turn: their contracts. -/
import Derived.Test.YtbfdjjaonjepnaaBase
import Derived.Test.YtbfdjjaonjepnaaShaP
import Derived.Deep.QuietTactic
import Derived.BigQuiet
import Derived.WalkSmall
namespace Go.Proofs.Ytbfdjjaonjepnaa
open Go.RowKit

theorem t32 (x : UInt32) : x.toNat < 4294967296 := x.toNat_lt
theorem u32_xor_t (x y : UInt32) : bits BinOp.xor IntKind.u32 (x.toNat : Int) (y.toNat : Int) = ((x ^^^ y).toNat : Int) := by
  rw [u32_xor_nat _ _ (t32 x) (t32 y), UInt32.toNat_xor]
theorem u32_and_t (x y : UInt32) : bits BinOp.and IntKind.u32 (x.toNat : Int) (y.toNat : Int) = ((x &&& y).toNat : Int) := by
  rw [u32_and_nat _ _ (t32 x) (t32 y), UInt32.toNat_and]
theorem u32_or_t (x y : UInt32) : bits BinOp.or IntKind.u32 (x.toNat : Int) (y.toNat : Int) = ((x ||| y).toNat : Int) := by
  rw [u32_or_nat _ _ (t32 x) (t32 y), UInt32.toNat_or]
theorem u32_add_t (x y : UInt32) : IntKind.u32.wrap ((x.toNat : Int) + (y.toNat : Int)) = ((x + y).toNat : Int) := by
  rw [IntKind.wrap_u32', UInt32.toNat_add]; omega
theorem shr_t (x : UInt32) (n : Nat) (hn : n < 32) : (x.toNat : Int) / 2 ^ n = ((shr32 x n).toNat : Int) := by
  unfold shr32
  rw [UInt32.toNat_shiftRight]
  have : (UInt32.ofNat n).toNat % 32 = n := by rw [UInt32.toNat_ofNat']; omega
  rw [this, Nat.shiftRight_eq_div_pow]
  simp
theorem shl_t (x : UInt32) (n : Nat) (hn : n < 32) : IntKind.u32.wrap ((x.toNat : Int) * 2 ^ n) = ((x <<< UInt32.ofNat n).toNat : Int) := by
  rw [IntKind.wrap_u32', UInt32.toNat_shiftLeft]
  have : (UInt32.ofNat n).toNat % 32 = n := by rw [UInt32.toNat_ofNat']; omega
  rw [this, Nat.shiftLeft_eq]
  simp

theorem turn_val (x : UInt32) (n : Nat) (h1 : 1 ≤ n) (h2 : n ≤ 31) : bits BinOp.or IntKind.u32 ((x.toNat : Int) / 2 ^ n) ((x.toNat : Int) * 2 ^ (32 - n) % 4294967296) = ((rotr x n).toNat : Int) := by
  rw [shr_t x n (by omega), ← IntKind.wrap_u32', shl_t x (32 - n) (by omega), u32_or_t]; rfl
theorem ret_val {k : IntKind} {a b : Int} (h : a = b) : Ending.returned (.int k a) = .returned (.int k b) := by rw [h]

set_option maxHeartbeats 1000000 in
theorem turn_any (x : UInt32) (n : Nat) (w : World) (h1 : 1 ≤ n) (h2 : n ≤ 31) :
    Calls Try.prog 99 #[.int .u32 x.toNat, .int .i64 n] w fun e w' => e = .returned (.int .u32 (rotr x n).toNat) ∧ ∃ k, w' = w.drewN k := by
  have e1 : (32 - (n : Int)).toNat = 32 - n := by omega
  have e0 : (0 : Int) ≤ 32 - (n : Int) := by omega
  go_enter Try.func99, Try.ntmps99
  go_wp2
  go_quiet (fail)
  go_wp2
  go_ret
  exact ⟨ret_val (turn_val x n h1 h2), _, rfl⟩

set_option maxHeartbeats 1000000 in
theorem refTurn_any (x : UInt32) (n : Nat) (w : World) (h1 : 1 ≤ n) (h2 : n ≤ 31) :
    Calls Try.prog 83 #[.int .u32 x.toNat, .int .i64 n] w fun e w' => e = .returned (.int .u32 (rotr x n).toNat) ∧ w = w' := by
  have e1 : (32 - (n : Int)).toNat = 32 - n := by omega
  have e0 : (0 : Int) ≤ 32 - (n : Int) := by omega
  go_enter Try.func83, Try.ntmps83
  go_wp2
  go_ret
  exact ⟨ret_val (turn_val x n h1 h2), rfl⟩

theorem turn_int (x : UInt32) (n : Int) (w : World) (h1 : 1 ≤ n) (h2 : n ≤ 31) :
    Calls Try.prog 99 #[.int .u32 x.toNat, .int .i64 n] w fun e w' => e = .returned (.int .u32 (rotr x n.toNat).toNat) ∧ ∃ k, w' = w.drewN k := by
  obtain ⟨m, rfl⟩ := Int.eq_ofNat_of_zero_le (show 0 ≤ n by omega)
  exact turn_any x m w (by omega) (by omega)
theorem refTurn_int (x : UInt32) (n : Int) (w : World) (h1 : 1 ≤ n) (h2 : n ≤ 31) :
    Calls Try.prog 83 #[.int .u32 x.toNat, .int .i64 n] w fun e w' => e = .returned (.int .u32 (rotr x n.toNat).toNat) ∧ w = w' := by
  obtain ⟨m, rfl⟩ := Int.eq_ofNat_of_zero_le (show 0 ≤ n by omega)
  exact refTurn_any x m w (by omega) (by omega)

set_option maxHeartbeats 1000000 in
theorem great_any (x : UInt32) (a b c : Int) (w : World) (h1 : 1 ≤ a) (h2 : a ≤ 31) (h3 : 1 ≤ b) (h4 : b ≤ 31) (h5 : 1 ≤ c) (h6 : c ≤ 31) :
    Calls Try.prog 94 #[.int .u32 x.toNat, .int .i64 a, .int .i64 b, .int .i64 c] w fun e w' => e = .returned (.int .u32 (grtF x a.toNat b.toNat c.toNat).toNat) ∧ ∃ k, w' = w.drewN k := by
  go_enter Try.func94, Try.ntmps94
  go_wp2_with fail
  refine (turn_int x a _ h1 h2).mono ?_
  rintro e w1 ⟨rfl, k1, rfl⟩
  go_wp2_with fail
  refine (turn_int x b _ h3 h4).mono ?_
  rintro e w1 ⟨rfl, k2, rfl⟩
  go_wp2_with fail
  refine (turn_int x c _ h5 h6).mono ?_
  rintro e w1 ⟨rfl, k3, rfl⟩
  go_wp2
  go_ret
  exact ⟨ret_val (by rw [u32_xor_t, u32_xor_t]; rfl), _, rfl⟩

set_option maxHeartbeats 1000000 in
theorem small_any (x : UInt32) (a b c : Int) (w : World) (h1 : 1 ≤ a) (h2 : a ≤ 31) (h3 : 1 ≤ b) (h4 : b ≤ 31) (h5 : 1 ≤ c) (h6 : c ≤ 31) :
    Calls Try.prog 98 #[.int .u32 x.toNat, .int .i64 a, .int .i64 b, .int .i64 c] w fun e w' => e = .returned (.int .u32 (smlF x a.toNat b.toNat c.toNat).toNat) ∧ ∃ k, w' = w.drewN k := by
  have hc : (0 : Int) ≤ c := by omega
  go_enter Try.func98, Try.ntmps98
  go_wp2_with fail
  go_quiet ((first | (go_at_call 99; (with_reducible exact Calls.quiet_of (turn_int x a _ h1 h2))) | (go_at_call 99; (with_reducible exact Calls.quiet_of (turn_int x b _ h3 h4)))))
  go_wp2
  go_ret
  exact ⟨ret_val (by rw [shr_t x c.toNat (by omega), u32_xor_t, u32_xor_t]; rfl), _, rfl⟩
end Go.Proofs.Ytbfdjjaonjepnaa
