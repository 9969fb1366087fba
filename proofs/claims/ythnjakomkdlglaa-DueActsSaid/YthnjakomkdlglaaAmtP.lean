/- Plain facts on the bytes of an amount: no program, no condition. -/
import Derived.Test.YthnjakomkdlglaaKeysP
namespace Go.Proofs.Ythnjakomkdlglaa

/-- How many of the c-th eight bytes the first n bytes are. -/
def mch (n c : Nat) : Nat := min 8 (n - 8 * c)
/-- Word j (the least first) of 32 bytes (the greatest first), of which the first n have come. -/
def pw (l : List UInt8) (n j : Nat) : Nat := part l (3 - j) (mch n (3 - j)) * 256 ^ (8 - mch n (3 - j))
/-- Word j of 32 bytes. -/
def wd (l : List UInt8) (j : Nat) : Nat := be (chunk l (3 - j))
theorem pw_zero (l : List UInt8) (j : Nat) : pw l 0 j = 0 := by simp [pw, mch, part_zero]
theorem pw_all (l : List UInt8) (j : Nat) (hj : j < 4) : pw l 32 j = wd l j := by
  have : mch 32 (3 - j) = 8 := by unfold mch; omega
  rw [pw, this, part_8, wd]; simp
theorem pw_other (l : List UInt8) (c m j : Nat) (hm : m < 8) (hj : ¬ 3 - j = c) : pw l (8 * c + m + 1) j = pw l (8 * c + m) j := by
  have : mch (8 * c + m + 1) (3 - j) = mch (8 * c + m) (3 - j) := by unfold mch; omega
  rw [pw, this, pw]
theorem pw_at (l : List UInt8) (c m j : Nat) (hm : m ≤ 8) (hj : 3 - j = c) : pw l (8 * c + m) j = part l c m * 256 ^ (8 - m) := by
  have : mch (8 * c + m) (3 - j) = m := by unfold mch; omega
  rw [pw, this, hj]
theorem pw_succ (l : List UInt8) (c m j : Nat) (hm : m < 8) (hj : 3 - j = c) (h : 8 * c + m < l.length) : pw l (8 * c + m + 1) j = pw l (8 * c + m) j + (l[8 * c + m]'h).toNat * 256 ^ (7 - m) := by
  rw [Nat.add_assoc, pw_at l c (m + 1) j (by omega) hj, pw_at l c m j (by omega) hj, part_succ l c m h]
  rw [show 8 - (m + 1) = 7 - m by omega, show 8 - m = 7 - m + 1 by omega, Nat.pow_succ, Nat.add_mul, Nat.mul_assoc, Nat.mul_comm 256]
theorem pw_next (l : List UInt8) (n c j : Nat) (h1 : 8 * c ≤ n) (h2 : n < 8 * c + 8) (hj : 3 - j = c) (h : n < l.length) : pw l (n + 1) j = pw l n j + (l[n]'h).toNat * 256 ^ (7 + 8 * c - n) := by
  obtain ⟨m, rfl⟩ : ∃ m, n = 8 * c + m := ⟨n - 8 * c, by omega⟩
  rw [pw_succ l c m j (by omega) hj h, show 7 + 8 * c - (8 * c + m) = 7 - m by omega]
theorem pw_same (l : List UInt8) (n c j : Nat) (h1 : 8 * c ≤ n) (h2 : n < 8 * c + 8) (hj : ¬ 3 - j = c) : pw l (n + 1) j = pw l n j := by
  obtain ⟨m, rfl⟩ : ∃ m, n = 8 * c + m := ⟨n - 8 * c, by omega⟩
  exact pw_other l c m j (by omega) hj
/-- The word that is being filled ends in noughts. -/
theorem pw_mod (l : List UInt8) (n c j : Nat) (h1 : 8 * c ≤ n) (h2 : n < 8 * c + 8) (hj : 3 - j = c) : pw l n j % 256 ^ (8 + 8 * c - n) = 0 := by
  obtain ⟨m, rfl⟩ : ∃ m, n = 8 * c + m := ⟨n - 8 * c, by omega⟩
  rw [pw_at l c m j (by omega) hj, show 8 + 8 * c - (8 * c + m) = 8 - m by omega]
  exact Nat.mul_mod_left _ _
theorem pw_lt (l : List UInt8) (n j : Nat) : pw l n j < 18446744073709551616 := by
  have h1 := part_lt l (3 - j) (mch n (3 - j)) (by unfold mch; omega)
  have h2 : mch n (3 - j) ≤ 8 := by unfold mch; omega
  have h3 : 256 ^ mch n (3 - j) * 256 ^ (8 - mch n (3 - j)) = 18446744073709551616 := by
    rw [← Nat.pow_add, show mch n (3 - j) + (8 - mch n (3 - j)) = 8 by omega]
  rw [pw, ← h3]
  exact Nat.mul_lt_mul_of_pos_right h1 (Nat.pow_pos (by omega))
theorem wd_lt (l : List UInt8) (j : Nat) (hj : j < 4) : wd l j < 18446744073709551616 := by rw [← pw_all l j hj]; exact pw_lt _ _ _

end Go.Proofs.Ythnjakomkdlglaa
