/- Products of words (code). No condition. -/
import Derived.Test.YteaigmoldlbjdaaAriB
import Derived.Test.YteaigmoldlbjdaaLit
namespace Go.Proofs.Yteaigmoldlbjdaa
open Go.RowKit

theorem and_low (a : Nat) (ha : a < 18446744073709551616) : bits BinOp.and IntKind.u64 (a : Int) 4294967295 = ((a % 4294967296 : Nat) : Int) := by
  have h := u64_and_nat a 4294967295 ha (by decide)
  rw [show ((4294967295 : Nat) : Int) = 4294967295 from rfl] at h
  rw [h, show (4294967295 : Nat) = 2 ^ 32 - 1 from rfl, Nat.and_two_pow_sub_one_eq_mod]
theorem or_high (t p : Nat) (ht : t < 4294967296) (hp : p < 4294967296) : bits BinOp.or IntKind.u64 ((t * 4294967296 : Nat) : Int) (p : Int) = ((t * 4294967296 + p : Nat) : Int) := by
  have h := u64_or_nat (t * 4294967296) p (by omega) (by omega)
  rw [h]
  congr 1
  rw [show (4294967296 : Nat) = 2 ^ 32 from rfl, Nat.mul_comm t, ← Nat.two_pow_add_eq_or_of_lt (show p < 2 ^ 32 from hp)]
theorem wrap_high (t : Nat) : IntKind.u64.wrap ((t : Int) * 4294967296) = ((t % 4294967296 * 4294967296 : Nat) : Int) := by
  rw [IntKind.wrap_u64]; omega
theorem mul_lt32 {a b : Nat} (ha : a < 4294967296) (hb : b < 4294967296) : a * b ≤ 18446744065119617025 := by
  have h := Nat.mul_le_mul (show a ≤ 4294967295 by omega) (show b ≤ 4294967295 by omega)
  omega
theorem mul_parts (ah al bh bl : Nat) : (ah * 4294967296 + al) * (bh * 4294967296 + bl) = ah * bh * 18446744073709551616 + (ah * bl + al * bh) * 4294967296 + al * bl := by
  have e1 : ah * 4294967296 * (bh * 4294967296) = ah * bh * 18446744073709551616 := by rw [Nat.mul_mul_mul_comm]
  have e2 : ah * 4294967296 * bl = ah * bl * 4294967296 := Nat.mul_right_comm _ _ _
  have e3 : al * (bh * 4294967296) = al * bh * 4294967296 := (Nat.mul_assoc _ _ _).symm
  rw [Nat.add_mul, Nat.mul_add, Nat.mul_add, e1, e2, e3]
  omega
set_option maxHeartbeats 4000000 in
set_option maxRecDepth 100000 in
theorem product_any {A B H L : Nat} (hA : A < 18446744073709551616) (hB : B < 18446744073709551616) (hL : L < 18446744073709551616) (he : A * B = H * 18446744073709551616 + L) (w : World) :
    Calls Try.prog 106 #[.int .u64 A, .int .u64 B] w fun e w' => e = .returned (.tuple #[.int .u64 H, .int .u64 L]) ∧ w = w' := by
  obtain ⟨ah, hah⟩ : ∃ q, q = A / 4294967296 := ⟨_, rfl⟩
  obtain ⟨al, hal⟩ : ∃ q, q = A % 4294967296 := ⟨_, rfl⟩
  obtain ⟨bh, hbh⟩ : ∃ q, q = B / 4294967296 := ⟨_, rfl⟩
  obtain ⟨bl, hbl⟩ : ∃ q, q = B % 4294967296 := ⟨_, rfl⟩
  have a1 : ah < 4294967296 := by omega
  have a2 : al < 4294967296 := by omega
  have b1 : bh < 4294967296 := by omega
  have b2 : bl < 4294967296 := by omega
  have x1 : (A : Int) / 4294967296 = (ah : Int) := by omega
  have x2 : bits BinOp.and IntKind.u64 (A : Int) 4294967295 = (al : Int) := by rw [and_low A hA, hal]
  have y1 : (B : Int) / 4294967296 = (bh : Int) := by omega
  have y2 : bits BinOp.and IntKind.u64 (B : Int) 4294967295 = (bl : Int) := by rw [and_low B hB, hbl]
  have hm := mul_parts ah al bh bl
  rw [show ah * 4294967296 + al = A by omega, show bh * 4294967296 + bl = B by omega] at hm
  obtain ⟨p, hp⟩ : ∃ q, q = al * bl := ⟨_, rfl⟩
  obtain ⟨q1, hq1⟩ : ∃ q, q = ah * bl := ⟨_, rfl⟩
  obtain ⟨r1, hr1⟩ : ∃ q, q = al * bh := ⟨_, rfl⟩
  obtain ⟨s, hs⟩ : ∃ q, q = ah * bh := ⟨_, rfl⟩
  have l1 := mul_lt32 a2 b2
  have l2 := mul_lt32 a1 b2
  have l3 := mul_lt32 a2 b1
  have l4 := mul_lt32 a1 b1
  rw [← hp] at l1 hm
  rw [← hq1] at l2 hm
  rw [← hr1] at l3 hm
  rw [← hs] at l4 hm
  have m1 : IntKind.u64.wrap ((al : Int) * (bl : Int)) = (p : Int) := by rw [← Int.natCast_mul, ← hp, IntKind.wrap_u64]; omega
  have m2 : IntKind.u64.wrap ((ah : Int) * (bl : Int)) = (q1 : Int) := by rw [← Int.natCast_mul, ← hq1, IntKind.wrap_u64]; omega
  have m3 : IntKind.u64.wrap ((al : Int) * (bh : Int)) = (r1 : Int) := by rw [← Int.natCast_mul, ← hr1, IntKind.wrap_u64]; omega
  have m4 : IntKind.u64.wrap ((ah : Int) * (bh : Int)) = (s : Int) := by rw [← Int.natCast_mul, ← hs, IntKind.wrap_u64]; omega
  obtain ⟨ph, hph⟩ : ∃ q, q = p / 4294967296 := ⟨_, rfl⟩
  obtain ⟨pl, hpl⟩ : ∃ q, q = p % 4294967296 := ⟨_, rfl⟩
  have p1 : (p : Int) / 4294967296 = (ph : Int) := by omega
  have p2 : bits BinOp.and IntKind.u64 (p : Int) 4294967295 = (pl : Int) := by rw [and_low p (by omega), hpl]
  obtain ⟨one, ho⟩ : ∃ q, q = q1 + ph := ⟨_, rfl⟩
  have n1 : IntKind.u64.wrap ((q1 : Int) + (ph : Int)) = (one : Int) := by rw [IntKind.wrap_u64]; omega
  obtain ⟨oh, hoh⟩ : ∃ q, q = one / 4294967296 := ⟨_, rfl⟩
  obtain ⟨ol, hol⟩ : ∃ q, q = one % 4294967296 := ⟨_, rfl⟩
  have n2 : bits BinOp.and IntKind.u64 (one : Int) 4294967295 = (ol : Int) := by rw [and_low one (by omega), hol]
  have n3 : (one : Int) / 4294967296 = (oh : Int) := by omega
  obtain ⟨two, ht⟩ : ∃ q, q = r1 + ol := ⟨_, rfl⟩
  have n4 : IntKind.u64.wrap ((r1 : Int) + (ol : Int)) = (two : Int) := by rw [IntKind.wrap_u64]; omega
  obtain ⟨th, hth⟩ : ∃ q, q = two / 4294967296 := ⟨_, rfl⟩
  obtain ⟨tl, htl⟩ : ∃ q, q = two % 4294967296 := ⟨_, rfl⟩
  have n5 : (two : Int) / 4294967296 = (th : Int) := by omega
  have n6 : IntKind.u64.wrap ((two : Int) * 4294967296) = ((tl * 4294967296 : Nat) : Int) := by rw [wrap_high, htl]
  obtain ⟨sh, hsh⟩ : ∃ q, q = s + oh := ⟨_, rfl⟩
  have n7 : IntKind.u64.wrap ((s : Int) + (oh : Int)) = (sh : Int) := by rw [IntKind.wrap_u64]; omega
  have n8 : IntKind.u64.wrap ((sh : Int) + (th : Int)) = (H : Int) := by rw [IntKind.wrap_u64]; omega
  have n9 : bits BinOp.or IntKind.u64 ((tl * 4294967296 : Nat) : Int) (pl : Int) = (L : Int) := by rw [or_high tl pl (by omega) (by omega)]; omega
  obtain ⟨tt, htt⟩ : ∃ q : Int, q = ((tl * 4294967296 : Nat) : Int) := ⟨_, rfl⟩
  rw [← htt] at n6 n9
  clear hm he htt hp hq1 hr1 hs hah hal hbh hbl hph hpl ho hoh hol ht hth htl hsh l1 l2 l3 l4 a1 a2 b1 b2 hL
  go_enter Try.func106, Try.ntmps106
  go_wp2_with fail
  go_ret2
  exact ⟨rfl, rfl⟩
end Go.Proofs.Yteaigmoldlbjdaa
