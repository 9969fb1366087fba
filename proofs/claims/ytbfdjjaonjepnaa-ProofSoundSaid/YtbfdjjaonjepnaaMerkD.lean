/- merkle.Depth, why; the reference's Depth, Why. -/
import Derived.Test.YtbfdjjaonjepnaaMerkB
namespace Go.Proofs.Ytbfdjjaonjepnaa
open Go.RowKit

theorem bits_half (m : Nat) (h : 0 < m) : bitsN m = bitsN (m / 2) + 1 := bitsN_pos m h
theorem depth_toNat (n : Int) (h : n ≤ 1) : depthF n.toNat = 0 := by unfold depthF; rw [show n.toNat - 1 = 0 by omega, bitsN_zero]
theorem depthF_63 (n : Nat) (h : n ≤ 9223372036854775807) : depthF n ≤ 63 := depthF_le n 63 (Nat.le_trans h (by decide))
theorem depthF_10 (n : Nat) (h : n ≤ 1024) : depthF n ≤ 10 := depthF_le n 10 (Nat.le_trans h (by decide))

set_option maxHeartbeats 1000000 in
theorem mdepth_any (n : Int) (h2 : n < 9223372036854775808) (w : World) : Calls Try.prog 54 #[.int .i64 n] w fun e w' => e = .returned (.int .i64 (depthF n.toNat)) ∧ w = w' := by
  by_cases h : n ≤ 1
  · rw [depth_toNat n h]
    rcases (show n = 1 ∨ n < 1 by omega) with rfl | h1
    all_goals
      go_enter Try.func54, Try.ntmps54
      go_wp2_with fail
      go_loop [0, 3] (fun x y => x = .int .i64 0 ∧ y = .int .i64 0) (fun _ _ => 0)
      case atStart => exact ⟨rfl, rfl⟩
      case round =>
        obtain ⟨rfl, rfl⟩ := hrel
        go_wp2_with fail
        go_ret
        exact ⟨rfl, rfl⟩
  · obtain ⟨m, rfl⟩ := Int.eq_ofNat_of_zero_le (show 0 ≤ n by omega)
    rw [Int.toNat_natCast]
    have hm1 : (1 : Int) < (m : Int) := by omega
    have hm2 : (1 : Int) ≤ (m : Int) := by omega
    have h63 := depthF_63 m (by omega)
    have hst : (m : Int) - 1 = ((m - 1 : Nat) : Int) := by omega
    obtain ⟨D, hD⟩ : ∃ D, D = depthF m := ⟨_, rfl⟩
    rw [← hD] at h63 ⊢
    have HD := Lib.hid hD; have HST := Lib.hid hst
    clear hD hst h
    go_enter Try.func54, Try.ntmps54
    go_wp2_with fail
    rw [HST.out]
    go_loop [0, 3] (fun x y => ∃ k j : Nat, k ≤ m ∧ x = .int .i64 k ∧ y = .int .i64 j ∧ Hid (j + bitsN k = D)) (fun x _ => (intOf x).toNat)
    case atStart => exact ⟨m - 1, 0, by omega, rfl, rfl, Lib.hid (by rw [HD.out, Nat.zero_add]; rfl)⟩
    case round =>
      obtain ⟨k, j, hk, rfl, rfl, hj⟩ := hrel
      by_cases h0 : 0 < k
      · have hb := bits_half k h0
        have hj2 := hj.out
        have hj3 : j < 63 := by omega
        have hk2 : (k : Int) / 2 = ((k / 2 : Nat) : Int) := by omega
        have HB := Lib.hid hb; have HK2 := Lib.hid hk2
        clear hb hj2 hk2
        go_wp2_with fail
        go_round
        case rel => exact ⟨k / 2, j + 1, by omega, by rw [← HK2.out], by go_num, Lib.hid (by have := HB.out; have := hj.out; omega)⟩
        case measure => simp [intOf]; omega
      · obtain rfl : k = 0 := by omega
        have := hj.out
        rw [bitsN_zero] at this
        obtain rfl : j = D := by omega
        go_wp2_with fail
        go_ret
        exact ⟨rfl, rfl⟩

/-- Why there is no tree; 0: there is one. -/
def whyF (k : Int) (n : Nat) : Int := if k = 1 ∨ k = 2 then (if n = 0 then 8 else if 1024 < n then 19 else 0) else 2
set_option maxHeartbeats 1000000 in
theorem mwhy_any (k : Int) (ad : Option Addr) (n cap : Nat) (w : World) : Calls Try.prog 84 #[.int .i64 k, .slice ad n cap] w fun e w' => e = .returned (.int .i64 (whyF k n)) ∧ w = w' := by
  rcases (show (k = 1 ∨ k = 2) ∨ (¬ k = 1 ∧ ¬ k = 2) by omega) with hk | ⟨h1, h2⟩
  · have hkb := kindB_yes hk
    have hw : whyF k n = if n = 0 then 8 else if 1024 < n then 19 else 0 := by unfold whyF; rw [if_pos hk]
    rw [hw]
    clear hk hw
    rcases (show n = 0 ∨ (0 < n ∧ n ≤ 1024) ∨ (0 < n ∧ 1024 < n) by omega) with rfl | ⟨g1, g2⟩ | ⟨g1, g2⟩
    all_goals
      first | rw [if_pos rfl] | rw [if_neg (by omega), if_neg (by omega)] | rw [if_neg (by omega), if_pos (by omega)]
    · go_enter Try.func84, Try.ntmps84
      go_wp2_with fail
      refine (mis_any _ _).mono ?_
      rintro e w2 ⟨rfl, rfl⟩
      go_wp2_with fail
      go_ret
      exact ⟨rfl, rfl⟩
    all_goals
      have e1 : ((n : Int) == 0) = false := by rw [beq_eq_false_iff_ne]; omega
      go_enter Try.func84, Try.ntmps84
      go_wp2_with fail
      refine (mis_any _ _).mono ?_
      rintro e w2 ⟨rfl, rfl⟩
      go_wp2_with fail
      go_ret
      exact ⟨rfl, rfl⟩
  · have hkb := kindB_no h1 h2
    have hw : whyF k n = 2 := by unfold whyF; rw [if_neg (by omega)]
    rw [hw]
    clear hw
    go_enter Try.func84, Try.ntmps84
    go_wp2_with fail
    refine (mis_any _ _).mono ?_
    rintro e w2 ⟨rfl, rfl⟩
    go_wp2_with fail
    go_ret
    exact ⟨rfl, rfl⟩
set_option maxRecDepth 100000 in
set_option maxHeartbeats 1000000 in
theorem tdepth_any (n : Int) (h2 : n < 9223372036854775808) (w : World) : Calls Try.prog 55 #[.int .i64 n] w fun e w' => e = .returned (.int .i64 (depthF n.toNat)) ∧ w = w' := by
  by_cases h : n ≤ 0
  · rw [depth_toNat n (by omega)]
    have g1 : decide (n > 0) = false := by simpa using h
    go_enter Try.func55, Try.ntmps55
    go_wp2_with fail
    go_loop [3, 4] (fun x y => x = .int .i64 0 ∧ y = .int .u64 1) (fun _ _ => 0)
    case atStart => exact ⟨rfl, rfl⟩
    case round =>
      obtain ⟨rfl, rfl⟩ := hrel
      go_wp2_with fail
      go_ret
      exact ⟨rfl, rfl⟩
  · obtain ⟨m, hm⟩ : ∃ m, m = n.toNat := ⟨_, rfl⟩
    have h63 := depthF_63 m (by omega)
    have hlt := depthF_lt m
    have hge := depthF_ge m
    rw [← hm]
    obtain ⟨D, hD⟩ : ∃ D, D = depthF m := ⟨_, rfl⟩
    rw [← hD] at h63 hlt hge ⊢
    have HLT := Lib.hid hlt; have HM := Lib.hid hm
    have g0 : 0 < n := by omega
    have g1 : 0 ≤ n := by omega
    clear hD hlt h hm
    go_enter Try.func55, Try.ntmps55
    go_wp2_with fail
    go_loop [3, 4] (fun x y => ∃ j s : Nat, j ≤ D ∧ Hid (s = 2 ^ j) ∧ x = .int .i64 j ∧ y = .int .u64 s) (fun x _ => D - (intOf x).toNat)
    case atStart => exact ⟨0, 1, by omega, Lib.hid rfl, rfl, rfl⟩
    case round =>
      obtain ⟨j, s, hj, hs, rfl, rfl⟩ := hrel
      by_cases hjD : j < D
      · have hsm : s < m := by rw [hs.out]; exact HLT.out j hjD
        have hs2 : (s : Int) < n := by have := HM.out; omega
        have HSM := Lib.hid hsm; clear hsm
        go_wp2_with fail
        go_round
        case rel => exact ⟨j + 1, 2 * s, by omega, Lib.hid (by rw [hs.out, Nat.pow_succ]; omega), by go_num, by go_num⟩
        case measure => simp [intOf]; omega
      · obtain rfl : j = D := by omega
        have hsm : m ≤ s := by rw [hs.out]; exact hge
        have hs2 : n ≤ (s : Int) := by have := HM.out; omega
        go_wp2_with fail
        go_ret
        exact ⟨rfl, rfl⟩
set_option maxHeartbeats 1000000 in
theorem twhy_any (k : Int) (ad : Option Addr) (n cap : Nat) (w : World) : Calls Try.prog 85 #[.int .i64 k, .slice ad n cap] w fun e w' => e = .returned (.int .i64 (whyF k n)) ∧ w = w' := by
  rcases (show (k = 1 ∨ k = 2) ∨ (¬ k = 1 ∧ ¬ k = 2) by omega) with hk | ⟨h1, h2⟩
  · have hw : whyF k n = if n = 0 then 8 else if 1024 < n then 19 else 0 := by unfold whyF; rw [if_pos hk]
    rw [hw]
    clear hw
    rcases (show n = 0 ∨ (0 < n ∧ n ≤ 1024) ∨ (0 < n ∧ 1024 < n) by omega) with rfl | ⟨g1, g2⟩ | ⟨g1, g2⟩
    all_goals
      first | rw [if_pos rfl] | rw [if_neg (by omega), if_neg (by omega)] | rw [if_neg (by omega), if_pos (by omega)]
    · rcases hk with rfl | rfl
      all_goals
        go_enter Try.func85, Try.ntmps85
        go_wp2_with fail
        go_ret
        exact ⟨rfl, rfl⟩
    all_goals
      have e1 : ((n : Int) == 0) = false := by rw [beq_eq_false_iff_ne]; omega
      rcases hk with rfl | rfl
      all_goals
        go_enter Try.func85, Try.ntmps85
        go_wp2_with fail
        go_ret
        exact ⟨rfl, rfl⟩
  · have hw : whyF k n = 2 := by unfold whyF; rw [if_neg (by omega)]
    rw [hw]
    have b1 : (k != 1) = true := by simpa using h1
    have b2 : (k != 2) = true := by simpa using h2
    clear hw
    go_enter Try.func85, Try.ntmps85
    go_wp2_with fail
    go_ret
    exact ⟨rfl, rfl⟩
end Go.Proofs.Ytbfdjjaonjepnaa
