/- keys.Num: its contract; no condition but that the number is an int. -/
import Derived.Test.YthnjakomkdlglaaBase
namespace Go.Proofs.Ythnjakomkdlglaa
open Go.RowKit

/-- A number's eight bytes, the greatest first. -/
def numL (n : Int) : List UInt8 := (List.range 8).map fun i => UInt8.ofNat (n / 256 ^ (7 - i) % 256).toNat
theorem numL_length (n : Int) : (numL n).length = 8 := by simp [numL]

set_option maxHeartbeats 1000000 in
set_option maxRecDepth 100000 in
theorem num_pos (n : Int) (w : World) (h0 : 0 ≤ n) (h1 : n < 9223372036854775808) :
    Calls Try.prog 79 #[.int .i64 n] w (Ret w (.string (bs (numL n)))) := by
  go_enter Try.func79, Try.ntmps79
  go_wp2
  go_rounds 9
  rw [conv_row _ _ _ 5 Try.underlying29 Try.underlying5 Try.underlying9 _ _ _ _ (numL n) (numL_length n) _ _ _ (heap_alloc_new _ _) (by
    simp [numL, List.range_succ, byteV_of, Int.emod_nonneg, Int.emod_lt_of_pos]; omega)]
  go_wp2
  go_ret
  exact ⟨rfl, (Below.refl _ _).alloc (Nat.le_refl _) _⟩

def nb (n : Int) (i : Nat) : UInt8 := UInt8.ofNat (n / 256 ^ (7 - i) % 256).toNat
theorem numL_eq (n : Int) : numL n = (List.range 8).map (nb n) := rfl
def numTo (n : Int) (k : Nat) : List UInt8 := (List.range k).map (nb n)
theorem numTo_length (n : Int) (k : Nat) : (numTo n k).length = k := by simp [numTo]
theorem numTo_snoc (n : Int) (k : Nat) : numTo n (k + 1) = numTo n k ++ [nb n k] := by simp [numTo, List.range_succ]
theorem numTo_8 (n : Int) : numTo n 8 = numL n := rfl
theorem pow256 (m : Nat) : (256 : Int) ^ m = 2 ^ (8 * m) := by rw [Int.pow_mul]; rfl
theorem nb_cell (n : Int) (k : Nat) : u8E (nb n k) = [.int .u8 (n / 2 ^ (8 * (7 - k)) % 256)] := by
  unfold u8E nb
  rw [byteV_of _ (Int.emod_nonneg _ (by decide)) (Int.emod_lt_of_pos _ (by decide)), pow256]

set_option maxHeartbeats 1000000 in
theorem refNum_pos (n : Int) (w : World) (h0 : 0 ≤ n) (h1 : n < 9223372036854775808) :
    Calls Try.prog 90 #[.int .i64 n] w (Ret w (.string (bs (numL n)))) := by
  go_enter Try.func90, Try.ntmps90
  go_wp2
  go_loopw [3, 4] (fun v i wr => ∃ k : Nat, k ≤ 8 ∧ i = .int .i64 (7 - (k : Int)) ∧ Own wr w.heap.size 5 u8E 1 v (numTo n k) ∧ Below w.heap.size w wr) (fun _ i _ => (intOf i + 1).toNat)
  case atStart => exact ⟨0, by omega, rfl, Own.nil _ _ _ _ _, Below.refl _ _⟩
  case round =>
    obtain ⟨k, hk, rfl, hown, hb⟩ := hrel
    by_cases hlt : k < 8
    · have hz := hb.size
      go_wp2_with (at_builtin; refine own_app1 rfl _ _ _ rfl Try.underlying29 Try.infoU8 rfl (nb n k) hown rfl rfl (nb_cell n k) rfl (by rw [numTo_length]; unfold maxLen; omega) (by rw [numTo_length]; omega) hb (Nat.le_refl _) hz (Nat.le_refl _) ?_)
      rw [← numTo_snoc]
      intro v' w' hown' hb' _
      clear hown hb
      go_wp2
      go_roundw
      case rel => exact ⟨k + 1, by omega, by go_num, hown', hb'⟩
      case measure => simp [intOf]; omega
    · obtain rfl : k = 8 := by omega
      have hcv := rd_conv (dst := 9) Try.underlying29 Try.underlying5 Try.underlying9 (hown.rd (fun _ => rfl))
      go_wp2
      go_ret
      exact ⟨rfl, hb⟩

set_option maxHeartbeats 1000000 in
set_option maxRecDepth 100000 in
theorem num_neg (n : Int) (w : World) (h0 : n < 0) (_h1 : -9223372036854775808 ≤ n) :
    Calls Try.prog 79 #[.int .i64 n] w (Ret w (.string (bs (numL 0)))) := by
  go_enter Try.func79, Try.ntmps79
  go_wp2
  go_rounds 9
  rw [conv_row _ _ _ 5 Try.underlying29 Try.underlying5 Try.underlying9 _ _ _ _ (numL 0) (numL_length 0) _ _ _ (heap_alloc_new _ _) (by
    simp [numL, List.range_succ, byteV])]
  go_wp2
  go_ret
  exact ⟨rfl, (Below.refl _ _).alloc (Nat.le_refl _) _⟩

set_option maxHeartbeats 1000000 in
theorem refNum_neg (n : Int) (w : World) (h0 : n < 0) (_h1 : -9223372036854775808 ≤ n) :
    Calls Try.prog 90 #[.int .i64 n] w (Ret w (.string (bs (numL 0)))) := by
  go_enter Try.func90, Try.ntmps90
  go_wp2
  go_loopw [3, 4] (fun v i wr => ∃ k : Nat, k ≤ 8 ∧ i = .int .i64 (7 - (k : Int)) ∧ Own wr w.heap.size 5 u8E 1 v (numTo 0 k) ∧ Below w.heap.size w wr) (fun _ i _ => (intOf i + 1).toNat)
  case atStart => exact ⟨0, by omega, rfl, Own.nil _ _ _ _ _, Below.refl _ _⟩
  case round =>
    obtain ⟨k, hk, rfl, hown, hb⟩ := hrel
    by_cases hlt : k < 8
    · have hz := hb.size
      have hnb : u8E (nb 0 k) = [.int .u8 0] := by simp [u8E, nb, byteV]
      go_wp2_with (at_builtin; refine own_app1 rfl _ _ _ rfl Try.underlying29 Try.infoU8 rfl (nb 0 k) hown rfl rfl hnb rfl (by rw [numTo_length]; unfold maxLen; omega) (by rw [numTo_length]; omega) hb (Nat.le_refl _) hz (Nat.le_refl _) ?_)
      rw [← numTo_snoc]
      intro v' w' hown' hb' _
      clear hown hb hnb
      go_wp2
      go_roundw
      case rel => exact ⟨k + 1, by omega, by go_num, hown', hb'⟩
      case measure => simp [intOf]; omega
    · obtain rfl : k = 8 := by omega
      have hcv := rd_conv (dst := 9) Try.underlying29 Try.underlying5 Try.underlying9 (hown.rd (fun _ => rfl))
      go_wp2
      go_ret
      exact ⟨rfl, hb⟩

theorem num_any (n : Int) (w : World) (h0 : -9223372036854775808 ≤ n) (h1 : n < 9223372036854775808) : Calls Try.prog 79 #[.int .i64 n] w (Ret w (.string (bs (numL (max n 0))))) := by
  by_cases h : n < 0
  · rw [show max n 0 = 0 by omega]; exact num_neg n w h h0
  · rw [show max n 0 = n by omega]; exact num_pos n w (by omega) h1
theorem refNum_any (n : Int) (w : World) (h0 : -9223372036854775808 ≤ n) (h1 : n < 9223372036854775808) : Calls Try.prog 90 #[.int .i64 n] w (Ret w (.string (bs (numL (max n 0))))) := by
  by_cases h : n < 0
  · rw [show max n 0 = 0 by omega]; exact refNum_neg n w h h0
  · rw [show max n 0 = n by omega]; exact refNum_pos n w (by omega) h1
end Go.Proofs.Ythnjakomkdlglaa
