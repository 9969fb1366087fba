/- The reference's begins and constants; plain facts for its Sum. -/
import Derived.Test.YtbfdjjaonjepnaaShaO
namespace Go.Proofs.Ytbfdjjaonjepnaa
open Go.RowKit

set_option maxRecDepth 100000 in
set_option maxHeartbeats 4000000 in
theorem refConstants_any (w : World) : Calls Try.prog 82 #[] w (Ret w (.agg (cW 64 conK))) := by
  go_enter Try.func82, Try.ntmps82
  go_wp2_with (first | (refine wpList_store_row (t := 120) (old := cW 64 []) rfl 120 (.tmp 0) _ rfl w.heap.size (cW 64 conK) rfl (by kernel_rfl) ((heap_alloc_new _ _).trans (by kernel_rfl)) Try.sizeCon (by kernel_rfl) (one_w _ _) ?_))
  exact bodyPost_ret (results_cell_row rfl _ _ w.heap.size _ (cW 64 conK) _ _ rfl (setRow_heap _ _ _ _ _ _ ((heap_alloc_new _ _))) Try.underlying120 rfl Try.sizeCon) rfl ⟨rfl, below_setRow ((Below.refl _ _).alloc (Nat.le_refl _) _) (Nat.le_refl _) _⟩

set_option maxRecDepth 100000 in
set_option maxHeartbeats 4000000 in
theorem refBegins_any (w : World) : Calls Try.prog 81 #[] w (Ret w (.agg (cV begV))) := by
  go_enter Try.func81, Try.ntmps81
  go_wp2_with (first | (refine wpList_store_row (t := 54) (old := cW 8 []) rfl 54 (.tmp 0) _ rfl w.heap.size (cV begV) rfl (by kernel_rfl) ((heap_alloc_new _ _).trans (by kernel_rfl)) (Try.sizeV begV) (by kernel_rfl) (one_v _) ?_))
  exact bodyPost_ret (results_cell_row rfl _ _ w.heap.size _ (cV begV) _ _ rfl (setRow_heap _ _ _ _ _ _ ((heap_alloc_new _ _))) Try.underlying54 rfl (Try.sizeV begV)) rfl ⟨rfl, below_setRow ((Below.refl _ _).alloc (Nat.le_refl _) _) (Nat.le_refl _) _⟩

theorem Try.zeroV8 (w : World) : (zeroValue 54).run Try.prog w = .ok (.agg (cW 8 [])) w := by kernel_rfl
theorem Try.zeroW (w : World) : (zeroValue 120).run Try.prog w = .ok (.agg (cW 64 [])) w := by kernel_rfl
theorem own_empty (w : World) (B : Nat) (e : TypeId) (hB : B ≤ w.heap.size) : Own (w.alloc (.cells #[] e)) B e u8E 1 (.slice (some ⟨w.heap.size, 0, none⟩) 0 0) ([] : List UInt8) :=
  ⟨by simp, .inr ⟨w.heap.size, 0, #[], rfl, hB, heap_alloc_new _ _, Nat.le_refl _, by unfold maxLen; omega, rfl, rfl⟩⟩

/-- A word out of its first j bytes. -/
def wordTo (c : List UInt8) (i : Nat) : Nat → UInt32
  | 0 => 0
  | j + 1 => wordTo c i j <<< 8 ||| (gB c (4 * i + j)).toUInt32
theorem shl_or (x : UInt32) (c : UInt8) (h : x.toNat < 16777216) : (x <<< 8 ||| c.toUInt32).toNat = x.toNat * 256 + c.toNat := by
  have hc := c.toNat_lt
  rw [UInt32.toNat_or, UInt32.toNat_shiftLeft, UInt8.toNat_toUInt32]
  have e8 : (8 : UInt32).toNat % 32 = 8 := rfl
  rw [e8, Nat.shiftLeft_eq, show (2 : Nat) ^ 8 = 256 from rfl, Nat.mod_eq_of_lt (by omega), nat_join 8 _ _ (by omega) (by omega)]
theorem wordTo_lt (c : List UInt8) (i : Nat) : ∀ j, j ≤ 4 → (wordTo c i j).toNat < 256 ^ j := by
  intro j
  induction j with
  | zero => intro _; show (0 : UInt32).toNat < 1; decide
  | succ j ih =>
    intro hj
    have h := ih (by omega)
    have hc := (gB c (4 * i + j)).toNat_lt
    have hp : (256 : Nat) ^ j ≤ 16777216 := by
      have : (256 : Nat) ^ j ≤ 256 ^ 3 := Nat.pow_le_pow_right (by omega) (by omega)
      omega
    rw [wordTo, shl_or _ _ (by omega), Nat.pow_succ]
    omega
theorem word_join (a b c d : Nat) (h1 : b < 256) (h2 : c < 256) (h3 : d < 256) : a * 2 ^ 24 ||| b * 2 ^ 16 ||| c * 2 ^ 8 ||| d = a * 2 ^ 24 + b * 2 ^ 16 + c * 2 ^ 8 + d := by
  rw [nat_join 24 (a * 2 ^ 24) (b * 2 ^ 16) (by omega) (by omega), nat_join 16 (a * 2 ^ 24 + b * 2 ^ 16) (c * 2 ^ 8) (by omega) (by omega), nat_join 8 (a * 2 ^ 24 + b * 2 ^ 16 + c * 2 ^ 8) d (by omega) (by omega)]
theorem wordTo_full (c : List UInt8) (i : Nat) : wordTo c i 4 = word32 (gB c (4 * i)) (gB c (4 * i + 1)) (gB c (4 * i + 2)) (gB c (4 * i + 3)) := by
  apply UInt32.toNat_inj.1
  have h1 := wordTo_lt c i 1 (by omega); have h2 := wordTo_lt c i 2 (by omega); have h3 := wordTo_lt c i 3 (by omega)
  have c0 := (gB c (4 * i)).toNat_lt; have c1 := (gB c (4 * i + 1)).toNat_lt; have c2 := (gB c (4 * i + 2)).toNat_lt; have c3 := (gB c (4 * i + 3)).toNat_lt
  have e0 : (wordTo c i 0).toNat = 0 := rfl
  have e1 : (wordTo c i 1).toNat = (gB c (4 * i)).toNat := by rw [wordTo, shl_or _ _ (by rw [e0]; omega), e0]; simp
  have e2 : (wordTo c i 2).toNat = (gB c (4 * i)).toNat * 256 + (gB c (4 * i + 1)).toNat := by rw [wordTo, shl_or _ _ (by omega), e1]
  have e3 : (wordTo c i 3).toNat = ((gB c (4 * i)).toNat * 256 + (gB c (4 * i + 1)).toNat) * 256 + (gB c (4 * i + 2)).toNat := by rw [wordTo, shl_or _ _ (by omega), e2]
  have e4 : (wordTo c i 4).toNat = (((gB c (4 * i)).toNat * 256 + (gB c (4 * i + 1)).toNat) * 256 + (gB c (4 * i + 2)).toNat) * 256 + (gB c (4 * i + 3)).toNat := by rw [wordTo, shl_or _ _ (by omega), e3]
  rw [e4]
  unfold word32
  simp only [UInt32.toNat_or, UInt32.toNat_shiftLeft, UInt8.toNat_toUInt32]
  have s24 : (24 : UInt32).toNat % 32 = 24 := rfl
  have s16 : (16 : UInt32).toNat % 32 = 16 := rfl
  have s8 : (8 : UInt32).toNat % 32 = 8 := rfl
  rw [s24, s16, s8, Nat.shiftLeft_eq, Nat.shiftLeft_eq, Nat.shiftLeft_eq, Nat.mod_eq_of_lt (by omega), Nat.mod_eq_of_lt (by omega), Nat.mod_eq_of_lt (by omega)]
  rw [word_join _ _ _ _ c1 c2 c3]
  omega
theorem wordTo_bits (c : List UInt8) (i j : Nat) : bits BinOp.or IntKind.u32 (((wordTo c i j).toNat : Int) * 256 % 4294967296) ((gB c (4 * i + j)).toNat : Int) = ((wordTo c i (j + 1)).toNat : Int) := by
  have h1 : ((wordTo c i j).toNat : Int) * (256 : Int) % (4294967296 : Int) = ((wordTo c i j <<< 8).toNat : Int) := by
    have := shl_t (wordTo c i j) 8 (by omega)
    rw [IntKind.wrap_u32'] at this
    exact this
  have h2 : ((gB c (4 * i + j)).toNat : Int) = ((gB c (4 * i + j)).toUInt32.toNat : Int) := by rw [UInt8.toNat_toUInt32]
  rw [h1, h2, u32_or_t]; rfl
end Go.Proofs.Ytbfdjjaonjepnaa
