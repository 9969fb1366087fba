/- tallagelaw05.lives. The reference's begins and constants; plain facts for its Sum. -/
import Derived.Test.YtmclmccgghnglaaGreatLs10
import Derived.Lib.SlBytesConst
namespace Go.Proofs.YtmclmccgghnglaaGreat
section
open Go.RowKit

def abcT : List UInt8 := [98, 97, 55, 56, 49, 54, 98, 102, 56, 102, 48, 49, 99, 102, 101, 97, 52, 49, 52, 49, 52, 48, 100, 101, 53, 100, 97, 101, 50, 50, 50, 51, 98, 48, 48, 51, 54, 49, 97, 51, 57, 54, 49, 55, 55, 97, 57, 99, 98, 52, 49, 48, 102, 102, 54, 49, 102, 50, 48, 48, 49, 53, 97, 100]
end
section
open Go.RowKit

set_option maxRecDepth 100000 in
set_option maxHeartbeats 4000000 in
theorem refConstants_any (w : World) : Calls Tryz.prog 197 #[] w (Ret w (.agg (cW 64 conK))) := by
  go_enter Tryz.func197, Tryz.ntmps197
  go_wp2_with (first | (refine wpList_store_row (t := 250) (old := cW 64 []) rfl 250 (.tmp 0) _ rfl w.heap.size (cW 64 conK) rfl (by kernel_rfl) ((heap_alloc_new _ _).trans (by kernel_rfl)) Tryz.sizeCon (by kernel_rfl) (one_w _ _) ?_))
  exact bodyPost_ret (results_cell_row rfl _ _ w.heap.size _ (cW 64 conK) _ _ rfl (setRow_heap _ _ _ _ _ _ ((heap_alloc_new _ _))) Tryz.underlying250 rfl Tryz.sizeCon) rfl ⟨rfl, below_setRow ((Below.refl _ _).alloc (Nat.le_refl _) _) (Nat.le_refl _) _⟩

set_option maxRecDepth 100000 in
set_option maxHeartbeats 4000000 in
theorem refBegins_any (w : World) : Calls Tryz.prog 196 #[] w (Ret w (.agg (cV begV))) := by
  go_enter Tryz.func196, Tryz.ntmps196
  go_wp2_with (first | (refine wpList_store_row (t := 248) (old := cW 8 []) rfl 248 (.tmp 0) _ rfl w.heap.size (cV begV) rfl (by kernel_rfl) ((heap_alloc_new _ _).trans (by kernel_rfl)) (Tryz.sizeV begV) (by kernel_rfl) (one_v _) ?_))
  exact bodyPost_ret (results_cell_row rfl _ _ w.heap.size _ (cV begV) _ _ rfl (setRow_heap _ _ _ _ _ _ ((heap_alloc_new _ _))) Tryz.underlying248 rfl (Tryz.sizeV begV)) rfl ⟨rfl, below_setRow ((Below.refl _ _).alloc (Nat.le_refl _) _) (Nat.le_refl _) _⟩

theorem Tryz.zeroV8 (w : World) : (zeroValue 248).run Tryz.prog w = .ok (.agg (cW 8 [])) w := by kernel_rfl
theorem Tryz.zeroW (w : World) : (zeroValue 250).run Tryz.prog w = .ok (.agg (cW 64 [])) w := by kernel_rfl
theorem own_empty (w : World) (B : Nat) (e : TypeId) (hB : B ≤ w.heap.size) : Own (w.alloc (.cells #[] e)) B e u8E 1 (.slice (some ⟨w.heap.size, 0, none⟩) 0 0) ([] : List UInt8) :=
  ⟨by simp, .inr ⟨w.heap.size, 0, #[], rfl, hB, heap_alloc_new _ _, Nat.le_refl _, by unfold maxLen; omega, rfl, rfl⟩⟩

theorem cW_zero (n : Nat) (l : List UInt32) (h : l.length < n) : cW n l = cW n (l ++ [0]) := by
  apply Array.ext'
  simp only [cW]
  rw [List.map_append, show n - l.length = (n - (l ++ [(0 : UInt32)]).length) + 1 by simp; omega, List.replicate_succ]
  simp [w32V]
theorem cW_put (n : Nat) (l : List UInt32) (i : Nat) (hi : l.length = i) (x y : UInt32) : (cW n (l ++ [x])).setIfInBounds i (.int .u32 (y.toNat : Int)) = cW n (l ++ [y]) := by
  apply Array.ext'
  simp only [cW, Array.toList_setIfInBounds]
  rw [List.set_append_left _ _ (by simp [hi]), List.map_append, List.set_append_right _ _ (by simp [hi])]
  simp [hi, w32V]
theorem gW_last (l : List UInt32) (i : Nat) (hi : l.length = i) (x : UInt32) : gW (l ++ [x]) i = x := by
  simp only [gW, List.getD_eq_getElem?_getD]
  rw [List.getElem?_append_right (by omega), hi]; simp
/-- A word out of its first j bytes. -/
def wordTo (c : List UInt8) (i : Nat) : Nat → UInt32
  | 0 => 0
  | j + 1 => wordTo c i j <<< 8 ||| (gB c (4 * i + j)).toUInt32
theorem shl_or (x : UInt32) (c : UInt8) (h : x.toNat < 16777216) : (x <<< 8 ||| c.toUInt32).toNat = x.toNat * 256 + c.toNat := by
  have hc := c.toNat_lt
  rw [UInt32.toNat_or, UInt32.toNat_shiftLeft, UInt8.toNat_toUInt32]
  have e8 : (8 : UInt32).toNat % 32 = 8 := rfl
  rw [e8, Nat.shiftLeft_eq, show (2 : Nat) ^ 8 = 256 from rfl, Nat.mod_eq_of_lt (by omega), nat_join 8 _ _ (by omega) (by omega)]
theorem wordTo_lt (c : List UInt8) (i : Nat) : ∀ j, j ≤ 4 → (wordTo c i j).toNat < 256 ^ j := by
  intro j
  induction j with
  | zero => intro _; show (0 : UInt32).toNat < 1; decide
  | succ j ih =>
    intro hj
    have h := ih (by omega)
    have hc := (gB c (4 * i + j)).toNat_lt
    have hp : (256 : Nat) ^ j ≤ 16777216 := by
      have : (256 : Nat) ^ j ≤ 256 ^ 3 := Nat.pow_le_pow_right (by omega) (by omega)
      omega
    rw [wordTo, shl_or _ _ (by omega), Nat.pow_succ]
    omega
theorem word_join (a b c d : Nat) (h1 : b < 256) (h2 : c < 256) (h3 : d < 256) : a * 2 ^ 24 ||| b * 2 ^ 16 ||| c * 2 ^ 8 ||| d = a * 2 ^ 24 + b * 2 ^ 16 + c * 2 ^ 8 + d := by
  rw [nat_join 24 (a * 2 ^ 24) (b * 2 ^ 16) (by omega) (by omega), nat_join 16 (a * 2 ^ 24 + b * 2 ^ 16) (c * 2 ^ 8) (by omega) (by omega), nat_join 8 (a * 2 ^ 24 + b * 2 ^ 16 + c * 2 ^ 8) d (by omega) (by omega)]
theorem wordTo_full (c : List UInt8) (i : Nat) : wordTo c i 4 = word32 (gB c (4 * i)) (gB c (4 * i + 1)) (gB c (4 * i + 2)) (gB c (4 * i + 3)) := by
  apply UInt32.toNat_inj.1
  have h1 := wordTo_lt c i 1 (by omega); have h2 := wordTo_lt c i 2 (by omega); have h3 := wordTo_lt c i 3 (by omega)
  have c0 := (gB c (4 * i)).toNat_lt; have c1 := (gB c (4 * i + 1)).toNat_lt; have c2 := (gB c (4 * i + 2)).toNat_lt; have c3 := (gB c (4 * i + 3)).toNat_lt
  have e0 : (wordTo c i 0).toNat = 0 := rfl
  have e1 : (wordTo c i 1).toNat = (gB c (4 * i)).toNat := by rw [wordTo, shl_or _ _ (by rw [e0]; omega), e0]; simp
  have e2 : (wordTo c i 2).toNat = (gB c (4 * i)).toNat * 256 + (gB c (4 * i + 1)).toNat := by rw [wordTo, shl_or _ _ (by omega), e1]
  have e3 : (wordTo c i 3).toNat = ((gB c (4 * i)).toNat * 256 + (gB c (4 * i + 1)).toNat) * 256 + (gB c (4 * i + 2)).toNat := by rw [wordTo, shl_or _ _ (by omega), e2]
  have e4 : (wordTo c i 4).toNat = (((gB c (4 * i)).toNat * 256 + (gB c (4 * i + 1)).toNat) * 256 + (gB c (4 * i + 2)).toNat) * 256 + (gB c (4 * i + 3)).toNat := by rw [wordTo, shl_or _ _ (by omega), e3]
  rw [e4]
  unfold word32
  simp only [UInt32.toNat_or, UInt32.toNat_shiftLeft, UInt8.toNat_toUInt32]
  have s24 : (24 : UInt32).toNat % 32 = 24 := rfl
  have s16 : (16 : UInt32).toNat % 32 = 16 := rfl
  have s8 : (8 : UInt32).toNat % 32 = 8 := rfl
  rw [s24, s16, s8, Nat.shiftLeft_eq, Nat.shiftLeft_eq, Nat.shiftLeft_eq, Nat.mod_eq_of_lt (by omega), Nat.mod_eq_of_lt (by omega), Nat.mod_eq_of_lt (by omega)]
  rw [word_join _ _ _ _ c1 c2 c3]
  omega
theorem wordTo_facts (c : List UInt8) (i j : Nat) : ∃ z : UInt32, IntKind.u32.wrap (((wordTo c i j).toNat : Int) * 256) = (z.toNat : Int) ∧ IntKind.u32.wrap ((gB c (4 * i + j)).toNat : Int) = ((gB c (4 * i + j)).toNat : Int) ∧ bits BinOp.or IntKind.u32 (z.toNat : Int) ((gB c (4 * i + j)).toNat : Int) = ((wordTo c i (j + 1)).toNat : Int) := by
  refine ⟨wordTo c i j <<< 8, shl_t (wordTo c i j) 8 (by omega), ?_, ?_⟩
  · rw [IntKind.wrap_u32']; have := (gB c (4 * i + j)).toNat_lt; omega
  · have h2 : ((gB c (4 * i + j)).toNat : Int) = ((gB c (4 * i + j)).toUInt32.toNat : Int) := by rw [UInt8.toNat_toUInt32]
    rw [h2, u32_or_t]; rfl
theorem sml_bits (X : UInt32) (a b c : Nat) (k : Int) (hc : c < 32) (hk : (2 : Int) ^ c = k) : bits BinOp.xor IntKind.u32 (bits BinOp.xor IntKind.u32 ((rotr X a).toNat : Int) ((rotr X b).toNat : Int)) ((X.toNat : Int) / k) = ((smlF X a b c).toNat : Int) := by
  rw [← hk, shr_t X c hc, u32_xor_t, u32_xor_t]; rfl
theorem ref_sched (X Y U Z : UInt32) : ∃ s0 s1 a1 a2 a3 : UInt32, bits BinOp.xor IntKind.u32 (bits BinOp.xor IntKind.u32 ((rotr X 7).toNat : Int) ((rotr X 18).toNat : Int)) ((X.toNat : Int) / 8) = (s0.toNat : Int) ∧
    bits BinOp.xor IntKind.u32 (bits BinOp.xor IntKind.u32 ((rotr Y 17).toNat : Int) ((rotr Y 19).toNat : Int)) ((Y.toNat : Int) / 1024) = (s1.toNat : Int) ∧
    IntKind.u32.wrap ((Z.toNat : Int) + (s0.toNat : Int)) = (a1.toNat : Int) ∧ IntKind.u32.wrap ((a1.toNat : Int) + (U.toNat : Int)) = (a2.toNat : Int) ∧ IntKind.u32.wrap ((a2.toNat : Int) + (s1.toNat : Int)) = (a3.toNat : Int) ∧
    a3 = smlF Y 17 19 10 + U + smlF X 7 18 3 + Z := by
  refine ⟨smlF X 7 18 3, smlF Y 17 19 10, Z + smlF X 7 18 3, Z + smlF X 7 18 3 + U, Z + smlF X 7 18 3 + U + smlF Y 17 19 10, sml_bits X 7 18 3 8 (by omega) rfl, sml_bits Y 17 19 10 1024 (by omega) rfl, u32_add_t _ _, u32_add_t _ _, u32_add_t _ _, ?_⟩
  generalize smlF X 7 18 3 = p
  generalize smlF Y 17 19 10 = q
  ac_rfl
theorem ref_round (R : V8) (kk ww : UInt32) : ∃ g1 c1 p1 p2 p3 p4 g2 m1 p5 r0 r4 : UInt32,
    bits BinOp.xor IntKind.u32 (bits BinOp.xor IntKind.u32 ((rotr R.e 6).toNat : Int) ((rotr R.e 11).toNat : Int)) ((rotr R.e 25).toNat : Int) = (g1.toNat : Int) ∧
    bits BinOp.xor IntKind.u32 (bits BinOp.and IntKind.u32 (R.e.toNat : Int) (R.f.toNat : Int)) (bits BinOp.and IntKind.u32 (bits BinOp.xor IntKind.u32 IntKind.u32.max (R.e.toNat : Int)) (R.g.toNat : Int)) = (c1.toNat : Int) ∧
    IntKind.u32.wrap ((R.h.toNat : Int) + (g1.toNat : Int)) = (p1.toNat : Int) ∧ IntKind.u32.wrap ((p1.toNat : Int) + (c1.toNat : Int)) = (p2.toNat : Int) ∧ IntKind.u32.wrap ((p2.toNat : Int) + (kk.toNat : Int)) = (p3.toNat : Int) ∧ IntKind.u32.wrap ((p3.toNat : Int) + (ww.toNat : Int)) = (p4.toNat : Int) ∧
    bits BinOp.xor IntKind.u32 (bits BinOp.xor IntKind.u32 ((rotr R.a 2).toNat : Int) ((rotr R.a 13).toNat : Int)) ((rotr R.a 22).toNat : Int) = (g2.toNat : Int) ∧
    bits BinOp.xor IntKind.u32 (bits BinOp.xor IntKind.u32 (bits BinOp.and IntKind.u32 (R.a.toNat : Int) (R.b.toNat : Int)) (bits BinOp.and IntKind.u32 (R.a.toNat : Int) (R.c.toNat : Int))) (bits BinOp.and IntKind.u32 (R.b.toNat : Int) (R.c.toNat : Int)) = (m1.toNat : Int) ∧
    IntKind.u32.wrap ((g2.toNat : Int) + (m1.toNat : Int)) = (p5.toNat : Int) ∧
    ((p4.toNat : Int) + (p5.toNat : Int)) % 4294967296 = (r0.toNat : Int) ∧ ((R.d.toNat : Int) + (p4.toNat : Int)) % 4294967296 = (r4.toNat : Int) ∧
    (#[.int .u32 r0.toNat, .int .u32 R.a.toNat, .int .u32 R.b.toNat, .int .u32 R.c.toNat, .int .u32 r4.toNat, .int .u32 R.e.toNat, .int .u32 R.f.toNat, .int .u32 R.g.toNat] : Array Value) = cV (stepV kk ww R) := by
  refine ⟨grtF R.e 6 11 25, chF R.e R.f R.g, R.h + grtF R.e 6 11 25, R.h + grtF R.e 6 11 25 + chF R.e R.f R.g, R.h + grtF R.e 6 11 25 + chF R.e R.f R.g + kk, R.h + grtF R.e 6 11 25 + chF R.e R.f R.g + kk + ww, grtF R.a 2 13 22, majF R.a R.b R.c, grtF R.a 2 13 22 + majF R.a R.b R.c,
    R.h + grtF R.e 6 11 25 + chF R.e R.f R.g + kk + ww + (grtF R.a 2 13 22 + majF R.a R.b R.c), R.d + (R.h + grtF R.e 6 11 25 + chF R.e R.f R.g + kk + ww), by rw [u32_xor_t, u32_xor_t]; rfl, ch_t _ _ _, u32_add_t _ _, u32_add_t _ _, u32_add_t _ _, u32_add_t _ _, by rw [u32_xor_t, u32_xor_t]; rfl, maj_t _ _ _, u32_add_t _ _, u32_add_t' _ _, u32_add_t' _ _, ?_⟩
  have e : R.h + grtF R.e 6 11 25 + chF R.e R.f R.g + kk + ww + (grtF R.a 2 13 22 + majF R.a R.b R.c) = R.h + grtF R.e 6 11 25 + chF R.e R.f R.g + kk + ww + grtF R.a 2 13 22 + majF R.a R.b R.c := by rw [UInt32.add_assoc _ (grtF R.a 2 13 22)]
  rw [e]; rfl
end
end Go.Proofs.YtmclmccgghnglaaGreat
