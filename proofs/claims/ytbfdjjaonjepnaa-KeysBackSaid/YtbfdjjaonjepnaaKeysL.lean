/- The laws on keys: each call returns true, whatever the input, and turns nothing that was there. -/
import Derived.Test.YtbfdjjaonjepnaaKeysE
import Derived.Deep.WholeRow
namespace Go.Proofs.Ytbfdjjaonjepnaa
open Go.RowKit

set_option maxHeartbeats 4000000 in
set_option maxRecDepth 100000 in
theorem law_forms (t : Int) (l : List Int) (v : Value) (s : ByteArray) (w : World) (ht : -9223372036854775808 ≤ t ∧ t < 9223372036854775808) (hi : I64s l) (hrd : Rd w intE 1 v l) (hs9 : s.size ≤ 9223372036854775807) :
    Calls Try.prog 4 #[.int .i64 t, v, .string s] w (Ret w (.bool true)) := by
  have hlen := hrd.len
  obtain ⟨ad, cap, rfl, hc1, hc2⟩ := hrd.shape
  by_cases hl : 50 < l.length
  · go_enter Try.func4, Try.ntmps4
    go_wp2_with (go_at_call 18; refine (lives09_any _).mono ?_; rintro e w1 ⟨rfl, hb⟩)
    go_ret
    exact ⟨rfl, hb⟩
  by_cases hs : 500 < s.size
  · go_enter Try.func4, Try.ntmps4
    go_wp2_with (go_at_call 18; refine (lives09_any _).mono ?_; rintro e w1 ⟨rfl, hb⟩)
    go_ret
    exact ⟨rfl, hb⟩
  go_enter Try.func4, Try.ntmps4
  go_wp2_with fail
  refine (parse_any s _ (by omega)).mono ?_
  intro e w1 h
  obtain ⟨v1, rfl, hr1, hb1⟩ := pgives_of_says h
  clear h
  go_wp2_with fail
  refine (refParse_any s _ (by omega)).mono ?_
  intro e w2 h
  obtain ⟨v2, rfl, hr2, hb2⟩ := pgives_of_says h
  clear h
  replace hr1 := hr1.later hb2
  replace hb1 := hb1.trans (hb2.mono hb1.size)
  clear hb2
  go_wp2_with fail
  refine (nums_any s _ (by omega)).mono ?_
  intro e w3 h
  obtain ⟨v3, rfl, hr3, hb2⟩ := gives_of_says h
  clear h
  replace hr1 := hr1.later hb2
  replace hr2 := hr2.later hb2
  replace hb1 := hb1.trans (hb2.mono hb1.size)
  clear hb2
  go_wp2_with fail
  refine (refNums_any s _ (by omega)).mono ?_
  intro e w4 h
  obtain ⟨v4, rfl, hr4, hb2⟩ := gives_of_says h
  clear h
  replace hr1 := hr1.later hb2
  replace hr2 := hr2.later hb2
  replace hr3 := hr3.later hb2
  replace hb1 := hb1.trans (hb2.mono hb1.size)
  clear hb2
  go_wp2_with fail
  obtain ⟨p0, p1, p2, p3, hp⟩ := uArr_lit s.data.toList
  refine (toAmount_any s _ (by omega)).mono ?_
  rintro e w5 ⟨rfl, hb2⟩
  rw [hp]
  have HP := Lib.hid hp; clear hp
  replace hr1 := hr1.later hb2
  replace hr2 := hr2.later hb2
  replace hr3 := hr3.later hb2
  replace hr4 := hr4.later hb2
  replace hb1 := hb1.trans (hb2.mono hb1.size)
  clear hb2
  go_wp2_with fail
  refine (refToAmount_any s _ (by omega)).mono ?_
  rintro e w6 ⟨rfl, hb2⟩
  rw [HP.out]
  obtain ⟨hb2, hA, hA2⟩ := boxed1 hb2
  replace hr1 := hr1.later hb2
  replace hr2 := hr2.later hb2
  replace hr3 := hr3.later hb2
  replace hr4 := hr4.later hb2
  replace hb1 := hb1.trans (hb2.mono hb1.size)
  clear hb2
  go_wp2_with fail
  refine (ints_any _ _ _ _ _ (hr1.alloc _) (hr2.alloc _)).mono ?_
  rintro e w7 ⟨rfl, hb2⟩
  obtain ⟨hb2, hB, hB2⟩ := boxed1 hb2
  replace hA := (hb2.block _ hA2).trans hA
  replace hr3 := hr3.later hb2
  replace hr4 := hr4.later hb2
  replace hb1 := hb1.trans (hb2.mono hb1.size)
  clear hb2 hr1 hr2
  go_wp2_with fail
  refine (ints_any _ _ _ _ _ hr3 hr4).mono ?_
  rintro e w8 ⟨rfl, hb2⟩
  replace hA := (hb2.block _ (by omega)).trans hA
  replace hB := (hb2.block _ hB2).trans hB
  replace hb1 := hb1.trans (hb2.mono hb1.size)
  clear hb2 hr3 hr4
  have a0 : w8.cell? ⟨w5.heap.size, 0, none⟩ = some (.int .u64 p0) := Lib.cell_of_heap hA 0
  have a1 : w8.cell? ⟨w5.heap.size, 1, none⟩ = some (.int .u64 p1) := Lib.cell_of_heap hA 1
  have a2 : w8.cell? ⟨w5.heap.size, 2, none⟩ = some (.int .u64 p2) := Lib.cell_of_heap hA 2
  have a3 : w8.cell? ⟨w5.heap.size, 3, none⟩ = some (.int .u64 p3) := Lib.cell_of_heap hA 3
  have b0 : w8.cell? ⟨w6.heap.size, 0, none⟩ = some (.int .u64 p0) := Lib.cell_of_heap hB 0
  have b1 : w8.cell? ⟨w6.heap.size, 1, none⟩ = some (.int .u64 p1) := Lib.cell_of_heap hB 1
  have b2 : w8.cell? ⟨w6.heap.size, 2, none⟩ = some (.int .u64 p2) := Lib.cell_of_heap hB 2
  have b3 : w8.cell? ⟨w6.heap.size, 3, none⟩ = some (.int .u64 p3) := Lib.cell_of_heap hB 3
  go_wp2_with fail
  clear a0 a1 a2 a3 b0 b1 b2 b3 hA hB
  refine (key_any t l _ _ (by omega) hi (hrd.later hb1)).mono ?_
  rintro e w9 ⟨rfl, hb2⟩
  replace hb1 := hb1.trans (hb2.mono hb1.size)
  clear hb2
  go_wp2_with fail
  refine (refKey_any t l _ _ (by omega) hi (hrd.later hb1)).mono ?_
  rintro e w10 ⟨rfl, hb2⟩
  replace hb1 := hb1.trans (hb2.mono hb1.size)
  clear hb2
  go_wp2_with fail
  refine (table_any t _).mono ?_
  rintro e w11 ⟨rfl, hb2⟩
  replace hb1 := hb1.trans (hb2.mono hb1.size)
  clear hb2
  go_wp2_with fail
  refine (refKey_any t [] _ _ (by simp) I64s_nil (Rd.nil _ _ _)).mono ?_
  rintro e w12 ⟨rfl, hb2⟩
  replace hb1 := hb1.trans (hb2.mono hb1.size)
  clear hb2
  go_wp2_with fail
  refine (num_any t _ ht.1 ht.2).mono ?_
  rintro e w13 ⟨rfl, hb2⟩
  replace hb1 := hb1.trans (hb2.mono hb1.size)
  clear hb2
  go_wp2_with fail
  refine (refNum_any t _ ht.1 ht.2).mono ?_
  rintro e w14 ⟨rfl, hb2⟩
  replace hb1 := hb1.trans (hb2.mono hb1.size)
  clear hb2
  go_wp2_with fail
  refine (lives09_any _).mono ?_
  rintro e w15 ⟨rfl, hb2⟩
  replace hb1 := hb1.trans (hb2.mono hb1.size)
  clear hb2
  go_wp2
  go_ret
  exact ⟨rfl, hb1⟩
end Go.Proofs.Ytbfdjjaonjepnaa
