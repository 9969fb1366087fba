/- The law KeysBack: its walk: it returns true, whatever the input, and turns nothing that was there. -/
import Derived.Test.YtbfdjjaonjepnaaKeysQ
import Derived.Test.YtbfdjjaonjepnaaKeysL
namespace Go.Proofs.Ytbfdjjaonjepnaa
open Go.RowKit

theorem parseR_key {t : Int} {l : List Int} (h1 : 1 ≤ t) (h2 : t ≤ 255) (h : ∀ x ∈ l, 0 ≤ x) (hi : I64s l) : parseR (keyF t l) = (t, l, true) := by
  unfold parseR; rw [parseF_key t l h1 h2 fun x hx => ⟨h x hx, (hi x hx).2⟩]
theorem numsR_flat {l : List Int} (h : ∀ x ∈ l, 0 ≤ x) (hi : I64s l) : numsR (l.flatMap numL) = (l, true) := by
  unfold numsR; rw [numsF_flat l fun x hx => ⟨h x hx, (hi x hx).2⟩]
theorem uArr_ub {a0 a1 a2 a3 : Int} (h0 : 0 ≤ a0 ∧ a0 < 18446744073709551616) (h1 : 0 ≤ a1 ∧ a1 < 18446744073709551616) (h2 : 0 ≤ a2 ∧ a2 < 18446744073709551616) (h3 : 0 ≤ a3 ∧ a3 < 18446744073709551616) :
    uArr (ubytes (w4 a0 a1 a2 a3)) = #[.int .u64 a0, .int .u64 a1, .int .u64 a2, .int .u64 a3] := by
  unfold uArr
  rw [if_pos (ubytes_length _), part_ub _ 0 (by omega) h0.1 h0.2, part_ub _ 1 (by omega) h1.1 h1.2, part_ub _ 2 (by omega) h2.1 h2.2, part_ub _ 3 (by omega) h3.1 h3.2]
  rfl
theorem flatTo_succ (l : List Int) (k : Nat) (hk : k < l.length) : (l.take (k + 1)).flatMap numL = (l.take k).flatMap numL ++ numL l[k] := by
  rw [List.take_succ_eq_append_getElem hk, List.flatMap_append]; simp
def flatTo (l : List Int) (k : Nat) : List UInt8 := (l.take k).flatMap numL
theorem flatTo_zero (l : List Int) : bs (flatTo l 0) = { data := #[] } := rfl
theorem flatTo_add (l : List Int) (k : Nat) (hk : k < l.length) : bs (flatTo l k) ++ bs (numL l[k]) = bs (flatTo l (k + 1)) := by
  rw [bs_append]; unfold flatTo; rw [flatTo_succ l k hk]
theorem flatTo_len (l : List Int) (k : Nat) : (bs (flatTo l k)).size ≤ 8 * l.length := by
  rw [bs_size, flatTo, flat_length, List.length_take]; omega


set_option maxHeartbeats 1000000 in
set_option maxRecDepth 100000 in
theorem back_long (t : Int) (l : List Int) (v : Value) (a0 a1 a2 a3 : Int) (w : World) (hrd : Rd w intE 1 v l) (hl : 50 < l.length) :
    Calls Try.prog 5 #[.int .i64 t, v, .agg #[.int .u64 a0, .int .u64 a1, .int .u64 a2, .int .u64 a3]] w (Ret w (.bool true)) := by
  have hlen := hrd.len
  obtain ⟨ad, cap, rfl, hc1, hc2⟩ := hrd.shape
  go_enter Try.func5, Try.ntmps5
  go_wp2_with (go_at_call 18; refine (lives09_any _).mono ?_; rintro e w1 ⟨rfl, hb⟩)
  go_ret
  exact ⟨rfl, ((Below.refl _ _).alloc (Nat.le_refl _) _).trans (hb.mono (by simp))⟩

set_option maxHeartbeats 2000000 in
set_option maxRecDepth 100000 in
theorem back_bad1 (t : Int) (l : List Int) (v : Value) (a0 a1 a2 a3 : Int) (w : World) (_ht : -9223372036854775808 ≤ t ∧ t < 9223372036854775808) (hi : I64s l) (hrd : Rd w intE 1 v l) (hl : ¬ 50 < l.length)
    (hbad : t < 1) :
    Calls Try.prog 5 #[.int .i64 t, v, .agg #[.int .u64 a0, .int .u64 a1, .int .u64 a2, .int .u64 a3]] w (Ret w (.bool true)) := by
  have hlen := hrd.len
  obtain ⟨ad, cap, rfl, hc1, hc2⟩ := hrd.shape
  have hdl : decide (50 < (l.length : Int)) = false := by simp; omega
  have hkf := Lib.hid (keyF_bad t l (.inl hbad))
  have hemp : (bs ([] : List UInt8)).toList.isEmpty = true := bs_isEmpty []
  go_enter Try.func5, Try.ntmps5
  go_wp2_with fail
  go_loopw [7, 33] (fun b i wr => ∃ k : Nat, k ≤ l.length ∧ i = .int .i64 k ∧ b = .bool true ∧ Below w.heap.size w wr) (fun _ i _ => l.length - (intOf i).toNat)
  case atStart => exact ⟨0, by omega, rfl, rfl, (Below.refl _ _).alloc (Nat.le_refl _) _⟩
  case round =>
    obtain ⟨k, hk, rfl, rfl, hb⟩ := hrel
    by_cases hlt : k < l.length
    · obtain ⟨b, off, rfl, hbb, hcell⟩ := (hrd.later hb).at k hlt
      obtain ⟨n, hn⟩ : ∃ n, n = l[k] := ⟨_, rfl⟩
      rw [← hn] at hcell
      replace hcell : wr.cell? ⟨b, off + k, none⟩ = some (.int .i64 n) := hcell
      clear hn
      go_wp2
      go_roundw
      case rel => exact ⟨k + 1, by omega, by go_num, rfl, hb⟩
      case measure => simp [intOf]; omega
    · go_wp2_with fail
      refine (key_any t l _ _ (by omega) hi (hrd.later hb)).mono ?_
      rintro e w2 ⟨rfl, hb2⟩
      rw [hkf.out]
      go_wp2_with fail
      refine (lives09_any _).mono ?_
      rintro e w3 ⟨rfl, hb3⟩
      go_wp2
      go_ret
      exact ⟨rfl, (hb.trans (hb2.mono hb.size)).trans (hb3.mono (hb.trans (hb2.mono hb.size)).size)⟩

set_option maxHeartbeats 2000000 in
set_option maxRecDepth 100000 in
theorem back_bad2 (t : Int) (l : List Int) (v : Value) (a0 a1 a2 a3 : Int) (w : World) (_ht : -9223372036854775808 ≤ t ∧ t < 9223372036854775808) (hi : I64s l) (hrd : Rd w intE 1 v l) (hl : ¬ 50 < l.length)
    (hbad : 255 < t) :
    Calls Try.prog 5 #[.int .i64 t, v, .agg #[.int .u64 a0, .int .u64 a1, .int .u64 a2, .int .u64 a3]] w (Ret w (.bool true)) := by
  have hlen := hrd.len
  obtain ⟨ad, cap, rfl, hc1, hc2⟩ := hrd.shape
  have hdl : decide (50 < (l.length : Int)) = false := by simp; omega
  have hkf := Lib.hid (keyF_bad t l (.inr hbad))
  have hemp : (bs ([] : List UInt8)).toList.isEmpty = true := bs_isEmpty []
  go_enter Try.func5, Try.ntmps5
  go_wp2_with fail
  go_loopw [7, 33] (fun b i wr => ∃ k : Nat, k ≤ l.length ∧ i = .int .i64 k ∧ b = .bool true ∧ Below w.heap.size w wr) (fun _ i _ => l.length - (intOf i).toNat)
  case atStart => exact ⟨0, by omega, rfl, rfl, (Below.refl _ _).alloc (Nat.le_refl _) _⟩
  case round =>
    obtain ⟨k, hk, rfl, rfl, hb⟩ := hrel
    by_cases hlt : k < l.length
    · obtain ⟨b, off, rfl, hbb, hcell⟩ := (hrd.later hb).at k hlt
      obtain ⟨n, hn⟩ : ∃ n, n = l[k] := ⟨_, rfl⟩
      rw [← hn] at hcell
      replace hcell : wr.cell? ⟨b, off + k, none⟩ = some (.int .i64 n) := hcell
      clear hn
      go_wp2
      go_roundw
      case rel => exact ⟨k + 1, by omega, by go_num, rfl, hb⟩
      case measure => simp [intOf]; omega
    · go_wp2_with fail
      refine (key_any t l _ _ (by omega) hi (hrd.later hb)).mono ?_
      rintro e w2 ⟨rfl, hb2⟩
      rw [hkf.out]
      go_wp2_with fail
      refine (lives09_any _).mono ?_
      rintro e w3 ⟨rfl, hb3⟩
      go_wp2
      go_ret
      exact ⟨rfl, (hb.trans (hb2.mono hb.size)).trans (hb3.mono (hb.trans (hb2.mono hb.size)).size)⟩

set_option maxHeartbeats 4000000 in
set_option maxRecDepth 100000 in
theorem back_good (t : Int) (l : List Int) (v : Value) (a0 a1 a2 a3 : Int) (w : World) (_ht : -9223372036854775808 ≤ t ∧ t < 9223372036854775808) (hi : I64s l) (hrd : Rd w intE 1 v l) (hl : ¬ 50 < l.length)
    (ht1 : 1 ≤ t) (ht2 : t ≤ 255) (h0 : 0 ≤ a0 ∧ a0 < 18446744073709551616) (h1 : 0 ≤ a1 ∧ a1 < 18446744073709551616) (h2 : 0 ≤ a2 ∧ a2 < 18446744073709551616) (h3 : 0 ≤ a3 ∧ a3 < 18446744073709551616) :
    Calls Try.prog 5 #[.int .i64 t, v, .agg #[.int .u64 a0, .int .u64 a1, .int .u64 a2, .int .u64 a3]] w (Ret w (.bool true)) := by
  have hlen := hrd.len
  obtain ⟨ad, cap, rfl, hc1, hc2⟩ := hrd.shape
  have hdl : decide (50 < (l.length : Int)) = false := by simp; omega
  have hemp : (bs ([] : List UInt8)).toList.isEmpty = true := bs_isEmpty []
  go_enter Try.func5, Try.ntmps5
  go_wp2_with fail
  go_loopw [7, 33] (fun b i wr => ∃ k : Nat, k ≤ l.length ∧ i = .int .i64 k ∧ b = .bool (badTo t l k) ∧ Below w.heap.size w wr ∧ wr.heap[w.heap.size]? = some (.cells #[.int .u64 a0, .int .u64 a1, .int .u64 a2, .int .u64 a3] 34 (0, 0))) (fun _ i _ => l.length - (intOf i).toNat)
  case atStart => exact ⟨0, by omega, rfl, by rw [badTo_zero], (Below.refl _ _).alloc (Nat.le_refl _) _, heap_alloc_new _ _⟩
  case round =>
    obtain ⟨k, hk, rfl, rfl, hb, hpar⟩ := hrel
    by_cases hlt : k < l.length
    · obtain ⟨b, off, rfl, hbb, hcell⟩ := (hrd.later hb).at k hlt
      have hbs := badTo_succ t l k hlt
      obtain ⟨n, hn⟩ : ∃ n, n = l[k] := ⟨_, rfl⟩
      rw [← hn] at hcell hbs
      replace hcell : wr.cell? ⟨b, off + k, none⟩ = some (.int .i64 n) := hcell
      have HBS := Lib.hid hbs
      clear hn hbs
      by_cases hbk : badTo t l k = true
      · rw [hbk]
        have hx : Hid (badTo t l (k + 1) = true) := by unfold Hid; rw [HBS.out, hbk]; rfl
        clear hbk
        go_wp2
        go_roundw
        case rel => exact ⟨k + 1, by omega, by go_num, by rw [hx.out], hb, hpar⟩
        case measure => simp [intOf]; omega
      · simp only [Bool.not_eq_true] at hbk
        rw [hbk]
        have hx : Hid (badTo t l (k + 1) = decide (n < 0)) := by unfold Hid; rw [HBS.out, hbk]; rfl
        clear hbk
        go_wp2
        all_goals
          go_roundw
          case rel => exact ⟨k + 1, by omega, by go_num, by rw [hx.out], hb, hpar⟩
          case measure => simp [intOf]; omega
    · by_cases hbk : badTo t l k = true
      · have hkf := Lib.hid (badTo_yes (by omega) hbk)
        rw [hbk]
        clear hbk
        go_wp2_with fail
        refine (key_any t l _ _ (by omega) hi (hrd.later hb)).mono ?_
        rintro e w2 ⟨rfl, hb2⟩
        rw [hkf.out]
        go_wp2_with fail
        refine (lives09_any _).mono ?_
        rintro e w3 ⟨rfl, hb3⟩
        go_wp2
        go_ret
        exact ⟨rfl, (hb.trans (hb2.mono hb.size)).trans (hb3.mono (hb.trans (hb2.mono hb.size)).size)⟩
      · simp only [Bool.not_eq_true] at hbk
        have hpos := Lib.hid (badTo_no (by omega) hbk).2.2
        rw [hbk]
        clear hbk
        have hpk := Lib.hid (parseR_key ht1 ht2 hpos.out hi)
        go_wp2_with fail
        refine (key_any t l _ _ (by omega) hi (hrd.later hb)).mono ?_
        rintro e w2 ⟨rfl, hb2⟩
        replace hpar := (hb2.block _ (Array.getElem?_eq_some_iff.1 hpar).1).trans hpar
        replace hb := hb.trans (hb2.mono hb.size)
        clear hb2
        go_wp2_with fail
        refine (parse_any _ _ ?_).mono ?_
        · rw [bs_size]; have := keyTo_len t l l.length; unfold keyF; split
          · simp
          · simp only [List.length_cons, flat_length]; omega
        intro e w3 h
        obtain ⟨v1, rfl, hr1, hb2⟩ := pgives_of_says h
        clear h
        rw [show (bs (keyF t l)).data.toList = keyF t l from rfl, hpk.out] at hr1
        rw [show (bs (keyF t l)).data.toList = keyF t l from rfl, hpk.out]
        replace hpar := (hb2.block _ (Array.getElem?_eq_some_iff.1 hpar).1).trans hpar
        replace hb := hb.trans (hb2.mono hb.size)
        clear hb2
        go_wp2_with fail
        go_loopw [14, 60] (fun s i wr => ∃ k : Nat, k ≤ l.length ∧ i = .int .i64 k ∧ s = .string (bs (flatTo l k)) ∧ Rd wr intE 1 v1 l ∧ Below w.heap.size w wr ∧ wr.heap[w.heap.size]? = some (.cells #[.int .u64 a0, .int .u64 a1, .int .u64 a2, .int .u64 a3] 34 (0, 0))) (fun _ i _ => l.length - (intOf i).toNat)
        case atStart => exact ⟨0, by omega, rfl, rfl, hr1, hb, hpar⟩
        case round =>
          clear hr1 hb hpar
          obtain ⟨k, hk, rfl, rfl, hr1, hb, hpar⟩ := hrel
          by_cases hlt : k < l.length
          · obtain ⟨b, off, rfl, hbb, hcell⟩ := (hrd.later hb).at k hlt
            have hfa := flatTo_add l k hlt
            obtain ⟨n, hn⟩ : ∃ n, n = l[k] := ⟨_, rfl⟩
            rw [← hn] at hcell hfa
            replace hcell : _ = some (Value.int .i64 n) := hcell
            have hnp := hpos.out n (by rw [hn]; exact List.getElem_mem hlt)
            have hnm := hi n (by rw [hn]; exact List.getElem_mem hlt)
            have HFA := Lib.hid hfa
            have hsz := flatTo_len l k
            have hsn : (bs (numL n)).size = 8 := by rw [bs_size, numL_length]
            clear hn hfa
            go_wp2_with fail
            refine (num_pos n _ hnp hnm.2).mono ?_
            rintro e x4 ⟨rfl, hb2⟩
            replace hpar := (hb2.block _ (Array.getElem?_eq_some_iff.1 hpar).1).trans hpar
            replace hr1 := hr1.later hb2
            replace hb := hb.trans (hb2.mono hb.size)
            clear hb2 hcell
            go_wp2
            go_roundw
            case rel => exact ⟨k + 1, by omega, by go_num, by rw [HFA.out], hr1, hb, hpar⟩
            case measure => simp [intOf]; omega
          · obtain rfl : k = l.length := by omega
            have hft : Hid (flatTo l l.length = l.flatMap numL) := by unfold Hid flatTo; rw [List.take_length]
            rw [hft.out]
            have hnf := Lib.hid (numsR_flat hpos.out hi)
            go_wp2_with fail
            refine (nums_any _ _ (by rw [bs_size, flat_length]; omega)).mono ?_
            intro e x4 h
            obtain ⟨v2, rfl, hr2, hb2⟩ := gives_of_says h
            clear h
            rw [show (bs (l.flatMap numL)).data.toList = l.flatMap numL from rfl, hnf.out] at hr2
            rw [show (bs (l.flatMap numL)).data.toList = l.flatMap numL from rfl, hnf.out]
            replace hpar := (hb2.block _ (Array.getElem?_eq_some_iff.1 hpar).1).trans hpar
            replace hr1 := hr1.later hb2
            replace hb := hb.trans (hb2.mono hb.size)
            clear hb2
            have c0 : x4.cell? ⟨w.heap.size, 0, none⟩ = some (.int .u64 a0) := Lib.cell_of_heap hpar 0
            have c1 : x4.cell? ⟨w.heap.size, 1, none⟩ = some (.int .u64 a1) := Lib.cell_of_heap hpar 1
            have c2 : x4.cell? ⟨w.heap.size, 2, none⟩ = some (.int .u64 a2) := Lib.cell_of_heap hpar 2
            have c3 : x4.cell? ⟨w.heap.size, 3, none⟩ = some (.int .u64 a3) := Lib.cell_of_heap hpar 3
            go_wp2_with fail
            refine (amount_any a0 a1 a2 a3 _ h0.1 h0.2 h1.1 h1.2 h2.1 h2.2 h3.1 h3.2).mono ?_
            rintro e w5 ⟨rfl, hb2⟩
            clear c0 c1 c2 c3
            replace hpar := (hb2.block _ (Array.getElem?_eq_some_iff.1 hpar).1).trans hpar
            replace hr1 := hr1.later hb2
            replace hr2 := hr2.later hb2
            replace hb := hb.trans (hb2.mono hb.size)
            clear hb2
            have hul : Hid ((ubytes (w4 a0 a1 a2 a3)).length = 32) := ubytes_length _
            go_wp2_with fail
            refine (toAmount_any _ _ (by rw [bs_size, ubytes_length]; omega)).mono ?_
            rintro e w6 ⟨rfl, hb2⟩
            rw [show (bs (ubytes (w4 a0 a1 a2 a3))).data.toList = ubytes (w4 a0 a1 a2 a3) from rfl, uArr_ub h0 h1 h2 h3, bs_size, hul.out]
            replace hpar := (hb2.block _ (Array.getElem?_eq_some_iff.1 hpar).1).trans hpar
            replace hr1 := hr1.later hb2
            replace hr2 := hr2.later hb2
            replace hb := hb.trans (hb2.mono hb.size)
            clear hb2
            go_wp2_with fail
            refine (ints_any _ _ _ _ _ (hr1.alloc _) ((hrd.later hb).alloc _)).mono ?_
            rintro e w7 ⟨rfl, hb2⟩
            obtain ⟨hb2, hB, hB2⟩ := boxed1 hb2
            replace hpar := (hb2.block _ (Array.getElem?_eq_some_iff.1 hpar).1).trans hpar
            replace hr2 := hr2.later hb2
            replace hb := hb.trans (hb2.mono hb.size)
            clear hb2 hr1
            go_wp2_with fail
            refine (ints_any _ _ _ _ _ hr2 (hrd.later hb)).mono ?_
            rintro e w8 ⟨rfl, hb2⟩
            replace hpar := (hb2.block _ (Array.getElem?_eq_some_iff.1 hpar).1).trans hpar
            replace hB := (hb2.block _ hB2).trans hB
            replace hb := hb.trans (hb2.mono hb.size)
            clear hb2 hr2
            have c0 : w8.cell? ⟨w.heap.size, 0, none⟩ = some (.int .u64 a0) := Lib.cell_of_heap hpar 0
            have c1 : w8.cell? ⟨w.heap.size, 1, none⟩ = some (.int .u64 a1) := Lib.cell_of_heap hpar 1
            have c2 : w8.cell? ⟨w.heap.size, 2, none⟩ = some (.int .u64 a2) := Lib.cell_of_heap hpar 2
            have c3 : w8.cell? ⟨w.heap.size, 3, none⟩ = some (.int .u64 a3) := Lib.cell_of_heap hpar 3
            have d0 : w8.cell? ⟨w6.heap.size, 0, none⟩ = some (.int .u64 a0) := Lib.cell_of_heap hB 0
            have d1 : w8.cell? ⟨w6.heap.size, 1, none⟩ = some (.int .u64 a1) := Lib.cell_of_heap hB 1
            have d2 : w8.cell? ⟨w6.heap.size, 2, none⟩ = some (.int .u64 a2) := Lib.cell_of_heap hB 2
            have d3 : w8.cell? ⟨w6.heap.size, 3, none⟩ = some (.int .u64 a3) := Lib.cell_of_heap hB 3
            go_wp2_with fail
            refine (lives09_any _).mono ?_
            rintro e w9 ⟨rfl, hb2⟩
            replace hb := hb.trans (hb2.mono hb.size)
            clear hb2 c0 c1 c2 c3 d0 d1 d2 d3 hpar hB
            go_wp2
            go_ret
            exact ⟨rfl, hb⟩

theorem law_back (t : Int) (l : List Int) (v : Value) (a0 a1 a2 a3 : Int) (w : World) (ht : -9223372036854775808 ≤ t ∧ t < 9223372036854775808) (hi : I64s l) (hrd : Rd w intE 1 v l)
    (h0 : 0 ≤ a0 ∧ a0 < 18446744073709551616) (h1 : 0 ≤ a1 ∧ a1 < 18446744073709551616) (h2 : 0 ≤ a2 ∧ a2 < 18446744073709551616) (h3 : 0 ≤ a3 ∧ a3 < 18446744073709551616) :
    Calls Try.prog 5 #[.int .i64 t, v, .agg #[.int .u64 a0, .int .u64 a1, .int .u64 a2, .int .u64 a3]] w (Ret w (.bool true)) := by
  by_cases hl : 50 < l.length
  · exact back_long t l v a0 a1 a2 a3 w hrd hl
  by_cases hb1 : t < 1
  · exact back_bad1 t l v a0 a1 a2 a3 w ht hi hrd hl hb1
  by_cases hb2 : 255 < t
  · exact back_bad2 t l v a0 a1 a2 a3 w ht hi hrd hl hb2
  exact back_good t l v a0 a1 a2 a3 w ht hi hrd hl (by omega) (by omega) h0 h1 h2 h3
end Go.Proofs.Ytbfdjjaonjepnaa
