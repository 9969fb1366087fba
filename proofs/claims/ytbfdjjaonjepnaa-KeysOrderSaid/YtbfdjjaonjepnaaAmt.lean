/- u256.FromBytes, Bytes and their references, keys.Amount, ToAmount: their contracts. -/
import Derived.Test.YtbfdjjaonjepnaaKeysD
import Derived.Test.YtbfdjjaonjepnaaAmtP
namespace Go.Proofs.Ytbfdjjaonjepnaa
open Go.RowKit

/-- A U as a value. -/
def uV (a b c d : Int) : Value := .agg #[.int .u64 a, .int .u64 b, .int .u64 c, .int .u64 d]
/-- The U of 32 bytes. -/
def uOf (l : List UInt8) : Value := uV (wd l 0) (wd l 1) (wd l 2) (wd l 3)
def uCells (l : List UInt8) (n : Nat) : Array Value := #[.int .u64 (pw l n 0), .int .u64 (pw l n 1), .int .u64 (pw l n 2), .int .u64 (pw l n 3)]
def u0 : Array Value := #[.int .u64 0, .int .u64 0, .int .u64 0, .int .u64 0]
theorem uCells_zero (l : List UInt8) : uCells l 0 = u0 := by simp [uCells, u0, pw_zero]
theorem uCells_all (l : List UInt8) : uCells l 32 = #[.int .u64 (wd l 0), .int .u64 (wd l 1), .int .u64 (wd l 2), .int .u64 (wd l 3)] := by
  simp [uCells, pw_all]

theorem or_fill (p s : Nat) (x : UInt8) (hp : p < 18446744073709551616) (hs : s ≤ 7) (hm : p % 256 ^ (s + 1) = 0) :
    bits BinOp.or IntKind.u64 (p : Int) (IntKind.u64.wrap (IntKind.u64.wrap (x.toNat : Int) * 2 ^ (8 * s))) = ((p + x.toNat * 256 ^ s : Nat) : Int) := by
  have hx := x.toNat_lt
  have h1 : IntKind.u64.wrap (x.toNat : Int) = (x.toNat : Int) := by rw [IntKind.wrap_u64]; omega
  have h2 : ((2 : Int) ^ (8 * s)) = ((256 ^ s : Nat) : Int) := by rw [Int.pow_mul]; simp
  have h3 : x.toNat * 256 ^ s < 256 ^ (s + 1) := by
    rw [Nat.pow_succ, Nat.mul_comm]; exact Nat.mul_lt_mul_of_pos_left hx (Nat.pow_pos (by omega))
  have h4 : 256 ^ (s + 1) ≤ 256 ^ 8 := Nat.pow_le_pow_right (by omega) (by omega)
  have h5 : 256 ^ 8 = 18446744073709551616 := by decide
  rw [h1, h2, ← Int.natCast_mul, IntKind.wrap_u64]
  have h6 : (((x.toNat * 256 ^ s : Nat) : Int)) % 18446744073709551616 = ((x.toNat * 256 ^ s : Nat) : Int) := by omega
  rw [h6, u64_or_nat _ _ hp (by omega)]
  have h7 : 256 ^ (s + 1) = 2 ^ (8 * (s + 1)) := by rw [Nat.pow_mul]
  rw [h7] at hm h3
  rw [nat_join (8 * (s + 1)) p _ hm h3]

theorem Try.sizeU : (Try.prog.info? 34).map (·.size) = some 4 := by kernel_rfl
theorem one_u64 (a b c d : Int) : (#[Value.int .u64 a, .int .u64 b, .int .u64 c, .int .u64 d].all (·.oneCell')) = true := by simp [Value.oneCell']
theorem Try.eqGuardU : Try.prog.eqGuardType Try.prog.depth 34 = false := by kernel_rfl
@[go_sem] theorem Try.guardU (op : BinOp) (x y : Operand) (xs ys : Array Value) (w : World) : (eqGuard op 34 x y (.agg xs) (.agg ys)).run Try.prog w = .ok () w := run_eqGuard_agg w op _ x y xs ys Try.eqGuardU
theorem Try.infoU64 : (Try.prog.info? 32).map (fun i => (i.zero, i.size, i.bytes)) = some (some (.int .u64 0), 1, 8) := by kernel_rfl
@[go_sem] theorem Try.eqU (a b c d a' b' c' d' : Int) (w : World) : (Op.equalIn 10000 34 (.agg #[.int .u64 a, .int .u64 b, .int .u64 c, .int .u64 d]) (.agg #[.int .u64 a', .int .u64 b', .int .u64 c', .int .u64 d'])).run Try.prog w = .ok (decide ([a, b, c, d] = [a', b', c', d'])) w := by
  obtain ⟨i, hi, _, hs, _⟩ := info_parts Try.infoU64
  exact run_equalIn_arr w 9998 _ _ .u64 4 Try.underlying34 Try.underlying32 i hi hs [a, b, c, d] [a', b', c', d'] rfl rfl
theorem val_u64 {a b : Int} (h : a = b) : Value.int .u64 a = Value.int .u64 b := by rw [h]
theorem uCells_set0 (l : List UInt8) (n : Nat) (x : UInt8) (h1 : 24 ≤ n) (h2 : n < 32) (h : n < l.length) (hx : x = l[n]'h) :
    (uCells l n).setIfInBounds 0 (.int .u64 (bits BinOp.or IntKind.u64 (pw l n 0 : Int) (IntKind.u64.wrap (IntKind.u64.wrap (x.toNat : Int) * 2 ^ (8 * (31 - n)))))) = uCells l (n + 1) := by
  have hm := pw_mod l n 3 0 (by omega) (by omega) (by omega)
  rw [show 8 + 8 * 3 - n = 31 - n + 1 by omega] at hm
  rw [or_fill _ _ _ (pw_lt _ _ _) (by omega) hm]
  have e := pw_next l n 3 0 (by omega) (by omega) (by omega) h
  rw [show 7 + 8 * 3 - n = 31 - n by omega, ← hx] at e
  rw [← e]
  simp [uCells, pw_same l n 3 1 (by omega) (by omega) (by omega), pw_same l n 3 2 (by omega) (by omega) (by omega), pw_same l n 3 3 (by omega) (by omega) (by omega)]
theorem uCells_set1 (l : List UInt8) (n : Nat) (x : UInt8) (h1 : 16 ≤ n) (h2 : n < 24) (h : n < l.length) (hx : x = l[n]'h) :
    (uCells l n).setIfInBounds 1 (.int .u64 (bits BinOp.or IntKind.u64 (pw l n 1 : Int) (IntKind.u64.wrap (IntKind.u64.wrap (x.toNat : Int) * 2 ^ (8 * (23 - n)))))) = uCells l (n + 1) := by
  have hm := pw_mod l n 2 1 (by omega) (by omega) (by omega)
  rw [show 8 + 8 * 2 - n = 23 - n + 1 by omega] at hm
  rw [or_fill _ _ _ (pw_lt _ _ _) (by omega) hm]
  have e := pw_next l n 2 1 (by omega) (by omega) (by omega) h
  rw [show 7 + 8 * 2 - n = 23 - n by omega, ← hx] at e
  rw [← e]
  simp [uCells, pw_same l n 2 0 (by omega) (by omega) (by omega), pw_same l n 2 2 (by omega) (by omega) (by omega), pw_same l n 2 3 (by omega) (by omega) (by omega)]
theorem uCells_set2 (l : List UInt8) (n : Nat) (x : UInt8) (h1 : 8 ≤ n) (h2 : n < 16) (h : n < l.length) (hx : x = l[n]'h) :
    (uCells l n).setIfInBounds 2 (.int .u64 (bits BinOp.or IntKind.u64 (pw l n 2 : Int) (IntKind.u64.wrap (IntKind.u64.wrap (x.toNat : Int) * 2 ^ (8 * (15 - n)))))) = uCells l (n + 1) := by
  have hm := pw_mod l n 1 2 (by omega) (by omega) (by omega)
  rw [show 8 + 8 * 1 - n = 15 - n + 1 by omega] at hm
  rw [or_fill _ _ _ (pw_lt _ _ _) (by omega) hm]
  have e := pw_next l n 1 2 (by omega) (by omega) (by omega) h
  rw [show 7 + 8 * 1 - n = 15 - n by omega, ← hx] at e
  rw [← e]
  simp [uCells, pw_same l n 1 0 (by omega) (by omega) (by omega), pw_same l n 1 1 (by omega) (by omega) (by omega), pw_same l n 1 3 (by omega) (by omega) (by omega)]
theorem uCells_set3 (l : List UInt8) (n : Nat) (x : UInt8) (h1 : 0 ≤ n) (h2 : n < 8) (h : n < l.length) (hx : x = l[n]'h) :
    (uCells l n).setIfInBounds 3 (.int .u64 (bits BinOp.or IntKind.u64 (pw l n 3 : Int) (IntKind.u64.wrap (IntKind.u64.wrap (x.toNat : Int) * 2 ^ (8 * (7 - n)))))) = uCells l (n + 1) := by
  have hm := pw_mod l n 0 3 (by omega) (by omega) (by omega)
  rw [show 8 + 8 * 0 - n = 7 - n + 1 by omega] at hm
  rw [or_fill _ _ _ (pw_lt _ _ _) (by omega) hm]
  have e := pw_next l n 0 3 (by omega) (by omega) (by omega) h
  rw [show 7 + 8 * 0 - n = 7 - n by omega, ← hx] at e
  rw [← e]
  simp [uCells, pw_same l n 0 0 (by omega) (by omega) (by omega), pw_same l n 0 1 (by omega) (by omega) (by omega), pw_same l n 0 2 (by omega) (by omega) (by omega)]

set_option maxHeartbeats 2000000 in
theorem fromBytes_yes (l : List UInt8) (v : Value) (w : World) (hl : l.length = 32) (hv : Rd w u8E 1 v l) :
    Calls Try.prog 74 #[v] w (Ret w (.tuple #[uOf l, .bool true])) := by
  obtain ⟨ad, cap, rfl, hc1, hc2⟩ := hv.shape
  rw [hl]; rw [hl] at hv
  have HL := Lib.hid hl; clear hl
  go_enter Try.func74, Try.ntmps74
  go_wp2
  go_loopw [14] (fun i wr => ∃ n : Nat, n ≤ 32 ∧ i = .int .i64 n ∧ wr.heap[w.heap.size + 1]? = some (.cells (uCells l n) 34 (0, 0)) ∧ wr.heap[w.heap.size]? = some (.cells u0 34 (0, 0)) ∧ Below w.heap.size w wr) (fun i _ => 32 - (intOf i).toNat)
  case atStart => exact ⟨0, by omega, rfl, by rw [uCells_zero]; exact heap_alloc2_new _ _ _, heap_alloc2_old _ _ _, ((Below.refl _ _).alloc (Nat.le_refl _) _).alloc (by simp) _⟩
  case round =>
    obtain ⟨n, hn, rfl, hblk, hres, hb⟩ := hrel
    by_cases hlt : n < 32
    · obtain ⟨b, off, rfl, hbb, hcell⟩ := (hv.later hb).at n (by rw [HL.out]; exact hlt)
      obtain ⟨x, hx⟩ : ∃ x, x = l[n]'(by rw [HL.out]; exact hlt) := ⟨_, rfl⟩
      rw [← hx] at hcell
      replace hcell : wr.cell? ⟨b, off + n, none⟩ = some (.int .u8 (x.toNat : Int)) := hcell
      have HX := Lib.hid hx; clear hx
      rcases (show n < 8 ∨ (8 ≤ n ∧ n < 16) ∨ (16 ≤ n ∧ n < 24) ∨ 24 ≤ n by omega) with hc | hc | hc | hc
      · have e1 : (31 - (n : Int)) / 8 = 3 := by omega
        have e2 : (31 - (n : Int)) % 8 = 7 - n := by omega
        have k1 := Lib.cell_of_heap hblk 3
        have k2 : wr.frozen? ⟨w.heap.size + 1, 3, none⟩ = false := Lib.frozen_of_heap hblk 3
        replace k1 : wr.cell? ⟨w.heap.size + 1, 3, none⟩ = some (.int .u64 (pw l n 3)) := k1
        go_wp2
        go_region
        go_wp2
        go_roundw
        case rel =>
          refine ⟨n + 1, by omega, by go_num, ?_, ?_, ?_⟩
          · rw [← uCells_set3 l n x (by omega) (by omega) (by rw [HL.out]; exact hlt) HX.out]
            exact heap_setCell_same _ _ _ _ _ _ hblk
          · exact (heap_setCell_other _ _ _ _ (by simp)).trans hres
          · exact Below.drew (hb.setCell (p := ⟨w.heap.size + 1, 3, none⟩) (by simp) _)
        case measure => simp [intOf]; omega
      · have e1 : (31 - (n : Int)) / 8 = 2 := by omega
        have e2 : (31 - (n : Int)) % 8 = 15 - n := by omega
        have k1 := Lib.cell_of_heap hblk 2
        have k2 : wr.frozen? ⟨w.heap.size + 1, 2, none⟩ = false := Lib.frozen_of_heap hblk 2
        replace k1 : wr.cell? ⟨w.heap.size + 1, 2, none⟩ = some (.int .u64 (pw l n 2)) := k1
        go_wp2
        go_region
        go_wp2
        go_roundw
        case rel =>
          refine ⟨n + 1, by omega, by go_num, ?_, ?_, ?_⟩
          · rw [← uCells_set2 l n x (by omega) (by omega) (by rw [HL.out]; exact hlt) HX.out]
            exact heap_setCell_same _ _ _ _ _ _ hblk
          · exact (heap_setCell_other _ _ _ _ (by simp)).trans hres
          · exact Below.drew (hb.setCell (p := ⟨w.heap.size + 1, 2, none⟩) (by simp) _)
        case measure => simp [intOf]; omega
      · have e1 : (31 - (n : Int)) / 8 = 1 := by omega
        have e2 : (31 - (n : Int)) % 8 = 23 - n := by omega
        have k1 := Lib.cell_of_heap hblk 1
        have k2 : wr.frozen? ⟨w.heap.size + 1, 1, none⟩ = false := Lib.frozen_of_heap hblk 1
        replace k1 : wr.cell? ⟨w.heap.size + 1, 1, none⟩ = some (.int .u64 (pw l n 1)) := k1
        go_wp2
        go_region
        go_wp2
        go_roundw
        case rel =>
          refine ⟨n + 1, by omega, by go_num, ?_, ?_, ?_⟩
          · rw [← uCells_set1 l n x (by omega) (by omega) (by rw [HL.out]; exact hlt) HX.out]
            exact heap_setCell_same _ _ _ _ _ _ hblk
          · exact (heap_setCell_other _ _ _ _ (by simp)).trans hres
          · exact Below.drew (hb.setCell (p := ⟨w.heap.size + 1, 1, none⟩) (by simp) _)
        case measure => simp [intOf]; omega
      · have e1 : (31 - (n : Int)) / 8 = 0 := by omega
        have e2 : (31 - (n : Int)) % 8 = 31 - n := by omega
        have k1 := Lib.cell_of_heap hblk 0
        have k2 : wr.frozen? ⟨w.heap.size + 1, 0, none⟩ = false := Lib.frozen_of_heap hblk 0
        replace k1 : wr.cell? ⟨w.heap.size + 1, 0, none⟩ = some (.int .u64 (pw l n 0)) := k1
        go_wp2
        go_region
        go_wp2
        go_roundw
        case rel =>
          refine ⟨n + 1, by omega, by go_num, ?_, ?_, ?_⟩
          · rw [← uCells_set0 l n x (by omega) (by omega) (by rw [HL.out]; exact hlt) HX.out]
            exact heap_setCell_same _ _ _ _ _ _ hblk
          · exact (heap_setCell_other _ _ _ _ (by simp)).trans hres
          · exact Below.drew (hb.setCell (p := ⟨w.heap.size + 1, 0, none⟩) (by simp) _)
        case measure => simp [intOf]; omega
    · obtain rfl : n = 32 := by omega
      rw [uCells_all] at hblk
      go_wp2_with (first | (refine wpList_load_row rfl _ _ rfl _ rfl _ _ _ _ hblk Try.underlying34 rfl Try.sizeU ?_) | (refine wpList_store_row (t := 34) (old := u0) rfl 34 (.tmp 2) _ rfl w.heap.size #[.int .u64 (wd l 0), .int .u64 (wd l 1), .int .u64 (wd l 2), .int .u64 (wd l 3)] rfl rfl hres Try.sizeU rfl (one_u64 _ _ _ _) ?_))
      refine bodyPost_ret (res_row_tmp rfl _ _ w.heap.size _ #[.int .u64 (wd l 0), .int .u64 (wd l 1), .int .u64 (wd l 2), .int .u64 (wd l 3)] _ _ rfl (setRow_heap _ _ _ _ _ _ hres) Try.underlying34 rfl Try.sizeU) rfl ⟨rfl, below_setRow hb (Nat.le_refl _) _⟩

set_option maxHeartbeats 1000000 in
theorem fromBytes_no (l : List UInt8) (v : Value) (w : World) (hl : l.length ≠ 32) (hv : Rd w u8E 1 v l) :
    Calls Try.prog 74 #[v] w (Ret w (.tuple #[.agg u0, .bool false])) := by
  obtain ⟨ad, cap, rfl, hc1, hc2⟩ := hv.shape
  have hne : ((l.length : Int) != 32) = true := by simp; omega
  go_enter Try.func74, Try.ntmps74
  go_wp2
  refine bodyPost_ret (res_row_tmp rfl _ _ w.heap.size _ u0 _ _ rfl (heap_alloc2_old _ _ _) Try.underlying34 rfl Try.sizeU) rfl ⟨rfl, ((Below.refl _ _).alloc (Nat.le_refl _) _).alloc (by simp) _⟩

set_option maxHeartbeats 2000000 in
theorem refFromBytes_yes (l : List UInt8) (v : Value) (w : World) (hl : l.length = 32) (hv : Rd w u8E 1 v l) :
    Calls Try.prog 75 #[v] w (Ret w (.tuple #[uOf l, .bool true])) := by
  obtain ⟨ad, cap, rfl, hc1, hc2⟩ := hv.shape
  rw [hl]; rw [hl] at hv
  have HL := Lib.hid hl; clear hl
  go_enter Try.func75, Try.ntmps75
  go_wp2
  go_loopw [14] (fun i wr => ∃ n : Nat, n ≤ 32 ∧ i = .int .i64 n ∧ wr.heap[w.heap.size + 1]? = some (.cells (uCells l n) 34 (0, 0)) ∧ wr.heap[w.heap.size]? = some (.cells u0 34 (0, 0)) ∧ Below w.heap.size w wr) (fun i _ => 32 - (intOf i).toNat)
  case atStart => exact ⟨0, by omega, rfl, by rw [uCells_zero]; exact heap_alloc2_new _ _ _, heap_alloc2_old _ _ _, ((Below.refl _ _).alloc (Nat.le_refl _) _).alloc (by simp) _⟩
  case round =>
    obtain ⟨n, hn, rfl, hblk, hres, hb⟩ := hrel
    by_cases hlt : n < 32
    · obtain ⟨b, off, rfl, hbb, hcell⟩ := (hv.later hb).at n (by rw [HL.out]; exact hlt)
      obtain ⟨x, hx⟩ : ∃ x, x = l[n]'(by rw [HL.out]; exact hlt) := ⟨_, rfl⟩
      rw [← hx] at hcell
      replace hcell : wr.cell? ⟨b, off + n, none⟩ = some (.int .u8 (x.toNat : Int)) := hcell
      have HX := Lib.hid hx; clear hx
      rcases (show n < 8 ∨ (8 ≤ n ∧ n < 16) ∨ (16 ≤ n ∧ n < 24) ∨ 24 ≤ n by omega) with hc | hc | hc | hc
      · have e1 : (31 - (n : Int)) / 8 = 3 := by omega
        have e2 : (31 - (n : Int)) % 8 = 7 - n := by omega
        have k1 := Lib.cell_of_heap hblk 3
        have k2 : wr.frozen? ⟨w.heap.size + 1, 3, none⟩ = false := Lib.frozen_of_heap hblk 3
        replace k1 : wr.cell? ⟨w.heap.size + 1, 3, none⟩ = some (.int .u64 (pw l n 3)) := k1
        go_wp2
        go_roundw
        case rel =>
          refine ⟨n + 1, by omega, by go_num, ?_, ?_, ?_⟩
          · rw [← uCells_set3 l n x (by omega) (by omega) (by rw [HL.out]; exact hlt) HX.out]
            exact heap_setCell_same _ _ _ _ _ _ hblk
          · exact (heap_setCell_other _ _ _ _ (by simp)).trans hres
          · exact (hb.setCell (p := ⟨w.heap.size + 1, 3, none⟩) (by simp) _)
        case measure => simp [intOf]; omega
      · have e1 : (31 - (n : Int)) / 8 = 2 := by omega
        have e2 : (31 - (n : Int)) % 8 = 15 - n := by omega
        have k1 := Lib.cell_of_heap hblk 2
        have k2 : wr.frozen? ⟨w.heap.size + 1, 2, none⟩ = false := Lib.frozen_of_heap hblk 2
        replace k1 : wr.cell? ⟨w.heap.size + 1, 2, none⟩ = some (.int .u64 (pw l n 2)) := k1
        go_wp2
        go_roundw
        case rel =>
          refine ⟨n + 1, by omega, by go_num, ?_, ?_, ?_⟩
          · rw [← uCells_set2 l n x (by omega) (by omega) (by rw [HL.out]; exact hlt) HX.out]
            exact heap_setCell_same _ _ _ _ _ _ hblk
          · exact (heap_setCell_other _ _ _ _ (by simp)).trans hres
          · exact (hb.setCell (p := ⟨w.heap.size + 1, 2, none⟩) (by simp) _)
        case measure => simp [intOf]; omega
      · have e1 : (31 - (n : Int)) / 8 = 1 := by omega
        have e2 : (31 - (n : Int)) % 8 = 23 - n := by omega
        have k1 := Lib.cell_of_heap hblk 1
        have k2 : wr.frozen? ⟨w.heap.size + 1, 1, none⟩ = false := Lib.frozen_of_heap hblk 1
        replace k1 : wr.cell? ⟨w.heap.size + 1, 1, none⟩ = some (.int .u64 (pw l n 1)) := k1
        go_wp2
        go_roundw
        case rel =>
          refine ⟨n + 1, by omega, by go_num, ?_, ?_, ?_⟩
          · rw [← uCells_set1 l n x (by omega) (by omega) (by rw [HL.out]; exact hlt) HX.out]
            exact heap_setCell_same _ _ _ _ _ _ hblk
          · exact (heap_setCell_other _ _ _ _ (by simp)).trans hres
          · exact (hb.setCell (p := ⟨w.heap.size + 1, 1, none⟩) (by simp) _)
        case measure => simp [intOf]; omega
      · have e1 : (31 - (n : Int)) / 8 = 0 := by omega
        have e2 : (31 - (n : Int)) % 8 = 31 - n := by omega
        have k1 := Lib.cell_of_heap hblk 0
        have k2 : wr.frozen? ⟨w.heap.size + 1, 0, none⟩ = false := Lib.frozen_of_heap hblk 0
        replace k1 : wr.cell? ⟨w.heap.size + 1, 0, none⟩ = some (.int .u64 (pw l n 0)) := k1
        go_wp2
        go_roundw
        case rel =>
          refine ⟨n + 1, by omega, by go_num, ?_, ?_, ?_⟩
          · rw [← uCells_set0 l n x (by omega) (by omega) (by rw [HL.out]; exact hlt) HX.out]
            exact heap_setCell_same _ _ _ _ _ _ hblk
          · exact (heap_setCell_other _ _ _ _ (by simp)).trans hres
          · exact (hb.setCell (p := ⟨w.heap.size + 1, 0, none⟩) (by simp) _)
        case measure => simp [intOf]; omega
    · obtain rfl : n = 32 := by omega
      rw [uCells_all] at hblk
      go_wp2_with (first | (refine wpList_load_row rfl _ _ rfl _ rfl _ _ _ _ hblk Try.underlying34 rfl Try.sizeU ?_) | (refine wpList_store_row (t := 34) (old := u0) rfl 34 (.tmp 2) _ rfl w.heap.size #[.int .u64 (wd l 0), .int .u64 (wd l 1), .int .u64 (wd l 2), .int .u64 (wd l 3)] rfl rfl hres Try.sizeU rfl (one_u64 _ _ _ _) ?_))
      refine bodyPost_ret (res_row_tmp rfl _ _ w.heap.size _ #[.int .u64 (wd l 0), .int .u64 (wd l 1), .int .u64 (wd l 2), .int .u64 (wd l 3)] _ _ rfl (setRow_heap _ _ _ _ _ _ hres) Try.underlying34 rfl Try.sizeU) rfl ⟨rfl, below_setRow hb (Nat.le_refl _) _⟩

set_option maxHeartbeats 1000000 in
theorem refFromBytes_no (l : List UInt8) (v : Value) (w : World) (hl : l.length ≠ 32) (hv : Rd w u8E 1 v l) :
    Calls Try.prog 75 #[v] w (Ret w (.tuple #[.agg u0, .bool false])) := by
  obtain ⟨ad, cap, rfl, hc1, hc2⟩ := hv.shape
  have hne : ((l.length : Int) != 32) = true := by simp; omega
  go_enter Try.func75, Try.ntmps75
  go_wp2
  refine bodyPost_ret (res_row_tmp rfl _ _ w.heap.size _ u0 _ _ rfl (heap_alloc2_old _ _ _) Try.underlying34 rfl Try.sizeU) rfl ⟨rfl, ((Below.refl _ _).alloc (Nat.le_refl _) _).alloc (by simp) _⟩
end Go.Proofs.Ytbfdjjaonjepnaa
