/- Of Un. No condition. -/
import Derived.Test.YtmclmccgghnglaaGreatLsUn
namespace Go.Proofs.YtmclmccgghnglaaGreat
open Go.RowKit

theorem Tryz.infoU64Z : (Tryz.prog.info? 53).map (fun i => (i.zero, i.size, i.bytes)) = some (some (.int .u64 0), 1, 8) := by kernel_rfl
theorem Tryz.eqUZ (a b c d a' b' c' d' : Int) (w : World) : (Op.equalIn 10000 55 (.agg #[.int .u64 a, .int .u64 b, .int .u64 c, .int .u64 d]) (.agg #[.int .u64 a', .int .u64 b', .int .u64 c', .int .u64 d'])).run Tryz.prog w = .ok (decide ([a, b, c, d] = [a', b', c', d'])) w := by
  obtain ⟨i, hi, _, hs, _⟩ := info_parts Tryz.infoU64Z
  exact run_equalIn_arr w 9998 _ _ .u64 4 Tryz.underlying55 Tryz.underlying53 i hi hs [a, b, c, d] [a', b', c', d'] rfl rfl
set_option maxHeartbeats 2000000 in
theorem fromBytes_yesZ (l : List UInt8) (v : Value) (w : World) (hl : l.length = 32) (hv : Rd w u8E 1 v l) :
    Calls Tryz.prog 254 #[v] w (Ret w (.tuple #[uOf l, .bool true])) := by
  obtain ⟨ad, cap, rfl, hc1, hc2⟩ := hv.shape
  rw [hl]; rw [hl] at hv
  have HL := Lib.hid hl; clear hl
  go_enter Tryz.func254, Tryz.ntmps254
  go_wp2
  go_loopw [14] (fun i wr => ∃ n : Nat, n ≤ 32 ∧ i = .int .i64 n ∧ wr.heap[w.heap.size + 1]? = some (.cells (uCells l n) 55 (0, 0)) ∧ wr.heap[w.heap.size]? = some (.cells u0 55 (0, 0)) ∧ Below w.heap.size w wr) (fun i _ => 32 - (intOf i).toNat)
  case atStart => exact ⟨0, by omega, rfl, by rw [uCells_zero]; exact heap_alloc2_new _ _ _, heap_alloc2_old _ _ _, ((Below.refl _ _).alloc (Nat.le_refl _) _).alloc (by simp) _⟩
  case round =>
    obtain ⟨n, hn, rfl, hblk, hres, hb⟩ := hrel
    by_cases hlt : n < 32
    · obtain ⟨b, off, rfl, hbb, hcell⟩ := (hv.later hb).at n (by rw [HL.out]; exact hlt)
      obtain ⟨x, hx⟩ : ∃ x, x = l[n]'(by rw [HL.out]; exact hlt) := ⟨_, rfl⟩
      rw [← hx] at hcell
      replace hcell : wr.cell? ⟨b, off + n, none⟩ = some (.int .u8 (x.toNat : Int)) := hcell
      have HX := Lib.hid hx; clear hx
      rcases (show n < 8 ∨ (8 ≤ n ∧ n < 16) ∨ (16 ≤ n ∧ n < 24) ∨ 24 ≤ n by omega) with hc | hc | hc | hc
      · have e1 : (31 - (n : Int)) / 8 = 3 := by omega
        have e2 : (31 - (n : Int)) % 8 = 7 - n := by omega
        have k1 := Lib.cell_of_heap hblk 3
        have k2 : wr.frozen? ⟨w.heap.size + 1, 3, none⟩ = false := Lib.frozen_of_heap hblk 3
        replace k1 : wr.cell? ⟨w.heap.size + 1, 3, none⟩ = some (.int .u64 (pw l n 3)) := k1
        go_wp2
        go_region
        go_wp2
        go_roundw
        case rel =>
          refine ⟨n + 1, by omega, by go_num, ?_, ?_, ?_⟩
          · rw [← uCells_set3 l n x (by omega) (by omega) (by rw [HL.out]; exact hlt) HX.out]
            exact heap_setCell_same _ _ _ _ _ _ hblk
          · exact (heap_setCell_other _ _ _ _ (by simp)).trans hres
          · exact Below.drew (hb.setCell (p := ⟨w.heap.size + 1, 3, none⟩) (by simp) _)
        case measure => simp [intOf]; omega
      · have e1 : (31 - (n : Int)) / 8 = 2 := by omega
        have e2 : (31 - (n : Int)) % 8 = 15 - n := by omega
        have k1 := Lib.cell_of_heap hblk 2
        have k2 : wr.frozen? ⟨w.heap.size + 1, 2, none⟩ = false := Lib.frozen_of_heap hblk 2
        replace k1 : wr.cell? ⟨w.heap.size + 1, 2, none⟩ = some (.int .u64 (pw l n 2)) := k1
        go_wp2
        go_region
        go_wp2
        go_roundw
        case rel =>
          refine ⟨n + 1, by omega, by go_num, ?_, ?_, ?_⟩
          · rw [← uCells_set2 l n x (by omega) (by omega) (by rw [HL.out]; exact hlt) HX.out]
            exact heap_setCell_same _ _ _ _ _ _ hblk
          · exact (heap_setCell_other _ _ _ _ (by simp)).trans hres
          · exact Below.drew (hb.setCell (p := ⟨w.heap.size + 1, 2, none⟩) (by simp) _)
        case measure => simp [intOf]; omega
      · have e1 : (31 - (n : Int)) / 8 = 1 := by omega
        have e2 : (31 - (n : Int)) % 8 = 23 - n := by omega
        have k1 := Lib.cell_of_heap hblk 1
        have k2 : wr.frozen? ⟨w.heap.size + 1, 1, none⟩ = false := Lib.frozen_of_heap hblk 1
        replace k1 : wr.cell? ⟨w.heap.size + 1, 1, none⟩ = some (.int .u64 (pw l n 1)) := k1
        go_wp2
        go_region
        go_wp2
        go_roundw
        case rel =>
          refine ⟨n + 1, by omega, by go_num, ?_, ?_, ?_⟩
          · rw [← uCells_set1 l n x (by omega) (by omega) (by rw [HL.out]; exact hlt) HX.out]
            exact heap_setCell_same _ _ _ _ _ _ hblk
          · exact (heap_setCell_other _ _ _ _ (by simp)).trans hres
          · exact Below.drew (hb.setCell (p := ⟨w.heap.size + 1, 1, none⟩) (by simp) _)
        case measure => simp [intOf]; omega
      · have e1 : (31 - (n : Int)) / 8 = 0 := by omega
        have e2 : (31 - (n : Int)) % 8 = 31 - n := by omega
        have k1 := Lib.cell_of_heap hblk 0
        have k2 : wr.frozen? ⟨w.heap.size + 1, 0, none⟩ = false := Lib.frozen_of_heap hblk 0
        replace k1 : wr.cell? ⟨w.heap.size + 1, 0, none⟩ = some (.int .u64 (pw l n 0)) := k1
        go_wp2
        go_region
        go_wp2
        go_roundw
        case rel =>
          refine ⟨n + 1, by omega, by go_num, ?_, ?_, ?_⟩
          · rw [← uCells_set0 l n x (by omega) (by omega) (by rw [HL.out]; exact hlt) HX.out]
            exact heap_setCell_same _ _ _ _ _ _ hblk
          · exact (heap_setCell_other _ _ _ _ (by simp)).trans hres
          · exact Below.drew (hb.setCell (p := ⟨w.heap.size + 1, 0, none⟩) (by simp) _)
        case measure => simp [intOf]; omega
    · obtain rfl : n = 32 := by omega
      rw [uCells_all] at hblk
      go_wp2_with (first | (refine wpList_load_row rfl _ _ rfl _ rfl _ _ _ _ hblk Tryz.underlying55 rfl Tryz.sizeU ?_) | (refine wpList_store_row (t := 55) (old := u0) rfl 55 (.tmp 2) _ rfl w.heap.size #[.int .u64 (wd l 0), .int .u64 (wd l 1), .int .u64 (wd l 2), .int .u64 (wd l 3)] rfl rfl hres Tryz.sizeU rfl (one_u64 _ _ _ _) ?_))
      refine bodyPost_ret (res_row_tmp rfl _ _ w.heap.size _ #[.int .u64 (wd l 0), .int .u64 (wd l 1), .int .u64 (wd l 2), .int .u64 (wd l 3)] _ _ rfl (setRow_heap _ _ _ _ _ _ hres) Tryz.underlying55 rfl Tryz.sizeU) rfl ⟨rfl, below_setRow hb (Nat.le_refl _) _⟩

set_option maxHeartbeats 1000000 in
theorem fromBytes_noZ (l : List UInt8) (v : Value) (w : World) (hl : l.length ≠ 32) (hv : Rd w u8E 1 v l) :
    Calls Tryz.prog 254 #[v] w (Ret w (.tuple #[.agg u0, .bool false])) := by
  obtain ⟨ad, cap, rfl, hc1, hc2⟩ := hv.shape
  have hne : ((l.length : Int) != 32) = true := by simp; omega
  go_enter Tryz.func254, Tryz.ntmps254
  go_wp2
  refine bodyPost_ret (res_row_tmp rfl _ _ w.heap.size _ u0 _ _ rfl (heap_alloc2_old _ _ _) Tryz.underlying55 rfl Tryz.sizeU) rfl ⟨rfl, ((Below.refl _ _).alloc (Nat.le_refl _) _).alloc (by simp) _⟩


theorem fromBytes_anyZ (l : List UInt8) (v : Value) (w : World) (hv : Rd w u8E 1 v l) :
    Calls Tryz.prog 254 #[v] w (Ret w (.tuple #[.agg (uArr l), .bool (decide (l.length = 32))])) := by
  by_cases h : l.length = 32
  · rw [uArr_yes h, decide_eq_true h]; exact fromBytes_yesZ l v w h hv
  · rw [uArr_no h, decide_eq_false h]; exact fromBytes_noZ l v w h hv
/-- '==' of two amounts. -/
theorem Tryz.eqUnZ {a b c d a' b' c' d' : Int} {n m : Nat} (h : UIs a b c d n) (h' : UIs a' b' c' d' m) (w : World) : (Op.equalIn 10000 55 (.agg #[.int .u64 a, .int .u64 b, .int .u64 c, .int .u64 d]) (.agg #[.int .u64 a', .int .u64 b', .int .u64 c', .int .u64 d'])).run Tryz.prog w = .ok (decide (n = m)) w := by
  rw [Tryz.eqUZ, h.eq h']
end Go.Proofs.YtmclmccgghnglaaGreat
