/- u256.Bytes, keys.Amount, ToAmount and its reference: their contracts. -/
import Derived.Test.YtbfdjjaonjepnaaAmt
namespace Go.Proofs.Ytbfdjjaonjepnaa
open Go.RowKit

/-- Byte i (the greatest first) of four words. -/
def ub (a : Nat → Int) (i : Nat) : UInt8 := UInt8.ofNat (a (3 - i / 8) / 256 ^ (7 - i % 8) % 256).toNat
/-- The 32 bytes of four words. -/
def ubytes (a : Nat → Int) : List UInt8 := (List.range 32).map (ub a)
theorem ubytes_length (a : Nat → Int) : (ubytes a).length = 32 := by simp [ubytes]
def ucell (a : Nat → Int) (n i : Nat) : Value := if i < n then byteV (ub a i) else .int .u8 0
def ucells (a : Nat → Int) (n : Nat) : Array Value := ((List.range 32).map (ucell a n)).toArray
theorem ucells_set (a : Nat → Int) (n : Nat) (v : Value) (hv : v = byteV (ub a n)) : (ucells a n).setIfInBounds n v = ucells a (n + 1) := by
  apply Array.ext
  · simp [ucells]
  · intro i h1 h2
    rw [Array.getElem_setIfInBounds (by simpa [ucells] using h1)]
    simp only [ucells, List.getElem_toArray, List.getElem_map, List.getElem_range, ucell]
    by_cases h : n = i
    · subst h; simp [hv]
    · rw [if_neg h]
      by_cases h3 : i < n
      · rw [if_pos h3, if_pos (by omega)]
      · rw [if_neg h3, if_neg (by omega)]
theorem ub_val (a : Nat → Int) (n c j : Nat) (h1 : 8 * c ≤ n) (h2 : n < 8 * c + 8) (hj : 3 - c = j) : byteV (ub a n) = .int .u8 (a j / 2 ^ (8 * (7 + 8 * c - n)) % 256) := by
  unfold ub
  rw [byteV_of _ (Int.emod_nonneg _ (by decide)) (Int.emod_lt_of_pos _ (by decide)), pow256, show n / 8 = c by omega, hj, show 7 - n % 8 = 7 + 8 * c - n by omega]

theorem ucells_zero (a : Nat → Int) : ucells a 0 = zrow (.int .u8 0) 32 := by
  simp [ucells, zrow, ucell, List.range_succ, List.replicate]
theorem ucells_at {a : Nat → Int} {n i g : Nat} {w : World} {e : TypeId} (h : w.heap[g]? = some (.cells (ucells a n) e (0, 0))) (hi : i < 32) : w.cell? ⟨g, i, none⟩ = some (ucell a n i) := by
  rw [Lib.cell_of_heap h]; simp [ucells, hi]
theorem ucells_own {a : Nat → Int} {g B : Nat} {w : World} {e : TypeId} (h : w.heap[g]? = some (.cells (ucells a 32) e (0, 0))) (hB : B ≤ g := by simp) : Own w B e u8E 1 (.slice (some ⟨g, 0, none⟩) 32 32) (ubytes a) := by
  have hl := ubytes_length a
  have hf : (ubytes a).flatMap u8E = (ucells a 32).toList := by
    have h1 : ∀ l : List UInt8, l.flatMap u8E = l.map byteV := by
      intro l; induction l with
      | nil => rfl
      | cons x l ih => rw [List.flatMap_cons, ih]; rfl
    rw [h1]
    simp only [ubytes, ucells, List.map_map]
    apply List.map_congr_left
    intro x hx
    simp [ucell, List.mem_range.1 hx]
  refine ⟨by rw [flatMap_len u8E 1 (fun _ => rfl)], .inr ⟨g, 32, ucells a 32, by rw [hl], hB, h, by omega, by unfold maxLen; omega, by simp [ucells], ?_⟩⟩
  rw [hf, List.take_of_length_le (by simp [ucells, hl])]
/-- Four words as a function. -/
def w4 (a b c d : Int) (j : Nat) : Int := match j with | 0 => a | 1 => b | 2 => c | _ => d

set_option maxHeartbeats 2000000 in
set_option maxRecDepth 100000 in
theorem bytes_any (a0 a1 a2 a3 : Int) (w : World) (_h0 : 0 ≤ a0) (_h0' : a0 < 18446744073709551616) (_h1 : 0 ≤ a1) (_h1' : a1 < 18446744073709551616) (_h2 : 0 ≤ a2) (_h2' : a2 < 18446744073709551616) (_h3 : 0 ≤ a3) (_h3' : a3 < 18446744073709551616) :
    Calls Try.prog 76 #[uV a0 a1 a2 a3] w fun e w' => ∃ v, e = .returned v ∧ Own w' w.heap.size 5 u8E 1 v (ubytes (w4 a0 a1 a2 a3)) ∧ Below w.heap.size w w' := by
  unfold uV
  have hmk : ∀ w, Sem.run Try.prog (Instr.makeSlice 43 (.int .i64 32) (.int .i64 32)) w = .ok (.slice (some ⟨w.heap.size, 0, none⟩) 32 32) (w.alloc (.cells (zrow (.int .u8 0) 32) 5)) :=
    fun w => run_make1 w _ Try.underlying43 Try.infoU8 rfl _ _ _ _ 32 32 rfl rfl (by omega) (by omega) (by omega)
  go_enter Try.func76, Try.ntmps76
  go_wp2
  clear hmk
  go_loopw [9] (fun i wr => ∃ n : Nat, n ≤ 32 ∧ i = .int .i64 n ∧ wr.heap[w.heap.size + 1]? = some (.cells (ucells (w4 a0 a1 a2 a3) n) 5 (0, 0)) ∧ wr.heap[w.heap.size]? = some (.cells #[.int .u64 a0, .int .u64 a1, .int .u64 a2, .int .u64 a3] 34 (0, 0)) ∧ Below w.heap.size w wr) (fun i _ => 32 - (intOf i).toNat)
  case atStart => exact ⟨0, by omega, rfl, by rw [ucells_zero]; exact heap_alloc2_new _ _ _, heap_alloc2_old _ _ _, ((Below.refl _ _).alloc (Nat.le_refl _) _).alloc (by simp) _⟩
  case round =>
    obtain ⟨n, hn, rfl, hblk, hpar, hb⟩ := hrel
    by_cases hlt : n < 32
    · have k2 : wr.frozen? ⟨w.heap.size + 1, n, none⟩ = false := Lib.frozen_of_heap hblk n
      have k3 : wr.cell? ⟨w.heap.size + 1, n, none⟩ = some (ucell (w4 a0 a1 a2 a3) n n) := ucells_at hblk (by omega)
      rcases (show n < 8 ∨ (8 ≤ n ∧ n < 16) ∨ (16 ≤ n ∧ n < 24) ∨ 24 ≤ n by omega) with hc | hc | hc | hc
      · have e1 : (31 - (n : Int)) / 8 = 3 := by omega
        have e2 : (31 - (n : Int)) % 8 = 7 - n := by omega
        have k1 : wr.cell? ⟨w.heap.size, 3, none⟩ = some (.int .u64 a3) := Lib.cell_of_heap hpar 3
        go_wp2
        go_roundw
        case rel =>
          refine ⟨n + 1, by omega, by go_num, ?_, ?_, ?_⟩
          · rw [← ucells_set (w4 a0 a1 a2 a3) n _ (ub_val (w4 a0 a1 a2 a3) n 0 3 (by omega) (by omega) rfl).symm]
            exact heap_setCell_same _ _ _ _ _ _ hblk
          · exact (heap_setCell_other _ _ _ _ (by simp)).trans hpar
          · exact hb.setCell (p := ⟨w.heap.size + 1, n, none⟩) (by simp) _
        case measure => simp [intOf]; omega
      · have e1 : (31 - (n : Int)) / 8 = 2 := by omega
        have e2 : (31 - (n : Int)) % 8 = 15 - n := by omega
        have k1 : wr.cell? ⟨w.heap.size, 2, none⟩ = some (.int .u64 a2) := Lib.cell_of_heap hpar 2
        go_wp2
        go_roundw
        case rel =>
          refine ⟨n + 1, by omega, by go_num, ?_, ?_, ?_⟩
          · rw [← ucells_set (w4 a0 a1 a2 a3) n _ (ub_val (w4 a0 a1 a2 a3) n 1 2 (by omega) (by omega) rfl).symm]
            exact heap_setCell_same _ _ _ _ _ _ hblk
          · exact (heap_setCell_other _ _ _ _ (by simp)).trans hpar
          · exact hb.setCell (p := ⟨w.heap.size + 1, n, none⟩) (by simp) _
        case measure => simp [intOf]; omega
      · have e1 : (31 - (n : Int)) / 8 = 1 := by omega
        have e2 : (31 - (n : Int)) % 8 = 23 - n := by omega
        have k1 : wr.cell? ⟨w.heap.size, 1, none⟩ = some (.int .u64 a1) := Lib.cell_of_heap hpar 1
        go_wp2
        go_roundw
        case rel =>
          refine ⟨n + 1, by omega, by go_num, ?_, ?_, ?_⟩
          · rw [← ucells_set (w4 a0 a1 a2 a3) n _ (ub_val (w4 a0 a1 a2 a3) n 2 1 (by omega) (by omega) rfl).symm]
            exact heap_setCell_same _ _ _ _ _ _ hblk
          · exact (heap_setCell_other _ _ _ _ (by simp)).trans hpar
          · exact hb.setCell (p := ⟨w.heap.size + 1, n, none⟩) (by simp) _
        case measure => simp [intOf]; omega
      · have e1 : (31 - (n : Int)) / 8 = 0 := by omega
        have e2 : (31 - (n : Int)) % 8 = 31 - n := by omega
        have k1 : wr.cell? ⟨w.heap.size, 0, none⟩ = some (.int .u64 a0) := Lib.cell_of_heap hpar 0
        go_wp2
        go_roundw
        case rel =>
          refine ⟨n + 1, by omega, by go_num, ?_, ?_, ?_⟩
          · rw [← ucells_set (w4 a0 a1 a2 a3) n _ (ub_val (w4 a0 a1 a2 a3) n 3 0 (by omega) (by omega) rfl).symm]
            exact heap_setCell_same _ _ _ _ _ _ hblk
          · exact (heap_setCell_other _ _ _ _ (by simp)).trans hpar
          · exact hb.setCell (p := ⟨w.heap.size + 1, n, none⟩) (by simp) _
        case measure => simp [intOf]; omega
    · obtain rfl : n = 32 := by omega
      go_wp2
      go_ret
      exact ⟨_, rfl, ucells_own hblk, hb⟩
end Go.Proofs.Ytbfdjjaonjepnaa
