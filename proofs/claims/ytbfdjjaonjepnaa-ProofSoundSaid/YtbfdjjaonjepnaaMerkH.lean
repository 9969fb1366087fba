/- Rows of hashes; merkle.ground. -/
import Derived.Test.YtbfdjjaonjepnaaMerkG
namespace Go.Proofs.Ytbfdjjaonjepnaa
open Go.RowKit

/-- A hash's cells. -/
def hE (l : List UInt8) : List Value := (List.range 32).map fun i => byteV (gB l i)
theorem hE_len (l : List UInt8) : (hE l).length = 32 := by simp [hE]
theorem hE_32 (l : List UInt8) (h : l.length = 32) : hE l = l.map byteV := by
  apply List.ext_getElem
  · simp [hE, h]
  · intro i h1 h2
    simp only [hE, List.getElem_map, List.getElem_range, gB]
    congr 1
    rw [List.getD_eq_getElem?_getD, List.getElem?_eq_getElem (by simpa using h2)]; rfl
theorem hE_one (l : List UInt8) : ∀ u ∈ hE l, u.oneCell' = true := by
  intro u hu
  obtain ⟨i, _, rfl⟩ := List.mem_map.1 hu
  rfl
/-- A row of n hashes, of which those of l stand and the rest are nought. -/
def hrow (l : List (List UInt8)) (n : Nat) : Array Value := ((l ++ List.replicate (n - l.length) zero32).flatMap hE).toArray
theorem hrow_size (l : List (List UInt8)) (n : Nat) (h : l.length ≤ n) : (hrow l n).size = n * 32 := by
  simp only [hrow, List.size_toArray]
  rw [flatMap_len hE 32 hE_len]
  simp; omega
theorem hrow_put (l : List (List UInt8)) (n : Nat) (x : List UInt8) (h : l.length < n) (hx : x.length = 32) :
    ((hrow l n).toList.take (l.length * 32) ++ x.map byteV ++ (hrow l n).toList.drop (l.length * 32 + (x.map byteV).length)).toArray = hrow (l ++ [x]) n := by
  have e1 : (l.flatMap hE).length = l.length * 32 := flatMap_len hE 32 hE_len l
  have e2 : n - l.length = (n - (l ++ [x]).length) + 1 := by simp; omega
  simp only [hrow]
  rw [e2, List.replicate_succ, List.flatMap_append, List.flatMap_cons, List.flatMap_append, List.flatMap_append, List.take_append_of_le_length (by omega), List.take_of_length_le (by omega),
    List.drop_append, List.drop_of_length_le (by omega), ← e1, List.nil_append, show (l.flatMap hE).length + (x.map byteV).length - (l.flatMap hE).length = (hE zero32).length by rw [hE_len, List.length_map, hx]; omega, List.drop_left]
  simp [hE_32 x hx]
theorem zero_cells : (Value.agg (c8 zero32)).cells = c8 zero32 := rfl
theorem made_row (n : Nat) : madeCells (Value.agg (c8 zero32)).cells (n * 32) = hrow [] n := by
  apply Array.toList_inj.1
  have e1 : (hrow [] n).toList = List.replicate (n * 32) (Value.int .u8 0) := by
    simp only [hrow, List.nil_append, List.length_nil, Nat.sub_zero]
    have e0 : hE zero32 = List.replicate 32 (Value.int .u8 0) := rfl
    induction n with
    | zero => rfl
    | succ n ih => rw [List.replicate_succ, List.flatMap_cons, ih, e0, List.replicate_append_replicate, Nat.add_mul, Nat.add_comm]
  rw [e1]
  apply List.ext_getElem
  · rw [Array.length_toList, size_madeCells]; simp
  · intro i h1 h2
    have h3 : i % 32 < 32 := Nat.mod_lt _ (by omega)
    have e2 : (c8 zero32)[i % 32]! = Value.int .u8 0 := by
      have : (c8 zero32)[i % 32]? = some (Value.int .u8 0) := by
        have := c8_at zero32 (i % 32) h3
        rw [this]
        have : gB zero32 (i % 32) = 0 := by unfold gB zero32; rw [List.getD_eq_getElem?_getD, List.getElem?_replicate, if_pos h3]; rfl
        rw [this]; rfl
      rw [getElem!_def, this]
    have e3 : (c8 zero32).size = 32 := by rw [c8_size]; rfl
    simp only [zero_cells] at h1 ⊢
    unfold madeCells at h1 ⊢
    simp only [e3] at h1 ⊢
    simp only [Array.toList_map, List.getElem_map, List.getElem_replicate]
    simpa using e2
theorem Try.infoHash : (Try.prog.info? 48).map (fun i => (i.zero, i.size, i.bytes)) = some (some (.agg (c8 zero32)), 32, 32) := by kernel_rfl
/-- make([]Hash, l, c). -/
theorem run_makeH (w : World) (kl kc : IntKind) (l c : Int) (n m : Nat) (hl : l = (n : Int)) (hc : c = (m : Int)) (hnm : n ≤ m) (hb : 32 * m ≤ 281474976710656) :
    (Instr.makeSlice 87 (.int kl l) (.int kc c)).run Try.prog w = .ok (.slice (some ⟨w.heap.size, 0, none⟩) n m) (w.alloc (.cells (hrow [] m) 48)) := by
  obtain ⟨i, hi, hz0, hz1, hz2⟩ := info_parts Try.infoHash
  subst hl; subst hc
  have hb2 : (i.bytes : Int) * (m : Int) ≤ 281474976710656 := by
    rw [hz2, ← Int.natCast_mul]; omega
  rw [run_make w 87 48 i _ Try.underlying87 hi hz0 kl kc n m (by omega) (by omega) hb2 (by omega)]
  simp only [Int.toNat_natCast, hz1, made_row]
/-- row[i] = x: the next of a row of hashes. -/
theorem wpList_store_h {ops : Array Oper} {rest : List Oper} {o : Oper} {a : Act} {w : World} {Q : Exit → Act → World → Prop} (hgd : o.guard = none) (x y : Operand) (ho : o.op = .store 48 x y)
    (b off : Nat) (hx : a.eval x = .pointer (some ⟨b, off, none⟩)) (h : List UInt8) (hh : h.length = 32) (hy : a.eval y = .agg (c8 h)) (l : List (List UInt8)) (n : Nat) (hl : l.length < n) (hoff : off = l.length * 32) (T : TypeId)
    (hg : w.heap[b]? = some (.cells (hrow l n) T (0, 0)))
    (hk : ∀ w', w'.heap[b]? = some (.cells (hrow (l ++ [h]) n) T (0, 0)) → Keep (· = b) w w' → w'.heap.size = w.heap.size → wpList Try.prog ops Q rest (a.put o.dst undef) w') : wpList Try.prog ops Q (o :: rest) a w := by
  subst hoff
  have hs : (c8 h).size = 32 := by rw [c8_size, hh]
  have hsz := hrow_size l n (by omega)
  have hle : l.length * 32 + 32 ≤ n * 32 := by omega
  have ht : w.there b (l.length * 32) (c8 h).size := fun j hj => by
    rw [hs] at hj
    exact ⟨by rw [Lib.cell_of_heap hg, Array.getElem?_eq_getElem (by omega)]; rfl, Lib.frozen_of_heap hg _⟩
  refine wpList_store_mid hgd _ _ _ ho b _ (c8 h) hx hy ht (Try.sizeHs h hh) (by rw [← cB_full 32 h hh]; exact one_b _ _) ?_
  obtain ⟨k1, k2⟩ := setCells_keep b (c8 h).toList (l.length * 32) w
  refine hk _ ?_ k1 k2
  have hg' : w.heap[b]? = some (.cells ((hrow l n).toList).toArray T (0, 0)) := hg
  have h3 := setCells_at b T (c8 h).toList (l.length * 32) w (hrow l n).toList hg' (by simp only [Array.length_toList, hs, hsz]; exact hle)
  rw [h3]
  exact congrArg (fun x => some (Obj.cells x T (0, 0))) (hrow_put l n h hl hh)
/-- A row of hashes, read. -/
theorem rd_hrow {w : World} {b n : Nat} {l : List (List UInt8)} {T : TypeId} {fr : Nat × Nat} (hg : w.heap[b]? = some (.cells (hrow l n) T fr)) (hl : l.length = n) (hm : n ≤ 9223372036854775807) : Rd w hE 32 (.slice (some ⟨b, 0, none⟩) n n) l := by
  subst hl
  refine ⟨_, _, rfl, Nat.le_refl _, by unfold maxLen; omega, fun _ => ⟨b, 0, rfl, heap_lt hg, fun i hi j hj => ?_⟩⟩
  rw [Lib.cell_of_heap hg]
  have := flatMap_at hE 32 hE_len l i hi j hj
  simpa [hrow] using this
end Go.Proofs.Ytbfdjjaonjepnaa
