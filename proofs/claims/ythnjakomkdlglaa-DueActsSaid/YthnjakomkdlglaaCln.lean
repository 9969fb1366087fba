/- slices.Clone of ints, a store into a part of a block (cut out of FifA: never import both). No condition. -/
import Derived.Test.YthnjakomkdlglaaLit
namespace Go.Proofs.Ythnjakomkdlglaa
open Go.RowKit

/-- A store of a row into a part of a block of the call's own. -/
theorem wpList_store_part_g {P : Program} {ops : Array Oper} {rest : List Oper} {o : Oper} {a : Act} {w : World} {Q : Exit → Act → World → Prop} (hgd : o.guard = none) (ty : TypeId) (x y : Operand) (ho : o.op = .store ty x y)
    (g off : Nat) (cells : Array Value) (hx : a.eval x = .pointer (some ⟨g, off, none⟩)) (hy : a.eval y = .agg cells)
    (t : TypeId) (cur : Array Value) (hg : w.heap[g]? = some (.cells cur t (0, 0))) (hi : (P.info? ty).map (·.size) = some cells.size)
    (hfit : off + cells.size ≤ cur.size) (h1 : cells.all (·.oneCell') = true) (new : Array Value) (hnew : (cur.toList.take off ++ cells.toList ++ cur.toList.drop (off + cells.size)).toArray = new)
    (h : ∀ w', w'.heap[g]? = some (.cells new t (0, 0)) → Keep (· = g) w w' → w'.heap.size = w.heap.size → wpList P ops Q rest (a.put o.dst undef) w') : wpList P ops Q (o :: rest) a w := by
  refine wpList_plain hgd fun K hK => ?_
  have hst := run_storeCells_at P g off t cells.toList 0 cur w hg (by simpa using hfit) (fun v hv => (Array.all_eq_true_iff_forall_mem.1 h1) v (by simpa using hv))
  have hrun : (storeVar ty ⟨g, off, none⟩ (.agg cells)).run P w = .ok () (w.setRow g new) := by
    cases hq : P.info? ty with
    | none => simp [hq] at hi
    | some i =>
      have hs : cells.size = i.size := by simp [hq] at hi; omega
      simp only [Nat.add_zero] at hst
      rw [show cells.toList.length = cells.size by simp, hnew] at hst
      simp [storeVar, sizeOf, typeInfo, hq, Value.cells, hs, hst]
  unfold Oper.wp execOp
  simp only [ho, hx, hy, Instr.storeAt, Instr.sureAddr, Sem.run_bind, Sem.run_pure, Result.andThen_ok, hrun]
  exact hK _ _ (h _ (setRow_heap _ _ _ _ _ _ hg) (Keep.setRow (S := (· = g)) (Keep.refl _ _) (.inl rfl) _) (setRow_size _ _ _))
theorem intE_ones (l : List Int) : ∀ x ∈ l, ∀ u ∈ intE x, u.oneCell' = true := fun x _ u hu => by rw [List.mem_singleton.1 hu]; rfl
theorem intE_len (x : Int) : (intE x).length = 1 := rfl
theorem I64s_snoc {l : List Int} {n : Int} (h : I64s l) (hn : -9223372036854775808 ≤ n ∧ n < 9223372036854775808) : I64s (l ++ [n]) := by
  intro x hx
  rcases List.mem_append.1 hx with h1 | h1
  · exact h x h1
  · simp only [List.mem_singleton] at h1; rw [h1]; exact hn
theorem Try.infoCI : (Try.prog.info? 3).map (fun i => (i.zero, i.size, i.bytes)) = some (some (.int .i64 0), 1, 8) := by kernel_rfl
theorem Own.oth {w w' : World} {B : Nat} {v : Value} {l : List Int} (h : Own w B 3 intE 1 v l) (ho : Oth w w') : Own w' B 3 intE 1 v l := by
  obtain ⟨h1, h2⟩ := h
  refine ⟨h1, ?_⟩
  rcases h2 with h2 | ⟨g, cap, cur, e, hB, hg, h3⟩
  · exact .inl h2
  · exact .inr ⟨g, cap, cur, e, hB, ho.2 g _ hg rfl rfl, h3⟩
theorem own_rd {w : World} {B : Nat} {v : Value} {l : List Int} (h : Own w B 3 intE 1 v l) : Rd w intE 1 v l := h.rd fun _ => rfl
end Go.Proofs.Ythnjakomkdlglaa
