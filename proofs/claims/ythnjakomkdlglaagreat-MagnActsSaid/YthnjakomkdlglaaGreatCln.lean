/- slices.Clone of ints, a store into a part of a block (cut out of FifA: never import both). No condition. -/
import Derived.Test.YthnjakomkdlglaaGreatLit
namespace Go.Proofs.YthnjakomkdlglaaGreat
open Go.RowKit

/-- A store of a row into a part of a block of the call's own. -/
theorem wpList_store_part_g {P : Program} {ops : Array Oper} {rest : List Oper} {o : Oper} {a : Act} {w : World} {Q : Exit → Act → World → Prop} (hgd : o.guard = none) (ty : TypeId) (x y : Operand) (ho : o.op = .store ty x y)
    (g off : Nat) (cells : Array Value) (hx : a.eval x = .pointer (some ⟨g, off, none⟩)) (hy : a.eval y = .agg cells)
    (t : TypeId) (cur : Array Value) (hg : w.heap[g]? = some (.cells cur t (0, 0))) (hi : (P.info? ty).map (·.size) = some cells.size)
    (hfit : off + cells.size ≤ cur.size) (h1 : cells.all (·.oneCell') = true) (new : Array Value) (hnew : (cur.toList.take off ++ cells.toList ++ cur.toList.drop (off + cells.size)).toArray = new)
    (h : ∀ w', w'.heap[g]? = some (.cells new t (0, 0)) → Keep (· = g) w w' → w'.heap.size = w.heap.size → wpList P ops Q rest (a.put o.dst undef) w') : wpList P ops Q (o :: rest) a w := by
  refine wpList_plain hgd fun K hK => ?_
  have hst := run_storeCells_at P g off t cells.toList 0 cur w hg (by simpa using hfit) (fun v hv => (Array.all_eq_true_iff_forall_mem.1 h1) v (by simpa using hv))
  have hrun : (storeVar ty ⟨g, off, none⟩ (.agg cells)).run P w = .ok () (w.setRow g new) := by
    cases hq : P.info? ty with
    | none => simp [hq] at hi
    | some i =>
      have hs : cells.size = i.size := by simp [hq] at hi; omega
      simp only [Nat.add_zero] at hst
      rw [show cells.toList.length = cells.size by simp, hnew] at hst
      simp [storeVar, sizeOf, typeInfo, hq, Value.cells, hs, hst]
  unfold Oper.wp execOp
  simp only [ho, hx, hy, Instr.storeAt, Instr.sureAddr, Sem.run_bind, Sem.run_pure, Result.andThen_ok, hrun]
  exact hK _ _ (h _ (setRow_heap _ _ _ _ _ _ hg) (Keep.setRow (S := (· = g)) (Keep.refl _ _) (.inl rfl) _) (setRow_size _ _ _))
theorem intE_ones (l : List Int) : ∀ x ∈ l, ∀ u ∈ intE x, u.oneCell' = true := fun x _ u hu => by rw [List.mem_singleton.1 hu]; rfl
theorem intE_len (x : Int) : (intE x).length = 1 := rfl
theorem I64s_snoc {l : List Int} {n : Int} (h : I64s l) (hn : -9223372036854775808 ≤ n ∧ n < 9223372036854775808) : I64s (l ++ [n]) := by
  intro x hx
  rcases List.mem_append.1 hx with h1 | h1
  · exact h x h1
  · simp only [List.mem_singleton] at h1; rw [h1]; exact hn
theorem Tryz.infoCI : (Tryz.prog.info? 3).map (fun i => (i.zero, i.size, i.bytes)) = some (some (.int .i64 0), 1, 8) := by kernel_rfl
set_option maxHeartbeats 4000000 in
set_option maxRecDepth 100000 in
/-- slices.Clone. -/
theorem clone_ints (w : World) (v : Value) (l : List Int) (hr : Rd w intE 1 v l) (hlen : l.length < 1099511627776) :
    Calls Tryz.prog 194 #[v] w (CloneRet w 3 intE 1 l) := by
  obtain ⟨ad, cap, rfl, h1, h2⟩ := hr.shape
  have heq := fun a n c w => run_eql_nil_slice' (P := Tryz.prog) w 98 3 a n c Tryz.underlying98
  cases ad with
  | none =>
    have hl : l = [] := by
      by_cases hl : l = []
      · exact hl
      · obtain ⟨ad', cap', e, c1, c2, c3⟩ := hr
        cases e
        obtain ⟨b, off, e, _⟩ := c3 hl
        cases e
    subst hl
    go_enter Tryz.func194, Tryz.ntmps194
    go_wp2_with fail
    go_ret
    exact ⟨_, rfl, LO.nil _ _ _ _, Below.refl _ _, fun k e => by cases e⟩
  | some a =>
    have HR := Lib.hid hr
    have hm : ([] : List Int).length + l.length ≤ maxLen := by unfold maxLen; simp; omega
    have hb : (([] : List Int).length + l.length) * 8 ≤ 140737488355328 := by simp; omega
    have HM := Lib.hid hm; have HB := Lib.hid hb
    clear hr hm hb
    go_enter Tryz.func194, Tryz.ntmps194
    go_wp2_with (at_builtin; refine lo_apps (l2 := l) (enc := intE) rfl _ _ 98 98 rfl Tryz.underlying98 Tryz.underlying98 Tryz.infoCI rfl (by decide) intE_len (intE_ones l) (LO.made (enc := intE) (sz := 1) w #[] 0 0 rfl (Nat.le_refl _) (Nat.zero_le _) (by simp) (by simp)) rfl _ rfl (HR.out.alloc _) HM.out HB.out ?_)
    intro v' w' r1 r2 r3
    have hb1 : Below w.heap.size w (w.alloc (.cells #[] 3)) := (Below.refl _ _).alloc (Nat.le_refl _) _
    have hb2 : Below w.heap.size w w' := hb1.trans (r2.below (B := w.heap.size) (fun q hq e => by have h3 : w.heap.size = q := Option.some.inj e; omega) (by simp))
    have hk : ∀ k, v'.ownBlock = some k → w.heap.size ≤ k := by
      intro k e
      rcases r3 with r3 | ⟨g, e2, hg⟩
      · rw [r3] at e; cases e; exact Nat.le_refl _
      · rw [e] at e2; cases e2; simp at hg; omega
    have R1 := Lib.hid r1; have HB2 := Lib.hid hb2; have HK := Lib.hid hk
    clear r1 r2 r3 hb1 hb2 hk
    go_wp2_with fail
    go_ret
    exact ⟨_, rfl, R1.out, HB2.out, HK.out⟩
theorem Own.oth {w w' : World} {B : Nat} {v : Value} {l : List Int} (h : Own w B 3 intE 1 v l) (ho : Oth w w') : Own w' B 3 intE 1 v l := by
  obtain ⟨h1, h2⟩ := h
  refine ⟨h1, ?_⟩
  rcases h2 with h2 | ⟨g, cap, cur, e, hB, hg, h3⟩
  · exact .inl h2
  · exact .inr ⟨g, cap, cur, e, hB, ho.2 g _ hg rfl rfl, h3⟩
theorem own_rd {w : World} {B : Nat} {v : Value} {l : List Int} (h : Own w B 3 intE 1 v l) : Rd w intE 1 v l := h.rd fun _ => rfl
end Go.Proofs.YthnjakomkdlglaaGreat
