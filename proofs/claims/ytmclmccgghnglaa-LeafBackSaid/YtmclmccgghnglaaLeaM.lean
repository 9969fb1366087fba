/- Claims: as they lie; what leaf.Claim answers. No condition. -/
import Derived.Test.YtmclmccgghnglaaLeaL
namespace Go.Proofs.Ytmclmccgghnglaa
open Go.RowKit

theorem wpList_store_part_l {P : Program} {ops : Array Oper} {rest : List Oper} {o : Oper} {a : Act} {w : World} {Q : Exit → Act → World → Prop} (hgd : o.guard = none) (ty : TypeId) (x y : Operand) (ho : o.op = .store ty x y)
    (g off : Nat) (cells : Array Value) (hx : a.eval x = .pointer (some ⟨g, off, none⟩)) (hy : a.eval y = .agg cells)
    (t : TypeId) (cur : Array Value) (hg : w.heap[g]? = some (.cells cur t (0, 0))) (hi : (P.info? ty).map (·.size) = some cells.size)
    (hfit : off + cells.size ≤ cur.size) (h1 : cells.all (·.oneCell') = true) (new : Array Value) (hnew : (cur.toList.take off ++ cells.toList ++ cur.toList.drop (off + cells.size)).toArray = new)
    (h : ∀ w', w'.heap[g]? = some (.cells new t (0, 0)) → Keep (· = g) w w' → w'.heap.size = w.heap.size → wpList P ops Q rest (a.put o.dst undef) w') : wpList P ops Q (o :: rest) a w := by
  refine wpList_plain hgd fun K hK => ?_
  have hst := run_storeCells_at P g off t cells.toList 0 cur w hg (by simpa using hfit) (fun v hv => (Array.all_eq_true_iff_forall_mem.1 h1) v (by simpa using hv))
  have hrun : (storeVar ty ⟨g, off, none⟩ (.agg cells)).run P w = .ok () (w.setRow g new) := by
    cases hq : P.info? ty with
    | none => simp [hq] at hi
    | some i =>
      have hs : cells.size = i.size := by simp [hq] at hi; omega
      simp only [Nat.add_zero] at hst
      rw [show cells.toList.length = cells.size by simp, hnew] at hst
      simp [storeVar, sizeOf, typeInfo, hq, Value.cells, hs, hst]
  unfold Oper.wp execOp
  simp only [ho, hx, hy, Instr.storeAt, Instr.sureAddr, Sem.run_bind, Sem.run_pure, Result.andThen_ok, hrun]
  exact hK _ _ (h _ (setRow_heap _ _ _ _ _ _ hg) (Keep.setRow (S := (· = g)) (Keep.refl _ _) (.inl rfl) _) (setRow_size _ _ _))
/-- A claim's cells. -/
def clC (rt ix e : Int) (h : List UInt8) (p lv : SlV) (to : Int) : Array Value := (([Value.int .i64 rt, .int .i64 ix, .int .i64 e] : List Value) ++ h.map byteV ++ [slV p, slV lv, .int .i64 to]).toArray
theorem clC_size (rt ix e : Int) {h : List UInt8} (hh : h.length = 32) (p lv : SlV) (to : Int) : (clC rt ix e h p lv to).size = 38 := by simp [clC, hh]
theorem clC_0 (rt ix e : Int) (h : List UInt8) (p lv : SlV) (to : Int) : (clC rt ix e h p lv to)[0]? = some (.int .i64 rt) := by simp [clC]
theorem clC_1 (rt ix e : Int) (h : List UInt8) (p lv : SlV) (to : Int) : (clC rt ix e h p lv to)[1]? = some (.int .i64 ix) := by simp [clC]
theorem clC_2 (rt ix e : Int) (h : List UInt8) (p lv : SlV) (to : Int) : (clC rt ix e h p lv to)[2]? = some (.int .i64 e) := by simp [clC]
theorem clC_35 (rt ix e : Int) {h : List UInt8} (hh : h.length = 32) (p lv : SlV) (to : Int) : (clC rt ix e h p lv to)[35]? = some (slV p) := by
  unfold clC
  rw [List.getElem?_toArray, List.getElem?_append_right (by simp [hh])]; simp [hh]
theorem clC_36 (rt ix e : Int) {h : List UInt8} (hh : h.length = 32) (p lv : SlV) (to : Int) : (clC rt ix e h p lv to)[36]? = some (slV lv) := by
  unfold clC
  rw [List.getElem?_toArray, List.getElem?_append_right (by simp [hh])]; simp [hh]
theorem clC_37 (rt ix e : Int) {h : List UInt8} (hh : h.length = 32) (p lv : SlV) (to : Int) : (clC rt ix e h p lv to)[37]? = some (.int .i64 to) := by
  unfold clC
  rw [List.getElem?_toArray, List.getElem?_append_right (by simp [hh])]; simp [hh]
theorem clC_mid (rt ix e : Int) {h : List UInt8} (p lv : SlV) (to : Int) : ((clC rt ix e h p lv to).toList.drop 3).take (h.map byteV).length = h.map byteV := by
  unfold clC
  rw [List.toList_toArray, List.append_assoc, List.drop_left' (by rfl), List.take_left]
theorem clC_hash (rt ix e : Int) {h h' : List UInt8} (hh : h.length = 32) (hh' : h'.length = 32) (p lv : SlV) (to : Int) : ((clC rt ix e h p lv to).toList.take 3 ++ (c8 h').toList ++ (clC rt ix e h p lv to).toList.drop (3 + (c8 h').size)).toArray = clC rt ix e h' p lv to := by
  have h1 : (c8 h').size = 32 := by rw [c8_size, hh']
  rw [h1]
  unfold clC c8
  rw [List.toList_toArray, List.toList_toArray, List.drop_append_of_le_length (by simp [hh]), List.append_assoc, List.append_assoc, List.take_left' (by rfl)]
  rw [List.drop_eq_nil_of_le (by simp [hh])]
  simp
theorem clC_proof (rt ix e : Int) {h : List UInt8} (hh : h.length = 32) (p p' lv : SlV) (to : Int) : (clC rt ix e h p lv to).setIfInBounds 35 (slV p') = clC rt ix e h p' lv to := by
  unfold clC
  rw [List.setIfInBounds_toArray, List.set_append_right _ _ (by simp [hh])]
  simp [hh]
theorem clC_leaves (rt ix e : Int) {h : List UInt8} (hh : h.length = 32) (p lv lv' : SlV) (to : Int) : (clC rt ix e h p lv to).setIfInBounds 36 (slV lv') = clC rt ix e h p lv' to := by
  unfold clC
  rw [List.setIfInBounds_toArray, List.set_append_right _ _ (by simp [hh])]
  simp [hh]
theorem clC_one (rt ix e : Int) (h : List UInt8) (p lv : SlV) (to : Int) : (clC rt ix e h p lv to).all (·.oneCell') = true := by
  rw [Array.all_eq_true']
  intro x hx
  simp only [clC, List.mem_toArray, List.mem_append, List.mem_map, List.mem_cons, List.not_mem_nil, or_false] at hx
  rcases hx with ((rfl | rfl | rfl) | ⟨y, _, rfl⟩) | (rfl | rfl | rfl) <;> rfl
abbrev nilS : SlV := (none, 0, 0)
def clZ : Array Value := clC 0 0 0 zero32 nilS nilS 0
theorem Try.zeroCl (w : World) : (zeroValue 27).run Try.prog w = .ok (.agg clZ) w := by kernel_rfl
theorem Try.sizeCl (rt ix e : Int) {h : List UInt8} (hh : h.length = 32) (p lv : SlV) (to : Int) : (Try.prog.info? 27).map (·.size) = some (clC rt ix e h p lv to).size := by rw [clC_size _ _ _ hh]; kernel_rfl

/-- A leaf, and a claim, apart from how they lie. -/
structure CLf where
  i : Int
  t : Int
  m : Nat
  p : List (List UInt8)
structure CCl where
  root : Int
  idx : Int
  e : Int
  h : List UInt8
  p : List (List UInt8)
  lv : List CLf
  to : Int
def lfE (x : CLf × SlV) : List Value := (lfC x.1.i x.1.t x.1.m x.2).toList
theorem lfE_len (x : CLf × SlV) : (lfE x).length = 7 := rfl
theorem lfE_one (x : CLf × SlV) : ∀ u ∈ lfE x, u.oneCell' = true := by
  intro u hu
  have := lfC_one x.1.i x.1.t x.1.m x.2
  rw [Array.all_eq_true'] at this
  exact this u (by simpa [lfE] using hu)
/-- Leaves in a slice. -/
def LvRd (w : World) (lv : SlV) (l : List CLf) : Prop := ∃ xs : List (CLf × SlV), xs.map (·.1) = l ∧ Rd w lfE 7 (slV lv) xs ∧ ∀ x ∈ xs, Rd w hE 32 (slV x.2) x.1.p
/-- A claim as it lies. -/
def ClAt (w : World) (v : Value) (c : CCl) : Prop := ∃ p lv : SlV, v = .agg (clC c.root c.idx c.e c.h p lv c.to) ∧ Rd w hE 32 (slV p) c.p ∧ LvRd w lv c.lv
theorem LvRd.later {w w' : World} {lv : SlV} {l : List CLf} (h : LvRd w lv l) (hb : Below w.heap.size w w') : LvRd w' lv l := by
  obtain ⟨xs, h1, h2, h3⟩ := h
  exact ⟨xs, h1, h2.later hb, fun x hx => (h3 x hx).later hb⟩
theorem ClAt.later {w w' : World} {v : Value} {c : CCl} (h : ClAt w v c) (hb : Below w.heap.size w w') : ClAt w' v c := by
  obtain ⟨p, lv, h1, h2, h3⟩ := h
  exact ⟨p, lv, h1, h2.later hb, h3.later hb⟩
/-- Leaves in a slice of the call's own. -/
def OLf (w : World) (B : Nat) (lv : SlV) (xs : List (CLf × SlV)) : Prop := Own w B 33 lfE 7 (slV lv) xs ∧ ∀ x ∈ xs, Own w 0 23 hE 32 (slV x.2) x.1.p
theorem OLf.nil (w : World) (B : Nat) : OLf w B nilS [] := ⟨Own.nil _ _ _ _ _, fun x h => by simp at h⟩
theorem OLf.later {w w' : World} {B : Nat} {lv : SlV} {xs : List (CLf × SlV)} (h : OLf w B lv xs) (hb : Below w.heap.size w w') : OLf w' B lv xs := ⟨h.1.later hb, fun x hx => (h.2 x hx).later hb⟩
theorem OLf.keep {w w' : World} {B : Nat} {lv : SlV} {xs : List (CLf × SlV)} (h : OLf w B lv xs) {S : Nat → Prop} (k : Keep S w w') (hS : ∀ x, S x → ∃ cs T fr, w.heap[x]? = some (.cells cs T fr) ∧ T ≠ 33 ∧ T ≠ 23) : OLf w' B lv xs := by
  refine ⟨h.1.keep k fun x hx hs => ?_, fun y hy => (h.2 y hy).keep k fun x hx hs => ?_⟩
  · obtain ⟨cs, T, fr, e, h2, _⟩ := hS x hs
    obtain ⟨cs', fr', e'⟩ := h.1.cellsAt hx
    rw [e] at e'; cases e'; exact h2 rfl
  · obtain ⟨cs, T, fr, e, _, h3⟩ := hS x hs
    obtain ⟨cs', fr', e'⟩ := (h.2 y hy).cellsAt hx
    rw [e] at e'; cases e'; exact h3 rfl
theorem OLf.snoc {w w' : World} {B : Nat} {lv lv' : SlV} {xs : List (CLf × SlV)} {x : CLf × SlV} (h : OLf w B lv xs) (hx : Own w 0 23 hE 32 (slV x.2) x.1.p) (hg : w.grownBy w' (slV lv).ownBlock) (ho : Own w' B 33 lfE 7 (slV lv') (xs ++ [x])) : OLf w' B lv' (xs ++ [x]) := by
  have hap : ∀ k, (slV lv).ownBlock = some k → ∃ cs T fr, w.heap[k]? = some (.cells cs T fr) ∧ T ≠ 23 := fun k hk => by
    obtain ⟨cs, fr, e⟩ := h.1.cellsAt hk
    exact ⟨cs, _, fr, e, by decide⟩
  refine ⟨ho, fun y hy => ?_⟩
  rcases List.mem_append.1 hy with hy | hy
  · exact (h.2 y hy).grow_apart hg hap
  · obtain rfl : y = x := by simpa using hy
    exact hx.grow_apart hg hap
theorem OLf.rd {w : World} {B : Nat} {lv : SlV} {xs : List (CLf × SlV)} (h : OLf w B lv xs) : LvRd w lv (xs.map (·.1)) := ⟨xs, rfl, h.1.rd lfE_len, fun x hx => (h.2 x hx).rd hE_len⟩
theorem rd_leaf (w : World) (x : CLf × SlV) (e : TypeId) : Rd (w.alloc (.cells (lfC x.1.i x.1.t x.1.m x.2) e)) lfE 7 (.slice (some ⟨w.heap.size, 0, none⟩) 1 1) [x] := by
  refine ⟨_, _, rfl, Nat.le_refl _, by unfold maxLen; omega, fun _ => ⟨_, _, rfl, by simp, fun i hi j hj => ?_⟩⟩
  obtain rfl : i = 0 := by simpa using hi
  rw [Lib.cell_of_heap (heap_alloc_new w _)]
  simp [lfE]

/-- A token's leaf out of rows; leaves of tokens. -/
def open1 (rows : List LRow) (t : Int) : Option CLf := match rows.findIdx? (fun r => decide (r.t = t)) with
  | none => none
  | some i => match rows[i]? with
    | some r => some ⟨i, t, r.m, proofF 2 (leavesG rows) i⟩
    | none => none
def openAll (rows : List LRow) : List Int → Option (List CLf)
  | [] => some []
  | t :: ts => match open1 rows t, openAll rows ts with
    | some x, some xs => some (x :: xs)
    | _, _ => none
theorem open1_no {rows : List LRow} {t : Int} (h : fidx (fun r => decide (r.t = t)) rows = -1) : open1 rows t = none := by
  unfold fidx at h; unfold open1
  cases hq : rows.findIdx? (fun r => decide (r.t = t)) with
  | none => rfl
  | some i => rw [hq] at h; simp only [] at h; omega
theorem open1_yes {rows : List LRow} {t : Int} {i : Nat} {r : LRow} (h : fidx (fun r => decide (r.t = t)) rows = i) (hr : rows[i]? = some r) : open1 rows t = some ⟨i, t, r.m, proofF 2 (leavesG rows) i⟩ := by
  unfold fidx at h; unfold open1
  cases hq : rows.findIdx? (fun r => decide (r.t = t)) with
  | none => rw [hq] at h; simp only [] at h; omega
  | some j => rw [hq] at h; simp only [] at h; obtain rfl : j = i := by omega
              simp only [hr]
theorem openAll_snoc {rows : List LRow} {ts : List Int} {xs : List CLf} (t : Int) (h : openAll rows ts = some xs) : openAll rows (ts ++ [t]) = (open1 rows t).map fun x => xs ++ [x] := by
  induction ts generalizing xs with
  | nil => cases h; rw [List.nil_append]; unfold openAll; cases open1 rows t <;> simp [openAll]
  | cons a ts ih =>
    rw [List.cons_append]
    unfold openAll at h ⊢
    cases ha : open1 rows a with
    | none => rw [ha] at h; cases h
    | some x =>
      cases hs : openAll rows ts with
      | none => rw [ha, hs] at h; cases h
      | some ys =>
        rw [ha, hs] at h; cases h
        rw [ih hs]
        cases open1 rows t <;> rfl
theorem openAll_none {rows : List LRow} {ts us : List Int} (h : openAll rows ts = none) : openAll rows (ts ++ us) = none := by
  induction ts with
  | nil => cases h
  | cons a ts ih =>
    rw [List.cons_append]
    unfold openAll at h ⊢
    cases ha : open1 rows a with
    | none => rfl
    | some x =>
      cases hs : openAll rows ts with
      | none => rw [ih hs]
      | some ys => rw [ha, hs] at h; cases h
/-- The claim that leaf.Claim answers; or the error. -/
def claimR (l : List LRow) (e : Int) (ts : List Int) : Except Int CCl := match sortedF l with
  | none => .error 2
  | some s => if ts.length = 0 ∨ 8 < ts.length then .error 2 else match (groupsF s).findIdx? (fun g => decide (g.1 = e)) with
    | none => .error 8
    | some q => match (groupsF s)[q]? with
      | none => .error 8
      | some g => match openAll g.2 ts with
        | none => .error 8
        | some lv => .ok ⟨0, q, e, rootF 2 (leavesG g.2), proofF 1 (tableL s) q, lv, e⟩
/-- What leaf.Claim hands back. -/
def ClaimRet (w : World) (x : Except Int CCl) (e : Ending) (w' : World) : Prop := Below w.heap.size w w' ∧ match x with
  | .error k => e = .returned (.tuple #[.agg clZ, .int .i64 k])
  | .ok c => ∃ v, e = .returned (.tuple #[v, .int .i64 0]) ∧ ClAt w' v c
end Go.Proofs.Ytmclmccgghnglaa
