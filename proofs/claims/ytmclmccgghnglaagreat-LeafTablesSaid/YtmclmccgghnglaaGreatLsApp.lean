/- A slice of one element, built; an append that fits: as steps of a region. No condition. -/
import Derived.Test.YtmclmccgghnglaaGreatLsOwn
import Derived.Test.YtmclmccgghnglaaGreatLsReg
import Derived.Great.BuildSlice
import Derived.Great.FillDense
namespace Go.Proofs.YtmclmccgghnglaaGreat
open Go.RowKit

section
variable {P : Program}
theorem run_build1 (w : World) {t e : TypeId} {z : Value} {s bytes : Nat} (ht : P.underlying t = some (.slice e)) (hi : (P.info? e).map (fun i => (i.zero, i.size, i.bytes)) = some (some z, s, bytes)) (_ : z.cells.size = s) (hs : 0 < s) (hs2 : s ≤ 16777216)
    (v : Value) (hv : v.cells.size = s) : (Instr.buildSlice t 1 #[(0, v)]).run P w = .ok (.slice (some ⟨w.heap.size, 0, none⟩) 1 1) (w.alloc (.cells v.cells e)) := by
  obtain ⟨i, hi, hz0, hz1, hz2⟩ := info_parts hi
  have hc : v.cells = v.cells.toList.toArray := by simp
  have hfw := Go.Great.fill_whole hs [v] ((Array.range (1 * i.size)).map (z.cells[· % z.cells.size]!)) (by intro x hx; simp at hx; subst hx; exact hv) (by simp [hz1])
  rw [run_buildSlice w t e 1 #[(0, v)] v.cells i z ht hi hz0 (by rw [hz1]; omega) (by rw [hz1]; omega) (by
    rw [hz1] at hfw ⊢
    simpa using hfw)]
  
/-- []T{x}. -/
theorem wp_build1 {o : Oper} {a : Act} {w : World} {K : Act → World → Prop} {Q : Exit → Act → World → Prop} (t : TypeId) (x : Operand) (ho : o.op = .buildSlice t 1 #[(0, x)])
    {e : TypeId} {z : Value} {s bytes : Nat} (ht : P.underlying t = some (.slice e)) (hi : (P.info? e).map (fun i => (i.zero, i.size, i.bytes)) = some (some z, s, bytes)) (hz : z.cells.size = s) (hs : 0 < s) (hs2 : s ≤ 16777216)
    (v : Value) (cs : Array Value) (hx : a.eval x = v) (hc : v.cells = cs) (hv : cs.size = s) (h : K (a.put o.dst (.slice (some ⟨w.heap.size, 0, none⟩) 1 1)) (w.alloc (.cells cs e))) : o.wp P a w K Q := by
  subst hc
  unfold Oper.wp execOp
  simp only [ho, hx, Sem.run_bind, List.map_toArray, List.map_cons, List.map_nil, run_build1 w ht hi hz hs hs2 v hv, Result.andThen_ok]
  exact h
theorem wpList_build1 {ops : Array Oper} {rest : List Oper} {o : Oper} {a : Act} {w : World} {Q : Exit → Act → World → Prop} (hgd : o.guard = none) (t : TypeId) (x : Operand) (ho : o.op = .buildSlice t 1 #[(0, x)])
    {e : TypeId} {z : Value} {s bytes : Nat} (ht : P.underlying t = some (.slice e)) (hi : (P.info? e).map (fun i => (i.zero, i.size, i.bytes)) = some (some z, s, bytes)) (hz : z.cells.size = s) (hs : 0 < s) (hs2 : s ≤ 16777216)
    (v : Value) (cs : Array Value) (hx : a.eval x = v) (hc : v.cells = cs) (hv : cs.size = s) (h : wpList P ops Q rest (a.put o.dst (.slice (some ⟨w.heap.size, 0, none⟩) 1 1)) (w.alloc (.cells cs e))) : wpList P ops Q (o :: rest) a w :=
  wpList_plain hgd fun _ hK => wp_build1 t x ho ht hi hz hs hs2 v cs hx hc hv (hK _ _ h)
theorem cells_new {e : TypeId} {cs : Array Value} (w : World) (j : Nat) (u : Value) (hj : cs.toList[j]? = some u) : (w.alloc (.cells cs e)).cell? ((⟨w.heap.size, 0, none⟩ : Addr).add j) = some u := by
  have e1 : (⟨w.heap.size, 0, none⟩ : Addr).add j = ⟨w.heap.size, j, none⟩ := by unfold Addr.add; split <;> simp_all
  rw [e1, Lib.cell_of_heap (heap_alloc_new w _), ← hj]
  simp
/-- append(s, x) of one element just laid, where there is room: . -/
theorem wp_fits {o : Oper} {a : Act} {w : World} {K : Act → World → Prop} {Q : Exit → Act → World → Prop} (s x : Operand) (t : TypeId)
    (ho : o.op = .call { callee := .builtin .append, args := #[s, x], argTypes := #[t, t] })
    {e : TypeId} {z : Value} {sz bytes : Nat} (ht : P.underlying t = some (.slice e)) (hi : (P.info? e).map (fun i => (i.zero, i.size, i.bytes)) = some (some z, sz, bytes))
    {α : Type} {enc : α → List Value} (hel : ∀ x, (enc x).length = sz) {B g n cap : Nat} {l : List α} (y : α) (hown : Own w B e enc sz (.slice (some ⟨g, 0, none⟩) n cap) l) (hn : n = l.length) (hcap : n + 1 ≤ cap) (hs : a.eval s = .slice (some ⟨g, 0, none⟩) n cap)
    (ad : Addr) (hx : a.eval x = .slice (some ad) 1 1) (hc : ∀ j u, (enc y)[j]? = some u → w.cell? (ad.add j) = some u) (hu : ∀ u ∈ enc y, u.oneCell' = true)
    (h : ∀ w', Own w' B e enc sz (.slice (some ⟨g, 0, none⟩) (n + 1) cap) (l ++ [y]) → w.grownBy w' (some g) → K (a.put o.dst (.slice (some ⟨g, 0, none⟩) (n + 1) cap)) w') :
    o.wp P a w K Q := by
  obtain ⟨i, hi, hz0, hz1, hz2⟩ := info_parts hi
  subst hn
  obtain ⟨w', hrun, r1, r2⟩ := run_append_fits (P := P) w B t o.type e i sz ht hi hz1 g l.length cap (l.flatMap enc) hown ad 1 1 (enc y) (by rw [hel]; omega) hc hu hcap
  unfold Oper.wp
  simp [execOp, ho, resolve, invoke, builtin, hs, hx, hrun, Result.andThen]
  refine h w' ?_ r2
  unfold Own
  rw [List.length_append, List.flatMap_append]
  simpa using r1
end
end Go.Proofs.YtmclmccgghnglaaGreat
