/- append of one element onto a slice of the call's own: where the new slice lies. No condition. -/
import Derived.Test.YtmclmccgghnglaaGreatLsBase
namespace Go.Proofs.YtmclmccgghnglaaGreat
open Go.RowKit

/-- Two slices that do not lie in one block. -/
def Apart (u v : Value) : Prop := u.ownBlock = none ∨ u.ownBlock ≠ v.ownBlock
theorem Apart.symm {u v : Value} (h : Apart u v) : Apart v u := by
  rcases h with h | h
  · cases hv : v.ownBlock with
    | none => exact .inl hv
    | some b => exact .inr (by rw [hv, h]; simp)
  · exact .inr fun e => h e.symm
theorem Apart.nil (v : Value) : Apart (.slice none 0 0) v := .inl rfl

/-- Where the slice that append hands back lies. -/
def Moved (w : World) (v v' : Value) : Prop := (v'.ownBlock = v.ownBlock ∧ v.ownBlock ≠ none) ∨ ∃ g, v'.ownBlock = some g ∧ w.heap.size ≤ g

theorem Own.kept {α : Type} {w w' : World} {B : Nat} {e : TypeId} {enc : α → List Value} {sz : Nat} {u v : Value} {l : List α} (h : Own w B e enc sz v l) (hg : w.grownBy w' u.ownBlock) (ha : Apart u v) : Own w' B e enc sz v l := by
  refine World.ownsRow.kept h hg ?_
  rcases ha with ha | ha
  · cases hv : v.ownBlock with
    | none => exact .inl rfl
    | some b => exact .inr (by rw [ha]; simp)
  · exact .inr fun e => ha e.symm

/-- A block of the call's own, below the slice's base, stays while the slice is appended to. -/
theorem Own.other {α : Type} {w w' : World} {B : Nat} {e : TypeId} {enc : α → List Value} {sz : Nat} {v : Value} {l : List α} (h : Own w B e enc sz v l) (hg : w.grownBy w' v.ownBlock) {k : Nat} {o : Obj} (hk : k < B) (ho : w.heap[k]? = some o) : w'.heap[k]? = some o := by
  rw [hg.block k (Array.getElem?_eq_some_iff.1 ho).1 (fun e => by have := (h.lt k e.symm).1; omega)]; exact ho

/-- append(s, x) of one element of sz cells, s the call's own; x has just been laid in a block of its own. -/
theorem own_app {P : Program} {ops : Array Oper} {rest : List Oper} {o : Oper} {a : Act} {Q : Exit → Act → World → Prop} {w : World} (hgd : o.guard = none) (s x : Operand) (t : TypeId)
    (ho : o.op = .call { callee := .builtin .append, args := #[s, x], argTypes := #[t, t] })
    {e : TypeId} {z : Value} {sz bytes : Nat} (ht : P.underlying t = some (.slice e)) (hi : (P.info? e).map (fun i => (i.zero, i.size, i.bytes)) = some (some z, sz, bytes)) (hz : z.cells.size = sz) (hsz : 0 < sz)
    {α : Type} {enc : α → List Value} {B base : Nat} {w0 : World} {v : Value} {l : List α} (y : α) {us : Array Value} (hown : Own w base e enc sz v l) (hs : a.eval s = v)
    (hx : a.eval x = .slice (some ⟨w.heap.size, 0, none⟩) 1 1) (hy : us.toList = enc y) (hyl : (enc y).length = sz) (hu : ∀ u ∈ enc y, u.oneCell' = true) (hlen : l.length + 1 ≤ maxLen) (hbytes : (l.length + 1) * bytes ≤ 140737488355328)
    (hb : Below B w0 w) (hB : B ≤ base) (hbase : base ≤ w.heap.size) (hB0 : B ≤ w0.heap.size)
    (h : ∀ v' w', Own w' base e enc sz v' (l ++ [y]) → Below B w0 w' → w.grownBy w' v.ownBlock → Moved w v v' → wpList P ops Q rest (a.put o.dst v') w') :
    wpList P ops Q (o :: rest) a (w.alloc (.cells us e)) := by
  obtain ⟨i, hi, hz0, hz1, hz2⟩ := info_parts hi
  have hcell : ∀ j u, (enc y)[j]? = some u → (w.alloc (.cells us e)).cell? ((⟨w.heap.size, 0, none⟩ : Addr).add j) = some u := by
    intro j u hj
    have e1 : (⟨w.heap.size, 0, none⟩ : Addr).add j = ⟨w.heap.size, j, none⟩ := by unfold Addr.add; split <;> simp_all
    rw [e1, Lib.cell_of_heap (heap_alloc_new w _), ← hj, ← hy]
    simp
  have hbelow : ∀ {w' : World} {row : Option Nat}, (w.alloc (.cells us e)).grownBy w' row → (∀ k, row = some k → base ≤ k) → Below B w0 w' := by
    intro w' row hg hr
    exact (hb.alloc (Nat.le_trans hB0 hb.size) _).grown hg (by have := hb.size; simp; omega) (fun k hk => by have := hr k hk; omega)
  have hgrow : ∀ {w' : World} {row : Option Nat}, (w.alloc (.cells us e)).grownBy w' row → w.grownBy w' row := fun {w' row} h2 =>
    ⟨h2.os, h2.tape, h2.output, Nat.le_trans (by simp) h2.size, fun k hk hne => (h2.block k (by simp; omega) hne).trans (Below.heap_alloc _ _ _ hk)⟩
  have hfl : ∀ (l : List α), (l ++ [y]).flatMap enc = l.flatMap enc ++ enc y := by intro l; rw [List.flatMap_append]; simp
  have hown1 := hown
  obtain ⟨hl1, hown2⟩ := hown1
  rcases hown2 with ⟨rfl, hl0⟩ | ⟨g, cap, cur, rfl, hg, hh, h1, h2, h3, h4⟩
  · obtain rfl : l = [] := List.eq_nil_of_length_eq_zero hl0
    refine wpList_append_grows _ hgd s x t ho e i z sz bytes ht hi hz0 hz1 hz2 hz hsz none 0 0 [] hs (fun _ => ⟨rfl, rfl⟩) (by simp) (fun b hb => by cases hb) ⟨w.heap.size, 0, none⟩ 1 1 (enc y) hx (by rw [hyl, Nat.one_mul]) hcell hu (by omega) hlen hbytes ?_
    intro v' w' r1 r2
    have r1' : Own w' base e enc sz v' ([] ++ [y]) := by
      refine Own.mono (B := (w.alloc (.cells us e)).heap.size) ?_ (by simp; omega)
      unfold Own; rw [hfl]; exact r1
    refine h v' w' r1' (hbelow r2 (by intro k hk; cases hk)) ⟨(hgrow r2).os, (hgrow r2).tape, (hgrow r2).output, (hgrow r2).size, fun k hk _ => (hgrow r2).block k hk (by simp)⟩ ?_
    rcases r1.2 with ⟨_, r3⟩ | ⟨g, cap, cur, rfl, r3, _⟩
    · simp at r3
    · exact .inr ⟨g, rfl, by simp at r3; omega⟩
  · have hcells : ∀ j u, (l.flatMap enc)[j]? = some u → (w.alloc (.cells us e)).cell? ((⟨g, 0, none⟩ : Addr).add j) = some u := by
      intro j u hj
      exact (hown.alloc (.cells us e)).cells (g := g) rfl j u hj
    by_cases hc : l.length + 1 ≤ cap
    · refine wpList_append_fits _ hgd s x t ho base e i sz ht hi hz1 g l.length cap (l.flatMap enc) hs (hown.alloc _) ⟨w.heap.size, 0, none⟩ 1 1 (enc y) hx (by rw [hyl, Nat.one_mul]) hcell hu hc ?_
      intro w' r1 r2
      refine h _ w' (by unfold Own; rw [hfl, List.length_append]; exact r1) (hbelow r2 (by intro k hk; cases hk; exact hg)) (hgrow r2) (.inl ⟨rfl, by simp [Value.ownBlock]⟩)
    · refine wpList_append_grows _ hgd s x t ho e i z sz bytes ht hi hz0 hz1 hz2 hz hsz (some ⟨g, 0, none⟩) l.length cap (l.flatMap enc) hs (fun e => by cases e) hl1 (fun b hb => by cases hb; exact hcells) ⟨w.heap.size, 0, none⟩ 1 1 (enc y) hx (by rw [hyl, Nat.one_mul]) hcell hu (by omega) hlen hbytes ?_
      intro v' w' r1 r2
      have r1' : Own w' base e enc sz v' (l ++ [y]) := by
        refine Own.mono (B := (w.alloc (.cells us e)).heap.size) ?_ (by simp; omega)
        unfold Own; rw [hfl, List.length_append]; exact r1
      refine h v' w' r1' (hbelow r2 (by intro k hk; cases hk)) ⟨(hgrow r2).os, (hgrow r2).tape, (hgrow r2).output, (hgrow r2).size, fun k hk _ => (hgrow r2).block k hk (by simp)⟩ ?_
      rcases r1.2 with ⟨_, r3⟩ | ⟨g, cap, cur, rfl, r3, _⟩
      · omega
      · exact .inr ⟨g, rfl, by simp at r3; omega⟩

theorem run_append_owned_nil {P : Program} {w : World} (base : Nat) (t ty e : TypeId) (i : TypeInfo) (size : Nat) (ht : P.underlying t = some (.slice e)) (hi : P.info? e = some i)
    (v : Value) (n : Nat) (xs : List Value) (hown : w.ownsRow base e size v n xs) (c : Nat) :
    (Builtin.append_ #[t, t] ty #[v, .slice none 0 c]).run P w = .ok v w := by
  rcases hown.2 with ⟨rfl, rfl⟩ | ⟨g, cap, cur, rfl, _, _, hnc, _⟩
  · simp [Builtin.append_, run_underlying ht, sizeOf, typeInfo, hi, Builtin.lenOf, Builtin.firstCells]
  · simp [Builtin.append_, run_underlying ht, sizeOf, typeInfo, hi, Builtin.lenOf, Builtin.firstCells, hnc, storeCells]

/-- append(s, x...), s the call's own, x a slice that reads as l2. -/
theorem wp_own_apps {P : Program} {o : Oper} {a : Act} {K : Act → World → Prop} {Q : Exit → Act → World → Prop} {w : World} (s x : Operand) (t : TypeId)
    (ho : o.op = .call { callee := .builtin .append, args := #[s, x], argTypes := #[t, t] })
    {e : TypeId} {z : Value} {sz bytes : Nat} (ht : P.underlying t = some (.slice e)) (hi : (P.info? e).map (fun i => (i.zero, i.size, i.bytes)) = some (some z, sz, bytes)) (hz : z.cells.size = sz) (hsz : 0 < sz)
    {α : Type} {enc : α → List Value} (hel : ∀ x, (enc x).length = sz) (heo : ∀ x, ∀ u ∈ enc x, u.oneCell' = true) {B base : Nat} {w0 : World} {v : Value} {l l2 : List α} (hown : Own w base e enc sz v l) (hs : a.eval s = v)
    (v2 : Value) (hx : a.eval x = v2) (hrd : Rd w enc sz v2 l2) (hlen : l.length + l2.length ≤ maxLen) (hbytes : (l.length + l2.length) * bytes ≤ 140737488355328)
    (hb : Below B w0 w) (hB : B ≤ base) (hbase : base ≤ w.heap.size)
    (h : ∀ v' w', Own w' base e enc sz v' (l ++ l2) → Below B w0 w' → w.grownBy w' v.ownBlock → K (a.put o.dst v') w') :
    o.wp P a w K Q := by
  obtain ⟨i, hi, hz0, hz1, hz2⟩ := info_parts hi
  obtain ⟨ad, cap, rfl, c1, c2, c3⟩ := hrd
  cases ad with
  | none =>
    have hl : l2 = [] := by
      cases l2 with
      | nil => rfl
      | cons y l2 => obtain ⟨b, off, h1, _⟩ := c3 (by simp); cases h1
    subst hl
    have hrun := run_append_owned_nil (P := P) (w := w) base t o.type e i sz ht hi v _ _ hown cap
    unfold Oper.wp
    simp only [List.length_nil] at hx
    simp [execOp, ho, resolve, invoke, builtin, hs, hx, hrun, Result.andThen]
    exact (h v w (by simpa using hown) hb ⟨rfl, rfl, rfl, Nat.le_refl _, fun _ _ _ => rfl⟩)
  | some ad =>
    refine wp_append_own w s x t ho base e i z sz bytes ht hi hz0 hz1 hz2 hz hsz v l.length _ hs hown ad l2.length cap (l2.flatMap enc) hx (flatMap_len enc sz hel l2) ?_ ?_ hlen hbytes hbase ?_
    · intro j u hj
      have hj1 : j < l2.length * sz := by have := (List.getElem?_eq_some_iff.1 hj).1; rwa [flatMap_len enc sz hel] at this
      have hne : l2 ≠ [] := by intro e; subst e; simp at hj1
      obtain ⟨b, off, h1, _, hc⟩ := c3 hne
      cases h1
      have hd : j / sz < l2.length := (Nat.div_lt_iff_lt_mul hsz).2 hj1
      have hm : j % sz < sz := Nat.mod_lt _ hsz
      have h2 := hc (j / sz) hd (j % sz) hm
      have h3 := flatMap_at enc sz hel l2 (j / sz) hd (j % sz) hm
      have h4 : j / sz * sz + j % sz = j := Nat.div_add_mod' j sz
      rw [h4] at h3
      rw [Nat.add_assoc, h4] at h2
      have h5 : (⟨b, off, none⟩ : Addr).add j = ⟨b, off + j, none⟩ := by unfold Addr.add; split <;> simp_all
      rw [h5, h2, ← h3, hj]
    · intro u hu
      obtain ⟨y, _, hy⟩ := List.mem_flatMap.1 hu
      exact heo y u hy
    · intro v' w' r1 r2 _
      refine h v' w' (by unfold Own; rw [List.flatMap_append, List.length_append]; exact r1) (hb.grown r2 (by omega) ?_) r2
      intro k hk
      have := (hown.lt k hk).1
      omega
/-- append(s, x...), s the call's own, x a slice that reads as l2. -/
theorem own_apps {P : Program} {ops : Array Oper} {rest : List Oper} {o : Oper} {a : Act} {Q : Exit → Act → World → Prop} {w : World} (hgd : o.guard = none) (s x : Operand) (t : TypeId)
    (ho : o.op = .call { callee := .builtin .append, args := #[s, x], argTypes := #[t, t] })
    {e : TypeId} {z : Value} {sz bytes : Nat} (ht : P.underlying t = some (.slice e)) (hi : (P.info? e).map (fun i => (i.zero, i.size, i.bytes)) = some (some z, sz, bytes)) (hz : z.cells.size = sz) (hsz : 0 < sz)
    {α : Type} {enc : α → List Value} (hel : ∀ x, (enc x).length = sz) (heo : ∀ x, ∀ u ∈ enc x, u.oneCell' = true) {B base : Nat} {w0 : World} {v : Value} {l l2 : List α} (hown : Own w base e enc sz v l) (hs : a.eval s = v)
    (v2 : Value) (hx : a.eval x = v2) (hrd : Rd w enc sz v2 l2) (hlen : l.length + l2.length ≤ maxLen) (hbytes : (l.length + l2.length) * bytes ≤ 140737488355328)
    (hb : Below B w0 w) (hB : B ≤ base) (hbase : base ≤ w.heap.size)
    (h : ∀ v' w', Own w' base e enc sz v' (l ++ l2) → Below B w0 w' → w.grownBy w' v.ownBlock → wpList P ops Q rest (a.put o.dst v') w') :
    wpList P ops Q (o :: rest) a w := by
  exact wpList_plain hgd fun _ hK => wp_own_apps s x t ho ht hi hz hsz hel heo hown hs v2 hx hrd hlen hbytes hb hB hbase fun v' w' h1 h2 h3 => hK _ _ (h v' w' h1 h2 h3)
/-- append(s, x...), s the call's own, x a slice that reads as l2. -/
theorem step_own_apps {P : Program} {ops : Array Oper} {o : Oper} {a : Act} {K : Act → World → Prop} {E : Prop} {Q : Exit → Act → World → Prop} {w : World} (hgd : o.guard = none) (s x : Operand) (t : TypeId)
    (ho : o.op = .call { callee := .builtin .append, args := #[s, x], argTypes := #[t, t] })
    {e : TypeId} {z : Value} {sz bytes : Nat} (ht : P.underlying t = some (.slice e)) (hi : (P.info? e).map (fun i => (i.zero, i.size, i.bytes)) = some (some z, sz, bytes)) (hz : z.cells.size = sz) (hsz : 0 < sz)
    {α : Type} {enc : α → List Value} (hel : ∀ x, (enc x).length = sz) (heo : ∀ x, ∀ u ∈ enc x, u.oneCell' = true) {B base : Nat} {w0 : World} {v : Value} {l l2 : List α} (hown : Own w base e enc sz v l) (hs : a.eval s = v)
    (v2 : Value) (hx : a.eval x = v2) (hrd : Rd w enc sz v2 l2) (hlen : l.length + l2.length ≤ maxLen) (hbytes : (l.length + l2.length) * bytes ≤ 140737488355328)
    (hb : Below B w0 w) (hB : B ≤ base) (hbase : base ≤ w.heap.size)
    (h : ∀ v' w', Own w' base e enc sz v' (l ++ l2) → Below B w0 w' → w.grownBy w' v.ownBlock → K (a.put o.dst v') w') :
    if Region.wanted o (yielded ops a.tmps) = true then Oper.wp P o a w K Q else E := by
  have hw : Region.wanted o (yielded ops a.tmps) = true := by simp [Region.wanted, hgd]
  rw [if_pos hw]
  exact wp_own_apps s x t ho ht hi hz hsz hel heo hown hs v2 hx hrd hlen hbytes hb hB hbase h
end Go.Proofs.YtmclmccgghnglaaGreat
