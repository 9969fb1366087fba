/- Slices at the head of a block of their own, whose capacity may have been cut: no condition. Extract: rmAmount_any. No condition. -/
import Derived.Test.YtmclmccgghnglaaGreatLsOwn
import Derived.Test.YtmclmccgghnglaaGreatLsKeep
import Derived.Test.YtmclmccgghnglaaGreatLsUn
import Derived.Test.YtmclmccgghnglaaGreatLsReg
import Derived.Laws.BitsAll
namespace Go.Proofs.YtmclmccgghnglaaGreat
section
open Go.RowKit

/-- The slice value v, of l's elements: nil, or at the head of a block of its own that bears v's capacity at least. -/
def LO {α : Type} (w : World) (e : TypeId) (enc : α → List Value) (sz : Nat) (v : Value) (l : List α) : Prop :=
  (v = .slice none 0 0 ∧ l = []) ∨ ∃ g cap cur, v = .slice (some ⟨g, 0, none⟩) l.length cap ∧ w.heap[g]? = some (.cells cur e (0, 0)) ∧ l.length ≤ cap ∧ cap ≤ maxLen ∧ cap * sz ≤ cur.size ∧ cur.toList.take (l.length * sz) = l.flatMap enc

section
variable {α : Type} {w w' : World} {e : TypeId} {enc : α → List Value} {sz : Nat} {v : Value} {l : List α}

theorem LO.nil (w : World) (e : TypeId) (enc : α → List Value) (sz : Nat) : LO w e enc sz (.slice none 0 0) [] := .inl ⟨rfl, rfl⟩
theorem LO.of_own {B : Nat} (h : Own w B e enc sz v l) : LO w e enc sz v l := by
  rcases h.2 with ⟨rfl, h2⟩ | ⟨g, cap, cur, rfl, hg, hh, h1, h2, h3, h4⟩
  · exact .inl ⟨rfl, List.eq_nil_of_length_eq_zero h2⟩
  · exact .inr ⟨g, cap, cur, rfl, hh, h1, h2, Nat.le_of_eq h3.symm, h4⟩
theorem LO.lt (h : LO w e enc sz v l) : ∀ k, v.ownBlock = some k → k < w.heap.size := by
  intro k hk
  rcases h with ⟨rfl, _⟩ | ⟨g, cap, cur, rfl, hh, _⟩
  · cases hk
  · cases hk; exact heap_lt hh
theorem LO.keep (h : LO w e enc sz v l) {S : Nat → Prop} (hk : Keep S w w') (hS : ∀ k, v.ownBlock = some k → ¬ S k) : LO w' e enc sz v l := by
  rcases h with h | ⟨g, cap, cur, rfl, hh, r⟩
  · exact .inl h
  · exact .inr ⟨g, cap, cur, rfl, hk.at hh (hS g rfl), r⟩
theorem LO.later (h : LO w e enc sz v l) (hb : Below w.heap.size w w') : LO w' e enc sz v l := h.keep (Keep.of_below (S := fun _ => False) hb) fun _ _ => id
theorem LO.rd (h : LO w e enc sz v l) (he : ∀ x, (enc x).length = sz) : Rd w enc sz v l := by
  rcases h with ⟨rfl, rfl⟩ | ⟨g, cap, cur, rfl, hh, h1, h2, h3, h4⟩
  · exact Rd.nil _ _ _
  · refine ⟨_, cap, rfl, h1, h2, fun _ => ⟨g, 0, rfl, heap_lt hh, fun i hi j hj => ?_⟩⟩
    have h5 := flatMap_at enc sz he l i hi j hj
    rw [← h4, List.getElem?_take, if_pos (by
      have : i * sz + sz ≤ l.length * sz := by rw [← Nat.succ_mul]; exact Nat.mul_le_mul_right _ hi
      omega)] at h5
    rw [← h5]
    simp [World.cell?, hh]
theorem LO.shape (h : LO w e enc sz v l) : ∃ ad cap, v = .slice ad l.length cap ∧ l.length ≤ cap ∧ cap ≤ 9223372036854775807 := by
  rcases h with ⟨rfl, rfl⟩ | ⟨g, cap, cur, rfl, hh, h1, h2, h3, h4⟩
  · exact ⟨none, 0, rfl, Nat.le_refl _, by omega⟩
  · unfold maxLen at h2; exact ⟨_, cap, rfl, h1, h2⟩
/-- A slice that is not empty, opened. -/
theorem LO.opened (h : LO w e enc sz v l) (hl : l ≠ []) : ∃ g cap cur, v = .slice (some ⟨g, 0, none⟩) l.length cap ∧ w.heap[g]? = some (.cells cur e (0, 0)) ∧ l.length ≤ cap ∧ cap ≤ maxLen ∧ cap * sz ≤ cur.size ∧ cur.toList.take (l.length * sz) = l.flatMap enc := by
  rcases h with ⟨_, rfl⟩ | h
  · exact absurd rfl hl
  · exact h
theorem LO.mk {g cap : Nat} {cur : Array Value} {n : Nat} (hn : n = l.length) (hh : w.heap[g]? = some (.cells cur e (0, 0))) (h1 : n ≤ cap) (h2 : cap ≤ maxLen) (h3 : cap * sz ≤ cur.size) (h4 : cur.toList.take (n * sz) = l.flatMap enc) : LO w e enc sz (.slice (some ⟨g, 0, none⟩) n cap) l := by
  subst hn; exact .inr ⟨g, cap, cur, rfl, hh, h1, h2, h3, h4⟩
/-- s[:m:c]. -/
theorem LO.cut (he : ∀ x, (enc x).length = sz) {g n cap : Nat} (h : LO w e enc sz (.slice (some ⟨g, 0, none⟩) n cap) l) (m c : Nat) (hm : m ≤ n) (hc : m ≤ c) (hcc : c ≤ cap) : LO w e enc sz (.slice (some ⟨g, 0, none⟩) m c) (l.take m) := by
  rcases h with ⟨h, _⟩ | ⟨g', cap', cur, hv, hh, h1, h2, h3, h4⟩
  · cases h
  · cases hv
    refine LO.mk (by rw [List.length_take]; omega) hh hc (by omega) (Nat.le_trans (Nat.mul_le_mul_right _ hcc) h3) ?_
    have h5 : (l.take m).flatMap enc = (l.flatMap enc).take (m * sz) := by
      have h6 : l = l.take m ++ l.drop m := (List.take_append_drop m l).symm
      conv => rhs; rw [h6, List.flatMap_append]
      rw [List.take_left']
      rw [flatMap_len enc sz he, List.length_take, Nat.min_eq_left hm]
    rw [h5, ← h4, List.take_take]
    congr 1
    have : m * sz ≤ l.length * sz := Nat.mul_le_mul_right _ hm
    omega
/-- A new row. -/
theorem LO.made (w : World) (cs : Array Value) (cap : Nat) (n : Nat) (hn : n = l.length) (h1 : n ≤ cap) (h2 : cap ≤ maxLen) (h3 : cap * sz ≤ cs.size) (h4 : cs.toList.take (n * sz) = l.flatMap enc) :
    LO (w.alloc (.cells cs e)) e enc sz (.slice (some ⟨w.heap.size, 0, none⟩) n cap) l := LO.mk hn (heap_alloc_new _ _) h1 h2 h3 h4
end

/-- Where the slice that append hands back lies: in the old row, or in a new one. -/
def MovedO (w : World) (v v' : Value) : Prop := v'.ownBlock = v.ownBlock ∨ ∃ g, v'.ownBlock = some g ∧ w.heap.size ≤ g

/-- What is appended may be of another slice type. -/
theorem append_types {P : Program} {w : World} {t u ty e e' : TypeId} (ht : P.underlying t = some (.slice e)) (hu : P.underlying u = some (.slice e')) (s x : Value) :
    (Builtin.append_ #[t, u] ty #[s, x]).run P w = (Builtin.append_ #[t, t] ty #[s, x]).run P w := by
  unfold Builtin.append_
  simp only [List.getElem?_toArray, List.getElem?_cons_zero, List.getElem?_cons_succ, Sem.run_bind, run_underlying ht, Result.andThen_ok]
  cases s <;> first | rfl | (simp only [Sem.run_bind, run_underlying ht, run_underlying hu, Result.andThen_ok])
/-- append(s, x...), x a slice that reads as l2. -/
theorem wp_lo_apps {P : Program} {o : Oper} {a : Act} {K : Act → World → Prop} {Q : Exit → Act → World → Prop} {w : World} (s x : Operand) (t u : TypeId)
    (ho : o.op = .call { callee := .builtin .append, args := #[s, x], argTypes := #[t, u] })
    {e : TypeId} {z : Value} {sz bytes : Nat} (ht : P.underlying t = some (.slice e)) (hut : P.underlying u = some (.slice e)) (hi : (P.info? e).map (fun i => (i.zero, i.size, i.bytes)) = some (some z, sz, bytes)) (hz : z.cells.size = sz) (hsz : 0 < sz)
    {α : Type} {enc : α → List Value} (hel : ∀ x, (enc x).length = sz) {v : Value} {l l2 : List α} (heo : ∀ x ∈ l2, ∀ u ∈ enc x, u.oneCell' = true) (hown : LO w e enc sz v l) (hs : a.eval s = v)
    (v2 : Value) (hx : a.eval x = v2) (hrd : Rd w enc sz v2 l2) (hlen : l.length + l2.length ≤ maxLen) (hbytes : (l.length + l2.length) * bytes ≤ 140737488355328)
    (h : ∀ v' w', LO w' e enc sz v' (l ++ l2) → Keep (fun k => v.ownBlock = some k) w w' → MovedO w v v' → K (a.put o.dst v') w') :
    o.wp P a w K Q := by
  obtain ⟨i, hi, hz0, hz1, hz2⟩ := info_parts hi
  obtain ⟨ad, cap, rfl, c1, c2, c3⟩ := hrd
  cases ad with
  | none =>
    have hl : l2 = [] := by
      cases l2 with
      | nil => rfl
      | cons y l2 => obtain ⟨b, off, h1, _⟩ := c3 (by simp); cases h1
    subst hl
    have hrun : (Builtin.append_ #[t, t] o.type #[v, .slice none 0 cap]).run P w = .ok v w := by
      rcases hown with ⟨rfl, rfl⟩ | ⟨g, cap, cur, rfl, _, hnc, _⟩
      · simp [Builtin.append_, run_underlying ht, sizeOf, typeInfo, hi, Builtin.lenOf, Builtin.firstCells]
      · simp [Builtin.append_, run_underlying ht, sizeOf, typeInfo, hi, Builtin.lenOf, Builtin.firstCells, hnc, storeCells]
    unfold Oper.wp
    simp only [List.length_nil] at hx
    simp [execOp, ho, resolve, invoke, builtin, hs, hx, append_types ht hut, hrun, Result.andThen]
    exact h v w (by simpa using hown) (Keep.refl _ _) (.inl rfl)
  | some ad =>
    have hnews : ∀ j u, (l2.flatMap enc)[j]? = some u → w.cell? (ad.add j) = some u := by
      intro j u hj
      have hj1 : j < l2.length * sz := by have := (List.getElem?_eq_some_iff.1 hj).1; rwa [flatMap_len enc sz hel] at this
      have hne : l2 ≠ [] := by intro e; subst e; simp at hj1
      obtain ⟨b, off, h1, _, hc⟩ := c3 hne
      cases h1
      have hd : j / sz < l2.length := (Nat.div_lt_iff_lt_mul hsz).2 hj1
      have hm : j % sz < sz := Nat.mod_lt _ hsz
      have h2 := hc (j / sz) hd (j % sz) hm
      have h3 := flatMap_at enc sz hel l2 (j / sz) hd (j % sz) hm
      have h4 : j / sz * sz + j % sz = j := Nat.div_add_mod' j sz
      rw [h4] at h3
      rw [Nat.add_assoc, h4] at h2
      have h5 : (⟨b, off, none⟩ : Addr).add j = ⟨b, off + j, none⟩ := by unfold Addr.add; split <;> simp_all
      rw [h5, h2, ← h3, hj]
    have hone : ∀ u ∈ l2.flatMap enc, u.oneCell' = true := by
      intro u hu
      obtain ⟨y, hy0, hy⟩ := List.mem_flatMap.1 hu
      exact heo y hy0 u hy
    have hl2 := flatMap_len enc sz hel l2
    by_cases hroom : ∃ g c cur, v = .slice (some ⟨g, 0, none⟩) l.length c ∧ w.heap[g]? = some (.cells cur e (0, 0)) ∧ l.length ≤ c ∧ c ≤ maxLen ∧ c * sz ≤ cur.size ∧ cur.toList.take (l.length * sz) = l.flatMap enc ∧ l.length + l2.length ≤ c
    · obtain ⟨g, c, cur, rfl, hh, h1, h2, h3, h4, h5⟩ := hroom
      obtain ⟨news, hN⟩ : ∃ news, news = l2.flatMap enc := ⟨_, rfl⟩
      rw [← hN] at hnews hone hl2
      have hfit : (l.length + l2.length) * sz ≤ cur.size := Nat.le_trans (Nat.mul_le_mul_right _ h5) h3
      rw [Nat.add_mul] at hfit
      have hrun := run_append_room (P := P) w t o.type e i ht hi g l.length c cur hh ad l2.length cap news (by rw [hl2, hz1]) hnews hone h5 (by rw [hz1, hl2]; exact hfit)
      unfold Oper.wp
      simp [execOp, ho, resolve, invoke, builtin, hs, hx, append_types ht hut, hrun, Result.andThen]
      refine h _ _ ?_ (Keep.setRow (S := fun k => Value.ownBlock (.slice (some ⟨g, 0, none⟩) l.length c) = some k) (Keep.refl _ _) (.inl rfl) _) (.inl rfl)
      refine LO.mk (by rw [List.length_append]) (setRow_heap _ _ _ _ _ _ hh) h5 h2 ?_ ?_
      · simp only [List.size_toArray, List.length_append, List.length_take, List.length_drop, Array.length_toList, hz1, hl2]; omega
      · simp only [hz1]
        have e1 : (cur.toList.take (l.length * sz) ++ news).length = (l.length + l2.length) * sz := by
          rw [List.length_append, List.length_take, Array.length_toList (xs := cur), hl2, Nat.add_mul, Nat.min_eq_left (Nat.le_trans (Nat.le_add_right _ _) hfit)]
        rw [← e1, ← List.append_assoc, List.take_left' rfl, h4, List.flatMap_append, hN]
    · have hgo : ∃ (ao : Option Addr) (c : Nat), v = .slice ao l.length c ∧ (ao = none → l.length = 0 ∧ c = 0) ∧ (∀ b, ao = some b → ∀ j u, (l.flatMap enc)[j]? = some u → w.cell? (b.add j) = some u) ∧ (l.length + l2.length ≤ c → ao = none) := by
        rcases hown with ⟨rfl, rfl⟩ | ⟨g, c, cur, rfl, hh, h1, h2, h3, h4⟩
        · exact ⟨none, 0, rfl, fun _ => ⟨rfl, rfl⟩, (fun b hb => by cases hb), fun _ => rfl⟩
        · refine ⟨some ⟨g, 0, none⟩, c, rfl, (fun e => by cases e), ?_, fun h5 => absurd ⟨g, c, cur, rfl, hh, h1, h2, h3, h4, h5⟩ hroom⟩
          intro b hb j u hj
          cases hb
          have h5 : (⟨g, 0, none⟩ : Addr).add j = ⟨g, j, none⟩ := by unfold Addr.add; split <;> simp_all
          rw [h5, Lib.cell_of_heap hh]
          rw [← h4, List.getElem?_take] at hj
          split at hj
          · simpa using hj
          · cases hj
      obtain ⟨ao, c, rfl, g1, g2, g3⟩ := hgo
      by_cases hfits : l.length + l2.length ≤ c
      · have := g3 hfits; subst this
        obtain ⟨z1, z2⟩ := g1 rfl
        have hl0 : l = [] := List.eq_nil_of_length_eq_zero z1
        have hl20 : l2 = [] := List.eq_nil_of_length_eq_zero (by omega)
        subst hl0; subst hl20; subst z2
        have hrun : (Builtin.append_ #[t, t] o.type #[.slice none 0 0, .slice (some ad) 0 cap]).run P w = .ok (.slice none 0 0) w := by
          have hlc : ∀ (b : Addr), (loadCells b 0).run P w = .ok #[] w := fun b => by unfold loadCells; simp [loadCellsFrom]
          simp [Builtin.append_, run_underlying ht, sizeOf, typeInfo, hi, Builtin.lenOf, Builtin.firstCells, hlc]
        unfold Oper.wp
        simp only [List.length_nil] at hx hs
        simp [execOp, ho, resolve, invoke, builtin, hs, hx, append_types ht hut, hrun, Result.andThen]
        exact h _ w (LO.nil _ _ _ _) (Keep.refl _ _) (.inl rfl)
      · have hrun : ∃ v' w', (Builtin.append_ #[t, t] o.type #[.slice ao l.length c, .slice (some ad) l2.length cap]).run P w = .ok v' w' ∧ w'.ownsRow w.heap.size e sz v' (l.length + l2.length) (l.flatMap enc ++ l2.flatMap enc) ∧ w.grownBy w' none := by
          cases ao with
          | some b => exact run_append_arg_grows (P := P) w t o.type e i z sz bytes ht hi hz0 hz1 hz2 hz hsz b l.length c (l.flatMap enc) (flatMap_len enc sz hel l) (g2 b rfl) ad l2.length cap (l2.flatMap enc) hl2 hnews (by omega) hlen hbytes
          | none =>
            obtain ⟨z1, z2⟩ := g1 rfl
            have hl0 : l = [] := List.eq_nil_of_length_eq_zero z1
            subst hl0; subst z2
            obtain ⟨v', w', r1, r2, r3, _⟩ := run_append_own (P := P) w w.heap.size t o.type e i z sz bytes ht hi hz0 hz1 hz2 hz hsz (.slice none 0 0) 0 [] (World.ownsRow_nil w _ e sz) ad l2.length cap (l2.flatMap enc) hl2 hnews hone (by simpa using hlen) (by simpa using hbytes) (Nat.le_refl _)
            exact ⟨v', w', r1, by simpa using r2, r3⟩
        obtain ⟨v', w', hrun, r1, r2⟩ := hrun
        unfold Oper.wp
        simp [execOp, ho, resolve, invoke, builtin, hs, hx, append_types ht hut, hrun, Result.andThen]
        have hown : Own w' w.heap.size e enc sz v' (l ++ l2) := by unfold Own; rw [List.flatMap_append, List.length_append]; exact r1
        refine h _ _ (LO.of_own hown) (Keep.of_below ⟨r2.os, r2.tape, r2.output, r2.size, fun k hk => r2.block k hk (by simp)⟩) ?_
        rcases r1.2 with ⟨_, r3⟩ | ⟨g, cap, cur, rfl, r3, _⟩
        · omega
        · exact .inr ⟨g, rfl, r3⟩
/-- append(s, x...), x a slice that reads as l2. -/
theorem lo_apps {P : Program} {ops : Array Oper} {rest : List Oper} {o : Oper} {a : Act} {Q : Exit → Act → World → Prop} {w : World} (hgd : o.guard = none) (s x : Operand) (t u : TypeId)
    (ho : o.op = .call { callee := .builtin .append, args := #[s, x], argTypes := #[t, u] })
    {e : TypeId} {z : Value} {sz bytes : Nat} (ht : P.underlying t = some (.slice e)) (hut : P.underlying u = some (.slice e)) (hi : (P.info? e).map (fun i => (i.zero, i.size, i.bytes)) = some (some z, sz, bytes)) (hz : z.cells.size = sz) (hsz : 0 < sz)
    {α : Type} {enc : α → List Value} (hel : ∀ x, (enc x).length = sz) {v : Value} {l l2 : List α} (heo : ∀ x ∈ l2, ∀ u ∈ enc x, u.oneCell' = true) (hown : LO w e enc sz v l) (hs : a.eval s = v)
    (v2 : Value) (hx : a.eval x = v2) (hrd : Rd w enc sz v2 l2) (hlen : l.length + l2.length ≤ maxLen) (hbytes : (l.length + l2.length) * bytes ≤ 140737488355328)
    (h : ∀ v' w', LO w' e enc sz v' (l ++ l2) → Keep (fun k => v.ownBlock = some k) w w' → MovedO w v v' → wpList P ops Q rest (a.put o.dst v') w') :
    wpList P ops Q (o :: rest) a w :=
  wpList_plain hgd fun _ hK => wp_lo_apps s x t u ho ht hut hi hz hsz hel heo hown hs v2 hx hrd hlen hbytes fun v' w' h1 h2 h3 => hK _ _ (h v' w' h1 h2 h3)
/-- append(s, y) of one element, which has just been laid in a block of its own. -/
theorem lo_app1 {P : Program} {ops : Array Oper} {rest : List Oper} {o : Oper} {a : Act} {Q : Exit → Act → World → Prop} {w : World} (hgd : o.guard = none) (s x : Operand) (t u : TypeId)
    (ho : o.op = .call { callee := .builtin .append, args := #[s, x], argTypes := #[t, u] })
    {e : TypeId} {z : Value} {sz bytes : Nat} (ht : P.underlying t = some (.slice e)) (hut : P.underlying u = some (.slice e)) (hi : (P.info? e).map (fun i => (i.zero, i.size, i.bytes)) = some (some z, sz, bytes)) (hz : z.cells.size = sz) (hsz : 0 < sz)
    {α : Type} {enc : α → List Value} (hel : ∀ x, (enc x).length = sz) {v : Value} {l : List α} (hown : LO w e enc sz v l) (hs : a.eval s = v)
    (y : α) (heo : ∀ u ∈ enc y, u.oneCell' = true) (g : Nat) (cs : Array Value) (T : TypeId) (hg : w.heap[g]? = some (.cells cs T (0, 0))) (hcs : cs.toList = enc y) (hx : a.eval x = .slice (some ⟨g, 0, none⟩) 1 1) (hlen : l.length + 1 ≤ maxLen) (hbytes : (l.length + 1) * bytes ≤ 140737488355328)
    (h : ∀ v' w', LO w' e enc sz v' (l ++ [y]) → Keep (fun k => v.ownBlock = some k) w w' → MovedO w v v' → wpList P ops Q rest (a.put o.dst v') w') :
    wpList P ops Q (o :: rest) a w :=
  lo_apps (l2 := [y]) hgd s x t u ho ht hut hi hz hsz hel (fun x hx => by rw [List.mem_singleton.1 hx]; exact heo) hown hs _ hx ⟨some ⟨g, 0, none⟩, 1, rfl, Nat.le_refl _, by unfold maxLen; omega, fun _ => ⟨g, 0, rfl, heap_lt hg, fun i hi j hj => by
    have h0 : i = 0 := by simpa using hi
    subst h0
    rw [Lib.cell_of_heap hg]
    simp [← hcs]⟩⟩ hlen hbytes h
end
section
open Go.RowKit

theorem LO.kind {α : Type} {w : World} {e : TypeId} {enc : α → List Value} {sz : Nat} {v : Value} {l : List α} (h : LO w e enc sz v l) {k : Nat} (hk : v.ownBlock = some k) : ∃ cs, w.heap[k]? = some (.cells cs e (0, 0)) := by
  rcases h with ⟨rfl, _⟩ | ⟨g, cap, cur, rfl, hh, _⟩
  · cases hk
  · cases hk; exact ⟨_, hh⟩
theorem below_at' {a b : World} (h : Below a.heap.size a b) {k : Nat} {o : Obj} (ho : a.heap[k]? = some o) : b.heap[k]? = some o := (Keep.of_below (S := fun _ => False) h).at ho id
theorem below_new (w : World) (o : Obj) : Below w.heap.size w (w.alloc o) := (Below.refl _ _).alloc (Nat.le_refl _) o
theorem load_heap {P : Program} {w : World} {g : Nat} {t ty : TypeId} {cs : Array Value} {fr : Nat × Nat} {d : TypeDesc} (hg : w.heap[g]? = some (.cells cs t fr))
    (hu : P.underlying ty = some d) (hd : (match d with | .struct _ | .array _ _ => true | _ => false) = true) (hi : (P.info? ty).map (·.size) = some cs.size) :
    (Instr.loadAt ty (.pointer (some ⟨g, 0, none⟩))).run P w = .ok (.agg cs) w := by
  have h := run_loadVar_row (P := P) w g t ty cs fr d hg hu hd hi
  exact h
/-- The words of an amount, as numbers. -/
theorem UIs.nats {a b c d : Int} {n : Nat} (h : UIs a b c d n) : ∃ A B C E : Nat, a = A ∧ b = B ∧ c = C ∧ d = E ∧ A < 18446744073709551616 ∧ B < 18446744073709551616 ∧ C < 18446744073709551616 ∧ E < 18446744073709551616 ∧ n = A + B * 18446744073709551616 + C * 340282366920938463463374607431768211456 + E * 6277101735386680763835789423207666416102355444464034512896 := by
  unfold UIs at h
  exact ⟨a.toNat, b.toNat, c.toNat, d.toNat, by omega, by omega, by omega, by omega, by omega, by omega, by omega, by omega, by omega⟩
def URet (w : World) (n : Nat) (e : Ending) (w' : World) : Prop := ∃ a b c d : Int, UIs a b c d n ∧ e = .returned (.agg #[.int .u64 a, .int .u64 b, .int .u64 c, .int .u64 d]) ∧ Below w.heap.size w w'
theorem Tryz.zeroUz (w : World) : (zeroValue 55).run Tryz.prog w = .ok (.agg u0) w := by kernel_rfl
theorem box2 (w : World) (c0 c1 : Array Value) (T0 T1 : TypeId) (w1 : World) (hw : w1 = (w.alloc (.cells c0 T0)).alloc (.cells c1 T1)) :
    w1.heap[w.heap.size]? = some (.cells c0 T0 (0, 0)) ∧ w1.heap[w.heap.size + 1]? = some (.cells c1 T1 (0, 0)) ∧ Below w.heap.size w w1 ∧ w1.heap.size = w.heap.size + 2 := by
  obtain ⟨wa, ha⟩ : ∃ x, x = w.alloc (.cells c0 T0) := ⟨_, rfl⟩
  rw [← ha] at hw
  have sa : wa.heap.size = w.heap.size + 1 := by rw [ha, World.size_alloc]
  have ba : Below w.heap.size w wa := by rw [ha]; exact below_new _ _
  have bb : Below wa.heap.size wa w1 := by rw [hw]; exact below_new _ _
  have ea : wa.heap[w.heap.size]? = some (.cells c0 T0 (0, 0)) := by rw [ha]; exact heap_alloc_new _ _
  have eb : w1.heap[wa.heap.size]? = some (.cells c1 T1 (0, 0)) := by rw [hw]; exact heap_alloc_new _ _
  rw [sa] at eb
  exact ⟨below_at' bb ea, eb, ba.trans (bb.mono (by omega)), by rw [hw, World.size_alloc, sa]⟩
/-- 2^128. -/
abbrev uHalf : Nat := 340282366920938463463374607431768211456
def dv : List Nat → Nat
  | [] => 0
  | d :: l => d + 4294967296 * dv l
def digs (n : Nat) : List Nat := if n = 0 then [] else n % 4294967296 :: digs (n / 4294967296)
termination_by n
decreasing_by omega
def D32 (l : List Nat) : Prop := ∀ d ∈ l, d < 4294967296
theorem digs_zero : digs 0 = [] := by rw [digs]; rfl
theorem digs_pos {n : Nat} (h : n ≠ 0) : digs n = n % 4294967296 :: digs (n / 4294967296) := by rw [digs, if_neg h]
theorem D32.nil : D32 [] := fun d h => by cases h
theorem D32.cons {d : Nat} {l : List Nat} : D32 (d :: l) ↔ d < 4294967296 ∧ D32 l := by
  constructor
  · intro h; exact ⟨h d (by simp), fun x hx => h x (by simp [hx])⟩
  · rintro ⟨h1, h2⟩ x hx
    rcases List.mem_cons.1 hx with rfl | hx
    · exact h1
    · exact h2 x hx
theorem D32.take {l : List Nat} (h : D32 l) (k : Nat) : D32 (l.take k) := fun d hd => h d (List.take_subset k l hd)
theorem digs_d32 (n : Nat) : D32 (digs n) := by
  induction n using Nat.strongRecOn with
  | _ n ih =>
    by_cases h : n = 0
    · rw [h, digs_zero]; exact D32.nil
    · rw [digs_pos h]
      exact D32.cons.2 ⟨Nat.mod_lt _ (by omega), ih _ (by omega)⟩
theorem dv_digs (n : Nat) : dv (digs n) = n := by
  induction n using Nat.strongRecOn with
  | _ n ih =>
    by_cases h : n = 0
    · rw [h, digs_zero]; rfl
    · rw [digs_pos h]
      show n % 4294967296 + 4294967296 * dv (digs (n / 4294967296)) = n
      rw [ih _ (by omega)]
      omega
theorem dv_app (l m : List Nat) : dv (l ++ m) = dv l + 4294967296 ^ l.length * dv m := by
  induction l with
  | nil => simp [dv]
  | cons d l ih =>
    show d + 4294967296 * dv (l ++ m) = d + 4294967296 * dv l + _
    rw [ih, List.length_cons, Nat.pow_succ, Nat.mul_add, ← Nat.mul_assoc, Nat.mul_comm 4294967296 (4294967296 ^ l.length), Nat.add_assoc]
theorem dv_lt {l : List Nat} (h : D32 l) : dv l < 4294967296 ^ l.length := by
  induction l with
  | nil => simp [dv]
  | cons d l ih =>
    obtain ⟨h1, h2⟩ := D32.cons.1 h
    have := ih h2
    show d + 4294967296 * dv l < _
    rw [List.length_cons, Nat.pow_succ, Nat.mul_comm (4294967296 ^ l.length)]
    omega
theorem dv_zero {l : List Nat} (h : dv l = 0) : ∀ d ∈ l, d = 0 := by
  induction l with
  | nil => intro d hd; cases hd
  | cons d l ih =>
    have h1 : d + 4294967296 * dv l = 0 := h
    intro x hx
    rcases List.mem_cons.1 hx with rfl | hx
    · omega
    · exact ih (by omega) x hx
/-- Without noughts above. -/
def Top (l : List Nat) : Prop := l.getLast? ≠ some 0
theorem digs_dv {l : List Nat} (h : D32 l) (ht : Top l) : digs (dv l) = l := by
  induction l with
  | nil => exact digs_zero
  | cons d l ih =>
    obtain ⟨h1, h2⟩ := D32.cons.1 h
    have htl : Top l := by
      unfold Top at ht ⊢
      cases l with
      | nil => simp
      | cons e l => simpa [List.getLast?_cons] using ht
    have hne : dv (d :: l) ≠ 0 := by
      intro e
      have hz := dv_zero e
      unfold Top at ht
      have hm := List.getLast_mem (l := d :: l) (by simp)
      have := hz _ hm
      rw [List.getLast?_eq_some_getLast (by simp), this] at ht
      exact ht rfl
    rw [digs_pos hne]
    have e1 : dv (d :: l) = d + 4294967296 * dv l := rfl
    rw [e1, show (d + 4294967296 * dv l) % 4294967296 = d by omega, show (d + 4294967296 * dv l) / 4294967296 = dv l by omega, ih h2 htl]
theorem digs_top (n : Nat) : Top (digs n) := by
  induction n using Nat.strongRecOn with
  | _ n ih =>
    by_cases h : n = 0
    · rw [h, digs_zero]; unfold Top; simp
    · rw [digs_pos h]
      by_cases h2 : n / 4294967296 = 0
      · rw [h2, digs_zero]
        unfold Top
        simp only [List.getLast?_singleton, ne_eq, Option.some.injEq]
        omega
      · have h3 := ih (n / 4294967296) (by omega)
        rw [digs_pos h2] at h3 ⊢
        unfold Top at h3 ⊢
        simpa [List.getLast?_cons] using h3
/-- What is longer, without noughts above, is greater. -/
theorem top_ge {l : List Nat} (ht : Top l) (h : l ≠ []) : 4294967296 ^ (l.length - 1) ≤ dv l := by
  have hd := List.dropLast_concat_getLast h
  have hlen : l.dropLast.length = l.length - 1 := List.length_dropLast
  rw [← hd, dv_app, List.length_append, List.length_singleton, hlen]
  have hne : l.getLast h ≠ 0 := by
    intro e
    unfold Top at ht
    rw [List.getLast?_eq_some_getLast h, e] at ht
    exact ht rfl
  have e1 : dv [l.getLast h] = l.getLast h := by show l.getLast h + 4294967296 * 0 = _; omega
  rw [e1, show l.length - 1 + 1 - 1 = l.length - 1 by omega]
  have h2 : 4294967296 ^ (l.length - 1) * 1 ≤ 4294967296 ^ (l.length - 1) * l.getLast h := Nat.mul_le_mul_left _ (by omega)
  omega
theorem dv_lt_len {l m : List Nat} (hl : D32 l) (hm : Top m) (h : l.length < m.length) : dv l < dv m := by
  have h1 := dv_lt hl
  have h2 := top_ge hm (by intro e; subst e; simp at h)
  have h3 : 4294967296 ^ l.length ≤ 4294967296 ^ (m.length - 1) := Nat.pow_le_pow_right (by omega) (by omega)
  omega
/-- The highest digit that differs decides. -/
theorem dv_lt_at {l m : List Nat} (hl : D32 l) {i : Nat} (h1 : i < l.length) (h2 : i < m.length) (hd : l.drop (i + 1) = m.drop (i + 1)) (h : l[i] < m[i]) : dv l < dv m := by
  have e1 : l = l.take i ++ l[i] :: l.drop (i + 1) := by rw [← List.drop_eq_getElem_cons (by assumption), List.take_append_drop]
  have e2 : m = m.take i ++ m[i] :: m.drop (i + 1) := by rw [← List.drop_eq_getElem_cons (by assumption), List.take_append_drop]
  have f1 := congrArg dv e1
  have f2 := congrArg dv e2
  rw [dv_app, List.length_take, Nat.min_eq_left (by omega)] at f1 f2
  have g1 : dv (l[i] :: l.drop (i + 1)) = l[i] + 4294967296 * dv (l.drop (i + 1)) := rfl
  have g2 : dv (m[i] :: m.drop (i + 1)) = m[i] + 4294967296 * dv (m.drop (i + 1)) := rfl
  rw [g1] at f1
  rw [g2, ← hd] at f2
  have k1 := dv_lt (hl.take i)
  rw [List.length_take, Nat.min_eq_left (by omega)] at k1
  rw [f1, f2]
  have k2 : 4294967296 ^ i * (l[i] + 4294967296 * dv (l.drop (i + 1))) + 4294967296 ^ i ≤ 4294967296 ^ i * (m[i] + 4294967296 * dv (l.drop (i + 1))) := by
    rw [← Nat.mul_succ]
    exact Nat.mul_le_mul_left _ (by omega)
  omega
theorem dv_take_succ {l : List Nat} {i : Nat} (hi : i < l.length) : dv (l.take (i + 1)) = dv (l.take i) + 4294967296 ^ i * l[i] := by
  rw [List.take_succ_eq_append_getElem hi, dv_app, List.length_take, Nat.min_eq_left (by omega)]
  have : dv [l[i]] = l[i] := by show l[i] + 4294967296 * 0 = _; omega
  rw [this]
def u32E (d : Nat) : List Value := [.int .u32 d]
theorem u32E_len (d : Nat) : (u32E d).length = 1 := rfl
theorem u32E_one (d : Nat) : ∀ u ∈ u32E d, u.oneCell' = true := fun u hu => by rw [List.mem_singleton.1 hu]; rfl
theorem Tryz.size32 : (Tryz.prog.info? 247).map (·.size) = some 1 := by kernel_rfl
theorem Tryz.info32 : (Tryz.prog.info? 247).map (fun i => (i.zero, i.size, i.bytes)) = some (some (.int .u32 0), 1, 4) := by kernel_rfl
/-- A slice that reads as the digits of n. -/
def DgRet (w : World) (n : Nat) (e : Ending) (w' : World) : Prop := ∃ v, e = .returned v ∧ Rd w' u32E 1 v (digs n) ∧ Below w.heap.size w w'
theorem dv_le_take {l : List Nat} {k : Nat} (hk : k < l.length) (h0 : l[k] = 0) : dv (l.take (k + 1)) = dv (l.take k) := by
  rw [dv_take_succ hk, h0]; simp
theorem top_take {l : List Nat} {k : Nat} (hk : k < l.length) (h0 : l[k] ≠ 0) : Top (l.take (k + 1)) := by
  unfold Top
  rw [List.getLast?_eq_getElem?, List.length_take, Nat.min_eq_left (by omega), List.getElem?_take, if_pos (by omega), show k + 1 - 1 = k by omega, List.getElem?_eq_getElem hk]
  intro e; exact h0 (Option.some.inj e)

set_option maxHeartbeats 4000000 in
set_option maxRecDepth 100000 in
theorem trimo_any {w : World} {v : Value} {l : List Nat} (h : Rd w u32E 1 v l) (hd : D32 l) :
    Calls Tryz.prog 227 #[v] w fun e w' => ∃ v', e = .returned v' ∧ Rd w' u32E 1 v' (digs (dv l)) ∧ (∀ b, v'.ownBlock = some b → v.ownBlock = some b) ∧ w = w' := by
  obtain ⟨ad, cap, rfl, c1, c2⟩ := h.shape
  obtain ⟨L, hL⟩ : ∃ L, L = l.length := ⟨_, rfl⟩
  rw [← hL] at h c1 ⊢
  have HR := Lib.hid h; have HD := Lib.hid hd; have HL := Lib.hid hL
  clear h hd hL
  go_enter Tryz.func227, Tryz.ntmps227
  go_wp2_with fail
  go_loopw [3] (fun vn wr => ∃ n : Nat, vn = .int .i64 n ∧ n ≤ L ∧ Hid (dv (l.take n) = dv l) ∧ Hid (w = wr)) (fun vn _ => (intOf vn).toNat)
  case atStart => exact ⟨L, rfl, Nat.le_refl _, Lib.hid (by rw [HL.out, List.take_length]), Lib.hid rfl⟩
  case round =>
    obtain ⟨n, rfl, hn, HV, HW⟩ := hrel
    have hend : ∀ k : Nat, k ≤ L → Top (l.take k) → dv (l.take k) = dv l → ∃ v', (∀ w kl, (Instr.slice 199 (.slice ad L cap) none (some (.int kl (k : Int))) none).run Tryz.prog w = .ok v' w) ∧ Rd wr u32E 1 v' (digs (dv l)) ∧ Hid (∀ b, v'.ownBlock = some b → Value.ownBlock (.slice ad L cap) = some b) := by
      intro k hk ht he
      obtain ⟨v', r1, r2, r3⟩ := (HW.out ▸ HR.out).upto (P := Tryz.prog) (t := 199) Tryz.underlying199 Tryz.size32 k (by rw [← HL.out]; exact hk)
      refine ⟨v', r1, ?_, Lib.hid r3⟩
      rw [← he, digs_dv (HD.out.take k) ht]
      exact r2
    rcases n with _ | k
    · obtain ⟨v', r1, r2, R3⟩ := hend 0 (Nat.zero_le _) (by simp [Top]) HV.out
      have R2 := Lib.hid r2
      have r1' : ∀ w kl, (Instr.slice 199 (.slice ad L cap) none (some (.int kl 0)) none).run Tryz.prog w = .ok v' w := fun w kl => r1 w kl
      clear r1 r2 hend
      go_wp2_with fail
      go_ret
      exact ⟨_, rfl, R2.out, R3.out, HW.out⟩
    · have hk : k < l.length := by rw [← HL.out]; omega
      obtain ⟨b, off, rfl, hb, hc⟩ := HR.out.at k hk
      rw [HW.out] at hc
      obtain ⟨d, hdd⟩ : ∃ d, d = l[k] := ⟨_, rfl⟩
      have hcell : wr.cell? ⟨b, off + k, none⟩ = some (.int .u32 (d : Int)) := by rw [hc, hdd]; rfl
      have hdb : d < 4294967296 := by rw [hdd]; exact HD.out _ (List.getElem_mem hk)
      have hlt : (k : Int) < (L : Int) := by omega
      have hpo : (0 : Int) < (k : Int) + 1 := by omega
      have hk0 : (0 : Int) ≤ (k : Int) := by omega
      have hwr : IntKind.i64.wrap (k : Int) = (k : Int) := IntWalk.i64_in _ (by omega)
      by_cases h0 : d = 0
      · have HV2 : Hid (dv (l.take k) = dv l) := Lib.hid (by rw [← HV.out, dv_le_take hk (by rw [← hdd]; exact h0)])
        subst h0
        clear hend hc hdd hk HV
        go_wp2_with fail
        go_roundw
        case rel => exact ⟨k, by go_num, by omega, HV2, HW⟩
        case measure => simp [intOf]
      · obtain ⟨v', r1, r2, R3⟩ := hend (k + 1) hn (top_take hk (by rw [← hdd]; exact h0)) HV.out
        have R2 := Lib.hid r2
        have hz : ((d : Int) == 0) = false := by simpa using h0
        have r1' : ∀ w kl, (Instr.slice 199 (.slice (some ⟨b, off, none⟩) L cap) none (some (.int kl ((k : Int) + 1))) none).run Tryz.prog w = .ok v' w := fun w kl => by have := r1 w kl; rwa [show ((k + 1 : Nat) : Int) = (k : Int) + 1 by omega] at this
        clear r1 r2 hend hc hdd hk h0
        go_wp2_with fail
        go_ret
        exact ⟨_, rfl, R2.out, R3.out, HW.out⟩
theorem trim_any {w : World} {v : Value} {l : List Nat} (h : Rd w u32E 1 v l) (hd : D32 l) :
    Calls Tryz.prog 227 #[v] w fun e w' => ∃ v', e = .returned v' ∧ Rd w' u32E 1 v' (digs (dv l)) ∧ w = w' := (trimo_any h hd).mono fun _ _ ⟨v', h1, h2, _, h3⟩ => ⟨v', h1, h2, h3⟩
theorem tfun {w : World} {v : Value} {l : List Nat} {n : Nat} (h : Rd w u32E 1 v l) (hd : D32 l) (hn : dv l = n) : Calls Tryz.prog 227 #[v] w (DgRet w n) := by
  refine (trim_any h hd).mono ?_
  rintro e w' ⟨v', rfl, h1, rfl⟩
  rw [hn] at h1
  exact ⟨v', rfl, h1, Below.refl _ _⟩
theorem lit32 {w : World} {A : Nat} {l : List Nat} (h : w.heap[A]? = some (.cells (l.map (fun d : Nat => Value.int .u32 (d : Int))).toArray 247 (0, 0))) (hl : l.length ≤ 100) : Rd w u32E 1 (.slice (some ⟨A, 0, none⟩) l.length l.length) l := by
  refine ⟨_, _, rfl, Nat.le_refl _, by unfold maxLen; omega, fun _ => ⟨_, 0, rfl, heap_lt h, fun i hi j hj => ?_⟩⟩
  obtain rfl : j = 0 := by omega
  rw [Lib.cell_of_heap h]
  simp [u32E, List.getElem?_eq_getElem hi]
theorem dv_halves (A B C E : Nat) : dv [A % 4294967296, A / 4294967296, B % 4294967296, B / 4294967296, C % 4294967296, C / 4294967296, E % 4294967296, E / 4294967296] = A + B * 18446744073709551616 + C * 340282366920938463463374607431768211456 + E * 6277101735386680763835789423207666416102355444464034512896 := by
  simp only [dv]
  omega
theorem u32_wrap_nat (a : Nat) : IntKind.u32.wrap (a : Int) = ((a % 4294967296 : Nat) : Int) := by
  simp [IntKind.wrap, IntKind.bits, IntKind.signed]
theorem u32_wrap_shr {a : Nat} (h : a < 18446744073709551616) : IntKind.u32.wrap ((a : Int) / 4294967296) = ((a / 4294967296 : Nat) : Int) := by
  rw [show ((a : Int) / 4294967296) = ((a / 4294967296 : Nat) : Int) by omega, u32_wrap_nat]; omega

set_option maxHeartbeats 16000000 in
set_option maxRecDepth 100000 in
theorem rof_any {a b c d : Int} {n : Nat} (h : UIs a b c d n) (w : World) : Calls Tryz.prog 128 #[.agg #[.int .u64 a, .int .u64 b, .int .u64 c, .int .u64 d]] w (DgRet w n) := by
  obtain ⟨A, B, C, E, rfl, rfl, rfl, rfl, ha, hb, hc, he, hn⟩ := h.nats
  obtain ⟨D, hD⟩ : ∃ D, D = [A % 4294967296, A / 4294967296, B % 4294967296, B / 4294967296, C % 4294967296, C / 4294967296, E % 4294967296, E / 4294967296] := ⟨_, rfl⟩
  have HN : Hid (dv D = n) := Lib.hid (by rw [hD, dv_halves, hn])
  have HD : Hid (D32 D) := Lib.hid (by
    rw [hD]
    intro x hx
    simp only [List.mem_cons, List.not_mem_nil, or_false] at hx
    rcases hx with rfl | rfl | rfl | rfl | rfl | rfl | rfl | rfl <;> omega)
  have HDL := Lib.hid hD
  have wa0 := u32_wrap_nat A; have wb0 := u32_wrap_nat B; have wc0 := u32_wrap_nat C; have we0 := u32_wrap_nat E
  have wa1 := u32_wrap_shr ha; have wb1 := u32_wrap_shr hb; have wc1 := u32_wrap_shr hc; have we1 := u32_wrap_shr he
  obtain ⟨a0, ha0⟩ : ∃ q, q = A % 4294967296 := ⟨_, rfl⟩
  obtain ⟨a1, ha1⟩ : ∃ q, q = A / 4294967296 := ⟨_, rfl⟩
  obtain ⟨b0, hb0⟩ : ∃ q, q = B % 4294967296 := ⟨_, rfl⟩
  obtain ⟨b1, hb1⟩ : ∃ q, q = B / 4294967296 := ⟨_, rfl⟩
  obtain ⟨c0, hc0⟩ : ∃ q, q = C % 4294967296 := ⟨_, rfl⟩
  obtain ⟨c1, hc1⟩ : ∃ q, q = C / 4294967296 := ⟨_, rfl⟩
  obtain ⟨e0, he0⟩ : ∃ q, q = E % 4294967296 := ⟨_, rfl⟩
  obtain ⟨e1, he1⟩ : ∃ q, q = E / 4294967296 := ⟨_, rfl⟩
  rw [← ha0, ← ha1, ← hb0, ← hb1, ← hc0, ← hc1, ← he0, ← he1] at HDL
  rw [← ha0] at wa0; rw [← hb0] at wb0; rw [← hc0] at wc0; rw [← he0] at we0
  rw [← ha1] at wa1; rw [← hb1] at wb1; rw [← hc1] at wc1; rw [← he1] at we1
  clear h ha hb hc he hn hD ha0 ha1 hb0 hb1 hc0 hc1 he0 he1
  go_enter Tryz.func128, Tryz.ntmps128
  go_wp2_with fail
  obtain ⟨w1, hw1⟩ : ∃ w1, w1 = w.alloc (.cells #[.int .u64 (A : Int), .int .u64 (B : Int), .int .u64 (C : Int), .int .u64 (E : Int)] 55) := ⟨_, rfl⟩
  obtain ⟨X, hX⟩ : ∃ X, X = w.heap.size := ⟨_, rfl⟩
  rw [← hw1, ← hX]
  have HX1 : Hid (w1.heap[X]? = some (.cells #[.int .u64 (A : Int), .int .u64 (B : Int), .int .u64 (C : Int), .int .u64 (E : Int)] 55 (0, 0))) := Lib.hid (by rw [hw1, hX]; exact heap_alloc_new _ _)
  have HB1 : Hid (Below w.heap.size w w1) := Lib.hid (by rw [hw1]; exact below_new _ _)
  clear hw1 hX
  go_loopw [3, 4] (fun vo vi wr => ∃ i : Nat, vi = .int .i64 i ∧ i ≤ 4 ∧ Hid (LO wr 247 u32E 1 vo (D.take (2 * i))) ∧ Hid (∀ k, vo.ownBlock = some k → w.heap.size ≤ k) ∧ Hid (wr.heap[X]? = some (.cells #[.int .u64 (A : Int), .int .u64 (B : Int), .int .u64 (C : Int), .int .u64 (E : Int)] 55 (0, 0))) ∧ Hid (Below w.heap.size w wr)) (fun _ vi _ => 4 - (intOf vi).toNat)
  case atStart => exact ⟨0, rfl, by omega, Lib.hid (LO.nil _ _ _ _), Lib.hid (fun k e => by cases e), HX1, HB1⟩
  case round =>
    clear HX1 HB1
    obtain ⟨i, rfl, hi, HO, HK, HX, HB⟩ := hrel
    by_cases hlt : i < 4
    · rcases (show i = 0 ∨ i = 1 ∨ i = 2 ∨ i = 3 by omega) with rfl | rfl | rfl | rfl
      · obtain ⟨wz, hwz⟩ : ∃ wz, wz = wr.drew := ⟨_, rfl⟩
        have hbz : Below wr.heap.size wr wz := by rw [hwz]; exact (Below.refl _ _).drew
        have HOz := Lib.hid (HO.out.later hbz); have HXz := Lib.hid (below_at' hbz HX.out); have HBz := Lib.hid (HB.out.trans (hbz.mono HB.out.size))
        have hS : wz.cell? ⟨X, 0, none⟩ = some (.int .u64 (A : Int)) := Lib.cell_of_heap HXz.out 0
        clear hbz HO HX HB hi hlt
        go_wp2_with fail
        refine wp_region_till (fun w' => w'.cell? ⟨X, 0, none⟩ = some (.int .u64 (A : Int))) 13 13 (by kernel_rfl) rfl ?_
        rw [← hwz]
        clear hwz
        refine till_take 0 (some 9) rfl rfl (by kernel_rfl) (by kernel_rfl) (by kernel_rfl) (by kernel_rfl) (by kernel_rfl) (by kernel_rfl) (fun _ _ _ h => h) (.inl ⟨by rfl, fun w' _ => (by go_simp; rfl)⟩) hS ?_
        go_frame
        refine till_take 1 (some 10) rfl rfl (by kernel_rfl) (by kernel_rfl) (by kernel_rfl) (by kernel_rfl) (by kernel_rfl) (by kernel_rfl) (fun _ _ _ h => h) (.inl ⟨by rfl, fun w' _ => (by go_simp; rfl)⟩) hS ?_
        go_frame
        refine till_take 2 (some 11) rfl rfl (by kernel_rfl) (by kernel_rfl) (by kernel_rfl) (by kernel_rfl) (by kernel_rfl) (by kernel_rfl) (fun _ _ _ h => h) (.inl ⟨by rfl, fun w' _ => (by go_simp; rfl)⟩) hS ?_
        go_frame
        refine till_take 3 (some 12) rfl rfl (by kernel_rfl) (by kernel_rfl) (by kernel_rfl) (by kernel_rfl) (by kernel_rfl) (by kernel_rfl) (fun _ _ _ h => h) (.inl ⟨by rfl, fun w' hS' => (by have hc1 := hS'; go_simp; rfl)⟩) hS ?_
        go_frame
        refine till_take 4 (some 13) rfl rfl (by kernel_rfl) (by kernel_rfl) (by kernel_rfl) (by kernel_rfl) (by kernel_rfl) (by kernel_rfl) (fun _ _ _ h => h) (.inl ⟨by rfl, fun w' _ => (by go_simp; rfl)⟩) hS ?_
        go_frame
        refine till_take 5 (some 14) rfl rfl (by kernel_rfl) (by kernel_rfl) (by kernel_rfl) (by kernel_rfl) (by kernel_rfl) (by kernel_rfl) (fun _ _ _ h => h) (.inl ⟨by rfl, fun w' _ => (by go_simp; rfl)⟩) hS ?_
        go_frame
        refine till_take 6 (some 15) rfl rfl (by kernel_rfl) (by kernel_rfl) (by kernel_rfl) (by kernel_rfl) (by kernel_rfl) (by kernel_rfl) (fun _ _ _ h => h) (.inl ⟨by rfl, fun w' _ => (by go_simp; rfl)⟩) hS ?_
        go_frame
        refine till_take 7 (some 16) rfl rfl (by kernel_rfl) (by kernel_rfl) (by kernel_rfl) (by kernel_rfl) (by kernel_rfl) (by kernel_rfl) (fun _ _ _ h => h) (.inl ⟨by rfl, fun w' hS' => (by have hc1 := hS'; go_simp; rfl)⟩) hS ?_
        go_frame
        refine till_take 8 (some 17) rfl rfl (by kernel_rfl) (by kernel_rfl) (by kernel_rfl) (by kernel_rfl) (by kernel_rfl) (by kernel_rfl) (fun _ _ _ h => h) (.inl ⟨by rfl, fun w' _ => (by go_simp; rfl)⟩) hS ?_
        go_frame
        refine till_take 9 (some 18) rfl rfl (by kernel_rfl) (by kernel_rfl) (by kernel_rfl) (by kernel_rfl) (by kernel_rfl) (by kernel_rfl) (fun _ _ _ h => h) (.inl ⟨by rfl, fun w' _ => (by go_simp; rfl)⟩) hS ?_
        go_frame
        refine till_one 10 rfl (by kernel_rfl) fun K hK => ?_
        simp only [List.getElem_toArray, List.getElem_cons_succ, List.getElem_cons_zero]
        rw [if_pos (by rfl)]
        go_simp
        obtain ⟨w4, hwn⟩ : ∃ wn, wn = World.alloc wz (.cells #[.int .u32 (a0 : Int), .int .u32 (a1 : Int)] 247) := ⟨_, rfl⟩
        obtain ⟨G, hG⟩ : ∃ G, G = (World.heap wz).size := ⟨_, rfl⟩
        rw [← hwn, ← hG]
        have hb : Below (World.heap wz).size wz w4 := by rw [hwn]; exact below_new _ _
        have hg4 : w4.heap[G]? = some (.cells #[.int .u32 (a0 : Int), .int .u32 (a1 : Int)] 247 (0, 0)) := by rw [hwn, hG]; exact heap_alloc_new _ _
        have HG4 : Hid (Rd w4 u32E 1 (.slice (some ⟨G, 0, none⟩) 2 2) [a0, a1]) := Lib.hid (lit32 (l := [a0, a1]) hg4 (by simp))
        have HO4 := Lib.hid (HOz.out.later hb); have HX4 := Lib.hid (below_at' hb HXz.out); have HB4 := Lib.hid (HBz.out.trans (hb.mono HBz.out.size))
        have hS2 : w4.cell? ⟨X, 0, none⟩ = some (.int .u64 (A : Int)) := Lib.cell_of_heap HX4.out 0
        refine hK _ _ (fun _ _ => hS2) ?_
        clear hK hS hwn hG hb hg4 HOz HXz HBz
        have hS := hS2
        clear hS2
        refine till_one 11 rfl (by kernel_rfl) fun K hK => ?_
        simp only [List.getElem_toArray, List.getElem_cons_succ, List.getElem_cons_zero]
        rw [if_pos (by rfl)]
        refine wp_lo_apps (l := D.take (2 * 0)) (l2 := [a0, a1]) _ _ 199 199 rfl Tryz.underlying199 Tryz.underlying199 Tryz.info32 rfl (by decide) u32E_len (fun x _ => u32E_one x) HO4.out rfl _ rfl HG4.out (by rw [HDL.out]; unfold maxLen; simp) (by rw [HDL.out]; simp) ?_
        intro va w5 la ka ma
        rw [show D.take (2 * 0) ++ [a0, a1] = D.take (2 * (0 + 1)) by rw [HDL.out]; rfl] at la
        have HO5 := Lib.hid la
        have HK5 : Hid (∀ k, Value.ownBlock va = some k → w.heap.size ≤ k) := Lib.hid (fun k e => by
          rcases ma with m1 | ⟨g, m1, m2⟩
          · exact HK.out k (m1 ▸ e)
          · rw [e] at m1; cases m1; exact Nat.le_trans HB4.out.size m2)
        have HB5 := Lib.hid (HB4.out.trans (ka.below (B := w.heap.size) (fun q hq e => by have := HK.out q e; omega) HB4.out.size))
        have HX5 := Lib.hid (ka.at HX4.out (fun e => by obtain ⟨cs, h1⟩ := HO4.out.kind e; rw [HX4.out] at h1; injection h1 with h2; injection h2 with _ h3; exact absurd h3 (by decide)))
        have hS2 : w5.cell? ⟨X, 0, none⟩ = some (.int .u64 (A : Int)) := Lib.cell_of_heap HX5.out 0
        refine hK _ _ (fun _ _ => hS2) ?_
        clear hK hS la ka ma HO4 HX4 HB4
        have hS := hS2
        clear hS2
        refine till_take 12 (some 3) rfl rfl (by kernel_rfl) (by kernel_rfl) (by kernel_rfl) (by kernel_rfl) (by kernel_rfl) (by kernel_rfl) (fun _ _ _ h => h) (.inl ⟨by rfl, fun w' _ => (by go_simp; rfl)⟩) hS ?_
        go_frame
        refine till_done (by kernel_rfl) ?_ _
        clear hS
        go_wp2_with fail
        go_roundw
        case rel => exact ⟨1, by go_num, by omega, HO5, HK5, HX5, HB5⟩
        case measure => simp [intOf]
      · obtain ⟨wz, hwz⟩ : ∃ wz, wz = wr.drew := ⟨_, rfl⟩
        have hbz : Below wr.heap.size wr wz := by rw [hwz]; exact (Below.refl _ _).drew
        have HOz := Lib.hid (HO.out.later hbz); have HXz := Lib.hid (below_at' hbz HX.out); have HBz := Lib.hid (HB.out.trans (hbz.mono HB.out.size))
        have hS : wz.cell? ⟨X, 1, none⟩ = some (.int .u64 (B : Int)) := Lib.cell_of_heap HXz.out 1
        clear hbz HO HX HB hi hlt
        go_wp2_with fail
        refine wp_region_till (fun w' => w'.cell? ⟨X, 1, none⟩ = some (.int .u64 (B : Int))) 13 13 (by kernel_rfl) rfl ?_
        rw [← hwz]
        clear hwz
        refine till_take 0 (some 9) rfl rfl (by kernel_rfl) (by kernel_rfl) (by kernel_rfl) (by kernel_rfl) (by kernel_rfl) (by kernel_rfl) (fun _ _ _ h => h) (.inl ⟨by rfl, fun w' _ => (by go_simp; rfl)⟩) hS ?_
        go_frame
        refine till_take 1 (some 10) rfl rfl (by kernel_rfl) (by kernel_rfl) (by kernel_rfl) (by kernel_rfl) (by kernel_rfl) (by kernel_rfl) (fun _ _ _ h => h) (.inl ⟨by rfl, fun w' _ => (by go_simp; rfl)⟩) hS ?_
        go_frame
        refine till_take 2 (some 11) rfl rfl (by kernel_rfl) (by kernel_rfl) (by kernel_rfl) (by kernel_rfl) (by kernel_rfl) (by kernel_rfl) (fun _ _ _ h => h) (.inl ⟨by rfl, fun w' _ => (by go_simp; rfl)⟩) hS ?_
        go_frame
        refine till_take 3 (some 12) rfl rfl (by kernel_rfl) (by kernel_rfl) (by kernel_rfl) (by kernel_rfl) (by kernel_rfl) (by kernel_rfl) (fun _ _ _ h => h) (.inl ⟨by rfl, fun w' hS' => (by have hc1 := hS'; go_simp; rfl)⟩) hS ?_
        go_frame
        refine till_take 4 (some 13) rfl rfl (by kernel_rfl) (by kernel_rfl) (by kernel_rfl) (by kernel_rfl) (by kernel_rfl) (by kernel_rfl) (fun _ _ _ h => h) (.inl ⟨by rfl, fun w' _ => (by go_simp; rfl)⟩) hS ?_
        go_frame
        refine till_take 5 (some 14) rfl rfl (by kernel_rfl) (by kernel_rfl) (by kernel_rfl) (by kernel_rfl) (by kernel_rfl) (by kernel_rfl) (fun _ _ _ h => h) (.inl ⟨by rfl, fun w' _ => (by go_simp; rfl)⟩) hS ?_
        go_frame
        refine till_take 6 (some 15) rfl rfl (by kernel_rfl) (by kernel_rfl) (by kernel_rfl) (by kernel_rfl) (by kernel_rfl) (by kernel_rfl) (fun _ _ _ h => h) (.inl ⟨by rfl, fun w' _ => (by go_simp; rfl)⟩) hS ?_
        go_frame
        refine till_take 7 (some 16) rfl rfl (by kernel_rfl) (by kernel_rfl) (by kernel_rfl) (by kernel_rfl) (by kernel_rfl) (by kernel_rfl) (fun _ _ _ h => h) (.inl ⟨by rfl, fun w' hS' => (by have hc1 := hS'; go_simp; rfl)⟩) hS ?_
        go_frame
        refine till_take 8 (some 17) rfl rfl (by kernel_rfl) (by kernel_rfl) (by kernel_rfl) (by kernel_rfl) (by kernel_rfl) (by kernel_rfl) (fun _ _ _ h => h) (.inl ⟨by rfl, fun w' _ => (by go_simp; rfl)⟩) hS ?_
        go_frame
        refine till_take 9 (some 18) rfl rfl (by kernel_rfl) (by kernel_rfl) (by kernel_rfl) (by kernel_rfl) (by kernel_rfl) (by kernel_rfl) (fun _ _ _ h => h) (.inl ⟨by rfl, fun w' _ => (by go_simp; rfl)⟩) hS ?_
        go_frame
        refine till_one 10 rfl (by kernel_rfl) fun K hK => ?_
        simp only [List.getElem_toArray, List.getElem_cons_succ, List.getElem_cons_zero]
        rw [if_pos (by rfl)]
        go_simp
        obtain ⟨w4, hwn⟩ : ∃ wn, wn = World.alloc wz (.cells #[.int .u32 (b0 : Int), .int .u32 (b1 : Int)] 247) := ⟨_, rfl⟩
        obtain ⟨G, hG⟩ : ∃ G, G = (World.heap wz).size := ⟨_, rfl⟩
        rw [← hwn, ← hG]
        have hb : Below (World.heap wz).size wz w4 := by rw [hwn]; exact below_new _ _
        have hg4 : w4.heap[G]? = some (.cells #[.int .u32 (b0 : Int), .int .u32 (b1 : Int)] 247 (0, 0)) := by rw [hwn, hG]; exact heap_alloc_new _ _
        have HG4 : Hid (Rd w4 u32E 1 (.slice (some ⟨G, 0, none⟩) 2 2) [b0, b1]) := Lib.hid (lit32 (l := [b0, b1]) hg4 (by simp))
        have HO4 := Lib.hid (HOz.out.later hb); have HX4 := Lib.hid (below_at' hb HXz.out); have HB4 := Lib.hid (HBz.out.trans (hb.mono HBz.out.size))
        have hS2 : w4.cell? ⟨X, 1, none⟩ = some (.int .u64 (B : Int)) := Lib.cell_of_heap HX4.out 1
        refine hK _ _ (fun _ _ => hS2) ?_
        clear hK hS hwn hG hb hg4 HOz HXz HBz
        have hS := hS2
        clear hS2
        refine till_one 11 rfl (by kernel_rfl) fun K hK => ?_
        simp only [List.getElem_toArray, List.getElem_cons_succ, List.getElem_cons_zero]
        rw [if_pos (by rfl)]
        refine wp_lo_apps (l := D.take (2 * 1)) (l2 := [b0, b1]) _ _ 199 199 rfl Tryz.underlying199 Tryz.underlying199 Tryz.info32 rfl (by decide) u32E_len (fun x _ => u32E_one x) HO4.out rfl _ rfl HG4.out (by rw [HDL.out]; unfold maxLen; simp) (by rw [HDL.out]; simp) ?_
        intro va w5 la ka ma
        rw [show D.take (2 * 1) ++ [b0, b1] = D.take (2 * (1 + 1)) by rw [HDL.out]; rfl] at la
        have HO5 := Lib.hid la
        have HK5 : Hid (∀ k, Value.ownBlock va = some k → w.heap.size ≤ k) := Lib.hid (fun k e => by
          rcases ma with m1 | ⟨g, m1, m2⟩
          · exact HK.out k (m1 ▸ e)
          · rw [e] at m1; cases m1; exact Nat.le_trans HB4.out.size m2)
        have HB5 := Lib.hid (HB4.out.trans (ka.below (B := w.heap.size) (fun q hq e => by have := HK.out q e; omega) HB4.out.size))
        have HX5 := Lib.hid (ka.at HX4.out (fun e => by obtain ⟨cs, h1⟩ := HO4.out.kind e; rw [HX4.out] at h1; injection h1 with h2; injection h2 with _ h3; exact absurd h3 (by decide)))
        have hS2 : w5.cell? ⟨X, 1, none⟩ = some (.int .u64 (B : Int)) := Lib.cell_of_heap HX5.out 1
        refine hK _ _ (fun _ _ => hS2) ?_
        clear hK hS la ka ma HO4 HX4 HB4
        have hS := hS2
        clear hS2
        refine till_take 12 (some 3) rfl rfl (by kernel_rfl) (by kernel_rfl) (by kernel_rfl) (by kernel_rfl) (by kernel_rfl) (by kernel_rfl) (fun _ _ _ h => h) (.inl ⟨by rfl, fun w' _ => (by go_simp; rfl)⟩) hS ?_
        go_frame
        refine till_done (by kernel_rfl) ?_ _
        clear hS
        go_wp2_with fail
        go_roundw
        case rel => exact ⟨2, by go_num, by omega, HO5, HK5, HX5, HB5⟩
        case measure => simp [intOf]
      · obtain ⟨wz, hwz⟩ : ∃ wz, wz = wr.drew := ⟨_, rfl⟩
        have hbz : Below wr.heap.size wr wz := by rw [hwz]; exact (Below.refl _ _).drew
        have HOz := Lib.hid (HO.out.later hbz); have HXz := Lib.hid (below_at' hbz HX.out); have HBz := Lib.hid (HB.out.trans (hbz.mono HB.out.size))
        have hS : wz.cell? ⟨X, 2, none⟩ = some (.int .u64 (C : Int)) := Lib.cell_of_heap HXz.out 2
        clear hbz HO HX HB hi hlt
        go_wp2_with fail
        refine wp_region_till (fun w' => w'.cell? ⟨X, 2, none⟩ = some (.int .u64 (C : Int))) 13 13 (by kernel_rfl) rfl ?_
        rw [← hwz]
        clear hwz
        refine till_take 0 (some 9) rfl rfl (by kernel_rfl) (by kernel_rfl) (by kernel_rfl) (by kernel_rfl) (by kernel_rfl) (by kernel_rfl) (fun _ _ _ h => h) (.inl ⟨by rfl, fun w' _ => (by go_simp; rfl)⟩) hS ?_
        go_frame
        refine till_take 1 (some 10) rfl rfl (by kernel_rfl) (by kernel_rfl) (by kernel_rfl) (by kernel_rfl) (by kernel_rfl) (by kernel_rfl) (fun _ _ _ h => h) (.inl ⟨by rfl, fun w' _ => (by go_simp; rfl)⟩) hS ?_
        go_frame
        refine till_take 2 (some 11) rfl rfl (by kernel_rfl) (by kernel_rfl) (by kernel_rfl) (by kernel_rfl) (by kernel_rfl) (by kernel_rfl) (fun _ _ _ h => h) (.inl ⟨by rfl, fun w' _ => (by go_simp; rfl)⟩) hS ?_
        go_frame
        refine till_take 3 (some 12) rfl rfl (by kernel_rfl) (by kernel_rfl) (by kernel_rfl) (by kernel_rfl) (by kernel_rfl) (by kernel_rfl) (fun _ _ _ h => h) (.inl ⟨by rfl, fun w' hS' => (by have hc1 := hS'; go_simp; rfl)⟩) hS ?_
        go_frame
        refine till_take 4 (some 13) rfl rfl (by kernel_rfl) (by kernel_rfl) (by kernel_rfl) (by kernel_rfl) (by kernel_rfl) (by kernel_rfl) (fun _ _ _ h => h) (.inl ⟨by rfl, fun w' _ => (by go_simp; rfl)⟩) hS ?_
        go_frame
        refine till_take 5 (some 14) rfl rfl (by kernel_rfl) (by kernel_rfl) (by kernel_rfl) (by kernel_rfl) (by kernel_rfl) (by kernel_rfl) (fun _ _ _ h => h) (.inl ⟨by rfl, fun w' _ => (by go_simp; rfl)⟩) hS ?_
        go_frame
        refine till_take 6 (some 15) rfl rfl (by kernel_rfl) (by kernel_rfl) (by kernel_rfl) (by kernel_rfl) (by kernel_rfl) (by kernel_rfl) (fun _ _ _ h => h) (.inl ⟨by rfl, fun w' _ => (by go_simp; rfl)⟩) hS ?_
        go_frame
        refine till_take 7 (some 16) rfl rfl (by kernel_rfl) (by kernel_rfl) (by kernel_rfl) (by kernel_rfl) (by kernel_rfl) (by kernel_rfl) (fun _ _ _ h => h) (.inl ⟨by rfl, fun w' hS' => (by have hc1 := hS'; go_simp; rfl)⟩) hS ?_
        go_frame
        refine till_take 8 (some 17) rfl rfl (by kernel_rfl) (by kernel_rfl) (by kernel_rfl) (by kernel_rfl) (by kernel_rfl) (by kernel_rfl) (fun _ _ _ h => h) (.inl ⟨by rfl, fun w' _ => (by go_simp; rfl)⟩) hS ?_
        go_frame
        refine till_take 9 (some 18) rfl rfl (by kernel_rfl) (by kernel_rfl) (by kernel_rfl) (by kernel_rfl) (by kernel_rfl) (by kernel_rfl) (fun _ _ _ h => h) (.inl ⟨by rfl, fun w' _ => (by go_simp; rfl)⟩) hS ?_
        go_frame
        refine till_one 10 rfl (by kernel_rfl) fun K hK => ?_
        simp only [List.getElem_toArray, List.getElem_cons_succ, List.getElem_cons_zero]
        rw [if_pos (by rfl)]
        go_simp
        obtain ⟨w4, hwn⟩ : ∃ wn, wn = World.alloc wz (.cells #[.int .u32 (c0 : Int), .int .u32 (c1 : Int)] 247) := ⟨_, rfl⟩
        obtain ⟨G, hG⟩ : ∃ G, G = (World.heap wz).size := ⟨_, rfl⟩
        rw [← hwn, ← hG]
        have hb : Below (World.heap wz).size wz w4 := by rw [hwn]; exact below_new _ _
        have hg4 : w4.heap[G]? = some (.cells #[.int .u32 (c0 : Int), .int .u32 (c1 : Int)] 247 (0, 0)) := by rw [hwn, hG]; exact heap_alloc_new _ _
        have HG4 : Hid (Rd w4 u32E 1 (.slice (some ⟨G, 0, none⟩) 2 2) [c0, c1]) := Lib.hid (lit32 (l := [c0, c1]) hg4 (by simp))
        have HO4 := Lib.hid (HOz.out.later hb); have HX4 := Lib.hid (below_at' hb HXz.out); have HB4 := Lib.hid (HBz.out.trans (hb.mono HBz.out.size))
        have hS2 : w4.cell? ⟨X, 2, none⟩ = some (.int .u64 (C : Int)) := Lib.cell_of_heap HX4.out 2
        refine hK _ _ (fun _ _ => hS2) ?_
        clear hK hS hwn hG hb hg4 HOz HXz HBz
        have hS := hS2
        clear hS2
        refine till_one 11 rfl (by kernel_rfl) fun K hK => ?_
        simp only [List.getElem_toArray, List.getElem_cons_succ, List.getElem_cons_zero]
        rw [if_pos (by rfl)]
        refine wp_lo_apps (l := D.take (2 * 2)) (l2 := [c0, c1]) _ _ 199 199 rfl Tryz.underlying199 Tryz.underlying199 Tryz.info32 rfl (by decide) u32E_len (fun x _ => u32E_one x) HO4.out rfl _ rfl HG4.out (by rw [HDL.out]; unfold maxLen; simp) (by rw [HDL.out]; simp) ?_
        intro va w5 la ka ma
        rw [show D.take (2 * 2) ++ [c0, c1] = D.take (2 * (2 + 1)) by rw [HDL.out]; rfl] at la
        have HO5 := Lib.hid la
        have HK5 : Hid (∀ k, Value.ownBlock va = some k → w.heap.size ≤ k) := Lib.hid (fun k e => by
          rcases ma with m1 | ⟨g, m1, m2⟩
          · exact HK.out k (m1 ▸ e)
          · rw [e] at m1; cases m1; exact Nat.le_trans HB4.out.size m2)
        have HB5 := Lib.hid (HB4.out.trans (ka.below (B := w.heap.size) (fun q hq e => by have := HK.out q e; omega) HB4.out.size))
        have HX5 := Lib.hid (ka.at HX4.out (fun e => by obtain ⟨cs, h1⟩ := HO4.out.kind e; rw [HX4.out] at h1; injection h1 with h2; injection h2 with _ h3; exact absurd h3 (by decide)))
        have hS2 : w5.cell? ⟨X, 2, none⟩ = some (.int .u64 (C : Int)) := Lib.cell_of_heap HX5.out 2
        refine hK _ _ (fun _ _ => hS2) ?_
        clear hK hS la ka ma HO4 HX4 HB4
        have hS := hS2
        clear hS2
        refine till_take 12 (some 3) rfl rfl (by kernel_rfl) (by kernel_rfl) (by kernel_rfl) (by kernel_rfl) (by kernel_rfl) (by kernel_rfl) (fun _ _ _ h => h) (.inl ⟨by rfl, fun w' _ => (by go_simp; rfl)⟩) hS ?_
        go_frame
        refine till_done (by kernel_rfl) ?_ _
        clear hS
        go_wp2_with fail
        go_roundw
        case rel => exact ⟨3, by go_num, by omega, HO5, HK5, HX5, HB5⟩
        case measure => simp [intOf]
      · obtain ⟨wz, hwz⟩ : ∃ wz, wz = wr.drew := ⟨_, rfl⟩
        have hbz : Below wr.heap.size wr wz := by rw [hwz]; exact (Below.refl _ _).drew
        have HOz := Lib.hid (HO.out.later hbz); have HXz := Lib.hid (below_at' hbz HX.out); have HBz := Lib.hid (HB.out.trans (hbz.mono HB.out.size))
        have hS : wz.cell? ⟨X, 3, none⟩ = some (.int .u64 (E : Int)) := Lib.cell_of_heap HXz.out 3
        clear hbz HO HX HB hi hlt
        go_wp2_with fail
        refine wp_region_till (fun w' => w'.cell? ⟨X, 3, none⟩ = some (.int .u64 (E : Int))) 13 13 (by kernel_rfl) rfl ?_
        rw [← hwz]
        clear hwz
        refine till_take 0 (some 9) rfl rfl (by kernel_rfl) (by kernel_rfl) (by kernel_rfl) (by kernel_rfl) (by kernel_rfl) (by kernel_rfl) (fun _ _ _ h => h) (.inl ⟨by rfl, fun w' _ => (by go_simp; rfl)⟩) hS ?_
        go_frame
        refine till_take 1 (some 10) rfl rfl (by kernel_rfl) (by kernel_rfl) (by kernel_rfl) (by kernel_rfl) (by kernel_rfl) (by kernel_rfl) (fun _ _ _ h => h) (.inl ⟨by rfl, fun w' _ => (by go_simp; rfl)⟩) hS ?_
        go_frame
        refine till_take 2 (some 11) rfl rfl (by kernel_rfl) (by kernel_rfl) (by kernel_rfl) (by kernel_rfl) (by kernel_rfl) (by kernel_rfl) (fun _ _ _ h => h) (.inl ⟨by rfl, fun w' _ => (by go_simp; rfl)⟩) hS ?_
        go_frame
        refine till_take 3 (some 12) rfl rfl (by kernel_rfl) (by kernel_rfl) (by kernel_rfl) (by kernel_rfl) (by kernel_rfl) (by kernel_rfl) (fun _ _ _ h => h) (.inl ⟨by rfl, fun w' hS' => (by have hc1 := hS'; go_simp; rfl)⟩) hS ?_
        go_frame
        refine till_take 4 (some 13) rfl rfl (by kernel_rfl) (by kernel_rfl) (by kernel_rfl) (by kernel_rfl) (by kernel_rfl) (by kernel_rfl) (fun _ _ _ h => h) (.inl ⟨by rfl, fun w' _ => (by go_simp; rfl)⟩) hS ?_
        go_frame
        refine till_take 5 (some 14) rfl rfl (by kernel_rfl) (by kernel_rfl) (by kernel_rfl) (by kernel_rfl) (by kernel_rfl) (by kernel_rfl) (fun _ _ _ h => h) (.inl ⟨by rfl, fun w' _ => (by go_simp; rfl)⟩) hS ?_
        go_frame
        refine till_take 6 (some 15) rfl rfl (by kernel_rfl) (by kernel_rfl) (by kernel_rfl) (by kernel_rfl) (by kernel_rfl) (by kernel_rfl) (fun _ _ _ h => h) (.inl ⟨by rfl, fun w' _ => (by go_simp; rfl)⟩) hS ?_
        go_frame
        refine till_take 7 (some 16) rfl rfl (by kernel_rfl) (by kernel_rfl) (by kernel_rfl) (by kernel_rfl) (by kernel_rfl) (by kernel_rfl) (fun _ _ _ h => h) (.inl ⟨by rfl, fun w' hS' => (by have hc1 := hS'; go_simp; rfl)⟩) hS ?_
        go_frame
        refine till_take 8 (some 17) rfl rfl (by kernel_rfl) (by kernel_rfl) (by kernel_rfl) (by kernel_rfl) (by kernel_rfl) (by kernel_rfl) (fun _ _ _ h => h) (.inl ⟨by rfl, fun w' _ => (by go_simp; rfl)⟩) hS ?_
        go_frame
        refine till_take 9 (some 18) rfl rfl (by kernel_rfl) (by kernel_rfl) (by kernel_rfl) (by kernel_rfl) (by kernel_rfl) (by kernel_rfl) (fun _ _ _ h => h) (.inl ⟨by rfl, fun w' _ => (by go_simp; rfl)⟩) hS ?_
        go_frame
        refine till_one 10 rfl (by kernel_rfl) fun K hK => ?_
        simp only [List.getElem_toArray, List.getElem_cons_succ, List.getElem_cons_zero]
        rw [if_pos (by rfl)]
        go_simp
        obtain ⟨w4, hwn⟩ : ∃ wn, wn = World.alloc wz (.cells #[.int .u32 (e0 : Int), .int .u32 (e1 : Int)] 247) := ⟨_, rfl⟩
        obtain ⟨G, hG⟩ : ∃ G, G = (World.heap wz).size := ⟨_, rfl⟩
        rw [← hwn, ← hG]
        have hb : Below (World.heap wz).size wz w4 := by rw [hwn]; exact below_new _ _
        have hg4 : w4.heap[G]? = some (.cells #[.int .u32 (e0 : Int), .int .u32 (e1 : Int)] 247 (0, 0)) := by rw [hwn, hG]; exact heap_alloc_new _ _
        have HG4 : Hid (Rd w4 u32E 1 (.slice (some ⟨G, 0, none⟩) 2 2) [e0, e1]) := Lib.hid (lit32 (l := [e0, e1]) hg4 (by simp))
        have HO4 := Lib.hid (HOz.out.later hb); have HX4 := Lib.hid (below_at' hb HXz.out); have HB4 := Lib.hid (HBz.out.trans (hb.mono HBz.out.size))
        have hS2 : w4.cell? ⟨X, 3, none⟩ = some (.int .u64 (E : Int)) := Lib.cell_of_heap HX4.out 3
        refine hK _ _ (fun _ _ => hS2) ?_
        clear hK hS hwn hG hb hg4 HOz HXz HBz
        have hS := hS2
        clear hS2
        refine till_one 11 rfl (by kernel_rfl) fun K hK => ?_
        simp only [List.getElem_toArray, List.getElem_cons_succ, List.getElem_cons_zero]
        rw [if_pos (by rfl)]
        refine wp_lo_apps (l := D.take (2 * 3)) (l2 := [e0, e1]) _ _ 199 199 rfl Tryz.underlying199 Tryz.underlying199 Tryz.info32 rfl (by decide) u32E_len (fun x _ => u32E_one x) HO4.out rfl _ rfl HG4.out (by rw [HDL.out]; unfold maxLen; simp) (by rw [HDL.out]; simp) ?_
        intro va w5 la ka ma
        rw [show D.take (2 * 3) ++ [e0, e1] = D.take (2 * (3 + 1)) by rw [HDL.out]; rfl] at la
        have HO5 := Lib.hid la
        have HK5 : Hid (∀ k, Value.ownBlock va = some k → w.heap.size ≤ k) := Lib.hid (fun k e => by
          rcases ma with m1 | ⟨g, m1, m2⟩
          · exact HK.out k (m1 ▸ e)
          · rw [e] at m1; cases m1; exact Nat.le_trans HB4.out.size m2)
        have HB5 := Lib.hid (HB4.out.trans (ka.below (B := w.heap.size) (fun q hq e => by have := HK.out q e; omega) HB4.out.size))
        have HX5 := Lib.hid (ka.at HX4.out (fun e => by obtain ⟨cs, h1⟩ := HO4.out.kind e; rw [HX4.out] at h1; injection h1 with h2; injection h2 with _ h3; exact absurd h3 (by decide)))
        have hS2 : w5.cell? ⟨X, 3, none⟩ = some (.int .u64 (E : Int)) := Lib.cell_of_heap HX5.out 3
        refine hK _ _ (fun _ _ => hS2) ?_
        clear hK hS la ka ma HO4 HX4 HB4
        have hS := hS2
        clear hS2
        refine till_take 12 (some 3) rfl rfl (by kernel_rfl) (by kernel_rfl) (by kernel_rfl) (by kernel_rfl) (by kernel_rfl) (by kernel_rfl) (fun _ _ _ h => h) (.inl ⟨by rfl, fun w' _ => (by go_simp; rfl)⟩) hS ?_
        go_frame
        refine till_done (by kernel_rfl) ?_ _
        clear hS
        go_wp2_with fail
        go_roundw
        case rel => exact ⟨4, by go_num, by omega, HO5, HK5, HX5, HB5⟩
        case measure => simp [intOf]
    · obtain rfl : i = 4 := by omega
      have hrd := HO.out.rd u32E_len
      rw [List.take_of_length_le (by rw [HDL.out]; simp)] at hrd
      have HRD := Lib.hid hrd
      clear hrd HO HK HX hi hlt
      go_wp2_with fail
      refine (tfun HRD.out HD.out HN.out).mono ?_
      rintro e w9 ⟨v', rfl, h1, hb⟩
      have H1 := Lib.hid h1; have HB9 := Lib.hid (HB.out.trans (hb.mono HB.out.size))
      clear h1 hb
      go_wp2_with fail
      go_ret
      exact ⟨_, rfl, H1.out, HB9.out⟩
def cmpV (n m : Nat) : Int := if n < m then -1 else if n = m then 0 else 1

set_option maxHeartbeats 16000000 in
set_option maxRecDepth 100000 in
theorem natCmp_any {w : World} {v1 v2 : Value} {l1 l2 : List Nat} {n m : Nat} (h1 : Rd w u32E 1 v1 l1) (h2 : Rd w u32E 1 v2 l2) (d1 : D32 l1) (d2 : D32 l2) (hn : dv l1 = n) (hm : dv l2 = m) :
    Calls Tryz.prog 127 #[v1, v2] w (Ret w (.int .i64 (cmpV n m))) := by
  obtain ⟨ad1, cap1, rfl, _, _⟩ := h1.shape
  obtain ⟨ad2, cap2, rfl, _, _⟩ := h2.shape
  have H1 := Lib.hid h1; have H2 := Lib.hid h2; have HD1 := Lib.hid d1; have HD2 := Lib.hid d2; have HN := Lib.hid hn; have HM := Lib.hid hm
  clear h1 h2 d1 d2 hn hm
  go_enter Tryz.func127, Tryz.ntmps127
  go_wp2_with fail
  refine (tfun H1.out HD1.out HN.out).mono ?_
  rintro e w1 ⟨u1, rfl, k1, hb1⟩
  have K1 := Lib.hid k1; have HB1 := Lib.hid hb1
  clear k1 hb1
  go_wp2_with fail
  refine (tfun (H2.out.later HB1.out) HD2.out HM.out).mono ?_
  rintro e w2 ⟨u2, rfl, k2, hb2⟩
  obtain ⟨m1, hm1⟩ : ∃ q, q = digs n := ⟨_, rfl⟩
  obtain ⟨m2, hm2⟩ : ∃ q, q = digs m := ⟨_, rfl⟩
  have k1 := K1.out.later hb2
  rw [← hm1] at k1
  rw [← hm2] at k2
  obtain ⟨a1, p1, rfl, c1, c1'⟩ := k1.shape
  obtain ⟨a2, p2, rfl, c2, c2'⟩ := k2.shape
  obtain ⟨L1, hL1⟩ : ∃ q, q = m1.length := ⟨_, rfl⟩
  obtain ⟨L2, hL2⟩ : ∃ q, q = m2.length := ⟨_, rfl⟩
  rw [← hL1] at k1 c1 ⊢
  rw [← hL2] at k2 c2 ⊢
  have KA := Lib.hid k1; have KB := Lib.hid k2; have HB2 := Lib.hid (HB1.out.trans (hb2.mono HB1.out.size))
  have HA : Hid (D32 m1 ∧ Top m1 ∧ dv m1 = n) := Lib.hid (by rw [hm1]; exact ⟨digs_d32 n, digs_top n, dv_digs n⟩)
  have HBB : Hid (D32 m2 ∧ Top m2 ∧ dv m2 = m) := Lib.hid (by rw [hm2]; exact ⟨digs_d32 m, digs_top m, dv_digs m⟩)
  have HL1 := Lib.hid hL1; have HL2 := Lib.hid hL2
  clear k1 k2 hb2 hm1 hm2 hL1 hL2 HB1 K1 H1 H2 HD1 HD2
  by_cases hne : L1 = L2
  · subst hne
    have hee : ((L1 : Int) == (L1 : Int)) = true := by simp
    go_wp2_with fail
    clear hee
    have hw0 : IntKind.i64.wrap ((L1 : Int) - 1) = (L1 : Int) - 1 := IntWalk.i64_in _ (by omega)
    go_wp2_with fail
    go_loopw [5] (fun vi wr => ∃ k : Nat, vi = .int .i64 ((k : Int) - 1) ∧ k ≤ L1 ∧ Hid (m1.drop k = m2.drop k) ∧ Hid (Below w2.heap.size w2 wr)) (fun vi _ => (intOf vi + 1).toNat)
    case atStart => exact ⟨L1, rfl, Nat.le_refl _, Lib.hid (by rw [List.drop_of_length_le (by rw [← HL1.out]; exact Nat.le_refl _), List.drop_of_length_le (by rw [← HL2.out]; exact Nat.le_refl _)]), Lib.hid (Below.refl _ _)⟩
    case round =>
      clear hw0
      obtain ⟨k, rfl, hk, HD, HW⟩ := hrel
      rcases k with _ | j
      · have heq : Hid (cmpV n m = 0) := Lib.hid (by
          have h := HD.out
          rw [List.drop_zero, List.drop_zero] at h
          have : n = m := by rw [← HA.out.2.2, ← HBB.out.2.2, h]
          unfold cmpV; rw [if_neg (by omega), if_pos this])
        go_wp2_with fail
        go_ret
        exact ⟨by rw [heq.out]; rfl, HB2.out.trans (HW.out.mono HB2.out.size)⟩
      · have hj1 : j < m1.length := by rw [← HL1.out]; omega
        have hj2 : j < m2.length := by rw [← HL2.out]; omega
        obtain ⟨b1, o1, rfl, hq1, hc1⟩ := KA.out.at j hj1
        obtain ⟨b2, o2, rfl, hq2, hc2⟩ := KB.out.at j hj2
        replace hc1 := (HW.out.cell (p := ⟨b1, o1 + j, none⟩) hq1).trans hc1
        replace hc2 := (HW.out.cell (p := ⟨b2, o2 + j, none⟩) hq2).trans hc2
        obtain ⟨d, hd⟩ : ∃ q, q = m1[j] := ⟨_, rfl⟩
        obtain ⟨e, he⟩ : ∃ q, q = m2[j] := ⟨_, rfl⟩
        have hS0 : wr.cell? ⟨b1, o1 + j, none⟩ = some (.int .u32 (d : Int)) ∧ wr.cell? ⟨b2, o2 + j, none⟩ = some (.int .u32 (e : Int)) := ⟨by rw [hc1, hd]; rfl, by rw [hc2, he]; rfl⟩
        have HS0 := Lib.hid hS0
        have hlt : (j : Int) < (L1 : Int) := by omega
        have hj0 : (0 : Int) ≤ (j : Int) := by omega
        have hwr : IntKind.i64.wrap ((j : Int) - 1) = (j : Int) - 1 := IntWalk.i64_in _ (by omega)
        have HDE := Lib.hid (And.intro hd he)
        have HJ := Lib.hid (And.intro hj1 hj2)
        clear hc1 hc2 hd he hq1 hq2 hS0
        have hS : wr.drew.cell? ⟨b1, o1 + j, none⟩ = some (.int .u32 (d : Int)) ∧ wr.drew.cell? ⟨b2, o2 + j, none⟩ = some (.int .u32 (e : Int)) := HS0.out
        by_cases hde : d = e
        · have HD2 : Hid (m1.drop j = m2.drop j) := Lib.hid (by
            rw [List.drop_eq_getElem_cons HJ.out.1, List.drop_eq_getElem_cons HJ.out.2, HD.out, ← HDE.out.1, ← HDE.out.2, hde])
          subst hde
          have hbe : ((d : Int) == (d : Int)) = true := by simp
          go_wp2_with fail
          refine wp_region_till (fun w' => w'.cell? ⟨b1, o1 + j, none⟩ = some (.int .u32 (d : Int)) ∧ w'.cell? ⟨b2, o2 + j, none⟩ = some (.int .u32 (d : Int))) 9 9 (by kernel_rfl) rfl ?_
          refine till_take 0 (some 27) rfl rfl (by kernel_rfl) (by kernel_rfl) (by kernel_rfl) (by kernel_rfl) (by kernel_rfl) (by kernel_rfl) (fun _ _ _ h => h) (.inl ⟨by rfl, fun w' _ => (by go_simp; rfl)⟩) hS ?_
          go_frame
          refine till_take 1 (some 28) rfl rfl (by kernel_rfl) (by kernel_rfl) (by kernel_rfl) (by kernel_rfl) (by kernel_rfl) (by kernel_rfl) (fun _ _ _ h => h) (.inl ⟨by rfl, fun w' _ => (by go_simp; rfl)⟩) hS ?_
          go_frame
          refine till_take 2 (some 29) rfl rfl (by kernel_rfl) (by kernel_rfl) (by kernel_rfl) (by kernel_rfl) (by kernel_rfl) (by kernel_rfl) (fun _ _ _ h => h) (.inl ⟨by rfl, fun w' _ => (by go_simp; rfl)⟩) hS ?_
          go_frame
          refine till_take 3 (some 30) rfl rfl (by kernel_rfl) (by kernel_rfl) (by kernel_rfl) (by kernel_rfl) (by kernel_rfl) (by kernel_rfl) (fun _ _ _ h => h) (.inl ⟨by rfl, fun w' hS' => (by obtain ⟨hc1, hc2⟩ := hS'; go_simp; rfl)⟩) hS ?_
          go_frame
          refine till_take 4 (some 31) rfl rfl (by kernel_rfl) (by kernel_rfl) (by kernel_rfl) (by kernel_rfl) (by kernel_rfl) (by kernel_rfl) (fun _ _ _ h => h) (.inl ⟨by rfl, fun w' _ => (by go_simp; rfl)⟩) hS ?_
          go_frame
          refine till_take 5 (some 32) rfl rfl (by kernel_rfl) (by kernel_rfl) (by kernel_rfl) (by kernel_rfl) (by kernel_rfl) (by kernel_rfl) (fun _ _ _ h => h) (.inl ⟨by rfl, fun w' _ => (by go_simp; rfl)⟩) hS ?_
          go_frame
          refine till_take 6 (some 33) rfl rfl (by kernel_rfl) (by kernel_rfl) (by kernel_rfl) (by kernel_rfl) (by kernel_rfl) (by kernel_rfl) (fun _ _ _ h => h) (.inl ⟨by rfl, fun w' _ => (by go_simp; rfl)⟩) hS ?_
          go_frame
          refine till_take 7 (some 34) rfl rfl (by kernel_rfl) (by kernel_rfl) (by kernel_rfl) (by kernel_rfl) (by kernel_rfl) (by kernel_rfl) (fun _ _ _ h => h) (.inl ⟨by rfl, fun w' hS' => (by obtain ⟨hc1, hc2⟩ := hS'; go_simp; rfl)⟩) hS ?_
          go_frame
          refine till_take 8 (some 35) rfl rfl (by kernel_rfl) (by kernel_rfl) (by kernel_rfl) (by kernel_rfl) (by kernel_rfl) (by kernel_rfl) (fun _ _ _ h => h) (.inl ⟨by rfl, fun w' _ => (by go_simp; rfl)⟩) hS ?_
          go_frame
          refine till_done (by kernel_rfl) ?_ _
          clear hS hbe
          go_wp2_with fail
          go_roundw
          case rel => exact ⟨j, by go_num, by omega, HD2, Lib.hid HW.out.drew⟩
          case measure => simp [intOf]
        · have hbe : ((d : Int) == (e : Int)) = false := beq_eq_false_iff_ne.2 (fun h => hde (by omega))
          have HV : Hid (cmpV n m = if d < e then -1 else 1) := Lib.hid (by
            by_cases h : d < e
            · rw [if_pos h]
              have h1 := dv_lt_at HA.out.1 HJ.out.1 HJ.out.2 HD.out (by rw [← HDE.out.1, ← HDE.out.2]; exact h)
              rw [HA.out.2.2, HBB.out.2.2] at h1
              unfold cmpV; rw [if_pos h1]
            · rw [if_neg h]
              have h1 := dv_lt_at HBB.out.1 HJ.out.2 HJ.out.1 HD.out.symm (by rw [← HDE.out.1, ← HDE.out.2]; omega)
              rw [HA.out.2.2, HBB.out.2.2] at h1
              unfold cmpV; rw [if_neg (by omega), if_neg (by omega)])
          clear hde
          go_wp2_with fail
          refine wp_region_till (fun w' => w'.cell? ⟨b1, o1 + j, none⟩ = some (.int .u32 (d : Int)) ∧ w'.cell? ⟨b2, o2 + j, none⟩ = some (.int .u32 (e : Int))) 9 9 (by kernel_rfl) rfl ?_
          refine till_take 0 (some 27) rfl rfl (by kernel_rfl) (by kernel_rfl) (by kernel_rfl) (by kernel_rfl) (by kernel_rfl) (by kernel_rfl) (fun _ _ _ h => h) (.inl ⟨by rfl, fun w' _ => (by go_simp; rfl)⟩) hS ?_
          go_frame
          refine till_take 1 (some 28) rfl rfl (by kernel_rfl) (by kernel_rfl) (by kernel_rfl) (by kernel_rfl) (by kernel_rfl) (by kernel_rfl) (fun _ _ _ h => h) (.inl ⟨by rfl, fun w' _ => (by go_simp; rfl)⟩) hS ?_
          go_frame
          refine till_take 2 (some 29) rfl rfl (by kernel_rfl) (by kernel_rfl) (by kernel_rfl) (by kernel_rfl) (by kernel_rfl) (by kernel_rfl) (fun _ _ _ h => h) (.inl ⟨by rfl, fun w' _ => (by go_simp; rfl)⟩) hS ?_
          go_frame
          refine till_take 3 (some 30) rfl rfl (by kernel_rfl) (by kernel_rfl) (by kernel_rfl) (by kernel_rfl) (by kernel_rfl) (by kernel_rfl) (fun _ _ _ h => h) (.inl ⟨by rfl, fun w' hS' => (by obtain ⟨hc1, hc2⟩ := hS'; go_simp; rfl)⟩) hS ?_
          go_frame
          refine till_take 4 (some 31) rfl rfl (by kernel_rfl) (by kernel_rfl) (by kernel_rfl) (by kernel_rfl) (by kernel_rfl) (by kernel_rfl) (fun _ _ _ h => h) (.inl ⟨by rfl, fun w' _ => (by go_simp; rfl)⟩) hS ?_
          go_frame
          refine till_take 5 (some 32) rfl rfl (by kernel_rfl) (by kernel_rfl) (by kernel_rfl) (by kernel_rfl) (by kernel_rfl) (by kernel_rfl) (fun _ _ _ h => h) (.inl ⟨by rfl, fun w' _ => (by go_simp; rfl)⟩) hS ?_
          go_frame
          refine till_take 6 (some 33) rfl rfl (by kernel_rfl) (by kernel_rfl) (by kernel_rfl) (by kernel_rfl) (by kernel_rfl) (by kernel_rfl) (fun _ _ _ h => h) (.inl ⟨by rfl, fun w' _ => (by go_simp; rfl)⟩) hS ?_
          go_frame
          refine till_take 7 (some 34) rfl rfl (by kernel_rfl) (by kernel_rfl) (by kernel_rfl) (by kernel_rfl) (by kernel_rfl) (by kernel_rfl) (fun _ _ _ h => h) (.inl ⟨by rfl, fun w' hS' => (by obtain ⟨hc1, hc2⟩ := hS'; go_simp; rfl)⟩) hS ?_
          go_frame
          refine till_take 8 (some 35) rfl rfl (by kernel_rfl) (by kernel_rfl) (by kernel_rfl) (by kernel_rfl) (by kernel_rfl) (by kernel_rfl) (fun _ _ _ h => h) (.inl ⟨by rfl, fun w' _ => (by go_simp; rfl)⟩) hS ?_
          go_frame
          refine till_done (by kernel_rfl) ?_ _
          clear hS
          obtain ⟨wd, hwd⟩ : ∃ wd, wd = wr.drew := ⟨_, rfl⟩
          have hS : wd.drew.cell? ⟨b1, o1 + j, none⟩ = some (.int .u32 (d : Int)) ∧ wd.drew.cell? ⟨b2, o2 + j, none⟩ = some (.int .u32 (e : Int)) := by rw [hwd]; exact HS0.out
          have HWD : Hid (Below w.heap.size w wd.drew) := Lib.hid (by rw [hwd]; exact (HB2.out.trans (HW.out.mono HB2.out.size)).drew.drew)
          rw [← hwd]
          clear hwd
          by_cases hl2 : d < e
          · have HV2 : Hid (cmpV n m = -1) := Lib.hid (by rw [HV.out, if_pos hl2])
            go_wp2_with fail
            refine wp_region_till (fun w' => w'.cell? ⟨b1, o1 + j, none⟩ = some (.int .u32 (d : Int)) ∧ w'.cell? ⟨b2, o2 + j, none⟩ = some (.int .u32 (e : Int))) 9 9 (by kernel_rfl) rfl ?_
            refine till_take 0 (some 36) rfl rfl (by kernel_rfl) (by kernel_rfl) (by kernel_rfl) (by kernel_rfl) (by kernel_rfl) (by kernel_rfl) (fun _ _ _ h => h) (.inl ⟨by rfl, fun w' _ => (by go_simp; rfl)⟩) hS ?_
            go_frame
            refine till_take 1 (some 37) rfl rfl (by kernel_rfl) (by kernel_rfl) (by kernel_rfl) (by kernel_rfl) (by kernel_rfl) (by kernel_rfl) (fun _ _ _ h => h) (.inl ⟨by rfl, fun w' _ => (by go_simp; rfl)⟩) hS ?_
            go_frame
            refine till_take 2 (some 38) rfl rfl (by kernel_rfl) (by kernel_rfl) (by kernel_rfl) (by kernel_rfl) (by kernel_rfl) (by kernel_rfl) (fun _ _ _ h => h) (.inl ⟨by rfl, fun w' _ => (by go_simp; rfl)⟩) hS ?_
            go_frame
            refine till_take 3 (some 39) rfl rfl (by kernel_rfl) (by kernel_rfl) (by kernel_rfl) (by kernel_rfl) (by kernel_rfl) (by kernel_rfl) (fun _ _ _ h => h) (.inl ⟨by rfl, fun w' hS' => (by obtain ⟨hc1, hc2⟩ := hS'; go_simp; rfl)⟩) hS ?_
            go_frame
            refine till_take 4 (some 40) rfl rfl (by kernel_rfl) (by kernel_rfl) (by kernel_rfl) (by kernel_rfl) (by kernel_rfl) (by kernel_rfl) (fun _ _ _ h => h) (.inl ⟨by rfl, fun w' _ => (by go_simp; rfl)⟩) hS ?_
            go_frame
            refine till_take 5 (some 41) rfl rfl (by kernel_rfl) (by kernel_rfl) (by kernel_rfl) (by kernel_rfl) (by kernel_rfl) (by kernel_rfl) (fun _ _ _ h => h) (.inl ⟨by rfl, fun w' _ => (by go_simp; rfl)⟩) hS ?_
            go_frame
            refine till_take 6 (some 42) rfl rfl (by kernel_rfl) (by kernel_rfl) (by kernel_rfl) (by kernel_rfl) (by kernel_rfl) (by kernel_rfl) (fun _ _ _ h => h) (.inl ⟨by rfl, fun w' _ => (by go_simp; rfl)⟩) hS ?_
            go_frame
            refine till_take 7 (some 43) rfl rfl (by kernel_rfl) (by kernel_rfl) (by kernel_rfl) (by kernel_rfl) (by kernel_rfl) (by kernel_rfl) (fun _ _ _ h => h) (.inl ⟨by rfl, fun w' hS' => (by obtain ⟨hc1, hc2⟩ := hS'; go_simp; rfl)⟩) hS ?_
            go_frame
            refine till_take 8 (some 44) rfl rfl (by kernel_rfl) (by kernel_rfl) (by kernel_rfl) (by kernel_rfl) (by kernel_rfl) (by kernel_rfl) (fun _ _ _ h => h) (.inl ⟨by rfl, fun w' _ => (by go_simp; rfl)⟩) hS ?_
            go_frame
            refine till_done (by kernel_rfl) ?_ _
            clear hS
            go_wp2_with fail
            go_ret
            exact ⟨by rw [HV2.out]; rfl, HWD.out⟩
          · have HV2 : Hid (cmpV n m = 1) := Lib.hid (by rw [HV.out, if_neg hl2])
            go_wp2_with fail
            refine wp_region_till (fun w' => w'.cell? ⟨b1, o1 + j, none⟩ = some (.int .u32 (d : Int)) ∧ w'.cell? ⟨b2, o2 + j, none⟩ = some (.int .u32 (e : Int))) 9 9 (by kernel_rfl) rfl ?_
            refine till_take 0 (some 36) rfl rfl (by kernel_rfl) (by kernel_rfl) (by kernel_rfl) (by kernel_rfl) (by kernel_rfl) (by kernel_rfl) (fun _ _ _ h => h) (.inl ⟨by rfl, fun w' _ => (by go_simp; rfl)⟩) hS ?_
            go_frame
            refine till_take 1 (some 37) rfl rfl (by kernel_rfl) (by kernel_rfl) (by kernel_rfl) (by kernel_rfl) (by kernel_rfl) (by kernel_rfl) (fun _ _ _ h => h) (.inl ⟨by rfl, fun w' _ => (by go_simp; rfl)⟩) hS ?_
            go_frame
            refine till_take 2 (some 38) rfl rfl (by kernel_rfl) (by kernel_rfl) (by kernel_rfl) (by kernel_rfl) (by kernel_rfl) (by kernel_rfl) (fun _ _ _ h => h) (.inl ⟨by rfl, fun w' _ => (by go_simp; rfl)⟩) hS ?_
            go_frame
            refine till_take 3 (some 39) rfl rfl (by kernel_rfl) (by kernel_rfl) (by kernel_rfl) (by kernel_rfl) (by kernel_rfl) (by kernel_rfl) (fun _ _ _ h => h) (.inl ⟨by rfl, fun w' hS' => (by obtain ⟨hc1, hc2⟩ := hS'; go_simp; rfl)⟩) hS ?_
            go_frame
            refine till_take 4 (some 40) rfl rfl (by kernel_rfl) (by kernel_rfl) (by kernel_rfl) (by kernel_rfl) (by kernel_rfl) (by kernel_rfl) (fun _ _ _ h => h) (.inl ⟨by rfl, fun w' _ => (by go_simp; rfl)⟩) hS ?_
            go_frame
            refine till_take 5 (some 41) rfl rfl (by kernel_rfl) (by kernel_rfl) (by kernel_rfl) (by kernel_rfl) (by kernel_rfl) (by kernel_rfl) (fun _ _ _ h => h) (.inl ⟨by rfl, fun w' _ => (by go_simp; rfl)⟩) hS ?_
            go_frame
            refine till_take 6 (some 42) rfl rfl (by kernel_rfl) (by kernel_rfl) (by kernel_rfl) (by kernel_rfl) (by kernel_rfl) (by kernel_rfl) (fun _ _ _ h => h) (.inl ⟨by rfl, fun w' _ => (by go_simp; rfl)⟩) hS ?_
            go_frame
            refine till_take 7 (some 43) rfl rfl (by kernel_rfl) (by kernel_rfl) (by kernel_rfl) (by kernel_rfl) (by kernel_rfl) (by kernel_rfl) (fun _ _ _ h => h) (.inl ⟨by rfl, fun w' hS' => (by obtain ⟨hc1, hc2⟩ := hS'; go_simp; rfl)⟩) hS ?_
            go_frame
            refine till_take 8 (some 44) rfl rfl (by kernel_rfl) (by kernel_rfl) (by kernel_rfl) (by kernel_rfl) (by kernel_rfl) (by kernel_rfl) (fun _ _ _ h => h) (.inl ⟨by rfl, fun w' _ => (by go_simp; rfl)⟩) hS ?_
            go_frame
            refine till_done (by kernel_rfl) ?_ _
            clear hS
            go_wp2_with fail
            go_ret
            exact ⟨by rw [HV2.out]; rfl, HWD.out⟩
  · have hnb : ((L1 : Int) == (L2 : Int)) = false := beq_eq_false_iff_ne.2 (fun h => hne (by omega))
    by_cases hl : L1 < L2
    · have HV : Hid (cmpV n m = -1) := Lib.hid (by
        have h1 := dv_lt_len HA.out.1 HBB.out.2.1 (by rw [← HL1.out, ← HL2.out]; exact hl)
        rw [HA.out.2.2, HBB.out.2.2] at h1
        unfold cmpV; rw [if_pos h1])
      clear hne
      go_wp2_with fail
      go_ret
      exact ⟨by rw [HV.out]; rfl, HB2.out⟩
    · have HV : Hid (cmpV n m = 1) := Lib.hid (by
        have h1 := dv_lt_len HBB.out.1 HA.out.2.1 (by rw [← HL1.out, ← HL2.out]; omega)
        rw [HA.out.2.2, HBB.out.2.2] at h1
        unfold cmpV; rw [if_neg (by omega), if_neg (by omega)])
      clear hne
      go_wp2_with fail
      go_ret
      exact ⟨by rw [HV.out]; rfl, HB2.out⟩

set_option maxHeartbeats 4000000 in
set_option maxRecDepth 100000 in
theorem ucmp_any {a b c d a' b' c' d' : Int} {n m : Nat} (h : UIs a b c d n) (h' : UIs a' b' c' d' m) (w : World) :
    Calls Tryz.prog 37 #[.agg #[.int .u64 a, .int .u64 b, .int .u64 c, .int .u64 d], .agg #[.int .u64 a', .int .u64 b', .int .u64 c', .int .u64 d']] w (Ret w (.int .i64 (cmpV n m))) := by
  have HU := Lib.hid h; have HU2 := Lib.hid h'
  clear h h'
  go_enter Tryz.func37, Tryz.ntmps37
  go_wp2_with fail
  obtain ⟨w1, hw1⟩ : ∃ w1, w1 = (w.alloc (.cells #[.int .u64 a, .int .u64 b, .int .u64 c, .int .u64 d] 55)).alloc (.cells #[.int .u64 a', .int .u64 b', .int .u64 c', .int .u64 d'] 55) := ⟨_, rfl⟩
  obtain ⟨X, hX⟩ : ∃ X, X = w.heap.size := ⟨_, rfl⟩
  obtain ⟨Y, hY⟩ : ∃ Y, Y = w.heap.size + 1 := ⟨_, rfl⟩
  rw [← hw1, ← hY, ← hX]
  have hbx := box2 w _ _ _ _ w1 hw1
  rw [← hY, ← hX] at hbx
  have HX1 := Lib.hid hbx.1; have HY1 := Lib.hid hbx.2.1
  have HB1 : Hid (Below w.heap.size w w1) := Lib.hid (by rw [← hX]; exact hbx.2.2.1)
  clear hbx hw1 hX hY
  have hS : w1.drew.heap[X]? = some (.cells #[.int .u64 a, .int .u64 b, .int .u64 c, .int .u64 d] 55 (0, 0)) ∧ w1.drew.heap[Y]? = some (.cells #[.int .u64 a', .int .u64 b', .int .u64 c', .int .u64 d'] 55 (0, 0)) := ⟨HX1.out, HY1.out⟩
  have HB := Lib.hid HB1.out.drew
  clear HX1 HY1 HB1
  refine wp_region_till (fun w' => w'.heap[X]? = some (.cells #[.int .u64 a, .int .u64 b, .int .u64 c, .int .u64 d] 55 (0, 0)) ∧ w'.heap[Y]? = some (.cells #[.int .u64 a', .int .u64 b', .int .u64 c', .int .u64 d'] 55 (0, 0))) 6 6 (by kernel_rfl) rfl ?_
  refine till_take 0 (some 5) rfl rfl (by kernel_rfl) (by kernel_rfl) (by kernel_rfl) (by kernel_rfl) (by kernel_rfl) (by kernel_rfl) (fun _ _ _ h => h) (yields_load (by rfl) 55 _ rfl (.pointer (some ⟨X, 0, none⟩)) rfl (.agg #[.int .u64 a, .int .u64 b, .int .u64 c, .int .u64 d]) (fun w' hS' => load_heap hS'.1 Tryz.underlying55 rfl Tryz.sizeU)) hS ?_
  go_frame
  refine till_take 2 (some 7) rfl rfl (by kernel_rfl) (by kernel_rfl) (by kernel_rfl) (by kernel_rfl) (by kernel_rfl) (by kernel_rfl) (fun _ _ _ h => h) (yields_load (by rfl) 55 _ rfl (.pointer (some ⟨Y, 0, none⟩)) rfl (.agg #[.int .u64 a', .int .u64 b', .int .u64 c', .int .u64 d']) (fun w' hS' => load_heap hS'.2 Tryz.underlying55 rfl Tryz.sizeU)) hS ?_
  go_frame
  refine till_one 1 rfl (by kernel_rfl) fun K hK => ?_
  simp only [List.getElem_toArray, List.getElem_cons_succ, List.getElem_cons_zero]
  rw [if_pos (by rfl)]
  go_simp
  refine (rof_any HU.out _).mono ?_
  rintro e wa ⟨v1, rfl, r1, hb⟩
  have hS2 : wa.heap[X]? = some (.cells #[.int .u64 a, .int .u64 b, .int .u64 c, .int .u64 d] 55 (0, 0)) ∧ wa.heap[Y]? = some (.cells #[.int .u64 a', .int .u64 b', .int .u64 c', .int .u64 d'] 55 (0, 0)) := ⟨below_at' hb hS.1, below_at' hb hS.2⟩
  have HBn := Lib.hid (HB.out.trans (hb.mono HB.out.size))
  have R1 := Lib.hid r1
  clear r1
  refine hK _ _ (fun _ _ => hS2) ?_
  clear hK hS hb HB
  have hS := hS2
  have HB := HBn
  clear hS2 HBn
  refine till_one 3 rfl (by kernel_rfl) fun K hK => ?_
  simp only [List.getElem_toArray, List.getElem_cons_succ, List.getElem_cons_zero]
  rw [if_pos (by rfl)]
  go_simp
  refine (rof_any HU2.out _).mono ?_
  rintro e wb ⟨v2, rfl, r2, hb⟩
  have hS2 : wb.heap[X]? = some (.cells #[.int .u64 a, .int .u64 b, .int .u64 c, .int .u64 d] 55 (0, 0)) ∧ wb.heap[Y]? = some (.cells #[.int .u64 a', .int .u64 b', .int .u64 c', .int .u64 d'] 55 (0, 0)) := ⟨below_at' hb hS.1, below_at' hb hS.2⟩
  have HBn := Lib.hid (HB.out.trans (hb.mono HB.out.size))
  have R2 := Lib.hid r2; have R1b := Lib.hid (R1.out.later hb)
  clear r2 R1
  refine hK _ _ (fun _ _ => hS2) ?_
  clear hK hS hb HB
  have hS := hS2
  have HB := HBn
  clear hS2 HBn
  refine till_one 4 rfl (by kernel_rfl) fun K hK => ?_
  simp only [List.getElem_toArray, List.getElem_cons_succ, List.getElem_cons_zero]
  rw [if_pos (by rfl)]
  go_simp
  refine (natCmp_any R1b.out R2.out (digs_d32 _) (digs_d32 _) (dv_digs _) (dv_digs _)).mono ?_
  rintro e wc ⟨rfl, hb⟩
  have hS2 : wc.heap[X]? = some (.cells #[.int .u64 a, .int .u64 b, .int .u64 c, .int .u64 d] 55 (0, 0)) ∧ wc.heap[Y]? = some (.cells #[.int .u64 a', .int .u64 b', .int .u64 c', .int .u64 d'] 55 (0, 0)) := ⟨below_at' hb hS.1, below_at' hb hS.2⟩
  have HBn := Lib.hid (HB.out.trans (hb.mono HB.out.size))
  refine hK _ _ (fun _ _ => hS2) ?_
  clear hK hS hb HB
  have hS := hS2
  have HB := HBn
  clear hS2 HBn
  refine till_take 5 (some 4) rfl rfl (by kernel_rfl) (by kernel_rfl) (by kernel_rfl) (by kernel_rfl) (by kernel_rfl) (by kernel_rfl) (fun _ _ _ h => h) (.inl ⟨by rfl, fun w' _ => (by go_simp; rfl)⟩) hS ?_
  go_frame
  refine till_done (by kernel_rfl) ?_ _
  clear hS
  go_wp2_with fail
  go_ret
  exact ⟨rfl, HB.out⟩

set_option maxHeartbeats 4000000 in
set_option maxRecDepth 100000 in
theorem rmost_any (w : World) : Calls Tryz.prog 184 #[] w (URet w 340282366920938463463374607431768211455) := by
  go_enter Tryz.func184, Tryz.ntmps184
  go_wp2_with (refine wpList_alloc_g rfl _ rfl _ _ Tryz.zeroUz rfl ?_)
  intro R w1 h1
  go_wp2_with (refine wpList_store_row_g (t := 55) (old := u0) rfl 55 _ _ rfl R #[.int .u64 18446744073709551615, .int .u64 18446744073709551615, .int .u64 0, .int .u64 0] rfl rfl h1.out.cells Tryz.sizeU rfl (one_u64 _ _ _ _) ?_)
  intro w2 h2 k2 z2
  clear z2
  have HB : Hid (Below w.heap.size w w2) := Lib.hid (h1.out.below.trans (k2.below (B := w.heap.size) (fun x hx e => by have := h1.out.eq; omega) h1.out.below.size))
  have HR := Lib.hid h2
  clear h1 h2 k2
  go_wp2_with fail
  exact bodyPost_ret (results_cell_row rfl _ _ _ _ _ _ _ rfl HR.out Tryz.underlying55 rfl Tryz.sizeU) rfl ⟨_, _, _, _, by unfold UIs; omega, rfl, HB.out⟩
theorem cmp_most (n : Nat) : decide (cmpV n 340282366920938463463374607431768211455 ≤ 0) = decide (n < uHalf) := by
  unfold cmpV
  by_cases h : n < 340282366920938463463374607431768211455
  · rw [if_pos h, decide_eq_true (by decide), decide_eq_true (by unfold uHalf; omega)]
  · rw [if_neg h]
    by_cases h2 : n = 340282366920938463463374607431768211455
    · rw [if_pos h2, decide_eq_true (by decide), decide_eq_true (by unfold uHalf; omega)]
    · rw [if_neg h2, decide_eq_false (by decide), decide_eq_false (by unfold uHalf; omega)]

set_option maxHeartbeats 4000000 in
set_option maxRecDepth 100000 in
theorem rmAmount_any {a b c d : Int} {n : Nat} (h : UIs a b c d n) (w : World) : Calls Tryz.prog 83 #[.agg #[.int .u64 a, .int .u64 b, .int .u64 c, .int .u64 d]] w (Ret w (.bool (decide (n < uHalf)))) := by
  have HU := Lib.hid h
  clear h
  go_enter Tryz.func83, Tryz.ntmps83
  go_wp2_with fail
  obtain ⟨w1, hw1⟩ : ∃ w1, w1 = w.alloc (.cells #[.int .u64 a, .int .u64 b, .int .u64 c, .int .u64 d] 55) := ⟨_, rfl⟩
  obtain ⟨X, hX⟩ : ∃ X, X = w.heap.size := ⟨_, rfl⟩
  rw [← hw1, ← hX]
  have HX : Hid (w1.heap[X]? = some (.cells #[.int .u64 a, .int .u64 b, .int .u64 c, .int .u64 d] 55 (0, 0))) := Lib.hid (by rw [hw1, hX]; exact heap_alloc_new _ _)
  have HB : Hid (Below w.heap.size w w1) := Lib.hid (by rw [hw1]; exact below_new _ _)
  clear hw1 hX
  obtain ⟨a1, hwz⟩ : ∃ wz, wz = w1.drew := ⟨_, rfl⟩
  have hbz : Below w1.heap.size w1 a1 := by rw [hwz]; exact (Below.refl _ _).drew
  have HBm := Lib.hid (HB.out.trans (hbz.mono HB.out.size))
  have HXm := Lib.hid (below_at' hbz HX.out)
  clear hbz HB HX
  have HB := HBm
  have HX := HXm
  clear HBm HXm
  have hS : a1.heap[X]? = some (.cells #[.int .u64 a, .int .u64 b, .int .u64 c, .int .u64 d] 55 (0, 0)) := HX.out
  refine wp_region_till (fun w' => w'.heap[X]? = some (.cells #[.int .u64 a, .int .u64 b, .int .u64 c, .int .u64 d] 55 (0, 0))) 5 5 (by kernel_rfl) rfl ?_
  rw [← hwz]
  clear hwz
  refine till_take 0 (some 3) rfl rfl (by kernel_rfl) (by kernel_rfl) (by kernel_rfl) (by kernel_rfl) (by kernel_rfl) (by kernel_rfl) (fun _ _ _ h => h) (yields_load (by rfl) 55 _ rfl (.pointer (some ⟨X, 0, none⟩)) rfl (.agg #[.int .u64 a, .int .u64 b, .int .u64 c, .int .u64 d]) (fun w' hS' => load_heap (hS') Tryz.underlying55 rfl Tryz.sizeU)) hS ?_
  go_frame
  refine till_one 1 rfl (by kernel_rfl) fun K hK => ?_
  simp only [List.getElem_toArray, List.getElem_cons_succ, List.getElem_cons_zero]
  rw [if_pos (by rfl)]
  go_simp
  refine (rmost_any _).mono ?_
  rintro e a2 ⟨ma, mb, mc, md, hu, rfl, hb⟩
  have HM := Lib.hid hu
  clear hu
  have HBm := Lib.hid (HB.out.trans (hb.mono HB.out.size))
  have HXm := Lib.hid (below_at' hb HX.out)
  clear hb HB HX
  have HB := HBm
  have HX := HXm
  clear HBm HXm
  have hS2 : a2.heap[X]? = some (.cells #[.int .u64 a, .int .u64 b, .int .u64 c, .int .u64 d] 55 (0, 0)) := HX.out
  refine hK _ _ (fun _ _ => hS2) ?_
  clear hK hS
  have hS := hS2
  clear hS2
  refine till_one 2 rfl (by kernel_rfl) fun K hK => ?_
  simp only [List.getElem_toArray, List.getElem_cons_succ, List.getElem_cons_zero]
  rw [if_pos (by rfl)]
  go_simp
  refine (ucmp_any HU.out HM.out _).mono ?_
  obtain ⟨cv, hcv⟩ : ∃ cv, cv = cmpV n 340282366920938463463374607431768211455 := ⟨_, rfl⟩
  rw [← hcv]
  have hle := cmp_most n
  rw [← hcv] at hle
  have HLE := Lib.hid hle
  clear hcv hle
  rintro e a3 ⟨rfl, hb⟩
  have HBm := Lib.hid (HB.out.trans (hb.mono HB.out.size))
  have HXm := Lib.hid (below_at' hb HX.out)
  clear hb HB HX
  have HB := HBm
  have HX := HXm
  clear HBm HXm
  have hS2 : a3.heap[X]? = some (.cells #[.int .u64 a, .int .u64 b, .int .u64 c, .int .u64 d] 55 (0, 0)) := HX.out
  refine hK _ _ (fun _ _ => hS2) ?_
  clear hK hS
  have hS := hS2
  clear hS2
  refine till_take 3 (some 6) rfl rfl (by kernel_rfl) (by kernel_rfl) (by kernel_rfl) (by kernel_rfl) (by kernel_rfl) (by kernel_rfl) (fun _ _ _ h => h) (.inl ⟨by rfl, fun w' _ => (by go_simp; rfl)⟩) hS ?_
  go_frame
  refine till_take 4 (some 2) rfl rfl (by kernel_rfl) (by kernel_rfl) (by kernel_rfl) (by kernel_rfl) (by kernel_rfl) (by kernel_rfl) (fun _ _ _ h => h) (.inl ⟨by rfl, fun w' _ => (by go_simp; rfl)⟩) hS ?_
  go_frame
  refine till_done (by kernel_rfl) ?_ _
  clear hS
  have HV : Hid (Value.bool (decide (cv ≤ 0)) = .bool (decide (n < uHalf))) := Lib.hid (by rw [HLE.out])
  go_wp2_with fail
  go_ret
  exact ⟨by rw [← HLE.out]; rfl, HB.out⟩
end
end Go.Proofs.YtmclmccgghnglaaGreat
