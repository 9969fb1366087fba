/- Rows of slices that are cut at their head; queues: All, and the document's Rows (code). No condition. -/
import Derived.Test.YtohedljdkfmkdaaFifP
import Derived.Test.YtohedljdkfmkdaaStoR
import Derived.Deep.MidRow
namespace Go.Proofs.Ytohedljdkfmkdaa
open Go.RowKit

abbrev Rw := Value × List Int
def rwE (p : Rw) : List Value := [p.1]
theorem rwE_len (p : Rw) : (rwE p).length = 1 := rfl
theorem rwE_flat (l : List Rw) : l.flatMap rwE = l.map Prod.fst := by
  induction l with
  | nil => rfl
  | cons a l ih => rw [List.flatMap_cons, ih]; rfl
/-- The slice v of l's slices: nil, or within a block of its own. -/
def FO (w : World) (B : Nat) (v : Value) (l : List Rw) : Prop :=
  (v = .slice none 0 0 ∧ l = []) ∨ ∃ (g off cap : Nat) (cur : Array Value), v = .slice (some ⟨g, off, none⟩) l.length cap ∧ B ≤ g ∧ w.heap[g]? = some (.cells cur 43 (0, 0)) ∧ l.length ≤ cap ∧ cap ≤ maxLen ∧ off + cap ≤ cur.size ∧ (cur.toList.drop off).take l.length = l.map Prod.fst
theorem FO.nil (w : World) (B : Nat) : FO w B (.slice none 0 0) [] := .inl ⟨rfl, rfl⟩
theorem FO.rd {w : World} {B : Nat} {v : Value} {l : List Rw} (h : FO w B v l) : Rd w rwE 1 v l := by
  rcases h with ⟨rfl, rfl⟩ | ⟨g, off, cap, cur, rfl, hB, hh, h1, h2, h3, h4⟩
  · exact Rd.nil _ _ _
  · refine ⟨_, cap, rfl, h1, h2, fun _ => ⟨g, off, rfl, heap_lt hh, fun i hi j hj => ?_⟩⟩
    obtain rfl : j = 0 := by omega
    have h5 : (l.map Prod.fst)[i]? = some l[i].1 := by rw [List.getElem?_map, List.getElem?_eq_getElem hi]; rfl
    rw [← h4, List.getElem?_take, if_pos hi, List.getElem?_drop] at h5
    rw [Nat.mul_one, Nat.add_zero, Lib.cell_of_heap hh]
    simpa [rwE] using h5
theorem FO.keep {w w' : World} {B : Nat} {v : Value} {l : List Rw} (h : FO w B v l) {S : Nat → Prop} (hk : Keep S w w') (hS : ∀ k, v.ownBlock = some k → ¬ S k) : FO w' B v l := by
  rcases h with h | ⟨g, off, cap, cur, rfl, hB, hh, r⟩
  · exact .inl h
  · exact .inr ⟨g, off, cap, cur, rfl, hB, hk.at hh (hS g rfl), r⟩
theorem FO.later {w w' : World} {B : Nat} {v : Value} {l : List Rw} (h : FO w B v l) (hb : Below w.heap.size w w') : FO w' B v l := h.keep (Keep.of_below (S := fun _ => False) hb) fun _ _ => id
theorem FO.oth {w w' : World} {B : Nat} {v : Value} {l : List Rw} (h : FO w B v l) (ho : Oth w w') : FO w' B v l := by
  rcases h with h | ⟨g, off, cap, cur, rfl, hB, hh, r⟩
  · exact .inl h
  · exact .inr ⟨g, off, cap, cur, rfl, hB, ho.2 g _ hh rfl rfl, r⟩
theorem FO.block {w : World} {B : Nat} {v : Value} {l : List Rw} (h : FO w B v l) : ∀ k, v.ownBlock = some k → B ≤ k ∧ ∃ cur, w.heap[k]? = some (.cells cur 43 (0, 0)) := by
  intro k hk
  rcases h with ⟨rfl, _⟩ | ⟨g, off, cap, cur, rfl, hB, hh, r⟩
  · cases hk
  · cases hk; exact ⟨hB, cur, hh⟩
theorem FO.shape {w : World} {B : Nat} {v : Value} {l : List Rw} (h : FO w B v l) : ∃ ad cap, v = .slice ad l.length cap := by
  rcases h with ⟨rfl, rfl⟩ | ⟨g, off, cap, cur, rfl, _⟩
  · exact ⟨none, 0, rfl⟩
  · exact ⟨_, cap, rfl⟩
theorem slice_run {P : Program} {ad : Option Addr} {n cap sz : Nat} {t e : TypeId} (ht : P.underlying t = some (.slice e)) (hs : (P.info? e).map (·.size) = some sz) (k : Nat) (hk : k ≤ n) (w : World) (kl : IntKind) :
    (Instr.slice t (.slice ad n cap) (some (.int kl (k : Int))) none none).run P w = .ok (Go.sliced ad k n cap sz) w := by
  cases hq : P.info? e with
  | none => simp [hq] at hs
  | some inf =>
    have h4 : inf.size = sz := by simpa [hq] using hs
    have h5 : (0 : Int) ≤ k := by omega
    have h6 : (k : Int) ≤ (n : Int) := by omega
    simp [Instr.slice, run_underlying ht, Instr.sliceBounds, run_sliceBound, Go.sliced, h5, h6, sizeOf, typeInfo, hq, h4]
/-- s[1:]. -/
theorem FO.tail {P : Program} {w : World} {B : Nat} {v : Value} {p : Rw} {l : List Rw} {t : TypeId} (ht : P.underlying t = some (.slice 43)) (hs : (P.info? 43).map (·.size) = some 1) (h : FO w B v (p :: l)) :
    ∃ v', (∀ w kl, (Instr.slice t v (some (.int kl 1)) none none).run P w = .ok v' w) ∧ FO w B v' l := by
  rcases h with ⟨_, h⟩ | ⟨g, off, cap, cur, rfl, hB, hh, h1, h2, h3, h4⟩
  · cases h
  simp only [List.length_cons] at h1 h4 ⊢
  refine ⟨Go.sliced (some ⟨g, off, none⟩) 1 (l.length + 1) cap 1, slice_run ht hs 1 (by omega), ?_⟩
  · unfold Go.sliced
    by_cases hc : cap = 1
    · rw [if_pos hc]
      have hl : l = [] := List.length_eq_zero_iff.1 (by omega)
      subst hl
      exact .inr ⟨g, off, 0, cur, by subst hc; rfl, hB, hh, Nat.le_refl _, Nat.zero_le _, by omega, by simp⟩
    · rw [if_neg hc]
      refine .inr ⟨g, off + 1, cap - 1, cur, by rw [Option.map_some, Addr.add_mid]; simp, hB, hh, by omega, by omega, by omega, ?_⟩
      have h5 := congrArg (List.drop 1) h4
      rw [List.drop_take, List.drop_drop] at h5
      simpa using h5
theorem run_append_room_off {P : Program} {w : World} (t ty e : TypeId) (i : TypeInfo) (ht : P.underlying t = some (.slice e)) (hi : P.info? e = some i)
    (g off sLen sCap : Nat) (cur : Array Value) (hg : w.heap[g]? = some (.cells cur e (0, 0)))
    (a : Addr) (m c : Nat) (news : List Value) (hl : news.length = m * i.size) (hnews : ∀ j u, news[j]? = some u → w.cell? (a.add j) = some u) (h1 : ∀ u ∈ news, u.oneCell' = true)
    (hroom : sLen + m ≤ sCap) (hfit : off + sLen * i.size + news.length ≤ cur.size) :
    (Builtin.append_ #[t, t] ty #[.slice (some ⟨g, off, none⟩) sLen sCap, .slice (some a) m c]).run P w =
      .ok (.slice (some ⟨g, off, none⟩) (sLen + m) sCap) (w.setRow g (cur.toList.take (off + sLen * i.size) ++ news ++ cur.toList.drop (off + sLen * i.size + news.length)).toArray) := by
  have hf := run_firstCells_some (P := P) w i.size m a m c news hl hnews
  have hst := run_storeCells_at P g (off + sLen * i.size) e news 0 cur w hg (by simpa using hfit) h1
  simp only [Nat.add_zero] at hst
  simp [Builtin.append_, run_underlying ht, sizeOf, typeInfo, hi, Builtin.lenOf, hroom, hf, Addr.add_lit, hst]
/-- append(s, y) of one slice, which has just been laid in a block of its own. -/
theorem fo_app1 {P : Program} {ops : Array Oper} {rest : List Oper} {o : Oper} {a : Act} {Q : Exit → Act → World → Prop} {w : World} (hgd : o.guard = none) (s x : Operand) (t : TypeId)
    (ho : o.op = .call { callee := .builtin .append, args := #[s, x], argTypes := #[t, t] })
    (ht : P.underlying t = some (.slice 43)) (hi : (P.info? 43).map (fun i => (i.zero, i.size, i.bytes)) = some (some (.slice none 0 0), 1, 24))
    {B : Nat} {v : Value} {l : List Rw} (hfo : FO w B v l) (hB : B ≤ w.heap.size) (hs : a.eval s = v) (y : Rw) (hy : y.1.oneCell' = true) (g' : Nat) (T : TypeId) (hg : w.heap[g']? = some (.cells #[y.1] T (0, 0))) (hx : a.eval x = .slice (some ⟨g', 0, none⟩) 1 1) (hlen : l.length ≤ 1000000000)
    (h : ∀ v' w', FO w' B v' (l ++ [y]) → Keep (fun k => v.ownBlock = some k) w w' → wpList P ops Q rest (a.put o.dst v') w') :
    wpList P ops Q (o :: rest) a w := by
  refine wpList_plain hgd fun K hK => ?_
  obtain ⟨i, hi, hz0, hz1, hz2⟩ := info_parts hi
  have hnews : ∀ j u, [y.1][j]? = some u → w.cell? ((⟨g', 0, none⟩ : Addr).add j) = some u := by
    intro j u hj
    have hj0 : j = 0 := by have := (List.getElem?_eq_some_iff.1 hj).1; simpa using this
    subst hj0
    rw [Addr.add_mid, Lib.cell_of_heap hg]
    simpa using hj
  have hone : ∀ u ∈ [y.1], u.oneCell' = true := by intro u hu; rw [List.mem_singleton.1 hu]; exact hy
  have hbytes : (l.length + 1) * 24 ≤ 140737488355328 := by omega
  have hml : l.length + 1 ≤ maxLen := by unfold maxLen; omega
  by_cases hroom : ∃ (g off cap : Nat) (cur : Array Value), v = .slice (some ⟨g, off, none⟩) l.length cap ∧ B ≤ g ∧ w.heap[g]? = some (.cells cur 43 (0, 0)) ∧ l.length ≤ cap ∧ cap ≤ maxLen ∧ off + cap ≤ cur.size ∧ (cur.toList.drop off).take l.length = l.map Prod.fst ∧ l.length + 1 ≤ cap
  · obtain ⟨g, off, cap, cur, rfl, hBg, hh, h1, h2, h3, h4, h5⟩ := hroom
    have hrun := run_append_room_off (P := P) (w := w) t o.type _ i ht hi g off l.length cap cur hh ⟨g', 0, none⟩ 1 1 [y.1] (by rw [hz1]; rfl) hnews hone h5 (by rw [hz1]; simp only [List.length_singleton]; omega)
    unfold Oper.wp
    simp [execOp, ho, resolve, invoke, builtin, hs, hx, hrun, Result.andThen]
    refine hK _ _ (h _ _ ?_ (Keep.setRow (S := fun k => Value.ownBlock (.slice (some ⟨g, off, none⟩) l.length cap) = some k) (Keep.refl _ _) (.inl rfl) _))
    refine .inr ⟨g, off, cap, _, by rw [List.length_append, List.length_singleton], hBg, setRow_heap _ _ _ _ _ _ hh, by rw [List.length_append, List.length_singleton]; exact h5, h2, ?_, ?_⟩
    · simp only [List.size_toArray, List.length_append, List.length_take, List.length_drop, Array.length_toList, hz1, List.length_cons]; omega
    · simp only [hz1, Nat.mul_one, List.length_append, List.length_singleton, List.map_append, List.map_cons, List.map_nil]
      have e1 : (cur.toList.take (off + l.length)).drop off = l.map Prod.fst := by
        rw [List.drop_take, show off + l.length - off = l.length by omega]; exact h4
      have e2 : (cur.toList.take (off + l.length)).length = off + l.length := by rw [List.length_take, Array.length_toList (xs := cur)]; omega
      have e3 : (l.map Prod.fst ++ [y.1]).length = l.length + 1 := by simp
      have e4 : ∀ D : List Value, (l.map Prod.fst ++ y.1 :: D) = (l.map Prod.fst ++ [y.1]) ++ D := by simp
      first
        | rw [List.drop_append_of_le_length (by rw [e2]; omega), e1, e4, ← e3, List.take_left' rfl]
        | rw [List.append_assoc, List.drop_append_of_le_length (by rw [e2]; omega), e1, ← List.append_assoc, ← e3, List.take_left' rfl]
  · have hgo : ∃ v' w', (Builtin.append_ #[t, t] o.type #[v, .slice (some ⟨g', 0, none⟩) 1 1]).run P w = .ok v' w' ∧ w'.ownsRow w.heap.size 43 1 v' (l.length + 1) (l.map Prod.fst ++ [y.1]) ∧ w.grownBy w' none := by
      rcases hfo with ⟨rfl, rfl⟩ | ⟨g, off, cap, cur, rfl, hBg, hh, h1, h2, h3, h4⟩
      · obtain ⟨v', w', r1, r2, r3, _⟩ := run_append_own (P := P) w w.heap.size t o.type _ i _ 1 24 ht hi hz0 hz1 hz2 rfl (by decide) (.slice none 0 0) 0 [] (World.ownsRow_nil w _ _ 1) ⟨g', 0, none⟩ 1 1 [y.1] rfl hnews hone (by simpa using hml) (by simp) (Nat.le_refl _)
        exact ⟨v', w', r1, by simp at r2 ⊢; exact r2, r3⟩
      · have hfull : cap < l.length + 1 := by
          rcases Nat.lt_or_ge cap (l.length + 1) with h | h
          · exact h
          · exact absurd ⟨g, off, cap, cur, rfl, hBg, hh, h1, h2, h3, h4, h⟩ hroom
        refine run_append_arg_grows (P := P) w t o.type _ i _ 1 24 ht hi hz0 hz1 hz2 rfl (by decide) ⟨g, off, none⟩ l.length cap (l.map Prod.fst) (by simp) ?_ ⟨g', 0, none⟩ 1 1 [y.1] rfl hnews hfull hml hbytes
        intro j u hj
        rw [Addr.add_mid, Lib.cell_of_heap hh]
        rw [← h4, List.getElem?_take] at hj
        split at hj
        · rw [List.getElem?_drop] at hj; simpa using hj
        · cases hj
    obtain ⟨v', w', hrun, r1, r2⟩ := hgo
    unfold Oper.wp
    simp [execOp, ho, resolve, invoke, builtin, hs, hx, hrun, Result.andThen]
    refine hK _ _ (h _ _ ?_ (Keep.of_below ⟨r2.os, r2.tape, r2.output, r2.size, fun k hk => r2.block k hk (by simp)⟩))
    rcases r1.2 with ⟨_, r3⟩ | ⟨g, cap, cur, rfl, r3, r4, r5, r6, r7, r8⟩
    · omega
    · refine .inr ⟨g, 0, cap, cur, by rw [List.length_append, List.length_singleton], by omega, r4, by rw [List.length_append, List.length_singleton]; exact r5, r6, by rw [r7]; omega, ?_⟩
      rw [List.drop_zero, List.map_append, List.length_append, List.length_singleton]
      simpa using r8
/-- The same, where the element's block is the world's last. -/
theorem fo_app {P : Program} {ops : Array Oper} {rest : List Oper} {o : Oper} {a : Act} {Q : Exit → Act → World → Prop} {w : World} (hgd : o.guard = none) (s x : Operand) (t : TypeId)
    (ho : o.op = .call { callee := .builtin .append, args := #[s, x], argTypes := #[t, t] })
    (ht : P.underlying t = some (.slice 43)) (hi : (P.info? 43).map (fun i => (i.zero, i.size, i.bytes)) = some (some (.slice none 0 0), 1, 24))
    {B : Nat} {v : Value} {l : List Rw} (hfo : FO w B v l) (hB : B ≤ w.heap.size) (hs : a.eval s = v) (y : Rw) {u : Value} (hu : u = y.1) (hy : y.1.oneCell' = true) (hx : a.eval x = .slice (some ⟨w.heap.size, 0, none⟩) 1 1) (hlen : l.length ≤ 1000000000)
    (h : ∀ v' w', FO w' B v' (l ++ [y]) → Keep (fun k => v.ownBlock = some k) w w' → wpList P ops Q rest (a.put o.dst v') w') :
    wpList P ops Q (o :: rest) a (w.alloc (.cells #[u] 43)) := by
  subst hu
  exact fo_app1 hgd s x t ho ht hi (hfo.later (below_new w _)) (by rw [World.size_alloc]; omega) hs y hy _ _ (heap_alloc_new _ _) hx hlen fun v' w' h1 k => h v' w' h1 (((Keep.refl (fun k => v.ownBlock = some k) w).alloc _).then k fun x hx => .inl hx)
theorem Try.infoSI : (Try.prog.info? 43).map (fun i => (i.zero, i.size, i.bytes)) = some (some (.slice none 0 0), 1, 24) := by kernel_rfl
theorem Try.sizeSI : (Try.prog.info? 43).map (·.size) = some 1 := by kernel_rfl
/-- Each slice reads as its numbers. -/
def RowsR (w : World) (l : List Rw) : Prop := ∀ p ∈ l, Rd w intE 1 p.1 p.2 ∧ p.1.oneCell' = true
theorem RowsR.later {w w' : World} {l : List Rw} (h : RowsR w l) (hb : Below w.heap.size w w') : RowsR w' l := fun p hp => ⟨(h p hp).1.later hb, (h p hp).2⟩
/-- Each slice is in a block of its own, behind B. -/
def RowsO (w : World) (B : Nat) (l : List Rw) : Prop := ∀ p ∈ l, Own w B 3 intE 1 p.1 p.2
theorem RowsO.oth {w w' : World} {B : Nat} {l : List Rw} (h : RowsO w B l) (ho : Oth w w') : RowsO w' B l := fun p hp => (h p hp).oth ho
theorem own_one {w : World} {B : Nat} {v : Value} {l : List Int} (h : Own w B 3 intE 1 v l) : v.oneCell' = true := by
  rcases h.2 with ⟨rfl, _⟩ | ⟨g, cap, cur, rfl, _⟩ <;> rfl
theorem RowsO.rd {w : World} {B : Nat} {l : List Rw} (h : RowsO w B l) : RowsR w l := fun p hp => ⟨own_rd (h p hp), own_one (h p hp)⟩
/-- An append to a row of slices turns no row of ints. -/
theorem Own.fo {w w' : World} {B B' : Nat} {v u : Value} {l : List Int} {q : List Rw} (h : Own w B 3 intE 1 v l) (hf : FO w B' u q) (hk : Keep (fun k => u.ownBlock = some k) w w') : Own w' B 3 intE 1 v l := by
  obtain ⟨h1, h2⟩ := h
  refine ⟨h1, ?_⟩
  rcases h2 with h2 | ⟨g, cap, cur, e, hB, hg, h3⟩
  · exact .inl h2
  · refine .inr ⟨g, cap, cur, e, hB, hk.at hg fun hu => ?_, h3⟩
    obtain ⟨_, c2, hc⟩ := hf.block g hu
    rw [hg] at hc
    injection hc with hc
    injection hc with _ hc _
    exact absurd hc (by decide)

def AllRet (w : World) (rows : List (List Int)) (e : Ending) (w' : World) : Prop := ∃ v l, e = .returned v ∧ FO w' w.heap.size v l ∧ RowsO w' w.heap.size l ∧ l.map Prod.snd = rows ∧ Below w.heap.size w w'
set_option maxHeartbeats 8000000 in
set_option maxRecDepth 100000 in
theorem all_any {w : World} {x : Option Addr} {m : Bool} {f : Txt → Option Txt} (h : Look w x m f) (hf : FitF f) (t : Int) {ids : List Int} {vi : Value} (hl : ids.length ≤ 1000000) (hi : I64s ids) (hrd : Rd w intE 1 vi ids) {a b : Int} (hab : endsF f t ids = (a, b)) (hsm : b < a + 1000000) (k : Nat) (hk : b = a + k)
    (rows : List (List Int)) (hrows : rows = (List.range k).map fun (i : Nat) => rowF (valF f (keyF t (ids ++ [a + (i : Int)])))) :
    Calls Try.prog 43 #[.pointer x, .int .i64 t, vi] w (AllRet w rows) := by
  have H := Lib.hid h; have HF := Lib.hid hf; have HL := Lib.hid hl; have HI := Lib.hid hi; have HRD := Lib.hid hrd; have HRW := Lib.hid hrows
  obtain ⟨adi, capi, rfl, _, _⟩ := hrd.shape
  have hbd := endsF_bound f t ids
  have hof := qof_any h hf t (by omega) hi hrd
  rw [hab] at hbd hof
  have HBD : Hid (0 ≤ a ∧ b = a + k ∧ b < 9223372036854775808 ∧ k < 1000000) := Lib.hid (by simp only at hbd; omega)
  clear h hf hl hi hrd hab hbd hrows hk hsm
  go_enter Try.func43, Try.ntmps43
  go_wp2_with fail
  refine hof.mono ?_
  clear hof
  rintro e w2 ⟨rfl, hb⟩
  have HB2 := Lib.hid hb
  clear hb
  go_wp2_with (refine wpList_alloc_g rfl _ rfl _ _ Try.zeroQ rfl ?_)
  intro X w3 h3
  have HX3 := Lib.hid h3.out.cells; have HB3 := Lib.hid (HB2.out.trans (h3.out.below.mono HB2.out.size)); have HXW : Hid (w.heap.size ≤ X) := Lib.hid (by rw [h3.out.eq]; exact HB2.out.size)
  clear h3 HB2
  go_wp2_with (refine wpList_store_row_g (t := 147) (old := #[.pointer none, .int .i64 0, .slice none 0 0, .int .i64 0, .int .i64 0]) rfl 147 _ _ rfl X (qC x t (.slice adi ids.length capi) a b) rfl rfl HX3.out Try.sizeQ rfl (by simp [qC, Value.oneCell']) ?_)
  intro w4 hx4 k34 z34
  have HX4 := Lib.hid hx4; have HB4 := Lib.hid (HB3.out.trans (k34.below (B := w.heap.size) (fun y hy e => by have := HXW.out; omega) HB3.out.size))
  have q3 : w4.cell? ⟨X, 3, none⟩ = some (.int .i64 a) := Lib.cell_of_heap hx4 3
  clear hx4 k34 z34 HX3 HB3
  go_wp2_with fail
  clear q3
  go_loopw [7, 9] (fun vx vi wr => ∃ (vo : Value) (i : Nat) (l : List Rw), vo = vx ∧ vi = .int .i64 (a + i) ∧ i ≤ k ∧ Hid (FO wr w.heap.size vo l) ∧ Hid (RowsO wr w.heap.size l) ∧ Hid (l.map Prod.snd = (List.range i).map fun (i : Nat) => rowF (valF f (keyF t (ids ++ [a + (i : Int)])))) ∧ Hid (Below w.heap.size w wr) ∧ Hid (wr.heap[X]? = some (.cells (qC x t (.slice adi ids.length capi) a b) 147 (0, 0)))) (fun _ vi _ => (b - intOf vi).toNat)
  case atStart => exact ⟨_, 0, [], rfl, by simp, Nat.zero_le _, Lib.hid (FO.nil _ _), Lib.hid (fun p hp => by cases hp), Lib.hid rfl, HB4, HX4⟩
  case round =>
    obtain ⟨vo, i, l, rfl, rfl, hi, HFO, HRO, HRS, HBW, HX⟩ := hrel
    clear HB4 HX4
    have q4 : wr.cell? ⟨X, 4, none⟩ = some (.int .i64 b) := Lib.cell_of_heap HX.out 4
    obtain ⟨j, hj⟩ : ∃ j, j = a + (i : Int) := ⟨_, rfl⟩
    rw [← hj]
    have HJ := Lib.hid hj
    clear hj
    by_cases hlt : j < b
    · have hib : i < k := by have := HBD.out; have := HJ.out; omega
      have HI1 : Hid (i < k) := Lib.hid hib
      have HLL : Hid (l.length = i) := Lib.hid (by have := congrArg List.length HRS.out; simpa using this)
      have hj0 : 0 ≤ j := by have := HBD.out; have := HJ.out; omega
      have hj1 : j < 9223372036854775807 := by have := HBD.out; omega
      clear hib hi
      go_wp2_with (refine wpList_load_row rfl 147 _ rfl X rfl 147 (qC x t (.slice adi ids.length capi) a b) _ _ HX.out Try.underlying147 rfl Try.sizeQ ?_)
      clear q4
      refine (qat_any a b (n := j) HL.out HI.out (HRD.out.later HBW.out) ⟨by omega, by omega⟩).mono ?_
      rintro e w6 ⟨rfl, hb⟩
      have HB6 := Lib.hid (HBW.out.trans (hb.mono HBW.out.size)); have FO6 := Lib.hid (HFO.out.later hb); have RO6 := Lib.hid (HRO.out.oth (Oth.of_below hb)); have HX6 := Lib.hid (below_at' hb HX.out)
      clear hb HFO HRO HX HBW
      go_wp2_with fail
      refine (row_any (H.out.later HB6.out) HF.out (keyF t (ids ++ [j]))).mono ?_
      rintro e w7 ⟨v, rfl, ho, hb⟩
      have HO := Lib.hid (own_base ho HB6.out.size)
      have HB7 := Lib.hid (HB6.out.trans (hb.mono HB6.out.size)); have FO7 := Lib.hid (FO6.out.later hb); have RO7 := Lib.hid (RO6.out.oth (Oth.of_below hb)); have HX7 := Lib.hid (below_at' hb HX6.out)
      obtain ⟨row, hrow⟩ : ∃ row, row = rowF (valF f (keyF t (ids ++ [j]))) := ⟨_, rfl⟩
      rw [← hrow] at HO ho
      obtain ⟨adv, capv, hv1, _⟩ := (own_rd ho).shape
      subst hv1
      have HROW := Lib.hid hrow
      clear hrow
      clear ho hb FO6 RO6 HX6 HB6
      go_wp2_with (refine fo_app rfl _ _ 78 rfl Try.underlying78 Try.infoSI FO7.out HB7.out.size rfl (.slice adv row.length capv, row) rfl rfl rfl (by have := HLL.out; have := HBD.out; have := HI1.out; omega) ?_)
      intro v8 w8 hf8 k8
      have HB8 : Hid (Below w.heap.size w w8) := Lib.hid (HB7.out.trans (k8.below (B := w.heap.size) (fun y hy e => by have := (FO7.out.block y e).1; omega) HB7.out.size))
      have FO8 := Lib.hid hf8; have RO8 : Hid (RowsO w8 w.heap.size (l ++ [(.slice adv row.length capv, row)])) := Lib.hid (by
        intro p hp
        rcases List.mem_append.1 hp with hp | hp
        · exact (RO7.out p hp).fo FO7.out k8
        · rw [List.mem_singleton.1 hp]; exact HO.out.fo FO7.out k8)
      have HX8 := Lib.hid (k8.at HX7.out (fun e => by
        obtain ⟨_, c2, hc⟩ := FO7.out.block _ e
        rw [HX7.out] at hc
        injection hc with hc
        injection hc with _ hc _
        exact absurd hc (by decide)))
      clear hf8 k8 HB7 FO7 RO7 HX7 HO
      have HRS2 : Hid ((l ++ [((Value.slice adv row.length capv, row) : Rw)]).map Prod.snd = (List.range (i + 1)).map fun (i : Nat) => rowF (valF f (keyF t (ids ++ [a + (i : Int)])))) := Lib.hid (by
        rw [List.range_succ, List.map_append, List.map_append, HRS.out, HROW.out, HJ.out]; rfl)
      have HJ2 : Hid (j + 1 = a + ((i + 1 : Nat) : Int)) := Lib.hid (by have := HJ.out; omega)
      go_wp2_with fail
      go_roundw
      case rel => exact ⟨_, i + 1, _, rfl, by rw [← HJ2.out], HI1.out, FO8, RO8, HRS2, HB8, HX8⟩
      case measure => simp [intOf]; omega
    · have hik : i = k := by have := HBD.out; have := HJ.out; omega
      have HRS2 : Hid (l.map Prod.snd = rows) := Lib.hid (by rw [HRW.out, ← hik]; exact HRS.out)
      clear hik HRS
      go_wp2_with fail
      go_ret
      exact ⟨vo, l, rfl, HFO.out, HRO.out, HRS2.out, HBW.out⟩

set_option maxHeartbeats 8000000 in
set_option maxRecDepth 100000 in
theorem rows_any (l m : List Rw) (u v : Value) (w : World) (hu : Rd w rwE 1 u l) (hv : Rd w rwE 1 v m) (hl : RowsR w l) (hm : RowsR w m) :
    Calls Try.prog 53 #[u, v] w (Ret w (.bool (decide (l.map Prod.snd = m.map Prod.snd)))) := by
  obtain ⟨ad, cap, rfl, hc1, hc2⟩ := hu.shape
  obtain ⟨ad2, cap2, rfl, hc3, hc4⟩ := hv.shape
  by_cases hne : l.length = m.length
  · have hd : ((l.length : Int) != (m.length : Int)) = false := by rw [hne]; simp
    have HN := Lib.hid hne; have HU := Lib.hid hu; have HV := Lib.hid hv; have HL := Lib.hid hl; have HM := Lib.hid hm
    clear hne hu hv hl hm
    go_enter Try.func53, Try.ntmps53
    go_wp2
    clear hd
    go_loopw [13] (fun i wr => ∃ k : Nat, k ≤ l.length ∧ i = .int .i64 k ∧ Hid ((l.map Prod.snd).take k = (m.map Prod.snd).take k) ∧ Hid (Below w.heap.size w wr)) (fun i _ => l.length - (intOf i).toNat)
    case atStart => exact ⟨0, by omega, rfl, Lib.hid (by simp), Lib.hid (Below.refl _ _)⟩
    case round =>
      obtain ⟨k, hk, rfl, hp, BW⟩ := hrel
      by_cases hlt : k < l.length
      · have hlt2 : k < m.length := by rw [← HN.out]; exact hlt
        obtain ⟨b1, o1, rfl, hbb, hcell⟩ := (HU.out.later BW.out).at k hlt
        obtain ⟨b2, o2, rfl, hbb2, hcell2⟩ := (HV.out.later BW.out).at k hlt2
        have hpr := (HL.out l[k] (List.getElem_mem hlt)).1
        have hqr := (HM.out m[k] (List.getElem_mem hlt2)).1
        have hpk : (l.map Prod.snd)[k]? = some l[k].2 := by rw [List.getElem?_map, List.getElem?_eq_getElem hlt]; rfl
        have hqk : (m.map Prod.snd)[k]? = some m[k].2 := by rw [List.getElem?_map, List.getElem?_eq_getElem hlt2]; rfl
        obtain ⟨p, hpp⟩ : ∃ p, p = l[k] := ⟨_, rfl⟩
        obtain ⟨q, hqq⟩ : ∃ q, q = m[k] := ⟨_, rfl⟩
        rw [← hpp] at hcell hpr hpk; rw [← hqq] at hcell2 hqr hqk
        replace hcell : wr.cell? ⟨b1, o1 + k, none⟩ = some p.1 := hcell
        replace hcell2 : wr.cell? ⟨b2, o2 + k, none⟩ = some q.1 := hcell2
        have HPR := Lib.hid hpr; have HQR := Lib.hid hqr; have HPK := Lib.hid hpk; have HQK := Lib.hid hqk
        have i0 : (0 : Int) ≤ (k : Int) := by omega
        have hi1 : (k : Int) < (l.length : Int) := by omega
        have hi2 : (k : Int) < (m.length : Int) := by omega
        clear hpp hqq hpr hqr hpk hqk
        obtain ⟨wz, hwz⟩ : ∃ wz, wz = wr.drew := ⟨_, rfl⟩
        have BZ : Hid (Below w.heap.size w wz) := Lib.hid (by rw [hwz]; exact BW.out.drew)
        have hS : wz.cell? ⟨b1, o1 + k, none⟩ = some p.1 ∧ wz.cell? ⟨b2, o2 + k, none⟩ = some q.1 := by rw [hwz]; exact ⟨hcell, hcell2⟩
        have HLT := Lib.hid hlt; have HLT2 := Lib.hid hlt2
        clear hcell hcell2 BW
        go_wp2_with fail
        clear hlt hlt2 hk
        refine wp_region_till (fun w' => w'.cell? ⟨b1, o1 + k, none⟩ = some p.1 ∧ w'.cell? ⟨b2, o2 + k, none⟩ = some q.1) 10 10 (by kernel_rfl) rfl ?_
        rw [← hwz]
        clear hwz
        refine till_take 0 (some 16) rfl rfl (by kernel_rfl) (by kernel_rfl) (by kernel_rfl) (by kernel_rfl) (by kernel_rfl) (by kernel_rfl) (fun _ _ _ h => h) (.inl ⟨by rfl, fun w' _ => (by go_simp; rfl)⟩) hS ?_
        go_frame
        refine till_take 1 (some 17) rfl rfl (by kernel_rfl) (by kernel_rfl) (by kernel_rfl) (by kernel_rfl) (by kernel_rfl) (by kernel_rfl) (fun _ _ _ h => h) (.inl ⟨by rfl, fun w' _ => (by go_simp; rfl)⟩) hS ?_
        go_frame
        refine till_take 2 (some 18) rfl rfl (by kernel_rfl) (by kernel_rfl) (by kernel_rfl) (by kernel_rfl) (by kernel_rfl) (by kernel_rfl) (fun _ _ _ h => h) (.inl ⟨by rfl, fun w' _ => (by go_simp; rfl)⟩) hS ?_
        go_frame
        refine till_take 3 (some 19) rfl rfl (by kernel_rfl) (by kernel_rfl) (by kernel_rfl) (by kernel_rfl) (by kernel_rfl) (by kernel_rfl) (fun _ _ _ h => h) (.inl ⟨by rfl, fun w' hS' => (by obtain ⟨hc1, hc2⟩ := hS'; go_simp; rfl)⟩) hS ?_
        go_frame
        refine till_take 4 (some 20) rfl rfl (by kernel_rfl) (by kernel_rfl) (by kernel_rfl) (by kernel_rfl) (by kernel_rfl) (by kernel_rfl) (fun _ _ _ h => h) (.inl ⟨by rfl, fun w' _ => (by go_simp; rfl)⟩) hS ?_
        go_frame
        refine till_take 5 (some 21) rfl rfl (by kernel_rfl) (by kernel_rfl) (by kernel_rfl) (by kernel_rfl) (by kernel_rfl) (by kernel_rfl) (fun _ _ _ h => h) (.inl ⟨by rfl, fun w' _ => (by go_simp; rfl)⟩) hS ?_
        go_frame
        refine till_take 6 (some 22) rfl rfl (by kernel_rfl) (by kernel_rfl) (by kernel_rfl) (by kernel_rfl) (by kernel_rfl) (by kernel_rfl) (fun _ _ _ h => h) (.inl ⟨by rfl, fun w' _ => (by go_simp; rfl)⟩) hS ?_
        go_frame
        refine till_take 7 (some 23) rfl rfl (by kernel_rfl) (by kernel_rfl) (by kernel_rfl) (by kernel_rfl) (by kernel_rfl) (by kernel_rfl) (fun _ _ _ h => h) (.inl ⟨by rfl, fun w' hS' => (by obtain ⟨hc1, hc2⟩ := hS'; go_simp; rfl)⟩) hS ?_
        go_frame
        refine till_one 8 rfl (by kernel_rfl) fun K hK => ?_
        simp only [List.getElem_toArray, List.getElem_cons_succ, List.getElem_cons_zero]
        rw [if_pos (by rfl)]
        go_simp
        refine (ints_any p.2 q.2 p.1 q.1 wz (HPR.out.later BZ.out) (HQR.out.later BZ.out)).mono ?_
        rintro e wy ⟨rfl, hb⟩
        have BY := Lib.hid (BZ.out.trans (hb.mono BZ.out.size))
        have hS1 : wy.cell? ⟨b1, o1 + k, none⟩ = some p.1 ∧ wy.cell? ⟨b2, o2 + k, none⟩ = some q.1 := ⟨keep_cell (Keep.of_below (S := fun _ => False) hb) hS.1 id, keep_cell (Keep.of_below (S := fun _ => False) hb) hS.2 id⟩
        refine hK _ _ (fun _ _ => hS1) ?_
        clear hK hS hb BZ
        have hS := hS1
        clear hS1
        refine till_take 9 (some 25) rfl rfl (by kernel_rfl) (by kernel_rfl) (by kernel_rfl) (by kernel_rfl) (by kernel_rfl) (by kernel_rfl) (fun _ _ _ h => h) (.inl ⟨by rfl, fun w' _ => (by go_simp; rfl)⟩) hS ?_
        go_frame
        refine till_done (by kernel_rfl) ?_ _
        by_cases he : p.2 = q.2
        · rw [decide_eq_true he]
          have hp2 := Lib.hid (take_eq (l := l.map Prod.snd) (m := m.map Prod.snd) (by rw [List.length_map]; exact HLT.out) (by rw [List.length_map]; exact HLT2.out) hp.out (by rw [(List.getElem?_eq_some_iff.1 HPK.out).2, (List.getElem?_eq_some_iff.1 HQK.out).2]; exact he))
          clear he hS
          go_wp2_with fail
          go_roundw
          case rel => exact ⟨k + 1, HLT.out, by go_num, hp2, BY⟩
          case measure => have := HLT.out; simp [intOf]; omega
        · have HE : Hid (decide (l.map Prod.snd = m.map Prod.snd) = false) := Lib.hid (by
            refine decide_eq_false fun h => he ?_
            have h2 : some p.2 = some q.2 := by rw [← HPK.out, ← HQK.out, h]
            exact Option.some.inj h2)
          rw [decide_eq_false he]
          clear he hS
          go_wp2_with fail
          go_ret
          exact ⟨by rw [HE.out]; rfl, BY.out⟩
      · have hlm : Hid (decide (l.map Prod.snd = m.map Prod.snd) = true) := Lib.hid (by
          refine decide_eq_true ?_
          have h := hp.out
          have h2 := HN.out
          rwa [List.take_of_length_le (by rw [List.length_map]; omega), List.take_of_length_le (by rw [List.length_map]; omega)] at h)
        go_wp2_with fail
        go_ret
        exact ⟨by rw [hlm.out]; rfl, BW.out⟩
  · have hd : ((l.length : Int) != (m.length : Int)) = true := by simp; omega
    clear hu hv hl hm
    go_enter Try.func53, Try.ntmps53
    go_wp2
    go_ret
    exact ⟨by rw [decide_eq_false (by intro h; apply hne; have := congrArg List.length h; simpa using this)]; rfl, Below.refl _ _⟩
end Go.Proofs.Ytohedljdkfmkdaa
