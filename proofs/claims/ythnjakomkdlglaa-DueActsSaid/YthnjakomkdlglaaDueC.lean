/- Due: Take (code). No condition. -/
import Derived.Test.YthnjakomkdlglaaDueB
namespace Go.Proofs.Ythnjakomkdlglaa
open Go.RowKit
attribute [local go_sem] Oper.semAt_some

theorem St.aside {B : Nat} {w w' : World} {g : Nat} {s : PS} {F : List Nat} (h : St w g s F) (a : Aside B w w') : St w' g s F := by
  have hk : Keep (fun k => ∃ o, w.heap[k]? = some o ∧ bookish o = true) w w' := ⟨a.os, a.tape, a.output, a.size, fun i hi hn => by
    obtain ⟨o, ho⟩ : ∃ o, w.heap[i]? = some o := ⟨_, Array.getElem?_eq_getElem hi⟩
    rw [ho]
    refine a.keep i o ho (.inr ?_)
    cases hb : bookish o
    · rfl
    · exact absurd ⟨o, ho, hb⟩ hn⟩
  refine h.keep hk fun x hx => ?_
  rintro ⟨o, ho, hb⟩
  obtain ⟨o', ho', hs⟩ := h.kind x hx
  rw [ho] at ho'
  cases ho'
  unfold bookish at hb
  split at hb
  · cases hs
  · cases hs
  · cases hb
theorem Liv.aside {B : Nat} {w0 w w' : World} {F0 : List Nat} {g : Nat} {s : PS} (h : Liv w0 F0 w g s) (a : Aside B w w') (hB : w0.heap.size ≤ B) : Liv w0 F0 w' g s := by
  obtain ⟨F, h1, h2, h3⟩ := h
  refine ⟨F, h1.aside a, ⟨a.os.trans h2.os, a.tape.trans h2.tape, a.output.trans h2.output, Nat.le_trans h2.size a.size, fun k hk hn => ?_⟩, h3⟩
  have h4 := h2.block k hk hn
  obtain ⟨o, ho⟩ : ∃ o, w0.heap[k]? = some o := ⟨_, Array.getElem?_eq_getElem hk⟩
  rw [ho] at h4 ⊢
  exact a.keep k o h4 (.inl (by omega))
theorem LO.aside2 {α : Type} {B : Nat} {w w' : World} {e : TypeId} {enc : α → List Value} {sz : Nat} {v : Value} {l : List α} (h : LO w e enc sz v l) (a : Aside B w w') : LO w' e enc sz v l := by
  rcases h with h | ⟨g, cap, cur, rfl, hh, r⟩
  · exact .inl h
  · exact .inr ⟨g, cap, cur, rfl, cells_aside hh a, r⟩
/-- What is taken, and the store behind it. -/
def takeL (bk : Int) (R : List ((Int × Int) × List Int)) : List ((Int × Int) × List Int) := R.takeWhile fun r => decide (r.1.1 ≤ bk)
def delAll (s : PS) (R : List ((Int × Int) × List Int)) : PS := R.foldl (fun s r => s.del (keyF 26 [r.1.1, r.1.2])) s
theorem delAll_snoc (s : PS) (R : List ((Int × Int) × List Int)) (r : (Int × Int) × List Int) : delAll s (R ++ [r]) = (delAll s R).del (keyF 26 [r.1.1, r.1.2]) := by unfold delAll; rw [List.foldl_append]; rfl
theorem sz_delAll (s : PS) : ∀ R : List ((Int × Int) × List Int), (delAll s R).sz ≤ s.sz + 2 * R.length := by
  intro R
  induction R generalizing s with
  | nil => exact Nat.le_refl _
  | cons r R ih =>
    have h1 := ih (s.del (keyF 26 [r.1.1, r.1.2]))
    have h2 := sz_del s (keyF 26 [r.1.1, r.1.2])
    show (delAll (s.del _) R).sz ≤ _
    rw [List.length_cons]
    omega
theorem Fit.delAll {s : PS} (h : Fit s) (R : List ((Int × Int) × List Int)) : Fit (delAll s R) := by
  induction R generalizing s with
  | nil => exact h
  | cons r R ih => exact ih (h.del _)
def takeS (s : PS) (R : List ((Int × Int) × List Int)) : PS := if R = [] then s else (delAll s R).setInt (keyF 27 []) (getI (getP (delAll s R).t) (keyF 27 []) - R.length)
/-- A slice of slices of numbers. -/
def RowsV (w : World) (v : Value) (ls : List (List Int)) : Prop := ∃ xs : List (Value × List Int), LO w 34 vE 1 v (xs.map (·.1)) ∧ xs.map (·.2) = ls ∧ ∀ x ∈ xs, LO w 3 intE 1 x.1 x.2
def TakeRet (w : World) (g : Nat) (F : List Nat) (s' : PS) (ls : List (List Int)) (e : Ending) (w' : World) : Prop := ∃ v, e = .returned v ∧ RowsV w' v ls ∧ Liv w F w' g s'
def DRow.ok (x : DRow) : Prop := (0 ≤ x.b ∧ x.b < 9223372036854775808) ∧ (0 ≤ x.n ∧ x.n < 9223372036854775808)

theorem Try.infoRows : (Try.prog.info? 34).map (fun i => (i.zero, i.size, i.bytes)) = some (some (.slice none 0 0), 1, 24) := by kernel_rfl
theorem wp_region_only {P : Program} {ops : Array Oper} {Q : Exit → Act → World → Prop} (S : World → Prop) (z N : Nat) {id : Nat} {a : Act} {w : World} (hm : P.follows .mixedOrders = true) (hN : ops.size = N) (h : AnyTill P .any ops (Only (Q .normal)) S z N (Array.replicate N false) a w.drew) : (Code.region id ops true).wp P Q a w :=
  (wpIn_wide (n := 0)).1 (wpIn_mono (wpIn_wide.2 (wp_region_till S z N hm hN h)) only_imp)
theorem vE_len' (v : Value) : (vE v).length = 1 := rfl
theorem three_boxes (w : World) (c0 c1 c2 : Array Value) (T0 T1 T2 : TypeId) (w1 : World) (hw : w1 = ((w.alloc (.cells c0 T0)).alloc (.cells c1 T1)).alloc (.cells c2 T2)) :
    w1.heap[w.heap.size]? = some (.cells c0 T0 (0, 0)) ∧ w1.heap[w.heap.size + 1]? = some (.cells c1 T1 (0, 0)) ∧ w1.heap[w.heap.size + 1 + 1]? = some (.cells c2 T2 (0, 0)) ∧ Below w.heap.size w w1 := by
  obtain ⟨wa, ha⟩ : ∃ x, x = (w.alloc (.cells c0 T0)).alloc (.cells c1 T1) := ⟨_, rfl⟩
  obtain ⟨h1, h2, h3, h4⟩ := two_boxes w c0 c1 T0 T1 wa ha
  rw [← ha] at hw
  have hb : Below wa.heap.size wa w1 := by rw [hw]; exact below_new _ _
  refine ⟨below_at' hb h1, below_at' hb h2, ?_, h3.trans (hb.mono h3.size)⟩
  rw [hw, show w.heap.size + 1 + 1 = wa.heap.size by omega]
  exact heap_alloc_new _ _
theorem liv_cells {w0 w w' : World} {F0 : List Nat} {g : Nat} {s : PS} {X : Nat} {cs : Array Value} {T : TypeId} (L : Liv w0 F0 w g s) (hX : w.heap[X]? = some (.cells cs T (0, 0))) (hT : stoKind (.cells cs T (0, 0)) = false) (hk : Keep (· = X) w w') (hw : w0.heap.size ≤ X) : Liv w0 F0 w' g s := by
  obtain ⟨F, h1, h2, h3⟩ := L
  refine ⟨F, h1.keep hk fun x hx hu => ?_, h2.trans (hk.mono fun y _ hy => .inr (hy ▸ hw)), h3⟩
  obtain ⟨o, ho, k1⟩ := h1.kind x hx
  subst hu
  rw [hX] at ho
  cases ho
  rw [hT] at k1; cases k1

/-- What a change of the store leaves: all blocks but its own. -/
def OthS (w w' : World) : Prop := w.heap.size ≤ w'.heap.size ∧ ∀ (R : Nat) (o : Obj), w.heap[R]? = some o → stoKind o = false → w'.heap[R]? = some o
theorem OthS.leaves {B : Nat} {w w' : World} (h : OthS w w') : Leaves B w w' := ⟨h.1, fun k o _ hk ho => h.2 k o hk (by
  unfold bookish at ho
  split at ho
  · rfl
  · rfl
  · cases ho)⟩
theorem OthS.kpp {w w' : World} (h : OthS w w') : KpP w w' := ⟨h.1, fun k _ fr hk => h.2 k _ hk (by
  obtain ⟨a, b⟩ := fr
  unfold stoKind
  split
  · rename_i e
    cases e
    rfl
  · rename_i e; cases e
  · rfl)⟩
theorem LO.othS {α : Type} {w w' : World} {e : TypeId} {enc : α → List Value} {sz : Nat} {v : Value} {l : List α} (h : LO w e enc sz v l) (he : stoKind (.cells #[] e (0, 0)) = false) (ho : OthS w w') : LO w' e enc sz v l := by
  rcases h with h | ⟨g, cap, cur, rfl, hh, r⟩
  · exact .inl h
  · exact .inr ⟨g, cap, cur, rfl, ho.2 g _ hh he, r⟩
theorem Liv.callS {P : Program} {f : FuncId} {args : Array Value} {w0 w : World} {F0 : List Nat} {g : Nat} {s s' : PS} {v : Value} (L : Liv w0 F0 w g s) (h : ∀ F, St w g s F → Calls P f args w (StRet w g F s' v)) :
    Calls P f args w (fun e w' => e = .returned v ∧ Liv w0 F0 w' g s' ∧ OthS w w') := by
  obtain ⟨F, h1, h2, h3⟩ := L
  refine (h F h1).mono ?_
  rintro e w' ⟨he, F', q1, q2, q3⟩
  refine ⟨he, ⟨F', q1, h2.trans (q2.mono fun x _ hx => h3 x hx), fun x hx => ?_⟩, q2.size, fun R o ho k1 => q2.at ho fun hR => ?_⟩
  · rcases q3 x hx with h4 | h4
    · exact h3 x h4
    · exact .inr (Nat.le_trans h2.size h4)
  · obtain ⟨o', ho', k2⟩ := h1.kind R hR
    rw [ho] at ho'; cases ho'
    rw [k1] at k2; cases k2
/-- What holds ahead of a round. -/
structure TakeP (w : World) (F : List Nat) (g : Nat) (s : PS) (T : Tab) (bk : Int) (BS BK BO : Nat) (v : Value) (pre : List DRow) (st : PS) (W : World) : Prop where
  out : W.heap[BO]? = some (.cells #[v] 35 (0, 0))
  lo : LO W 34 vE 1 v (pre.map (·.v))
  rows : ∀ y ∈ pre, LO W 3 intE 1 y.v y.l ∧ y.b ≤ bk ∧ drK y ∈ rowsT T
  own : ∀ k, v.ownBlock = some k → w.heap.size ≤ k
  bs : W.heap[BS]? = some (.cells #[.pointer (some ⟨g, 0, none⟩)] 30 (0, 0))
  bk : W.heap[BK]? = some (.cells #[.int .i64 bk] 3 (0, 0))
  liv : Liv w F W g st
theorem TakeP.below {w : World} {F : List Nat} {g : Nat} {s : PS} {T : Tab} {bk : Int} {BS BK BO : Nat} {v : Value} {pre : List DRow} {st : PS} {W W' : World} (h : TakeP w F g s T bk BS BK BO v pre st W) (hb : Below W.heap.size W W') : TakeP w F g s T bk BS BK BO v pre st W' :=
  ⟨below_at' hb h.out, h.lo.later hb, fun y hy => ⟨(h.rows y hy).1.later hb, (h.rows y hy).2⟩, h.own, below_at' hb h.bs, below_at' hb h.bk, h.liv.later hb⟩
theorem TakeP.aside {w : World} {F : List Nat} {g : Nat} {s : PS} {T : Tab} {bk : Int} {BS BK BO B : Nat} {v : Value} {pre : List DRow} {st : PS} {W W' : World} (h : TakeP w F g s T bk BS BK BO v pre st W) (a : Aside B W W') (hB : w.heap.size ≤ B) : TakeP w F g s T bk BS BK BO v pre st W' :=
  ⟨cells_aside h.out a, h.lo.aside2 a, fun y hy => ⟨(h.rows y hy).1.aside2 a, (h.rows y hy).2⟩, h.own, cells_aside h.bs a, cells_aside h.bk a, h.liv.aside a hB⟩
theorem TakeP.oth {w : World} {F : List Nat} {g : Nat} {s : PS} {T : Tab} {bk : Int} {BS BK BO : Nat} {v : Value} {pre : List DRow} {st st' : PS} {W W' : World} (h : TakeP w F g s T bk BS BK BO v pre st W) (ho : OthS W W') (hl : Liv w F W' g st') : TakeP w F g s T bk BS BK BO v pre st' W' :=
  ⟨ho.2 _ _ h.out rfl, h.lo.othS rfl ho, fun y hy => ⟨(h.rows y hy).1.othS rfl ho, (h.rows y hy).2⟩, h.own, ho.2 _ _ h.bs rfl, ho.2 _ _ h.bk rfl, hl⟩
/-- A keep of blocks of one type leaves slices of another. -/
theorem LO.off {α : Type} {w w' : World} {e : TypeId} {enc : α → List Value} {sz : Nat} {v : Value} {l : List α} {S : Nat → Prop} (h : LO w e enc sz v l) (hk : Keep S w w') (hS : ∀ k, S k → ∃ cs T fr, w.heap[k]? = some (.cells cs T fr) ∧ T ≠ e) : LO w' e enc sz v l := by
  refine h.keep hk fun k hk hs => ?_
  obtain ⟨cs, T, fr, h1, h2⟩ := hS k hs
  obtain ⟨cs', h3⟩ := h.kind hk
  rw [h1] at h3
  injection h3 with h4
  injection h4 with _ h5
  exact h2 h5
theorem at_off {w w' : World} {S : Nat → Prop} {k : Nat} {cs : Array Value} {e : TypeId} {fr : Nat × Nat} (h : w.heap[k]? = some (.cells cs e fr)) (hk : Keep S w w') (hS : ∀ k, S k → ∃ cs T fr, w.heap[k]? = some (.cells cs T fr) ∧ T ≠ e) : w'.heap[k]? = some (.cells cs e fr) := by
  refine hk.at h fun hs => ?_
  obtain ⟨cs', T, fr', h1, h2⟩ := hS k hs
  rw [h1] at h
  injection h with h4
  injection h4 with _ h5
  exact h2 h5
theorem Liv.off {w0 w w' : World} {F0 : List Nat} {g : Nat} {s : PS} {S : Nat → Prop} (L : Liv w0 F0 w g s) (hk : Keep S w w') (hS : ∀ k, S k → ∃ o, w.heap[k]? = some o ∧ stoKind o = false) (hw : ∀ k, S k → w0.heap.size ≤ k) : Liv w0 F0 w' g s := by
  obtain ⟨F, h1, h2, h3⟩ := L
  refine ⟨F, h1.keep hk fun x hx hu => ?_, h2.trans (hk.mono fun y _ hy => .inr (hw y hy)), h3⟩
  obtain ⟨o, ho, k1⟩ := h1.kind x hx
  obtain ⟨o', ho', k2⟩ := hS x hu
  rw [ho] at ho'; cases ho'
  rw [k2] at k1; cases k1
theorem KpP.off {w w' : World} {S : Nat → Prop} (hk : Keep S w w') (hS : ∀ k, S k → ∃ cs T fr, w.heap[k]? = some (.cells cs T fr) ∧ T ≠ 99) : KpP w w' := ⟨hk.size, fun _ _ _ h => at_off h hk hS⟩
theorem Leaves.off {B : Nat} {w w' : World} {S : Nat → Prop} (hk : Keep S w w') (hS : ∀ k, S k → ∃ cs T fr, w.heap[k]? = some (.cells cs T fr)) : Leaves B w w' := Leaves.of_keep hk fun k h => by
  obtain ⟨cs, T, fr, h1⟩ := hS k h
  exact ⟨_, h1, rfl⟩
/-- One more row is appended. -/
theorem TakeP.app {w : World} {F : List Nat} {g : Nat} {s : PS} {T : Tab} {bk : Int} {BS BK BO : Nat} {v va : Value} {pre : List DRow} {y : DRow} {st : PS} {W w5 w6 : World} (h : TakeP w F g s T bk BS BK BO v pre st W) (hy : LO W 3 intE 1 y.v y.l ∧ y.b ≤ bk ∧ drK y ∈ rowsT T) (hBO : w.heap.size ≤ BO)
    (la : LO w5 34 vE 1 va (pre.map (·.v) ++ [y.v])) (ka : Keep (fun k => v.ownBlock = some k) W w5) (ma : MovedO W v va) (h6 : w6.heap[BO]? = some (.cells #[va] 35 (0, 0))) (k6 : Keep (· = BO) w5 w6) :
    TakeP w F g s T bk BS BK BO va (pre ++ [y]) st w6 ∧ (∀ B, Leaves B W w6) ∧ KpP W w6 := by
  have own : ∀ k, v.ownBlock = some k → ∃ cs fr, W.heap[k]? = some (.cells cs 34 fr) := fun k hk => by
    obtain ⟨cs, hc⟩ := h.lo.kind hk
    exact ⟨cs, _, hc⟩
  have o5 : w5.heap[BO]? = some (.cells #[v] 35 (0, 0)) := at_off h.out ka fun k hk => by obtain ⟨cs, fr, hc⟩ := own k hk; exact ⟨_, _, _, hc, by decide⟩
  have off6 : ∀ {e : TypeId}, 35 ≠ e → ∀ k, k = BO → ∃ cs T fr, w5.heap[k]? = some (.cells cs T fr) ∧ T ≠ e := fun he k hk => by subst hk; exact ⟨_, _, _, o5, he⟩
  have off5 : ∀ {e : TypeId}, 34 ≠ e → ∀ k, v.ownBlock = some k → ∃ cs T fr, W.heap[k]? = some (.cells cs T fr) ∧ T ≠ e := fun he k hk => by obtain ⟨cs, fr, hc⟩ := own k hk; exact ⟨_, _, _, hc, he⟩
  refine ⟨⟨h6, ?_, fun z hz => ?_, fun k hk => ?_, at_off (at_off h.bs ka (off5 (by decide))) k6 (off6 (by decide)), at_off (at_off h.bk ka (off5 (by decide))) k6 (off6 (by decide)), ?_⟩, ?_, ?_⟩
  · rw [List.map_append]
    exact la.off k6 (off6 (by decide))
  · rcases List.mem_append.1 hz with hz | hz
    · exact ⟨((h.rows z hz).1.off ka (off5 (by decide))).off k6 (off6 (by decide)), (h.rows z hz).2⟩
    · rw [List.mem_singleton.1 hz]
      exact ⟨(hy.1.off ka (off5 (by decide))).off k6 (off6 (by decide)), hy.2⟩
  · rcases ma with m | ⟨g', m1, m2⟩
    · exact h.own k (m ▸ hk)
    · rw [hk] at m1; cases m1
      exact Nat.le_trans h.liv.keep.size m2
  · refine Liv.off (h.liv.off ka (fun k hk => by obtain ⟨cs, hc⟩ := h.lo.kind hk; exact ⟨_, hc, rfl⟩) h.own) k6 (fun k hk => by subst hk; exact ⟨_, o5, rfl⟩) (fun k hk => by subst hk; exact hBO)
  · intro B
    exact (Leaves.off ka fun k hk => by obtain ⟨cs, fr, hc⟩ := own k hk; exact ⟨_, _, _, hc⟩).trans (Leaves.off k6 fun k hk => by subst hk; exact ⟨_, _, _, o5⟩)
  · exact (KpP.off ka (off5 (by decide))).trans (KpP.off k6 (off6 (by decide)))
theorem litV (w : World) (v : Value) : Rd (w.alloc (.cells #[v] 34)) vE 1 (.slice (some ⟨w.heap.size, 0, none⟩) 1 1) [v] := by
  refine ⟨_, 1, rfl, Nat.le_refl _, (by unfold maxLen; decide), fun _ => ⟨_, 0, rfl, heap_lt (heap_alloc_new w _), fun i hi j hj => ?_⟩⟩
  simp only [List.length_singleton] at hi
  obtain rfl : i = 0 := by omega
  obtain rfl : j = 0 := by omega
  exact Lib.cell_of_heap (heap_alloc_new w (.cells #[v] 34)) 0
/-- The marks are left: only what loops keep turns. -/
theorem leave_aside {P : Program} {F : Fence} {n : Nat} {fn : Func} {tmps : Array Value} {R : Ending → World → Prop} {B : Nat} : ∀ (ds : List Deferred) (w : World), Marks B ds w → (∀ w', Aside B w w' → LeavesInM F n P fn tmps R [] .returning w') → LeavesInM F n P fn tmps R ds .returning w
  | [], w, _, h => h w (Aside.refl _ _)
  | d :: ds, w, hm, h => by
    obtain ⟨hp, hd⟩ := hm
    obtain ⟨D, h1, h2, h3⟩ := hd d (by simp)
    have hs : Aside B w (w.putObj D (.deferred none)) := Aside.put h2 h3 rfl
    refine ⟨by simp, .inl ⟨D, _, h1, run_takeDeferred h3, leave_aside ds _ ⟨(List.pairwise_cons.1 hp).2, fun d' hd' => ?_⟩ fun w' hw' => h w' (hs.trans hw')⟩⟩
    obtain ⟨D', k1, k2, k3⟩ := hd d' (by simp [hd'])
    refine ⟨D', k1, k2, ?_⟩
    rw [World.putObj_heap_other]
    · exact k3
    · intro e
      subst e
      exact (List.pairwise_cons.1 hp).1 d' hd' (by rw [h1, k1])
theorem takeL_all {bk : Int} : ∀ {R : List ((Int × Int) × List Int)}, (∀ r ∈ R, r.1.1 ≤ bk) → takeL bk R = R
  | [], _ => rfl
  | r :: R, h => by
    have ih := takeL_all (bk := bk) (R := R) fun x hx => h x (by simp [hx])
    unfold takeL at ih ⊢
    rw [List.takeWhile_cons, if_pos (by simpa using h r (by simp)), ih]
theorem takeL_stop {bk : Int} {r : (Int × Int) × List Int} (hr : ¬ r.1.1 ≤ bk) : ∀ {A B : List ((Int × Int) × List Int)}, (∀ x ∈ A, x.1.1 ≤ bk) → takeL bk (A ++ r :: B) = A
  | [], B, _ => by unfold takeL; rw [List.nil_append, List.takeWhile_cons, if_neg (by simpa using hr)]
  | a :: A, B, h => by
    have ih := takeL_stop (bk := bk) hr (A := A) (B := B) fun x hx => h x (by simp [hx])
    unfold takeL at ih ⊢
    rw [List.cons_append, List.takeWhile_cons, if_pos (by simpa using h a (by simp)), ih]
set_option maxHeartbeats 8000000 in
set_option maxRecDepth 100000 in
theorem dtake_any {w : World} {g : Nat} {s : PS} {F : List Nat} (h : St w g s F) (hz : s.sz < 1000000000) (hfit : Fit s) {T : Tab} (hTT : T = underP s.t (keyF 26 [])) (hT : TabOk T) (hlt : T.length < 1000000000) (hok : ∀ r ∈ rowsT T, (0 ≤ r.1.1 ∧ r.1.1 < 9223372036854775808) ∧ (0 ≤ r.1.2 ∧ r.1.2 < 9223372036854775808)) (bk : Int) :
    Calls Try.prog 13 #[.pointer (some ⟨g, 0, none⟩), .int .i64 bk] w (TakeRet w g F (takeS s (takeL bk (rowsT T))) ((takeL bk (rowsT T)).map (·.2))) := by
  have HU : Hid (Und w (some ⟨g, 0, none⟩) (keyF 26 []) T) := Lib.hid (by rw [hTT]; exact fun W hW => sunder_any (h.later hW) (by unfold PS.sz at hz; omega) _)
  have L := Lib.hid (Liv.start h); have HZ := Lib.hid hz; have HF := Lib.hid hfit; have HT := Lib.hid hT; have HOK := Lib.hid hok; have HTL := Lib.hid hlt
  clear h hz hfit hTT hT hok hlt
  refine (callsIn_wide (n := 9)).1 (callsIn_of_wp_marks Try.func13 rfl trivial ?_ rfl)
  simp only [Try.ntmps13, List.size_toArray, List.length_cons, List.length_nil, Nat.reduceAdd, Nat.reduceSub, Array.replicate_succ, Array.replicate_zero, List.push_toArray, List.append_toArray, List.nil_append, List.cons_append]
  refine wpIn_wide.2 ?_
  go_upto_region 2 with fail
  obtain ⟨w1, hw1⟩ : ∃ w1, w1 = ((w.alloc (.cells #[.pointer (some ⟨g, 0, none⟩)] 30)).alloc (.cells #[.int .i64 bk] 3)).alloc (.cells #[.slice none 0 0] 35) := ⟨_, rfl⟩
  obtain ⟨BS, hBS⟩ : ∃ B, B = w.heap.size := ⟨_, rfl⟩
  obtain ⟨BK, hBK⟩ : ∃ B, B = w.heap.size + 1 := ⟨_, rfl⟩
  obtain ⟨BO, hBO⟩ : ∃ B, B = w.heap.size + 1 + 1 := ⟨_, rfl⟩
  rw [← hw1, ← hBO, ← hBK, ← hBS]
  have hbx := three_boxes w #[.pointer (some ⟨g, 0, none⟩)] #[.int .i64 bk] #[.slice none 0 0] 30 3 35 w1 hw1
  rw [← hBO, ← hBK, ← hBS] at hbx
  have HBS := Lib.hid hbx.1; have HBK := Lib.hid hbx.2.1; have HBO := Lib.hid hbx.2.2.1
  have L1 := Lib.hid (L.out.later (show Below w.heap.size w w1 by rw [← hBS]; exact hbx.2.2.2))
  have HU1 := Lib.hid (HU.out.later (show Below w.heap.size w w1 by rw [← hBS]; exact hbx.2.2.2))
  have WBO : Hid (w.heap.size ≤ BO) := Lib.hid (by omega)
  have NBSBO : Hid (BS ≠ BO) := Lib.hid (by omega)
  have NBKBO : Hid (BK ≠ BO) := Lib.hid (by omega)
  clear hbx hw1 hBS hBK hBO L HU
  have L := L1
  have HU := HU1
  clear L1 HU1
  obtain ⟨a1, hwz⟩ : ∃ wz, wz = w1.drew := ⟨_, rfl⟩
  have hbz : Below w1.heap.size w1 a1 := by rw [hwz]; exact (Below.refl _ _).drew
  have Lm := Lib.hid (L.out.later hbz)
  have HBSm := Lib.hid (below_at' hbz HBS.out)
  have HBKm := Lib.hid (below_at' hbz HBK.out)
  have HBOm := Lib.hid (below_at' hbz HBO.out)
  have HUm := Lib.hid (HU.out.later hbz)
  clear hbz L HBS HBK HBO HU
  have L := Lm
  have HBS := HBSm
  have HBK := HBKm
  have HBO := HBOm
  have HU := HUm
  clear Lm HBSm HBKm HBOm HUm
  have hS : a1.heap[BS]? = some (.cells #[.pointer (some ⟨g, 0, none⟩)] 30 (0, 0)) := HBS.out
  refine wp_region_only (fun w' => w'.heap[BS]? = some (.cells #[.pointer (some ⟨g, 0, none⟩)] 30 (0, 0))) 3 3 (by kernel_rfl) rfl ?_
  rw [← hwz]
  clear hwz
  refine till_take 0 (some 8) rfl rfl (by kernel_rfl) (by kernel_rfl) (by kernel_rfl) (by kernel_rfl) (by kernel_rfl) (by kernel_rfl) (fun _ _ _ h => h) (.inl ⟨by rfl, fun w' hS' => (by have hc : w'.cell? ⟨BS, 0, none⟩ = some (.pointer (some ⟨g, 0, none⟩)) := Lib.cell_of_heap (hS') 0; go_simp; rfl)⟩) hS ?_
  go_frame
  refine till_one 1 rfl (by kernel_rfl) fun K hK => ?_
  simp only [List.getElem_toArray, List.getElem_cons_succ, List.getElem_cons_zero]
  rw [if_pos (by rfl)]
  go_simp
  refine (table_any 26 _).mono ?_
  rintro e a2 ⟨rfl, hb⟩
  have Lm := Lib.hid (L.out.later hb)
  have HBSm := Lib.hid (below_at' hb HBS.out)
  have HBKm := Lib.hid (below_at' hb HBK.out)
  have HBOm := Lib.hid (below_at' hb HBO.out)
  have HUm := Lib.hid (HU.out.later hb)
  clear hb L HBS HBK HBO HU
  have L := Lm
  have HBS := HBSm
  have HBK := HBKm
  have HBO := HBOm
  have HU := HUm
  clear Lm HBSm HBKm HBOm HUm
  have hS2 : a2.heap[BS]? = some (.cells #[.pointer (some ⟨g, 0, none⟩)] 30 (0, 0)) := HBS.out
  refine hK _ _ (fun _ _ => hS2) ?_
  clear hK hS
  have hS := hS2
  clear hS2
  refine till_one 2 rfl (by kernel_rfl) fun K hK => ?_
  simp only [List.getElem_toArray, List.getElem_cons_succ, List.getElem_cons_zero]
  rw [if_pos (by rfl)]
  go_simp
  refine (all_any _ (keyF 26 []) _).mono ?_
  rintro e a3 ⟨rfl, hw3⟩
  obtain ⟨A1, hA1⟩ : ∃ A1, A1 = (World.heap a2).size := ⟨_, rfl⟩
  obtain ⟨A2, hA2⟩ : ∃ A2, A2 = (World.heap a2).size + 1 := ⟨_, rfl⟩
  have hbx := two_boxes a2 #[.pointer (some ⟨g, 0, none⟩)] #[.string (bs (keyF 26 []))] 30 9 a3 hw3
  rw [← hA2, ← hA1] at hbx ⊢
  have hb3 : Below (World.heap a2).size a2 a3 := by rw [← hA1]; exact hbx.2.2.1
  have R1 := Lib.hid hbx.1; have R2 := Lib.hid hbx.2.1
  clear hbx hA1 hA2 hw3
  have Lm := Lib.hid (L.out.later hb3)
  have HBSm := Lib.hid (below_at' hb3 HBS.out)
  have HBKm := Lib.hid (below_at' hb3 HBK.out)
  have HBOm := Lib.hid (below_at' hb3 HBO.out)
  have HUm := Lib.hid (HU.out.later hb3)
  clear hb3 L HBS HBK HBO HU
  have L := Lm
  have HBS := HBSm
  have HBK := HBKm
  have HBO := HBOm
  have HU := HUm
  clear Lm HBSm HBKm HBOm HUm
  have hS2 : a3.heap[BS]? = some (.cells #[.pointer (some ⟨g, 0, none⟩)] 30 (0, 0)) := HBS.out
  refine hK _ _ (fun _ _ => hS2) ?_
  clear hK hS
  have hS := hS2
  clear hS2
  refine till_done (by kernel_rfl) ?_ _
  clear hS
  simp only [Only]
  go_wp2_with fail
  have TP : Hid (TakeP w F g s T bk BS BK BO (.slice none 0 0) [] (delAll s (([] : List DRow).map drK)) a3) := Lib.hid ⟨HBO.out, LO.nil _ _ _ _, (fun _ h => by cases h), (fun _ h => by cases h), HBS.out, HBK.out, L.out⟩
  have SZ : Hid (w.heap.size ≤ (World.heap a3).size) := Lib.hid L.out.keep.size
  clear HBO HBS HBK L
  refine (wpIn_wide (n := 9)).1 (wpIn_range_g (w0 := a3) (by omega) (gf := 74) (lb := #[.pointer (some ⟨A1, 0, none⟩), .pointer (some ⟨A2, 0, none⟩)]) rfl (enters_of Try.func74 (by kernel_rfl) rfl)
    (all_seq R1.out R2.out HU.out HT.out.1 HT.out.2 8) (Below.refl _ _) (fun _ => rfl) KpP.trans KpP.aside
    (fun pre W => ∃ v, TakeP w F g s T bk BS BK BO v (pre) (delAll s ((pre).map drK)) W)
    (fun c pre W => c = .exit 0 ∧ ∃ pre' y v, pre = pre' ++ [y] ∧ ¬ y.b ≤ bk ∧ TakeP w F g s T bk BS BK BO v (pre') (delAll s ((pre').map drK)) W)
    (fun pre A B h a => by obtain ⟨v, h⟩ := h; exact ⟨v, h.aside a SZ.out⟩)
    (fun c pre A B h a => by obtain ⟨h1, pre', y, v, h2, h3, h4⟩ := h; exact ⟨h1, pre', y, v, h2, h3, h4.aside a SZ.out⟩)
    ⟨_, TP.out⟩
    (fun y a' W => (LO W 3 intE 1 y.v y.l ∧ drK y ∈ rowsT T) ∧ ∃ b6, W.heap[b6]? = some (.cells #[.int .i64 y.b, .int .i64 y.n] 81 (0, 0)) ∧ a' = { tmps := #[.pointer (some ⟨g, 0, none⟩), .int .i64 bk, .pointer (some ⟨BS, 0, none⟩), .pointer (some ⟨BK, 0, none⟩), .slice none 0 0, .pointer (some ⟨BO, 0, none⟩), .pointer (some ⟨b6, 0, none⟩), y.v, .pointer (some ⟨g, 0, none⟩), .string (bs (keyF 26 [])), .func (.func 74) #[] #[.pointer (some ⟨A1, 0, none⟩), .pointer (some ⟨A2, 0, none⟩)], .agg #[.int .i64 y.b, .int .i64 y.n], y.v, undef, undef, undef, undef, undef, undef, undef, undef, undef, undef, undef, undef, undef, undef, undef, undef, undef, undef, undef, undef, undef, undef, undef, undef], defers := [] })
    (fun y a' A B h a => by obtain ⟨⟨h0, h1⟩, b6, h3, h4⟩ := h; exact ⟨⟨h0.aside2 a, h1⟩, b6, cells_aside h3 a, h4⟩) ?assign ?body ?done ?stop)
  case assign =>
    intro l pre y W K hi hg hlen hK
    simp only [drE]
    rw [fold_two]
    go_frame
    refine wpIn_seq (wpIn_region_lay (by kernel_rfl) ?_)
    refine wpList_alloc_g rfl _ rfl _ _ Try.zeroPl rfl ?_
    intro b6 w7 h7
    go_frame
    refine wpList_store_row_g (t := 81) (old := #[.int .i64 0, .int .i64 0]) rfl 81 _ _ rfl b6 #[.int .i64 y.b, .int .i64 y.n] rfl rfl h7.out.cells Try.sizePl rfl (one_i64 _ _) ?_
    intro w8 h8 k8 z8
    have hb8 : Below W.heap.size W w8 := h7.out.below.trans (k8.below (B := W.heap.size) (fun q hq e => by have := h7.out.eq; omega) h7.out.below.size)
    refine wpIn_region_lay (by kernel_rfl) ?_
    clear z8
    go_wp2_with fail
    exact hK _ _ hb8 ⟨⟨hg.1.later hb8, hg.2⟩, b6, h8, rfl⟩
  case body =>
    rintro l pre y a' W hl ⟨v, hp⟩ ⟨⟨hlo, hm⟩, b6, c6, rfl⟩ hlen
    have HP := Lib.hid hp; have HLO := Lib.hid hlo; have HM := Lib.hid hm; have HB6 := Lib.hid c6; have HLEN := Lib.hid hlen
    clear hp hlo hm c6 hlen
    have c0 : W.cell? ⟨b6, 0, none⟩ = some (.int .i64 y.b) := Lib.cell_of_heap HB6.out 0
    have c1 : W.cell? ⟨BK, 0, none⟩ = some (.int .i64 bk) := Lib.cell_of_heap HP.out.bk 0
    by_cases hyb : bk < y.b
    · gi_wp2_with fail
      first
        | exact ⟨Leaves.refl _ _, rfl, pre, y, v, rfl, by omega, HP.out⟩
        | exact ⟨Leaves.refl _ _, rfl, pre, y, rfl, hyb, v, HP.out⟩
    · refine wpIn_block (wpIn_seq (wpIn_seq (wpIn_region_lay (by kernel_rfl) ?_)))
      go_wp2_with fail
      refine wpIn_cond (t := false) (by first | rfl | exact congrArg Value.bool (decide_eq_false hyb)) (wpIn_skip ?_)
      refine wpIn_seq (wpIn_region_lay (by kernel_rfl) ?_)
      have HYB : Hid (y.b ≤ bk) := Lib.hid (by omega)
      have hln : (pre.map (·.v)).length < 1000000000 := by rw [List.length_map]; have := HLEN.out; have := HTL.out; omega
      have HLN := Lib.hid hln
      clear c0 c1 hyb hln
      obtain ⟨adv, nv, capv, rfl⟩ : ∃ ad n cap, v = .slice ad n cap := by obtain ⟨a, c, e, _⟩ := HP.out.lo.shape; exact ⟨_, _, _, e⟩
      obtain ⟨ady, ny, capy, hyv⟩ : ∃ ad n cap, y.v = .slice ad n cap := by obtain ⟨a, c, e, _⟩ := HLO.out.shape; exact ⟨_, _, _, e⟩
      rw [hyv]
      have HYV := Lib.hid hyv
      clear hyv
      have c2 : W.cell? ⟨BO, 0, none⟩ = some (.slice adv nv capv) := Lib.cell_of_heap HP.out.out 0
      go_wp2_with (at_builtin; refine lo_apps (l := pre.map (·.v)) (l2 := [.slice ady ny capy]) (enc := vE) rfl _ _ 35 35 rfl Try.underlying35 Try.underlying35 Try.infoRows rfl (by decide) vE_len' (fun x hx u hu => by rw [List.mem_singleton.1 hu, List.mem_singleton.1 hx]; rfl) (HP.out.lo.later (below_new _ _)) rfl _ rfl (litV _ _) (by have := HLN.out; unfold maxLen; simp only [List.length_singleton]; omega) (by have := HLN.out; simp only [List.length_singleton]; omega) ?_)
      intro va w5 la ka ma
      clear c2
      rw [← HYV.out] at la
      have hbn : Below W.heap.size W (W.alloc (.cells #[.slice ady ny capy] 34)) := below_new _ _
      have HP1 := Lib.hid (HP.out.below hbn); have HLO1 := Lib.hid (HLO.out.later hbn); have HB61 := Lib.hid (below_at' hbn HB6.out); have LV1 := Lib.hid (Leaves.of_below (B := (World.heap a3).size) hbn); have KP1 := Lib.hid (KpP.below hbn)
      obtain ⟨wq, hwq⟩ : ∃ wq, wq = W.alloc (.cells #[.slice ady ny capy] 34) := ⟨_, rfl⟩
      rw [← hwq] at HP1 HLO1 HB61 LV1 KP1 ka ma
      obtain ⟨ada, capa, rfl, ya, yb⟩ := la.shape
      have hll : (List.map (fun x : DRow => x.v) pre ++ [y.v]).length = pre.length + 1 := by simp
      rw [hll] at la ma ⊢
      clear hll ya yb
      have hb5 : w5.heap[BO]? = some (.cells #[.slice adv nv capv] 35 (0, 0)) := at_off HP1.out.out ka fun k hk => by obtain ⟨cs, hc⟩ := HP1.out.lo.kind hk; exact ⟨_, _, _, hc, by decide⟩
      have hb65 : w5.heap[b6]? = some (.cells #[.int .i64 y.b, .int .i64 y.n] 81 (0, 0)) := at_off HB61.out ka fun k hk => by obtain ⟨cs, hc⟩ := HP1.out.lo.kind hk; exact ⟨_, _, _, hc, by decide⟩
      have LA := Lib.hid la; have KA := Lib.hid ka; have MA := Lib.hid ma; have HB5 := Lib.hid hb5; have HB65 := Lib.hid hb65
      clear la ka ma hb5 hb65 hbn hwq HP HLO HB6
      go_wp2_with (refine wpList_store1_g rfl 35 _ _ rfl BO 0 _ rfl rfl rfl rfl 35 _ HB5.out (by kernel_rfl) (by simp) _ rfl ?_)
      intro w6 h6 k6 z6
      clear z6
      have happ := HP1.out.app ⟨HLO1.out, HYB.out, HM.out⟩ WBO.out LA.out KA.out MA.out h6 k6
      have hb66 : w6.heap[b6]? = some (.cells #[.int .i64 y.b, .int .i64 y.n] 81 (0, 0)) := at_off HB65.out k6 fun k hk => by subst hk; exact ⟨_, _, _, HB5.out, by decide⟩
      have TP := Lib.hid happ.1; have LV := Lib.hid (LV1.out.trans (happ.2.1 _)); have KP := Lib.hid (KP1.out.trans happ.2.2); have Hb6 := Lib.hid hb66; have HBS := Lib.hid happ.1.bs
      clear happ hb66 h6 k6 HP1 HLO1 HB61 LV1 KP1 LA KA MA HB5 HB65
      obtain ⟨z1, hwz⟩ : ∃ wz, wz = w6.drew := ⟨_, rfl⟩
      have hbz : Below w6.heap.size w6 z1 := by rw [hwz]; exact (Below.refl _ _).drew
      have TPm := Lib.hid (TP.out.below hbz)
      have LVm := Lib.hid (LV.out.trans (Leaves.of_below hbz))
      have KPm := Lib.hid (KP.out.trans (KpP.below hbz))
      have HBSm := Lib.hid (below_at' hbz HBS.out)
      have Hb6m := Lib.hid (below_at' hbz Hb6.out)
      clear hbz TP LV KP HBS Hb6
      have TP := TPm
      have LV := LVm
      have KP := KPm
      have HBS := HBSm
      have Hb6 := Hb6m
      clear TPm LVm KPm HBSm Hb6m
      have hS : z1.heap[BS]? = some (.cells #[.pointer (some ⟨g, 0, none⟩)] 30 (0, 0)) ∧ z1.heap[b6]? = some (.cells #[.int .i64 y.b, .int .i64 y.n] 81 (0, 0)) := ⟨HBS.out, Hb6.out⟩
      refine wpIn_region_till (fun w' => w'.heap[BS]? = some (.cells #[.pointer (some ⟨g, 0, none⟩)] 30 (0, 0)) ∧ w'.heap[b6]? = some (.cells #[.int .i64 y.b, .int .i64 y.n] 81 (0, 0))) 4 4 (by kernel_rfl) (by kernel_rfl) rfl ?_
      rw [← hwz]
      clear hwz
      refine till_take 0 (some 21) rfl rfl (by kernel_rfl) (by kernel_rfl) (by kernel_rfl) (by kernel_rfl) (by kernel_rfl) (by kernel_rfl) (fun _ _ _ h => h) (.inl ⟨by rfl, fun w' hS' => (by have hc : w'.cell? ⟨BS, 0, none⟩ = some (.pointer (some ⟨g, 0, none⟩)) := Lib.cell_of_heap (hS'.1) 0; go_simp; rfl)⟩) hS ?_
      go_frame
      refine till_take 1 (some 22) rfl rfl (by kernel_rfl) (by kernel_rfl) (by kernel_rfl) (by kernel_rfl) (by kernel_rfl) (by kernel_rfl) (fun _ _ _ h => h) (yields_load (by rfl) 81 _ rfl (.pointer (some ⟨b6, 0, none⟩)) rfl (.agg #[.int .i64 y.b, .int .i64 y.n]) (fun w' hS' => load_heap (hS'.2) Try.underlying81 rfl Try.sizePl)) hS ?_
      go_frame
      refine till_one 2 rfl (by kernel_rfl) fun K hK => ?_
      simp only [List.getElem_toArray, List.getElem_cons_succ, List.getElem_cons_zero]
      rw [if_pos (by rfl)]
      go_simp
      refine (pkey_any (b := y.b) (n := y.n) (by have := (HOK.out _ HM.out).1; simp only [drK] at this; omega) (by have := (HOK.out _ HM.out).2; simp only [drK] at this; omega) _).mono ?_
      rintro e z2 ⟨rfl, hb⟩
      have TPm := Lib.hid (TP.out.below hb)
      have LVm := Lib.hid (LV.out.trans (Leaves.of_below hb))
      have KPm := Lib.hid (KP.out.trans (KpP.below hb))
      have HBSm := Lib.hid (below_at' hb HBS.out)
      have Hb6m := Lib.hid (below_at' hb Hb6.out)
      clear hb TP LV KP HBS Hb6
      have TP := TPm
      have LV := LVm
      have KP := KPm
      have HBS := HBSm
      have Hb6 := Hb6m
      clear TPm LVm KPm HBSm Hb6m
      have hS2 : z2.heap[BS]? = some (.cells #[.pointer (some ⟨g, 0, none⟩)] 30 (0, 0)) ∧ z2.heap[b6]? = some (.cells #[.int .i64 y.b, .int .i64 y.n] 81 (0, 0)) := ⟨HBS.out, Hb6.out⟩
      refine hK _ _ (fun _ _ => hS2) ?_
      clear hK hS
      have hS := hS2
      clear hS2
      refine till_one 3 rfl (by kernel_rfl) fun K hK => ?_
      simp only [List.getElem_toArray, List.getElem_cons_succ, List.getElem_cons_zero]
      rw [if_pos (by rfl)]
      go_simp
      refine (TP.out.liv.callS fun F2 hs => sdel_any hs (by have h8 := sz_delAll s (pre.map drK); have h7 := HZ.out; have h6 := HLN.out; rw [List.length_map] at h6 h8; unfold PS.sz at h8 h7; omega) (by have h8 := sz_delAll s (pre.map drK); have h7 := HZ.out; have h6 := HLN.out; rw [List.length_map] at h6 h8; unfold PS.sz at h8 h7; omega) (keyF 26 [y.b, y.n])).mono ?_
      rintro e z3 ⟨rfl, o, hoth⟩
      have TPm := Lib.hid (TP.out.oth hoth o)
      have LVm := Lib.hid (LV.out.trans hoth.leaves)
      have KPm := Lib.hid (KP.out.trans hoth.kpp)
      have HBSm := Lib.hid (hoth.2 BS _ HBS.out rfl)
      have Hb6m := Lib.hid (hoth.2 b6 _ Hb6.out rfl)
      clear o hoth TP LV KP HBS Hb6
      have TP := TPm
      have LV := LVm
      have KP := KPm
      have HBS := HBSm
      have Hb6 := Hb6m
      clear TPm LVm KPm HBSm Hb6m
      have hS2 : z3.heap[BS]? = some (.cells #[.pointer (some ⟨g, 0, none⟩)] 30 (0, 0)) ∧ z3.heap[b6]? = some (.cells #[.int .i64 y.b, .int .i64 y.n] 81 (0, 0)) := ⟨HBS.out, Hb6.out⟩
      refine hK _ _ (fun _ _ => hS2) ?_
      clear hK hS
      have hS := hS2
      clear hS2
      refine till_done (by kernel_rfl) ?_ _
      clear hS
      have HDA : Hid (delAll s ((pre ++ [y]).map drK) = (delAll s (pre.map drK)).del (keyF 26 [y.b, y.n])) := Lib.hid (by rw [List.map_append]; exact delAll_snoc _ _ _)
      exact ⟨LV.out, KP.out, _, by rw [HDA.out]; exact TP.out⟩
  case done =>
    rintro D xs W hD hS ⟨v, hp⟩ hmk
    have HTK : Hid (takeL bk (rowsT T) = xs.map drK) := Lib.hid (by
      rw [← hS]
      refine takeL_all fun r hr => ?_
      obtain ⟨y, hy, rfl⟩ := List.mem_map.1 hr
      exact (hp.rows y hy).2.1)
    have HP := Lib.hid hp; have HMK := Lib.hid hmk; have HD := Lib.hid hD
    clear hp hmk hS hD
    have HLX : Hid (xs.length < 1000000000 ∨ True) := Lib.hid (.inr trivial)
    obtain ⟨adv, nv, capv, rfl⟩ : ∃ ad n cap, v = .slice ad n cap := by obtain ⟨a, c, e, _⟩ := HP.out.lo.shape; exact ⟨_, _, _, e⟩
    have HNV : Hid (nv = xs.length) := Lib.hid (by obtain ⟨a, c, e, _⟩ := HP.out.lo.shape; rw [(Value.slice.inj e).2.1, List.length_map])
    have HLE : Hid (xs.length ≤ T.length) := Lib.hid (by
      have h8 := congrArg List.length HTK.out
      rw [List.length_map] at h8
      have h9 := rowsT_len T
      have h7 : (takeL bk (rowsT T)).length ≤ (rowsT T).length := (List.takeWhile_sublist _).length_le
      omega)
    have c0 : W.cell? ⟨BO, 0, none⟩ = some (.slice adv nv capv) := Lib.cell_of_heap HP.out.out 0
    by_cases hx : xs = []
    · have hn0 : nv = 0 := by rw [HNV.out, hx]; rfl
      have HXS := Lib.hid hx
      subst hn0
      clear hx
      go_wp2_with fail
      refine leave_aside (B := (World.heap a3).size) _ _ (Marks.cons ⟨List.Pairwise.nil, fun _ h => by cases h⟩ HD.out HMK.out (fun _ h => by cases h)) fun w' hw' => ?_
      have hq := HP.out.aside hw' SZ.out
      refine ⟨_, results_tmp rfl _ _ _, _, rfl, ⟨xs.map fun y => (y.v, y.l), ?_, ?_, ?_⟩, ?_⟩
      · rw [List.map_map]; exact hq.lo
      · rw [HTK.out, List.map_map, List.map_map]; rfl
      · intro p hp
        obtain ⟨z, hz, rfl⟩ := List.mem_map.1 hp
        exact (hq.rows z hz).1
      · have := hq.liv
        unfold takeS
        rw [HTK.out, HXS.out]
        rw [HXS.out] at this
        exact this
    · have hn0 : 0 < nv := by rw [HNV.out]; exact List.length_pos_iff.2 hx
      have HXS := Lib.hid hx
      clear hx
      go_upto_region 9 with fail
      clear c0
      have HBS := Lib.hid HP.out.bs; have HBO := Lib.hid HP.out.out
      have MK := HMK
      have hgb := getI_bound (getP (delAll s (xs.map drK)).t) (keyF 27 [])
      obtain ⟨gi, hgi⟩ : ∃ gi, gi = getI (getP (delAll s (xs.map drK)).t) (keyF 27 []) := ⟨_, rfl⟩
      rw [← hgi] at hgb
      have hnv2 : nv < 1000000000 := by have := HNV.out; have := HLE.out; have := HTL.out; omega
      have HGI := Lib.hid hgi
      clear hgi
      have hwr : IntKind.i64.wrap (gi - (nv : Int)) = gi - (nv : Int) := IntWalk.i64_in _ (by omega)
      obtain ⟨f1, hwz⟩ : ∃ wz, wz = W.drew := ⟨_, rfl⟩
      have hbz : Below W.heap.size W f1 := by rw [hwz]; exact (Below.refl _ _).drew
      have HPm := Lib.hid (HP.out.below hbz)
      have HBSm := Lib.hid (below_at' hbz HBS.out)
      have HBOm := Lib.hid (below_at' hbz HBO.out)
      have MKm := Lib.hid (below_at' hbz MK.out)
      clear hbz HP HBS HBO MK
      have HP := HPm
      have HBS := HBSm
      have HBO := HBOm
      have MK := MKm
      clear HPm HBSm HBOm MKm
      have hS : f1.heap[BS]? = some (.cells #[.pointer (some ⟨g, 0, none⟩)] 30 (0, 0)) ∧ f1.heap[BO]? = some (.cells #[.slice adv nv capv] 35 (0, 0)) := ⟨HBS.out, HBO.out⟩
      refine wp_region_only (fun w' => w'.heap[BS]? = some (.cells #[.pointer (some ⟨g, 0, none⟩)] 30 (0, 0)) ∧ w'.heap[BO]? = some (.cells #[.slice adv nv capv] 35 (0, 0))) 8 8 (by kernel_rfl) rfl ?_
      rw [← hwz]
      clear hwz
      refine till_take 0 (some 28) rfl rfl (by kernel_rfl) (by kernel_rfl) (by kernel_rfl) (by kernel_rfl) (by kernel_rfl) (by kernel_rfl) (fun _ _ _ h => h) (.inl ⟨by rfl, fun w' hS' => (by have hc : w'.cell? ⟨BS, 0, none⟩ = some (.pointer (some ⟨g, 0, none⟩)) := Lib.cell_of_heap (hS'.1) 0; go_simp; rfl)⟩) hS ?_
      go_frame
      refine till_take 2 (some 30) rfl rfl (by kernel_rfl) (by kernel_rfl) (by kernel_rfl) (by kernel_rfl) (by kernel_rfl) (by kernel_rfl) (fun _ _ _ h => h) (.inl ⟨by rfl, fun w' hS' => (by have hc : w'.cell? ⟨BS, 0, none⟩ = some (.pointer (some ⟨g, 0, none⟩)) := Lib.cell_of_heap (hS'.1) 0; go_simp; rfl)⟩) hS ?_
      go_frame
      refine till_take 4 (some 32) rfl rfl (by kernel_rfl) (by kernel_rfl) (by kernel_rfl) (by kernel_rfl) (by kernel_rfl) (by kernel_rfl) (fun _ _ _ h => h) (.inl ⟨by rfl, fun w' hS' => (by have hc : w'.cell? ⟨BO, 0, none⟩ = some (.slice adv nv capv) := Lib.cell_of_heap (hS'.2) 0; go_simp; rfl)⟩) hS ?_
      go_frame
      refine till_take 5 (some 33) rfl rfl (by kernel_rfl) (by kernel_rfl) (by kernel_rfl) (by kernel_rfl) (by kernel_rfl) (by kernel_rfl) (fun _ _ _ h => h) (.inl ⟨by rfl, fun w' _ => (by go_simp; rfl)⟩) hS ?_
      go_frame
      refine till_one 1 rfl (by kernel_rfl) fun K hK => ?_
      simp only [List.getElem_toArray, List.getElem_cons_succ, List.getElem_cons_zero]
      rw [if_pos (by rfl)]
      go_simp
      refine (key_any 27 [] _ _ (by simp) I64s_nil (Rd.nil _ _ _)).mono ?_
      rintro e f2 ⟨rfl, hb⟩
      have HPm := Lib.hid (HP.out.below hb)
      have HBSm := Lib.hid (below_at' hb HBS.out)
      have HBOm := Lib.hid (below_at' hb HBO.out)
      have MKm := Lib.hid (below_at' hb MK.out)
      clear hb HP HBS HBO MK
      have HP := HPm
      have HBS := HBSm
      have HBO := HBOm
      have MK := MKm
      clear HPm HBSm HBOm MKm
      have hS2 : f2.heap[BS]? = some (.cells #[.pointer (some ⟨g, 0, none⟩)] 30 (0, 0)) ∧ f2.heap[BO]? = some (.cells #[.slice adv nv capv] 35 (0, 0)) := ⟨HBS.out, HBO.out⟩
      refine hK _ _ (fun _ _ => hS2) ?_
      clear hK hS
      have hS := hS2
      clear hS2
      refine till_one 3 rfl (by kernel_rfl) fun K hK => ?_
      simp only [List.getElem_toArray, List.getElem_cons_succ, List.getElem_cons_zero]
      rw [if_pos (by rfl)]
      go_simp
      obtain ⟨Fq, hst, _, _⟩ := HP.out.liv
      refine (dlen_any (Look.of_st hst) (HF.out.delAll (xs.map drK)).f).mono ?_
      rw [← HGI.out]
      rintro e f3 ⟨rfl, hb⟩
      clear hst
      have HPm := Lib.hid (HP.out.below hb)
      have HBSm := Lib.hid (below_at' hb HBS.out)
      have HBOm := Lib.hid (below_at' hb HBO.out)
      have MKm := Lib.hid (below_at' hb MK.out)
      clear hb HP HBS HBO MK
      have HP := HPm
      have HBS := HBSm
      have HBO := HBOm
      have MK := MKm
      clear HPm HBSm HBOm MKm
      have hS2 : f3.heap[BS]? = some (.cells #[.pointer (some ⟨g, 0, none⟩)] 30 (0, 0)) ∧ f3.heap[BO]? = some (.cells #[.slice adv nv capv] 35 (0, 0)) := ⟨HBS.out, HBO.out⟩
      refine hK _ _ (fun _ _ => hS2) ?_
      clear hK hS
      have hS := hS2
      clear hS2
      refine till_take 6 (some 34) rfl rfl (by kernel_rfl) (by kernel_rfl) (by kernel_rfl) (by kernel_rfl) (by kernel_rfl) (by kernel_rfl) (fun _ _ _ h => h) (.inl ⟨by rfl, fun w' _ => (by go_simp; rfl)⟩) hS ?_
      go_frame
      refine till_one 7 rfl (by kernel_rfl) fun K hK => ?_
      simp only [List.getElem_toArray, List.getElem_cons_succ, List.getElem_cons_zero]
      rw [if_pos (by rfl)]
      go_simp
      refine (HP.out.liv.callS fun F2 hs => setInt_any hs (by have h8 := sz_delAll s (xs.map drK); have h7 := HZ.out; have h6 := HLE.out; have h5 := HTL.out; rw [List.length_map] at h8; omega) (keyF 27 []) (gi - nv) (by omega)).mono ?_
      rintro e f4 ⟨rfl, o, hoth⟩
      have HPm := Lib.hid (HP.out.oth hoth o)
      have HBSm := Lib.hid (hoth.2 BS _ HBS.out rfl)
      have HBOm := Lib.hid (hoth.2 BO _ HBO.out rfl)
      have MKm := Lib.hid (hoth.2 D _ MK.out rfl)
      clear o hoth HP HBS HBO MK
      have HP := HPm
      have HBS := HBSm
      have HBO := HBOm
      have MK := MKm
      clear HPm HBSm HBOm MKm
      have hS2 : f4.heap[BS]? = some (.cells #[.pointer (some ⟨g, 0, none⟩)] 30 (0, 0)) ∧ f4.heap[BO]? = some (.cells #[.slice adv nv capv] 35 (0, 0)) := ⟨HBS.out, HBO.out⟩
      refine hK _ _ (fun _ _ => hS2) ?_
      clear hK hS
      have hS := hS2
      clear hS2
      refine till_done (by kernel_rfl) ?_ _
      clear hS
      simp only [Only]
      have c0 : f4.cell? ⟨BO, 0, none⟩ = some (.slice adv nv capv) := Lib.cell_of_heap HBO.out 0
      go_wp2_with fail
      refine leave_aside (B := (World.heap a3).size) _ _ (Marks.cons ⟨List.Pairwise.nil, fun _ h => by cases h⟩ HD.out MK.out (fun _ h => by cases h)) fun w' hw' => ?_
      have hq := HP.out.aside hw' SZ.out
      refine ⟨_, results_tmp rfl _ _ _, _, rfl, ⟨xs.map fun y => (y.v, y.l), ?_, ?_, ?_⟩, ?_⟩
      · rw [List.map_map]; exact hq.lo
      · rw [HTK.out, List.map_map, List.map_map]; rfl
      · intro p hp
        obtain ⟨z, hz, rfl⟩ := List.mem_map.1 hp
        exact (hq.rows z hz).1
      · have := hq.liv
        unfold takeS
        rw [HTK.out, if_neg (fun e => HXS.out (List.map_eq_nil_iff.1 e)), List.length_map, ← HNV.out, ← HGI.out]
        exact this
  case stop =>
    rintro D c pre W hD ⟨R, hR⟩ ⟨rfl, xs, y, v, rfl, hyb, hp⟩ hmk
    have HTK : Hid (takeL bk (rowsT T) = xs.map drK) := Lib.hid (by
      rw [← hR, List.map_append, List.append_assoc]
      refine takeL_stop (r := drK y) hyb fun r hr => ?_
      obtain ⟨z, hz, rfl⟩ := List.mem_map.1 hr
      exact (hp.rows z hz).2.1)
    have HP := Lib.hid hp; have HMK := Lib.hid hmk; have HD := Lib.hid hD
    clear hp hmk hR hD hyb
    refine wpIn_wide.2 ?_
    have HLX : Hid (xs.length < 1000000000 ∨ True) := Lib.hid (.inr trivial)
    obtain ⟨adv, nv, capv, rfl⟩ : ∃ ad n cap, v = .slice ad n cap := by obtain ⟨a, c, e, _⟩ := HP.out.lo.shape; exact ⟨_, _, _, e⟩
    have HNV : Hid (nv = xs.length) := Lib.hid (by obtain ⟨a, c, e, _⟩ := HP.out.lo.shape; rw [(Value.slice.inj e).2.1, List.length_map])
    have HLE : Hid (xs.length ≤ T.length) := Lib.hid (by
      have h8 := congrArg List.length HTK.out
      rw [List.length_map] at h8
      have h9 := rowsT_len T
      have h7 : (takeL bk (rowsT T)).length ≤ (rowsT T).length := (List.takeWhile_sublist _).length_le
      omega)
    have c0 : W.cell? ⟨BO, 0, none⟩ = some (.slice adv nv capv) := Lib.cell_of_heap HP.out.out 0
    by_cases hx : xs = []
    · have hn0 : nv = 0 := by rw [HNV.out, hx]; rfl
      have HXS := Lib.hid hx
      subst hn0
      clear hx
      go_wp2_with fail
      refine leave_aside (B := (World.heap a3).size) _ _ (Marks.cons ⟨List.Pairwise.nil, fun _ h => by cases h⟩ HD.out HMK.out (fun _ h => by cases h)) fun w' hw' => ?_
      have hq := HP.out.aside hw' SZ.out
      refine ⟨_, results_tmp rfl _ _ _, _, rfl, ⟨xs.map fun y => (y.v, y.l), ?_, ?_, ?_⟩, ?_⟩
      · rw [List.map_map]; exact hq.lo
      · rw [HTK.out, List.map_map, List.map_map]; rfl
      · intro p hp
        obtain ⟨z, hz, rfl⟩ := List.mem_map.1 hp
        exact (hq.rows z hz).1
      · have := hq.liv
        unfold takeS
        rw [HTK.out, HXS.out]
        rw [HXS.out] at this
        exact this
    · have hn0 : 0 < nv := by rw [HNV.out]; exact List.length_pos_iff.2 hx
      have HXS := Lib.hid hx
      clear hx
      go_upto_region 9 with fail
      clear c0
      have HBS := Lib.hid HP.out.bs; have HBO := Lib.hid HP.out.out
      have MK := HMK
      have hgb := getI_bound (getP (delAll s (xs.map drK)).t) (keyF 27 [])
      obtain ⟨gi, hgi⟩ : ∃ gi, gi = getI (getP (delAll s (xs.map drK)).t) (keyF 27 []) := ⟨_, rfl⟩
      rw [← hgi] at hgb
      have hnv2 : nv < 1000000000 := by have := HNV.out; have := HLE.out; have := HTL.out; omega
      have HGI := Lib.hid hgi
      clear hgi
      have hwr : IntKind.i64.wrap (gi - (nv : Int)) = gi - (nv : Int) := IntWalk.i64_in _ (by omega)
      obtain ⟨f1, hwz⟩ : ∃ wz, wz = W.drew := ⟨_, rfl⟩
      have hbz : Below W.heap.size W f1 := by rw [hwz]; exact (Below.refl _ _).drew
      have HPm := Lib.hid (HP.out.below hbz)
      have HBSm := Lib.hid (below_at' hbz HBS.out)
      have HBOm := Lib.hid (below_at' hbz HBO.out)
      have MKm := Lib.hid (below_at' hbz MK.out)
      clear hbz HP HBS HBO MK
      have HP := HPm
      have HBS := HBSm
      have HBO := HBOm
      have MK := MKm
      clear HPm HBSm HBOm MKm
      have hS : f1.heap[BS]? = some (.cells #[.pointer (some ⟨g, 0, none⟩)] 30 (0, 0)) ∧ f1.heap[BO]? = some (.cells #[.slice adv nv capv] 35 (0, 0)) := ⟨HBS.out, HBO.out⟩
      refine wp_region_only (fun w' => w'.heap[BS]? = some (.cells #[.pointer (some ⟨g, 0, none⟩)] 30 (0, 0)) ∧ w'.heap[BO]? = some (.cells #[.slice adv nv capv] 35 (0, 0))) 8 8 (by kernel_rfl) rfl ?_
      rw [← hwz]
      clear hwz
      refine till_take 0 (some 28) rfl rfl (by kernel_rfl) (by kernel_rfl) (by kernel_rfl) (by kernel_rfl) (by kernel_rfl) (by kernel_rfl) (fun _ _ _ h => h) (.inl ⟨by rfl, fun w' hS' => (by have hc : w'.cell? ⟨BS, 0, none⟩ = some (.pointer (some ⟨g, 0, none⟩)) := Lib.cell_of_heap (hS'.1) 0; go_simp; rfl)⟩) hS ?_
      go_frame
      refine till_take 2 (some 30) rfl rfl (by kernel_rfl) (by kernel_rfl) (by kernel_rfl) (by kernel_rfl) (by kernel_rfl) (by kernel_rfl) (fun _ _ _ h => h) (.inl ⟨by rfl, fun w' hS' => (by have hc : w'.cell? ⟨BS, 0, none⟩ = some (.pointer (some ⟨g, 0, none⟩)) := Lib.cell_of_heap (hS'.1) 0; go_simp; rfl)⟩) hS ?_
      go_frame
      refine till_take 4 (some 32) rfl rfl (by kernel_rfl) (by kernel_rfl) (by kernel_rfl) (by kernel_rfl) (by kernel_rfl) (by kernel_rfl) (fun _ _ _ h => h) (.inl ⟨by rfl, fun w' hS' => (by have hc : w'.cell? ⟨BO, 0, none⟩ = some (.slice adv nv capv) := Lib.cell_of_heap (hS'.2) 0; go_simp; rfl)⟩) hS ?_
      go_frame
      refine till_take 5 (some 33) rfl rfl (by kernel_rfl) (by kernel_rfl) (by kernel_rfl) (by kernel_rfl) (by kernel_rfl) (by kernel_rfl) (fun _ _ _ h => h) (.inl ⟨by rfl, fun w' _ => (by go_simp; rfl)⟩) hS ?_
      go_frame
      refine till_one 1 rfl (by kernel_rfl) fun K hK => ?_
      simp only [List.getElem_toArray, List.getElem_cons_succ, List.getElem_cons_zero]
      rw [if_pos (by rfl)]
      go_simp
      refine (key_any 27 [] _ _ (by simp) I64s_nil (Rd.nil _ _ _)).mono ?_
      rintro e f2 ⟨rfl, hb⟩
      have HPm := Lib.hid (HP.out.below hb)
      have HBSm := Lib.hid (below_at' hb HBS.out)
      have HBOm := Lib.hid (below_at' hb HBO.out)
      have MKm := Lib.hid (below_at' hb MK.out)
      clear hb HP HBS HBO MK
      have HP := HPm
      have HBS := HBSm
      have HBO := HBOm
      have MK := MKm
      clear HPm HBSm HBOm MKm
      have hS2 : f2.heap[BS]? = some (.cells #[.pointer (some ⟨g, 0, none⟩)] 30 (0, 0)) ∧ f2.heap[BO]? = some (.cells #[.slice adv nv capv] 35 (0, 0)) := ⟨HBS.out, HBO.out⟩
      refine hK _ _ (fun _ _ => hS2) ?_
      clear hK hS
      have hS := hS2
      clear hS2
      refine till_one 3 rfl (by kernel_rfl) fun K hK => ?_
      simp only [List.getElem_toArray, List.getElem_cons_succ, List.getElem_cons_zero]
      rw [if_pos (by rfl)]
      go_simp
      obtain ⟨Fq, hst, _, _⟩ := HP.out.liv
      refine (dlen_any (Look.of_st hst) (HF.out.delAll (xs.map drK)).f).mono ?_
      rw [← HGI.out]
      rintro e f3 ⟨rfl, hb⟩
      clear hst
      have HPm := Lib.hid (HP.out.below hb)
      have HBSm := Lib.hid (below_at' hb HBS.out)
      have HBOm := Lib.hid (below_at' hb HBO.out)
      have MKm := Lib.hid (below_at' hb MK.out)
      clear hb HP HBS HBO MK
      have HP := HPm
      have HBS := HBSm
      have HBO := HBOm
      have MK := MKm
      clear HPm HBSm HBOm MKm
      have hS2 : f3.heap[BS]? = some (.cells #[.pointer (some ⟨g, 0, none⟩)] 30 (0, 0)) ∧ f3.heap[BO]? = some (.cells #[.slice adv nv capv] 35 (0, 0)) := ⟨HBS.out, HBO.out⟩
      refine hK _ _ (fun _ _ => hS2) ?_
      clear hK hS
      have hS := hS2
      clear hS2
      refine till_take 6 (some 34) rfl rfl (by kernel_rfl) (by kernel_rfl) (by kernel_rfl) (by kernel_rfl) (by kernel_rfl) (by kernel_rfl) (fun _ _ _ h => h) (.inl ⟨by rfl, fun w' _ => (by go_simp; rfl)⟩) hS ?_
      go_frame
      refine till_one 7 rfl (by kernel_rfl) fun K hK => ?_
      simp only [List.getElem_toArray, List.getElem_cons_succ, List.getElem_cons_zero]
      rw [if_pos (by rfl)]
      go_simp
      refine (HP.out.liv.callS fun F2 hs => setInt_any hs (by have h8 := sz_delAll s (xs.map drK); have h7 := HZ.out; have h6 := HLE.out; have h5 := HTL.out; rw [List.length_map] at h8; omega) (keyF 27 []) (gi - nv) (by omega)).mono ?_
      rintro e f4 ⟨rfl, o, hoth⟩
      have HPm := Lib.hid (HP.out.oth hoth o)
      have HBSm := Lib.hid (hoth.2 BS _ HBS.out rfl)
      have HBOm := Lib.hid (hoth.2 BO _ HBO.out rfl)
      have MKm := Lib.hid (hoth.2 D _ MK.out rfl)
      clear o hoth HP HBS HBO MK
      have HP := HPm
      have HBS := HBSm
      have HBO := HBOm
      have MK := MKm
      clear HPm HBSm HBOm MKm
      have hS2 : f4.heap[BS]? = some (.cells #[.pointer (some ⟨g, 0, none⟩)] 30 (0, 0)) ∧ f4.heap[BO]? = some (.cells #[.slice adv nv capv] 35 (0, 0)) := ⟨HBS.out, HBO.out⟩
      refine hK _ _ (fun _ _ => hS2) ?_
      clear hK hS
      have hS := hS2
      clear hS2
      refine till_done (by kernel_rfl) ?_ _
      clear hS
      simp only [Only]
      have c0 : f4.cell? ⟨BO, 0, none⟩ = some (.slice adv nv capv) := Lib.cell_of_heap HBO.out 0
      go_wp2_with fail
      refine leave_aside (B := (World.heap a3).size) _ _ (Marks.cons ⟨List.Pairwise.nil, fun _ h => by cases h⟩ HD.out MK.out (fun _ h => by cases h)) fun w' hw' => ?_
      have hq := HP.out.aside hw' SZ.out
      refine ⟨_, results_tmp rfl _ _ _, _, rfl, ⟨xs.map fun y => (y.v, y.l), ?_, ?_, ?_⟩, ?_⟩
      · rw [List.map_map]; exact hq.lo
      · rw [HTK.out, List.map_map, List.map_map]; rfl
      · intro p hp
        obtain ⟨z, hz, rfl⟩ := List.mem_map.1 hp
        exact (hq.rows z hz).1
      · have := hq.liv
        unfold takeS
        rw [HTK.out, if_neg (fun e => HXS.out (List.map_eq_nil_iff.1 e)), List.length_map, ← HNV.out, ← HGI.out]
        exact this
end Go.Proofs.Ythnjakomkdlglaa
