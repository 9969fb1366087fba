/- Due: First (code). No condition. -/
import Derived.Test.YthnjakomkdlglaaDueA
namespace Go.Proofs.Ythnjakomkdlglaa
open Go.RowKit
attribute [local go_sem] Oper.semAt_some

theorem below_aside {n0 B : Nat} {w A A' : World} (h : Below n0 w A) (a : Aside B A A') (hn : n0 ≤ B) (hw : n0 ≤ w.heap.size) : Below n0 w A' :=
  ⟨a.os.trans h.os, a.tape.trans h.tape, a.output.trans h.output, Nat.le_trans h.size a.size, fun k hk => by
    have h1 := h.block k hk
    obtain ⟨o, ho⟩ : ∃ o, w.heap[k]? = some o := ⟨_, Array.getElem?_eq_getElem (by omega)⟩
    rw [ho] at h1 ⊢
    exact a.keep k o h1 (.inl (by omega))⟩
theorem cells_aside {B k : Nat} {A A' : World} {cs : Array Value} {T : TypeId} {fr : Nat × Nat} (h : A.heap[k]? = some (.cells cs T fr)) (a : Aside B A A') : A'.heap[k]? = some (.cells cs T fr) := a.keep k _ h (.inr rfl)
theorem two_boxes (w : World) (c0 c1 : Array Value) (T0 T1 : TypeId) (w1 : World) (hw : w1 = (w.alloc (.cells c0 T0)).alloc (.cells c1 T1)) :
    w1.heap[w.heap.size]? = some (.cells c0 T0 (0, 0)) ∧ w1.heap[w.heap.size + 1]? = some (.cells c1 T1 (0, 0)) ∧ Below w.heap.size w w1 ∧ w1.heap.size = w.heap.size + 2 := by
  obtain ⟨wa, ha⟩ : ∃ x, x = w.alloc (.cells c0 T0) := ⟨_, rfl⟩
  rw [← ha] at hw
  have sa : wa.heap.size = w.heap.size + 1 := by rw [ha, World.size_alloc]
  have ba : Below w.heap.size w wa := by rw [ha]; exact below_new _ _
  have bb : Below wa.heap.size wa w1 := by rw [hw]; exact below_new _ _
  have ea : wa.heap[w.heap.size]? = some (.cells c0 T0 (0, 0)) := by rw [ha]; exact heap_alloc_new _ _
  have eb : w1.heap[wa.heap.size]? = some (.cells c1 T1 (0, 0)) := by rw [hw]; exact heap_alloc_new _ _
  rw [sa] at eb
  exact ⟨below_at' bb ea, eb, ba.trans (bb.mono (by omega)), by rw [hw, World.size_alloc, sa]⟩
theorem fold_two (t : Array Value) (p q : Nat) (u v : Value) : Array.foldl (fun (t : Array Value) (x : Tmp × Value) => match x with | (p, v) => t.setIfInBounds p v) t (#[p, q].zip #[u, v]) = (t.setIfInBounds p u).setIfInBounds q v := by
  simp [Array.zip]
theorem results_two {fn : Func} {p q : Tmp} {ty ty' : TypeId} (h : fn.results = #[.cell p ty, .cell q ty']) (tmps : Array Value) (P : Program) (w : World) :
    (results fn tmps).run P w = ((asAddr (tmps.getD p undef)).run P w).andThen fun a w₁ => ((loadVar ty a).run P w₁).andThen fun v w₂ => ((asAddr (tmps.getD q undef)).run P w₂).andThen fun a' w₃ => ((loadVar ty' a').run P w₃).andThen fun v' w₄ => .ok (.tuple #[v, v']) w₄ := by
  simp only [results, h]
  simp [Sem.run_bind, Result.andThen]
theorem res_two {P : Program} {fn : Func} {p q : Tmp} {ty ty' : TypeId} (h : fn.results = #[.cell p ty, .cell q ty']) (tmps : Array Value) (w : World) {a a' : Addr} {v v' : Value} (hp : tmps.getD p undef = .pointer (some a)) (hp' : tmps.getD q undef = .pointer (some a')) (hl : (loadVar ty a).run P w = .ok v w) (hl' : (loadVar ty' a').run P w = .ok v' w) :
    (results fn tmps).run P w = .ok (.tuple #[v, v']) w := by
  rw [results_two h, hp, hp']
  simp [asAddr, hl, hl', Result.andThen]
theorem load_int {w : World} {g : Nat} {x : Int} (h : w.heap[g]? = some (.cells #[.int .i64 x] 3 (0, 0))) : (loadVar 3 ⟨g, 0, none⟩).run Try.prog w = .ok (.int .i64 x) w := by
  have c0 : w.cell? ⟨g, 0, none⟩ = some (.int .i64 x) := Lib.cell_of_heap h 0
  go_simp
theorem load_bool {w : World} {g : Nat} {x : Bool} (h : w.heap[g]? = some (.cells #[.bool x] 4 (0, 0))) : (loadVar 4 ⟨g, 0, none⟩).run Try.prog w = .ok (.bool x) w := by
  have c0 : w.cell? ⟨g, 0, none⟩ = some (.bool x) := Lib.cell_of_heap h 0
  go_simp
/-- How a place is told. -/
def firstV (rows : List ((Int × Int) × List Int)) : Value := .tuple #[.int .i64 ((rows.head?.map (·.1.1)).getD 0), .bool rows.head?.isSome]
/-- Under tells T. -/
def Und (w : World) (x : Option Addr) (b : Txt) (T : Tab) : Prop := ∀ W, Below w.heap.size w W → Calls Try.prog 54 #[.pointer x, .string (bs b)] W (CloneRet W 99 pairE 2 T)
theorem Und.later {w w' : World} {x : Option Addr} {b : Txt} {T : Tab} (h : Und w x b T) (hb : Below w.heap.size w w') : Und w' x b T := fun W hW => h W (hb.trans (hW.mono hb.size))
def TabOk (T : Tab) : Prop := T.length < 1099511627776 ∧ ∀ p ∈ T, p.1.length ≤ 1000000 ∧ p.2.length ≤ 1000000

set_option maxHeartbeats 8000000 in
set_option maxRecDepth 100000 in
theorem dfirst_any {w : World} {x : Option Addr} {T : Tab} (hU : Und w x (keyF 26 []) T) (hT : TabOk T) : Calls Try.prog 19 #[.pointer x] w (Ret w (firstV (rowsT T))) := by
  have HU := Lib.hid hU; have HT := Lib.hid hT
  clear hU hT
  refine (callsIn_wide (n := 9)).1 (callsIn_of_wp_marks Try.func19 rfl trivial ?_ rfl)
  simp only [Try.ntmps19, List.size_toArray, List.length_cons, List.length_nil, Nat.reduceAdd, Nat.reduceSub, Array.replicate_succ, Array.replicate_zero, List.push_toArray, List.append_toArray, List.nil_append, List.cons_append]
  refine wpIn_wide.2 ?_
  go_wp2_with fail
  obtain ⟨w1, hw1⟩ : ∃ w1, w1 = (w.alloc (.cells #[.int .i64 0] 3)).alloc (.cells #[.bool false] 4) := ⟨_, rfl⟩
  obtain ⟨B0, hB0⟩ : ∃ B0, B0 = w.heap.size := ⟨_, rfl⟩
  obtain ⟨B1, hB1⟩ : ∃ B1, B1 = w.heap.size + 1 := ⟨_, rfl⟩
  rw [← hw1, ← hB1, ← hB0]
  have hbx := two_boxes w #[.int .i64 0] #[.bool false] 3 4 w1 hw1
  rw [← hB1, ← hB0] at hbx
  have W0 : Hid (w.heap.size = B0 ∧ B0 ≠ B1 ∧ w.heap.size ≤ B1) := Lib.hid (by omega)
  have P0 := Lib.hid hbx.1; have P1 := Lib.hid hbx.2.1
  have PB : Hid (Below w.heap.size w w1) := Lib.hid (by rw [← hB0]; exact hbx.2.2.1)
  clear hbx hw1 hB0 hB1
  refine (table_any 26 _).mono ?_
  rintro e w2 ⟨rfl, hb⟩
  have Q0 := Lib.hid (below_at' hb P0.out); have Q1 := Lib.hid (below_at' hb P1.out); have QB := Lib.hid (PB.out.trans (hb.mono PB.out.size))
  clear hb P0 P1 PB
  go_wp2_with fail
  refine (all_any x (keyF 26 []) _).mono ?_
  rintro e w3 ⟨rfl, hw3⟩
  obtain ⟨A1, hA1⟩ : ∃ A1, A1 = w2.heap.size := ⟨_, rfl⟩
  obtain ⟨A2, hA2⟩ : ∃ A2, A2 = w2.heap.size + 1 := ⟨_, rfl⟩
  have hbx := two_boxes w2 #[.pointer x] #[.string (bs (keyF 26 []))] 30 9 w3 hw3
  rw [← hA2, ← hA1] at hbx ⊢
  have hb3 : Below w2.heap.size w2 w3 := by rw [← hA1]; exact hbx.2.2.1
  have R1 := Lib.hid hbx.1; have R2 := Lib.hid hbx.2.1
  have S0 := Lib.hid (below_at' hb3 Q0.out); have S1 := Lib.hid (below_at' hb3 Q1.out); have SB := Lib.hid (QB.out.trans (hb3.mono QB.out.size))
  have HU3 := Lib.hid (HU.out.later SB.out)
  clear hbx hb3 hA1 hA2 hw3 Q0 Q1 QB HU
  go_wp2_with fail
  refine (wpIn_wide (n := 9)).1 (wpIn_range_g (w0 := w3) (by omega) (gf := 74) (lb := #[.pointer (some ⟨A1, 0, none⟩), .pointer (some ⟨A2, 0, none⟩)]) rfl (enters_of Try.func74 (by kernel_rfl) rfl)
    (all_seq R1.out R2.out HU3.out HT.out.1 HT.out.2 8) (Below.refl _ _) (fun _ => rfl) KpP.trans KpP.aside
    (fun pre W => pre = [] ∧ W.heap[B0]? = some (.cells #[.int .i64 0] 3 (0, 0)) ∧ W.heap[B1]? = some (.cells #[.bool false] 4 (0, 0)) ∧ Below w.heap.size w W)
    (fun c pre W => c = .ret ∧ ∃ y, pre = [y] ∧ W.heap[B0]? = some (.cells #[.int .i64 y.b] 3 (0, 0)) ∧ W.heap[B1]? = some (.cells #[.bool true] 4 (0, 0)) ∧ Below w.heap.size w W)
    (fun pre A B h a => ⟨h.1, cells_aside h.2.1 a, cells_aside h.2.2.1 a, below_aside h.2.2.2 a SB.out.size (Nat.le_refl _)⟩)
    (fun c pre A B h a => by obtain ⟨h1, y, h2, h3, h4, h5⟩ := h; exact ⟨h1, y, h2, cells_aside h3 a, cells_aside h4 a, below_aside h5 a SB.out.size (Nat.le_refl _)⟩)
    ⟨rfl, S0.out, S1.out, SB.out⟩
    (fun y a' W => drK y ∈ rowsT T ∧ ∃ b4, W.heap[b4]? = some (.cells #[.int .i64 y.b, .int .i64 y.n] 81 (0, 0)) ∧ a' = { tmps := #[.pointer x, undef, .pointer (some ⟨B0, 0, none⟩), .pointer (some ⟨B1, 0, none⟩), .pointer (some ⟨b4, 0, none⟩), .pointer x, .string (bs (keyF 26 [])), .func (.func 74) #[] #[.pointer (some ⟨A1, 0, none⟩), .pointer (some ⟨A2, 0, none⟩)], .agg #[.int .i64 y.b, .int .i64 y.n], y.v, undef, undef], defers := [] })
    (fun y a' A B h a => by obtain ⟨h1, b4, h3, h4⟩ := h; exact ⟨h1, b4, cells_aside h3 a, h4⟩) ?assign ?body ?done ?stop)
  case assign =>
    intro l pre y W K hi hg hlen hK
    simp only [drE]
    rw [fold_two]
    go_frame
    refine wpIn_region_lay (by kernel_rfl) ?_
    refine wpList_alloc_g rfl _ rfl _ _ Try.zeroPl rfl ?_
    intro b4 w7 h7
    go_frame
    refine wpList_store_row_g (t := 81) (old := #[.int .i64 0, .int .i64 0]) rfl 81 _ _ rfl b4 #[.int .i64 y.b, .int .i64 y.n] rfl rfl h7.out.cells Try.sizePl rfl (one_i64 _ _) ?_
    intro w8 h8 k8 z8
    have hb8 : Below W.heap.size W w8 := h7.out.below.trans (k8.below (B := W.heap.size) (fun q hq e => by have := h7.out.eq; omega) h7.out.below.size)
    exact hK _ _ hb8 ⟨hg.2, b4, h8, rfl⟩
  case body =>
    rintro l pre y a' W hl ⟨rfl, q0, q1, qb⟩ ⟨hm, b4, c4, rfl⟩ hlen
    have c0 : W.cell? ⟨b4, 0, none⟩ = some (.int .i64 y.b) := Lib.cell_of_heap c4 0
    have f0 : W.frozen? ⟨B0, 0, none⟩ = false := Lib.frozen_of_heap q0 0
    have e0 : W.cell? ⟨B0, 0, none⟩ = some (.int .i64 0) := Lib.cell_of_heap q0 0
    have f1 : W.frozen? ⟨B1, 0, none⟩ = false := Lib.frozen_of_heap q1 0
    have e1 : W.cell? ⟨B1, 0, none⟩ = some (.bool false) := Lib.cell_of_heap q1 0
    have n1 : B0 ≠ B1 := W0.out.2.1
    have n2 : B1 ≠ B0 := W0.out.2.1.symm
    gi_wp2_with fail
    have hk : Keep (fun k => k = B0 ∨ k = B1) W ((W.setCell ⟨B0, 0, none⟩ (.int .i64 y.b)).setCell ⟨B1, 0, none⟩ (.bool true)) := ((Keep.refl _ W).setCell (p := ⟨B0, 0, none⟩) (.inl (.inl rfl)) _).setCell (p := ⟨B1, 0, none⟩) (.inl (.inr rfl)) _
    have s0 : ((W.setCell ⟨B0, 0, none⟩ (.int .i64 y.b)).setCell ⟨B1, 0, none⟩ (.bool true)).heap[B0]? = some (.cells #[.int .i64 y.b] 3 (0, 0)) := (heap_setCell_other _ _ _ _ (by simpa using n1)).trans (heap_setCell_same _ _ _ _ _ _ q0)
    have s1 : ((W.setCell ⟨B0, 0, none⟩ (.int .i64 y.b)).setCell ⟨B1, 0, none⟩ (.bool true)).heap[B1]? = some (.cells #[.bool true] 4 (0, 0)) := heap_setCell_same _ _ _ _ _ _ ((heap_setCell_other _ _ _ _ (by simpa using n2)).trans q1)
    refine ⟨Leaves.of_keep hk fun k hk => ?_, rfl, y, rfl, s0, s1, qb.trans (hk.below (B := w.heap.size) (fun k hk e => ?_) qb.size)⟩
    · rcases hk with rfl | rfl
      · exact ⟨_, q0, rfl⟩
      · exact ⟨_, q1, rfl⟩
    · have := W0.out; omega
  case done =>
    rintro D xs W hD hS ⟨rfl, q0, q1, qb⟩ hmk
    have HR : Hid (rowsT T = []) := Lib.hid hS.symm
    have f0 : W.frozen? ⟨B0, 0, none⟩ = false := Lib.frozen_of_heap q0 0
    have e0 : W.cell? ⟨B0, 0, none⟩ = some (.int .i64 0) := Lib.cell_of_heap q0 0
    have f1 : W.frozen? ⟨B1, 0, none⟩ = false := Lib.frozen_of_heap q1 0
    have e1 : W.cell? ⟨B1, 0, none⟩ = some (.bool false) := Lib.cell_of_heap q1 0
    have n1 : B0 ≠ B1 := W0.out.2.1
    have n2 : B1 ≠ B0 := W0.out.2.1.symm
    go_wp2_with fail
    have hk : Keep (fun k => k = B0 ∨ k = B1) W ((W.setCell ⟨B0, 0, none⟩ (.int .i64 0)).setCell ⟨B1, 0, none⟩ (.bool false)) := ((Keep.refl _ W).setCell (p := ⟨B0, 0, none⟩) (.inl (.inl rfl)) _).setCell (p := ⟨B1, 0, none⟩) (.inl (.inr rfl)) _
    have s0 : ((W.setCell ⟨B0, 0, none⟩ (.int .i64 0)).setCell ⟨B1, 0, none⟩ (.bool false)).heap[B0]? = some (.cells #[.int .i64 0] 3 (0, 0)) := (heap_setCell_other _ _ _ _ (by simpa using n1)).trans (heap_setCell_same _ _ _ _ _ _ q0)
    have s1 : ((W.setCell ⟨B0, 0, none⟩ (.int .i64 0)).setCell ⟨B1, 0, none⟩ (.bool false)).heap[B1]? = some (.cells #[.bool false] 4 (0, 0)) := heap_setCell_same _ _ _ _ _ _ ((heap_setCell_other _ _ _ _ (by simpa using n2)).trans q1)
    obtain ⟨W9, hW9⟩ : ∃ W9, W9 = (W.setCell ⟨B0, 0, none⟩ (.int .i64 0)).setCell ⟨B1, 0, none⟩ (.bool false) := ⟨_, rfl⟩
    rw [← hW9] at hk s0 s1 ⊢
    have hm9 : W9.heap[D]? = some (.deferred (some [])) := hk.at hmk (fun e => by rcases e with rfl | rfl; rw [q0] at hmk; cases hmk; rw [q1] at hmk; cases hmk)
    have hb9 : Below w.heap.size w W9 := qb.trans (hk.below (B := w.heap.size) (fun k hk e => by have := W0.out; omega) qb.size)
    refine leave_marks (B := w.heap.size) _ W9 (Marks.cons ⟨List.Pairwise.nil, fun _ h => by cases h⟩ (by have := SB.out.size; omega) hm9 (fun _ h => by cases h)) fun w' hw' => ?_
    refine ⟨_, res_two rfl _ _ (show _ = Value.pointer (some ⟨B0, 0, none⟩) from rfl) (show _ = Value.pointer (some ⟨B1, 0, none⟩) from rfl) (load_int (hw'.cells _ _ _ _ s0)) (load_bool (hw'.cells _ _ _ _ s1)), ?_, ?_⟩
    · rw [HR.out]; rfl
    · exact hw'.onto hb9
  case stop =>
    rintro D c pre W hD hSp ⟨rfl, y, rfl, q0, q1, qb⟩ hmk
    refine wpIn_wide.2 ?_
    have n1 : B0 ≠ B1 := W0.out.2.1
    have n2 : B1 ≠ B0 := W0.out.2.1.symm
    go_wp2_with fail
    refine leave_marks (B := w.heap.size) _ W (Marks.cons ⟨List.Pairwise.nil, fun _ h => by cases h⟩ (by have := SB.out.size; omega) hmk (fun _ h => by cases h)) fun w' hw' => ?_
    refine ⟨_, res_two rfl _ _ (show _ = Value.pointer (some ⟨B0, 0, none⟩) from rfl) (show _ = Value.pointer (some ⟨B1, 0, none⟩) from rfl) (load_int (hw'.cells _ _ _ _ q0)) (load_bool (hw'.cells _ _ _ _ q1)), ?_, ?_⟩
    · obtain ⟨r, hr⟩ := hSp
      rw [← hr]; rfl
    · exact hw'.onto qb
end Go.Proofs.Ythnjakomkdlglaa
