/- Queues: one as it stands, how long, where a row stands (code). -/
import Derived.Test.YtohedljdkfmkdaaLit
namespace Go.Proofs.Ytohedljdkfmkdaa
open Go.RowKit

/-- The two ends. -/
def endsL : List Int → Int × Int
  | [a, b] => if a ≤ b then (a, b) else (0, 0)
  | _ => (0, 0)
theorem endsL_no {l : List Int} (h : ¬ l.length = 2) : endsL l = (0, 0) := by
  unfold endsL
  split
  · exact absurd rfl h
  · rfl
theorem two_of {l : List Int} (h : l.length = 2) : ∃ a b, l = [a, b] := by
  match l, h with
  | [a, b], _ => exact ⟨a, b, rfl⟩
def endsF (f : Txt → Option Txt) (t : Int) (ids : List Int) : Int × Int := endsL (rowF (valF f (keyF t ids)))
theorem endsF_bound (f : Txt → Option Txt) (t : Int) (ids : List Int) : 0 ≤ (endsF f t ids).1 ∧ (endsF f t ids).1 ≤ (endsF f t ids).2 ∧ (endsF f t ids).2 < 9223372036854775808 := by
  unfold endsF
  have hb := rowF_bound (valF f (keyF t ids))
  generalize rowF (valF f (keyF t ids)) = l at hb
  by_cases h : l.length = 2
  · obtain ⟨a, b, rfl⟩ := two_of h
    have h1 := hb a (by simp); have h2 := hb b (by simp)
    have he : endsL [a, b] = if a ≤ b then (a, b) else (0, 0) := rfl
    rw [he]
    by_cases hab : a ≤ b
    · rw [if_pos hab]; exact ⟨h1.1, hab, h2.2⟩
    · rw [if_neg hab]; exact ⟨Int.le_refl _, Int.le_refl _, (by decide)⟩
  · rw [endsL_no h]; exact ⟨Int.le_refl _, Int.le_refl _, (by decide)⟩
def qC (x : Option Addr) (t : Int) (vi : Value) (a b : Int) : Array Value := #[.pointer x, .int .i64 t, vi, .int .i64 a, .int .i64 b]
theorem Try.zeroQ (w : World) : (zeroValue 147).run Try.prog w = .ok (.agg #[.pointer none, .int .i64 0, .slice none 0 0, .int .i64 0, .int .i64 0]) w := by kernel_rfl
theorem Try.sizeQ : (Try.prog.info? 147).map (·.size) = some 5 := by kernel_rfl
theorem Try.sizeE : (Try.prog.info? 145).map (·.size) = some 2 := by kernel_rfl
/-- A store of a row into a part of a block of the call's own. -/
theorem wpList_store_part_g {P : Program} {ops : Array Oper} {rest : List Oper} {o : Oper} {a : Act} {w : World} {Q : Exit → Act → World → Prop} (hgd : o.guard = none) (ty : TypeId) (x y : Operand) (ho : o.op = .store ty x y)
    (g off : Nat) (cells : Array Value) (hx : a.eval x = .pointer (some ⟨g, off, none⟩)) (hy : a.eval y = .agg cells)
    (t : TypeId) (cur : Array Value) (hg : w.heap[g]? = some (.cells cur t (0, 0))) (hi : (P.info? ty).map (·.size) = some cells.size)
    (hfit : off + cells.size ≤ cur.size) (h1 : cells.all (·.oneCell') = true) (new : Array Value) (hnew : (cur.toList.take off ++ cells.toList ++ cur.toList.drop (off + cells.size)).toArray = new)
    (h : ∀ w', w'.heap[g]? = some (.cells new t (0, 0)) → Keep (· = g) w w' → w'.heap.size = w.heap.size → wpList P ops Q rest (a.put o.dst undef) w') : wpList P ops Q (o :: rest) a w := by
  refine wpList_plain hgd fun K hK => ?_
  have hst := run_storeCells_at P g off t cells.toList 0 cur w hg (by simpa using hfit) (fun v hv => (Array.all_eq_true_iff_forall_mem.1 h1) v (by simpa using hv))
  have hrun : (storeVar ty ⟨g, off, none⟩ (.agg cells)).run P w = .ok () (w.setRow g new) := by
    cases hq : P.info? ty with
    | none => simp [hq] at hi
    | some i =>
      have hs : cells.size = i.size := by simp [hq] at hi; omega
      simp only [Nat.add_zero] at hst
      rw [show cells.toList.length = cells.size by simp, hnew] at hst
      simp [storeVar, sizeOf, typeInfo, hq, Value.cells, hs, hst]
  unfold Oper.wp execOp
  simp only [ho, hx, hy, Instr.storeAt, Instr.sureAddr, Sem.run_bind, Sem.run_pure, Result.andThen_ok, hrun]
  exact hK _ _ (h _ (setRow_heap _ _ _ _ _ _ hg) (Keep.setRow (S := (· = g)) (Keep.refl _ _) (.inl rfl) _) (setRow_size _ _ _))
theorem rng2 {w : World} {q off : Nat} {u v : Value} (h1 : w.cell? ⟨q, off, none⟩ = some u) (h2 : w.cell? ⟨q, off + 1, none⟩ = some v) : w.rangeAt q off [u, v] := by
  intro j x hj
  match j, hj with
  | 0, hj => cases hj; exact h1
  | 1, hj => cases hj; exact h2
theorem Try.arr2 (q off cap : Nat) (w : World) : (Instr.arrayAt 145 (.slice (some ⟨q, off, none⟩) 2 cap)).run Try.prog w = .ok (.pointer (some ⟨q, off, none⟩)) w := by kernel_rfl
theorem intE_ones (l : List Int) : ∀ x ∈ l, ∀ u ∈ intE x, u.oneCell' = true := fun x _ u hu => by rw [List.mem_singleton.1 hu]; rfl
theorem intE_len (x : Int) : (intE x).length = 1 := rfl
theorem I64s_snoc {l : List Int} {n : Int} (h : I64s l) (hn : -9223372036854775808 ≤ n ∧ n < 9223372036854775808) : I64s (l ++ [n]) := by
  intro x hx
  rcases List.mem_append.1 hx with h1 | h1
  · exact h x h1
  · simp only [List.mem_singleton] at h1; rw [h1]; exact hn
theorem Try.infoCI : (Try.prog.info? 3).map (fun i => (i.zero, i.size, i.bytes)) = some (some (.int .i64 0), 1, 8) := by kernel_rfl
set_option maxHeartbeats 4000000 in
set_option maxRecDepth 100000 in
/-- slices.Clone. -/
theorem clone_ints (w : World) (v : Value) (l : List Int) (hr : Rd w intE 1 v l) (hlen : l.length < 1099511627776) :
    Calls Try.prog 118 #[v] w (CloneRet w 3 intE 1 l) := by
  obtain ⟨ad, cap, rfl, h1, h2⟩ := hr.shape
  have heq := fun a n c w => run_eql_nil_slice' (P := Try.prog) w 43 3 a n c Try.underlying43
  cases ad with
  | none =>
    have hl : l = [] := by
      by_cases hl : l = []
      · exact hl
      · obtain ⟨ad', cap', e, c1, c2, c3⟩ := hr
        cases e
        obtain ⟨b, off, e, _⟩ := c3 hl
        cases e
    subst hl
    go_enter Try.func118, Try.ntmps118
    go_wp2_with fail
    go_ret
    exact ⟨_, rfl, LO.nil _ _ _ _, Below.refl _ _, fun k e => by cases e⟩
  | some a =>
    have HR := Lib.hid hr
    have hm : ([] : List Int).length + l.length ≤ maxLen := by unfold maxLen; simp; omega
    have hb : (([] : List Int).length + l.length) * 8 ≤ 140737488355328 := by simp; omega
    have HM := Lib.hid hm; have HB := Lib.hid hb
    clear hr hm hb
    go_enter Try.func118, Try.ntmps118
    go_wp2_with (at_builtin; refine lo_apps (l2 := l) (enc := intE) rfl _ _ 43 43 rfl Try.underlying43 Try.underlying43 Try.infoCI rfl (by decide) intE_len (intE_ones l) (LO.made (enc := intE) (sz := 1) w #[] 0 0 rfl (Nat.le_refl _) (Nat.zero_le _) (by simp) (by simp)) rfl _ rfl (HR.out.alloc _) HM.out HB.out ?_)
    intro v' w' r1 r2 r3
    have hb1 : Below w.heap.size w (w.alloc (.cells #[] 3)) := (Below.refl _ _).alloc (Nat.le_refl _) _
    have hb2 : Below w.heap.size w w' := hb1.trans (r2.below (B := w.heap.size) (fun q hq e => by have h3 : w.heap.size = q := Option.some.inj e; omega) (by simp))
    have hk : ∀ k, v'.ownBlock = some k → w.heap.size ≤ k := by
      intro k e
      rcases r3 with r3 | ⟨g, e2, hg⟩
      · rw [r3] at e; cases e; exact Nat.le_refl _
      · rw [e] at e2; cases e2; simp at hg; omega
    have R1 := Lib.hid r1; have HB2 := Lib.hid hb2; have HK := Lib.hid hk
    clear r1 r2 r3 hb1 hb2 hk
    go_wp2_with fail
    go_ret
    exact ⟨_, rfl, R1.out, HB2.out, HK.out⟩
set_option maxHeartbeats 4000000 in
set_option maxRecDepth 100000 in
theorem qof_any {w : World} {x : Option Addr} {m : Bool} {f : Txt → Option Txt} (h : Look w x m f) (hf : FitF f) (t : Int) {ids : List Int} {vi : Value} (hl : ids.length ≤ 100000000) (hi : I64s ids) (hrd : Rd w intE 1 vi ids) :
    Calls Try.prog 87 #[.pointer x, .int .i64 t, vi] w (Ret w (.agg (qC x t vi (endsF f t ids).1 (endsF f t ids).2))) := by
  have H := Lib.hid h; have HF := Lib.hid hf; have HID := Lib.hid (And.intro hl (And.intro hi hrd))
  obtain ⟨adi, capi, rfl, _, _⟩ := hrd.shape
  clear h hf hl hi hrd
  go_enter Try.func87, Try.ntmps87
  go_wp2_with (refine wpList_alloc_g rfl _ rfl _ _ Try.zeroQ rfl ?_)
  intro R w1 h1
  have HR1 := Lib.hid h1.out.cells; have HB1 := Lib.hid h1.out.below; have HRW : Hid (w.heap.size ≤ R) := Lib.hid (Nat.le_of_eq h1.out.eq.symm)
  clear h1
  go_wp2_with (refine wpList_alloc_g rfl _ rfl _ _ Try.zeroQ rfl ?_)
  intro X w2 h2
  have HX2 := Lib.hid h2.out.cells; have HB2 := Lib.hid (HB1.out.trans (h2.out.below.mono HB1.out.size)); have HR2 := Lib.hid (below_at' h2.out.below HR1.out); have HXW : Hid (w.heap.size ≤ X) := Lib.hid (by rw [h2.out.eq]; exact HB1.out.size)
  have HXR : Hid (X ≠ R) := Lib.hid (by have := heap_lt HR1.out; have := h2.out.eq; omega)
  clear h2 HB1 HR1
  go_wp2_with (refine wpList_store_row_g (t := 147) (old := #[.pointer none, .int .i64 0, .slice none 0 0, .int .i64 0, .int .i64 0]) rfl 147 _ _ rfl X #[.pointer x, .int .i64 t, .slice adi ids.length capi, .int .i64 0, .int .i64 0] rfl rfl HX2.out Try.sizeQ rfl (by simp [Value.oneCell']) ?_)
  intro w3 hx3 k23 z23
  have HX3 := Lib.hid hx3; have HB3 := Lib.hid (HB2.out.trans (k23.below (B := w.heap.size) (fun y hy e => by have := HXW.out; omega) HB2.out.size)); have HR3 := Lib.hid (k23.at HR2.out (fun e => HXR.out e.symm))
  clear hx3 k23 z23 HX2 HB2 HR2
  go_wp2_with fail
  refine (key_any t ids _ _ HID.out.1 HID.out.2.1 (HID.out.2.2.later HB3.out)).mono ?_
  rintro e w4 ⟨rfl, hb⟩
  have HX4 := Lib.hid (below_at' hb HX3.out); have HB4 := Lib.hid (HB3.out.trans (hb.mono HB3.out.size)); have HR4 := Lib.hid (below_at' hb HR3.out)
  clear hb HX3 HB3 HR3
  go_wp2_with fail
  refine (row_any (H.out.later HB4.out) HF.out (keyF t ids)).mono ?_
  rintro e w5 ⟨v, rfl, ho, hb⟩
  obtain ⟨l, hll⟩ : ∃ l, l = rowF (valF f (keyF t ids)) := ⟨_, rfl⟩
  rw [← hll] at ho
  have HG : Hid (endsF f t ids = endsL l) := Lib.hid (by rw [hll]; rfl)
  have HO := Lib.hid (RowRet.rd ho)
  have HX5 := Lib.hid (below_at' hb HX4.out); have HB5 := Lib.hid (HB4.out.trans (hb.mono HB4.out.size)); have HR5 := Lib.hid (below_at' hb HR4.out)
  clear ho hll hb HX4 HB4 HR4
  obtain ⟨ad, cap, rfl, c1, c2⟩ := HO.out.shape
  obtain ⟨n, hn⟩ : ∃ n, n = l.length := ⟨_, rfl⟩
  rw [← hn] at c1 HO ⊢
  have HN := Lib.hid hn
  clear hn
  by_cases h2 : n = 2
  · subst h2
    obtain ⟨a, b, rfl⟩ := two_of HN.out.symm
    obtain ⟨q, off, rfl, hq, t0⟩ := HO.out.at 0 (by simp)
    obtain ⟨q', off', e', _, t1⟩ := HO.out.at 1 (by simp)
    cases e'
    have hS : w5.drew.cell? ⟨q, off, none⟩ = some (.int .i64 a) ∧ w5.drew.cell? ⟨q, off + 1, none⟩ = some (.int .i64 b) := ⟨t0, t1⟩
    have HT := Lib.hid hS
    clear t0 t1 hq
    by_cases hab : a ≤ b
    · have HE : Hid (endsF f t ids = (a, b)) := Lib.hid (by rw [HG.out]; exact if_pos hab)
      go_wp2_with fail
      refine wp_region_till (fun w' => w'.cell? ⟨q, off, none⟩ = some (.int .i64 a) ∧ w'.cell? ⟨q, off + 1, none⟩ = some (.int .i64 b)) 12 12 (by kernel_rfl) rfl ?_
      refine till_take 0 (some 18) rfl rfl (by kernel_rfl) (by kernel_rfl) (by kernel_rfl) (by kernel_rfl) (by kernel_rfl) (by kernel_rfl) (fun _ _ _ h => h) (.inl ⟨by rfl, fun w' _ => (by go_simp; rfl)⟩) hS ?_
      go_frame
      refine till_take 1 (some 19) rfl rfl (by kernel_rfl) (by kernel_rfl) (by kernel_rfl) (by kernel_rfl) (by kernel_rfl) (by kernel_rfl) (fun _ _ _ h => h) (.inl ⟨by rfl, fun w' _ => (by go_simp; rfl)⟩) hS ?_
      go_frame
      refine till_take 2 (some 20) rfl rfl (by kernel_rfl) (by kernel_rfl) (by kernel_rfl) (by kernel_rfl) (by kernel_rfl) (by kernel_rfl) (fun _ _ _ h => h) (.inl ⟨by rfl, fun w' _ => (by go_simp; rfl)⟩) hS ?_
      go_frame
      refine till_take 3 (some 21) rfl rfl (by kernel_rfl) (by kernel_rfl) (by kernel_rfl) (by kernel_rfl) (by kernel_rfl) (by kernel_rfl) (fun _ _ _ h => h) (.inl ⟨by rfl, fun w' _ => (by go_simp; rfl)⟩) hS ?_
      go_frame
      refine till_take 4 (some 22) rfl rfl (by kernel_rfl) (by kernel_rfl) (by kernel_rfl) (by kernel_rfl) (by kernel_rfl) (by kernel_rfl) (fun _ _ _ h => h) (.inl ⟨by rfl, fun w' _ => (by go_simp; rfl)⟩) hS ?_
      go_frame
      refine till_take 5 (some 23) rfl rfl (by kernel_rfl) (by kernel_rfl) (by kernel_rfl) (by kernel_rfl) (by kernel_rfl) (by kernel_rfl) (fun _ _ _ h => h) (.inl ⟨by rfl, fun w' _ => (by go_simp; rfl)⟩) hS ?_
      go_frame
      refine till_take 6 (some 24) rfl rfl (by kernel_rfl) (by kernel_rfl) (by kernel_rfl) (by kernel_rfl) (by kernel_rfl) (by kernel_rfl) (fun _ _ _ h => h) (.inl ⟨by rfl, fun w' hS' => (by obtain ⟨hc1, hc2⟩ := hS'; go_simp; rfl)⟩) hS ?_
      go_frame
      refine till_take 7 (some 25) rfl rfl (by kernel_rfl) (by kernel_rfl) (by kernel_rfl) (by kernel_rfl) (by kernel_rfl) (by kernel_rfl) (fun _ _ _ h => h) (.inl ⟨by rfl, fun w' _ => (by go_simp; rfl)⟩) hS ?_
      go_frame
      refine till_take 8 (some 26) rfl rfl (by kernel_rfl) (by kernel_rfl) (by kernel_rfl) (by kernel_rfl) (by kernel_rfl) (by kernel_rfl) (fun _ _ _ h => h) (.inl ⟨by rfl, fun w' _ => (by go_simp; rfl)⟩) hS ?_
      go_frame
      refine till_take 9 (some 27) rfl rfl (by kernel_rfl) (by kernel_rfl) (by kernel_rfl) (by kernel_rfl) (by kernel_rfl) (by kernel_rfl) (fun _ _ _ h => h) (.inl ⟨by rfl, fun w' hS' => (by obtain ⟨hc1, hc2⟩ := hS'; go_simp; rfl)⟩) hS ?_
      go_frame
      refine till_take 10 (some 28) rfl rfl (by kernel_rfl) (by kernel_rfl) (by kernel_rfl) (by kernel_rfl) (by kernel_rfl) (by kernel_rfl) (fun _ _ _ h => h) (.inl ⟨by rfl, fun w' _ => (by go_simp; rfl)⟩) hS ?_
      go_frame
      refine till_take 11 (some 29) rfl rfl (by kernel_rfl) (by kernel_rfl) (by kernel_rfl) (by kernel_rfl) (by kernel_rfl) (by kernel_rfl) (fun _ _ _ h => h) (.inl ⟨by rfl, fun w' _ => (by go_simp; rfl)⟩) hS ?_
      go_frame
      refine till_done (by kernel_rfl) ?_ _
      clear hS
      have harr := fun w => Try.arr2 q off cap w
      have HBD := Lib.hid HB5.out.drew
      go_wp2_with (first
        | (refine wpList_load_mid rfl 145 _ rfl q off rfl [.int .i64 a, .int .i64 b] _ (rng2 HT.out.1 HT.out.2) Try.underlying145 rfl Try.sizeE ?_)
        | (refine wpList_store_part_g rfl 145 _ _ rfl X 3 #[.int .i64 a, .int .i64 b] rfl rfl 147 _ HX5.out Try.sizeE (by simp) (by simp [Value.oneCell']) (qC x t (.slice adi ids.length capi) a b) rfl ?_))
      intro w6 hx6 k56 z56
      have HX6 := Lib.hid hx6; have HB6 := Lib.hid (HBD.out.trans (k56.below (B := w.heap.size) (fun y hy e => by have := HXW.out; omega) HBD.out.size)); have HR6 := Lib.hid (k56.at (show w5.drew.heap[R]? = _ from HR5.out) (fun e => HXR.out e.symm))
      clear hx6 k56 z56 HX5 HB5 HR5 HBD
      go_wp2_with (first
        | (refine wpList_load_row rfl 147 _ rfl X rfl 147 (qC x t (.slice adi ids.length capi) a b) _ _ HX6.out Try.underlying147 rfl Try.sizeQ ?_)
        | (refine wpList_store_row_g (t := 147) (old := #[.pointer none, .int .i64 0, .slice none 0 0, .int .i64 0, .int .i64 0]) rfl 147 _ _ rfl R (qC x t (.slice adi ids.length capi) a b) rfl rfl HR6.out Try.sizeQ rfl (by simp [qC, Value.oneCell']) ?_))
      intro wf hxf kf zf
      have HXF := Lib.hid hxf; have HBF := Lib.hid (HB6.out.trans (kf.below (B := w.heap.size) (fun y hy e => by have := HRW.out; omega) HB6.out.size))
      clear hxf kf zf
      go_wp2_with fail
      exact bodyPost_ret (results_cell_row rfl _ _ _ _ _ _ _ rfl HXF.out Try.underlying147 rfl Try.sizeQ) rfl ⟨by rw [HE.out], HBF.out⟩
    · have HE : Hid (endsF f t ids = (0, 0)) := Lib.hid (by rw [HG.out]; exact if_neg hab)
      go_wp2_with fail
      refine wp_region_till (fun w' => w'.cell? ⟨q, off, none⟩ = some (.int .i64 a) ∧ w'.cell? ⟨q, off + 1, none⟩ = some (.int .i64 b)) 12 12 (by kernel_rfl) rfl ?_
      refine till_take 0 (some 18) rfl rfl (by kernel_rfl) (by kernel_rfl) (by kernel_rfl) (by kernel_rfl) (by kernel_rfl) (by kernel_rfl) (fun _ _ _ h => h) (.inl ⟨by rfl, fun w' _ => (by go_simp; rfl)⟩) hS ?_
      go_frame
      refine till_take 1 (some 19) rfl rfl (by kernel_rfl) (by kernel_rfl) (by kernel_rfl) (by kernel_rfl) (by kernel_rfl) (by kernel_rfl) (fun _ _ _ h => h) (.inl ⟨by rfl, fun w' _ => (by go_simp; rfl)⟩) hS ?_
      go_frame
      refine till_take 2 (some 20) rfl rfl (by kernel_rfl) (by kernel_rfl) (by kernel_rfl) (by kernel_rfl) (by kernel_rfl) (by kernel_rfl) (fun _ _ _ h => h) (.inl ⟨by rfl, fun w' _ => (by go_simp; rfl)⟩) hS ?_
      go_frame
      refine till_take 3 (some 21) rfl rfl (by kernel_rfl) (by kernel_rfl) (by kernel_rfl) (by kernel_rfl) (by kernel_rfl) (by kernel_rfl) (fun _ _ _ h => h) (.inl ⟨by rfl, fun w' _ => (by go_simp; rfl)⟩) hS ?_
      go_frame
      refine till_take 4 (some 22) rfl rfl (by kernel_rfl) (by kernel_rfl) (by kernel_rfl) (by kernel_rfl) (by kernel_rfl) (by kernel_rfl) (fun _ _ _ h => h) (.inl ⟨by rfl, fun w' _ => (by go_simp; rfl)⟩) hS ?_
      go_frame
      refine till_take 5 (some 23) rfl rfl (by kernel_rfl) (by kernel_rfl) (by kernel_rfl) (by kernel_rfl) (by kernel_rfl) (by kernel_rfl) (fun _ _ _ h => h) (.inl ⟨by rfl, fun w' _ => (by go_simp; rfl)⟩) hS ?_
      go_frame
      refine till_take 6 (some 24) rfl rfl (by kernel_rfl) (by kernel_rfl) (by kernel_rfl) (by kernel_rfl) (by kernel_rfl) (by kernel_rfl) (fun _ _ _ h => h) (.inl ⟨by rfl, fun w' hS' => (by obtain ⟨hc1, hc2⟩ := hS'; go_simp; rfl)⟩) hS ?_
      go_frame
      refine till_take 7 (some 25) rfl rfl (by kernel_rfl) (by kernel_rfl) (by kernel_rfl) (by kernel_rfl) (by kernel_rfl) (by kernel_rfl) (fun _ _ _ h => h) (.inl ⟨by rfl, fun w' _ => (by go_simp; rfl)⟩) hS ?_
      go_frame
      refine till_take 8 (some 26) rfl rfl (by kernel_rfl) (by kernel_rfl) (by kernel_rfl) (by kernel_rfl) (by kernel_rfl) (by kernel_rfl) (fun _ _ _ h => h) (.inl ⟨by rfl, fun w' _ => (by go_simp; rfl)⟩) hS ?_
      go_frame
      refine till_take 9 (some 27) rfl rfl (by kernel_rfl) (by kernel_rfl) (by kernel_rfl) (by kernel_rfl) (by kernel_rfl) (by kernel_rfl) (fun _ _ _ h => h) (.inl ⟨by rfl, fun w' hS' => (by obtain ⟨hc1, hc2⟩ := hS'; go_simp; rfl)⟩) hS ?_
      go_frame
      refine till_take 10 (some 28) rfl rfl (by kernel_rfl) (by kernel_rfl) (by kernel_rfl) (by kernel_rfl) (by kernel_rfl) (by kernel_rfl) (fun _ _ _ h => h) (.inl ⟨by rfl, fun w' _ => (by go_simp; rfl)⟩) hS ?_
      go_frame
      refine till_take 11 (some 29) rfl rfl (by kernel_rfl) (by kernel_rfl) (by kernel_rfl) (by kernel_rfl) (by kernel_rfl) (by kernel_rfl) (fun _ _ _ h => h) (.inl ⟨by rfl, fun w' _ => (by go_simp; rfl)⟩) hS ?_
      go_frame
      refine till_done (by kernel_rfl) ?_ _
      clear hS
      have HB5 : Hid (Below w.heap.size w w5.drew) := Lib.hid HB5.out.drew
      have HX5 : Hid (w5.drew.heap[X]? = some (.cells (qC x t (.slice adi ids.length capi) 0 0) 147 (0, 0))) := HX5
      have HR5 : Hid (w5.drew.heap[R]? = some (.cells #[.pointer none, .int .i64 0, .slice none 0 0, .int .i64 0, .int .i64 0] 147 (0, 0))) := HR5
      go_wp2_with (first
        | (refine wpList_load_row rfl 147 _ rfl X rfl 147 (qC x t (.slice adi ids.length capi) 0 0) _ _ HX5.out Try.underlying147 rfl Try.sizeQ ?_)
        | (refine wpList_store_row_g (t := 147) (old := #[.pointer none, .int .i64 0, .slice none 0 0, .int .i64 0, .int .i64 0]) rfl 147 _ _ rfl R (qC x t (.slice adi ids.length capi) 0 0) rfl rfl HR5.out Try.sizeQ rfl (by simp [qC, Value.oneCell']) ?_))
      intro wf hxf kf zf
      have HXF := Lib.hid hxf; have HBF := Lib.hid (HB5.out.trans (kf.below (B := w.heap.size) (fun y hy e => by have := HRW.out; omega) HB5.out.size))
      clear hxf kf zf
      go_wp2_with fail
      exact bodyPost_ret (results_cell_row rfl _ _ _ _ _ _ _ rfl HXF.out Try.underlying147 rfl Try.sizeQ) rfl ⟨by rw [HE.out], HBF.out⟩
  · have hd2 : ((n : Int) == 2) = false := beq_eq_false_iff_ne.2 (by omega)
    have HE : Hid (endsF f t ids = (0, 0)) := Lib.hid (by rw [HG.out]; exact endsL_no (by rw [← HN.out]; exact h2))
    clear h2
    have hS : True := trivial
    go_wp2_with fail
    refine wp_region_till (fun _ => True) 12 12 (by kernel_rfl) rfl ?_
    refine till_take 0 (some 18) rfl rfl (by kernel_rfl) (by kernel_rfl) (by kernel_rfl) (by kernel_rfl) (by kernel_rfl) (by kernel_rfl) (fun _ _ _ h => h) (.inl ⟨by rfl, fun w' _ => (by go_simp; rfl)⟩) hS ?_
    go_frame
    refine till_take 1 (some 19) rfl rfl (by kernel_rfl) (by kernel_rfl) (by kernel_rfl) (by kernel_rfl) (by kernel_rfl) (by kernel_rfl) (fun _ _ _ h => h) (.inl ⟨by rfl, fun w' _ => (by go_simp; rfl)⟩) hS ?_
    go_frame
    refine till_take 2 (some 20) rfl rfl (by kernel_rfl) (by kernel_rfl) (by kernel_rfl) (by kernel_rfl) (by kernel_rfl) (by kernel_rfl) (fun _ _ _ h => h) (.inl ⟨by rfl, fun w' _ => (by go_simp; rfl)⟩) hS ?_
    go_frame
    refine till_take 3 (some 21) rfl rfl (by kernel_rfl) (by kernel_rfl) (by kernel_rfl) (by kernel_rfl) (by kernel_rfl) (by kernel_rfl) (fun _ _ _ h => h) (.inl ⟨by rfl, fun w' _ => (by go_simp; rfl)⟩) hS ?_
    go_frame
    refine till_take 4 (some 22) rfl rfl (by kernel_rfl) (by kernel_rfl) (by kernel_rfl) (by kernel_rfl) (by kernel_rfl) (by kernel_rfl) (fun _ _ _ h => h) (.inr ⟨by rfl, rfl⟩) hS ?_
    go_frame
    refine till_take 5 (some 23) rfl rfl (by kernel_rfl) (by kernel_rfl) (by kernel_rfl) (by kernel_rfl) (by kernel_rfl) (by kernel_rfl) (fun _ _ _ h => h) (.inr ⟨by rfl, rfl⟩) hS ?_
    go_frame
    refine till_take 6 (some 24) rfl rfl (by kernel_rfl) (by kernel_rfl) (by kernel_rfl) (by kernel_rfl) (by kernel_rfl) (by kernel_rfl) (fun _ _ _ h => h) (.inr ⟨by rfl, rfl⟩) hS ?_
    go_frame
    refine till_take 7 (some 25) rfl rfl (by kernel_rfl) (by kernel_rfl) (by kernel_rfl) (by kernel_rfl) (by kernel_rfl) (by kernel_rfl) (fun _ _ _ h => h) (.inr ⟨by rfl, rfl⟩) hS ?_
    go_frame
    refine till_take 8 (some 26) rfl rfl (by kernel_rfl) (by kernel_rfl) (by kernel_rfl) (by kernel_rfl) (by kernel_rfl) (by kernel_rfl) (fun _ _ _ h => h) (.inr ⟨by rfl, rfl⟩) hS ?_
    go_frame
    refine till_take 9 (some 27) rfl rfl (by kernel_rfl) (by kernel_rfl) (by kernel_rfl) (by kernel_rfl) (by kernel_rfl) (by kernel_rfl) (fun _ _ _ h => h) (.inr ⟨by rfl, rfl⟩) hS ?_
    go_frame
    refine till_take 10 (some 28) rfl rfl (by kernel_rfl) (by kernel_rfl) (by kernel_rfl) (by kernel_rfl) (by kernel_rfl) (by kernel_rfl) (fun _ _ _ h => h) (.inr ⟨by rfl, rfl⟩) hS ?_
    go_frame
    refine till_take 11 (some 29) rfl rfl (by kernel_rfl) (by kernel_rfl) (by kernel_rfl) (by kernel_rfl) (by kernel_rfl) (by kernel_rfl) (fun _ _ _ h => h) (.inl ⟨by rfl, fun w' _ => (by go_simp; rfl)⟩) hS ?_
    go_frame
    refine till_done (by kernel_rfl) ?_ _
    have HB5 : Hid (Below w.heap.size w w5.drew) := Lib.hid HB5.out.drew
    have HX5 : Hid (w5.drew.heap[X]? = some (.cells (qC x t (.slice adi ids.length capi) 0 0) 147 (0, 0))) := HX5
    have HR5 : Hid (w5.drew.heap[R]? = some (.cells #[.pointer none, .int .i64 0, .slice none 0 0, .int .i64 0, .int .i64 0] 147 (0, 0))) := HR5
    go_wp2_with (first
      | (refine wpList_load_row rfl 147 _ rfl X rfl 147 (qC x t (.slice adi ids.length capi) 0 0) _ _ HX5.out Try.underlying147 rfl Try.sizeQ ?_)
      | (refine wpList_store_row_g (t := 147) (old := #[.pointer none, .int .i64 0, .slice none 0 0, .int .i64 0, .int .i64 0]) rfl 147 _ _ rfl R (qC x t (.slice adi ids.length capi) 0 0) rfl rfl HR5.out Try.sizeQ rfl (by simp [qC, Value.oneCell']) ?_))
    intro wf hxf kf zf
    have HXF := Lib.hid hxf; have HBF := Lib.hid (HB5.out.trans (kf.below (B := w.heap.size) (fun y hy e => by have := HRW.out; omega) HB5.out.size))
    clear hxf kf zf
    go_wp2_with fail
    exact bodyPost_ret (results_cell_row rfl _ _ _ _ _ _ _ rfl HXF.out Try.underlying147 rfl Try.sizeQ) rfl ⟨by rw [HE.out], HBF.out⟩

set_option maxHeartbeats 4000000 in
theorem qlen_any (x : Option Addr) (t : Int) (vi : Value) (a b : Int) (ha : 0 ≤ a ∧ a ≤ b ∧ b < 9223372036854775808) (w : World) :
    Calls Try.prog 88 #[.agg (qC x t vi a b)] w (Ret w (.int .i64 (b - a))) := by
  obtain ⟨h1, h2, h3⟩ := ha
  unfold qC
  go_enter Try.func88, Try.ntmps88
  go_wp2_with fail
  go_ret
  exact ⟨rfl, below_new w _⟩

set_option maxHeartbeats 4000000 in
set_option maxRecDepth 100000 in
theorem qat_any {w : World} {x : Option Addr} {t : Int} {ids : List Int} {vi : Value} (a b : Int) {n : Int} (hl : ids.length ≤ 1000000) (hi : I64s ids) (hrd : Rd w intE 1 vi ids) (hn : -9223372036854775808 ≤ n ∧ n < 9223372036854775808) :
    Calls Try.prog 89 #[.agg (qC x t vi a b), .int .i64 n] w (Ret w (.string (bs (keyF t (ids ++ [n]))))) := by
  have HRD := Lib.hid hrd; have HL := Lib.hid hl; have HI := Lib.hid hi; have HNB := Lib.hid hn
  obtain ⟨adi, capi, rfl, _, _⟩ := hrd.shape
  clear hrd hl hi hn
  show Calls Try.prog 89 #[.agg #[.pointer x, .int .i64 t, .slice adi ids.length capi, .int .i64 a, .int .i64 b], .int .i64 n] w _
  go_enter Try.func89, Try.ntmps89
  go_wp2_with fail
  obtain ⟨w1, hw1⟩ : ∃ w1, w1 = w.alloc (.cells #[.pointer x, .int .i64 t, .slice adi ids.length capi, .int .i64 a, .int .i64 b] 147) := ⟨_, rfl⟩
  obtain ⟨R, hR⟩ : ∃ R, R = w.heap.size := ⟨_, rfl⟩
  rw [← hw1, ← hR]
  have hx1 : w1.heap[R]? = some (.cells #[.pointer x, .int .i64 t, .slice adi ids.length capi, .int .i64 a, .int .i64 b] 147 (0, 0)) := by rw [hw1, hR]; exact heap_alloc_new _ _
  have hb1 : Below w.heap.size w w1 := by rw [hw1]; exact below_new w _
  clear hw1 hR
  obtain ⟨wz, hwz⟩ : ∃ wz, wz = w1.drew := ⟨_, rfl⟩
  have hbz : Below w1.heap.size w1 wz := by rw [hwz]; exact Below.drew (Below.refl _ _)
  have BK0 := Lib.hid (hb1.trans (hbz.mono hb1.size)); have HX0 := Lib.hid (below_at' hbz hx1)
  have RI0 := Lib.hid (HRD.out.later BK0.out)
  have hS : wz.cell? ⟨R, 1, none⟩ = some (.int .i64 t) ∧ wz.cell? ⟨R, 2, none⟩ = some (.slice adi ids.length capi) := ⟨Lib.cell_of_heap HX0.out 1, Lib.cell_of_heap HX0.out 2⟩
  clear hx1 hb1 hbz HRD
  refine wp_region_till (fun w' => w'.cell? ⟨R, 1, none⟩ = some (.int .i64 t) ∧ w'.cell? ⟨R, 2, none⟩ = some (.slice adi ids.length capi)) 10 10 (by kernel_rfl) rfl ?_
  rw [← hwz]
  clear hwz
  refine till_take 0 (some 5) rfl rfl (by kernel_rfl) (by kernel_rfl) (by kernel_rfl) (by kernel_rfl) (by kernel_rfl) (by kernel_rfl) (fun _ _ _ h => h) (.inl ⟨by rfl, fun w' _ => (by go_simp; rfl)⟩) hS ?_
  go_frame
  refine till_take 1 (some 6) rfl rfl (by kernel_rfl) (by kernel_rfl) (by kernel_rfl) (by kernel_rfl) (by kernel_rfl) (by kernel_rfl) (fun _ _ _ h => h) (.inl ⟨by rfl, fun w' hS' => (by obtain ⟨hc1, hc2⟩ := hS'; go_simp; rfl)⟩) hS ?_
  go_frame
  refine till_take 2 (some 7) rfl rfl (by kernel_rfl) (by kernel_rfl) (by kernel_rfl) (by kernel_rfl) (by kernel_rfl) (by kernel_rfl) (fun _ _ _ h => h) (.inl ⟨by rfl, fun w' _ => (by go_simp; rfl)⟩) hS ?_
  go_frame
  refine till_take 3 (some 8) rfl rfl (by kernel_rfl) (by kernel_rfl) (by kernel_rfl) (by kernel_rfl) (by kernel_rfl) (by kernel_rfl) (fun _ _ _ h => h) (.inl ⟨by rfl, fun w' hS' => (by obtain ⟨hc1, hc2⟩ := hS'; go_simp; rfl)⟩) hS ?_
  go_frame
  refine till_take 5 (some 10) rfl rfl (by kernel_rfl) (by kernel_rfl) (by kernel_rfl) (by kernel_rfl) (by kernel_rfl) (by kernel_rfl) (fun _ _ _ h => h) (.inl ⟨by rfl, fun w' _ => (by go_simp; rfl)⟩) hS ?_
  go_frame
  refine till_two 4 6 rfl rfl (by kernel_rfl) (fun K hK => ?_) (fun K hK => ?_)
  · simp only [List.getElem_toArray, List.getElem_cons_succ, List.getElem_cons_zero]
    rw [if_pos (by rfl)]
    go_simp
    refine (clone_ints _ _ ids RI0.out (by have := HL.out; omega)).mono ?_
    rintro e wt1 ⟨vc, rfl, lc, hb, kc⟩
    have BK1 := Lib.hid (BK0.out.trans (hb.mono BK0.out.size))
    have HX1 := Lib.hid (below_at' hb HX0.out)
    have RI1 := Lib.hid (RI0.out.later hb)
    have LC1 := Lib.hid lc
    have KC : Hid (∀ k, vc.ownBlock = some k → w.heap.size ≤ k ∧ k ≠ R) := Lib.hid fun k e => ⟨Nat.le_trans BK0.out.size (kc k e), fun e2 => by have := heap_lt HX0.out; have := kc k e; omega⟩
    clear lc kc
    have hS1 := (And.intro (Lib.cell_of_heap HX1.out 1) (Lib.cell_of_heap HX1.out 2) : wt1.cell? ⟨R, 1, none⟩ = some (.int .i64 t) ∧ wt1.cell? ⟨R, 2, none⟩ = some (.slice adi ids.length capi))
    refine hK _ _ (fun _ _ => hS1) ?_
    clear hK hS hb BK0 HX0 RI0
    have hS := hS1
    clear hS1
    refine till_one 6 rfl (by kernel_rfl) (fun K hK => ?_)
    · simp only [List.getElem_toArray, List.getElem_cons_succ, List.getElem_cons_zero]
      rw [if_pos (by rfl)]
      go_simp
      obtain ⟨wt2, hwn⟩ : ∃ wn, wn = World.alloc wt1 (.cells #[.int .i64 n] 3) := ⟨_, rfl⟩
      obtain ⟨A, hA⟩ : ∃ A, A = (World.heap wt1).size := ⟨_, rfl⟩
      rw [← hwn, ← hA]
      have hb : Below (World.heap wt1).size wt1 wt2 := by rw [hwn]; exact below_new _ _
      have hra : Rd wt2 intE 1 (.slice (some ⟨A, 0, none⟩) 1 1) [n] := by rw [hwn, hA]; exact lit1 _ _
      have BK2 := Lib.hid (BK1.out.trans (hb.mono BK1.out.size))
      have HX2 := Lib.hid (below_at' hb HX1.out)
      have RI2 := Lib.hid (RI1.out.later hb)
      have LC2 := Lib.hid (LC1.out.later hb)
      have RA2 := Lib.hid hra
      clear hra hwn hA
      have hS1 := (And.intro (Lib.cell_of_heap HX2.out 1) (Lib.cell_of_heap HX2.out 2) : wt2.cell? ⟨R, 1, none⟩ = some (.int .i64 t) ∧ wt2.cell? ⟨R, 2, none⟩ = some (.slice adi ids.length capi))
      refine hK _ _ (fun _ _ => hS1) ?_
      clear hK hS hb BK1 HX1 RI1 LC1
      have hS := hS1
      clear hS1
      refine till_one 7 rfl (by kernel_rfl) (fun K hK => ?_)
      · simp only [List.getElem_toArray, List.getElem_cons_succ, List.getElem_cons_zero]
        rw [if_pos (by rfl)]
        refine wp_lo_apps (l := ids) (l2 := [n]) _ _ 43 43 rfl Try.underlying43 Try.underlying43 Try.infoCI rfl (by decide) intE_len (intE_ones _) LC2.out rfl _ rfl RA2.out (by have := HL.out; unfold maxLen; simp; omega) (by have := HL.out; simp; omega) ?_
        intro va wt3 la ka _
        have BK3 := Lib.hid (BK2.out.trans (ka.below (B := w.heap.size) (fun q hq e => by have := (KC.out q e).1; omega) BK2.out.size))
        have HX3 := Lib.hid (ka.at HX2.out (fun e => (KC.out R e).2 rfl))
        have LA3 := Lib.hid la
        have hS1 := (And.intro (Lib.cell_of_heap HX3.out 1) (Lib.cell_of_heap HX3.out 2) : wt3.cell? ⟨R, 1, none⟩ = some (.int .i64 t) ∧ wt3.cell? ⟨R, 2, none⟩ = some (.slice adi ids.length capi))
        refine hK _ _ (fun _ _ => hS1) ?_
        clear hK hS la ka BK2 HX2 RI2 LC2 RA2
        have hS := hS1
        clear hS1
        refine till_one 8 rfl (by kernel_rfl) (fun K hK => ?_)
        · simp only [List.getElem_toArray, List.getElem_cons_succ, List.getElem_cons_zero]
          rw [if_pos (by rfl)]
          go_simp
          refine (key_any t (ids ++ [n]) _ _ (by have := HL.out; simp; omega) (I64s_snoc HI.out HNB.out) (LA3.out.rd intE_len)).mono ?_
          rintro e wt4 ⟨rfl, hb⟩
          have BK4 := Lib.hid (BK3.out.trans (hb.mono BK3.out.size))
          have HX4 := Lib.hid (below_at' hb HX3.out)
          have LA4 := Lib.hid (LA3.out.later hb)
          have hS1 := (And.intro (Lib.cell_of_heap HX4.out 1) (Lib.cell_of_heap HX4.out 2) : wt4.cell? ⟨R, 1, none⟩ = some (.int .i64 t) ∧ wt4.cell? ⟨R, 2, none⟩ = some (.slice adi ids.length capi))
          refine hK _ _ (fun _ _ => hS1) ?_
          clear hK hS hb BK3 HX3 LA3
          have hS := hS1
          clear hS1
          refine till_take 9 (some 4) rfl rfl (by kernel_rfl) (by kernel_rfl) (by kernel_rfl) (by kernel_rfl) (by kernel_rfl) (by kernel_rfl) (fun _ _ _ h => h) (.inl ⟨by rfl, fun w' _ => (by go_simp; rfl)⟩) hS ?_
          go_frame
          refine till_done (by kernel_rfl) ?_ _
          go_wp2_with fail
          go_ret
          exact ⟨rfl, BK4.out⟩
  · simp only [List.getElem_toArray, List.getElem_cons_succ, List.getElem_cons_zero]
    rw [if_pos (by rfl)]
    go_simp
    obtain ⟨wt5, hwn⟩ : ∃ wn, wn = World.alloc wz (.cells #[.int .i64 n] 3) := ⟨_, rfl⟩
    obtain ⟨A, hA⟩ : ∃ A, A = (World.heap wz).size := ⟨_, rfl⟩
    rw [← hwn, ← hA]
    have hb : Below (World.heap wz).size wz wt5 := by rw [hwn]; exact below_new _ _
    have hra : Rd wt5 intE 1 (.slice (some ⟨A, 0, none⟩) 1 1) [n] := by rw [hwn, hA]; exact lit1 _ _
    have BK5 := Lib.hid (BK0.out.trans (hb.mono BK0.out.size))
    have HX5 := Lib.hid (below_at' hb HX0.out)
    have RI5 := Lib.hid (RI0.out.later hb)
    have RA5 := Lib.hid hra
    clear hra hwn hA
    have hS1 := (And.intro (Lib.cell_of_heap HX5.out 1) (Lib.cell_of_heap HX5.out 2) : wt5.cell? ⟨R, 1, none⟩ = some (.int .i64 t) ∧ wt5.cell? ⟨R, 2, none⟩ = some (.slice adi ids.length capi))
    refine hK _ _ (fun _ _ => hS1) ?_
    clear hK hS hb BK0 HX0 RI0
    have hS := hS1
    clear hS1
    refine till_one 4 rfl (by kernel_rfl) (fun K hK => ?_)
    · simp only [List.getElem_toArray, List.getElem_cons_succ, List.getElem_cons_zero]
      rw [if_pos (by rfl)]
      go_simp
      refine (clone_ints _ _ ids RI5.out (by have := HL.out; omega)).mono ?_
      rintro e wt6 ⟨vc, rfl, lc, hb, kc⟩
      have BK6 := Lib.hid (BK5.out.trans (hb.mono BK5.out.size))
      have HX6 := Lib.hid (below_at' hb HX5.out)
      have RI6 := Lib.hid (RI5.out.later hb)
      have RA6 := Lib.hid (RA5.out.later hb)
      have LC6 := Lib.hid lc
      have KC : Hid (∀ k, vc.ownBlock = some k → w.heap.size ≤ k ∧ k ≠ R) := Lib.hid fun k e => ⟨Nat.le_trans BK5.out.size (kc k e), fun e2 => by have := heap_lt HX5.out; have := kc k e; omega⟩
      clear lc kc
      have hS1 := (And.intro (Lib.cell_of_heap HX6.out 1) (Lib.cell_of_heap HX6.out 2) : wt6.cell? ⟨R, 1, none⟩ = some (.int .i64 t) ∧ wt6.cell? ⟨R, 2, none⟩ = some (.slice adi ids.length capi))
      refine hK _ _ (fun _ _ => hS1) ?_
      clear hK hS hb BK5 HX5 RI5 RA5
      have hS := hS1
      clear hS1
      refine till_one 7 rfl (by kernel_rfl) (fun K hK => ?_)
      · simp only [List.getElem_toArray, List.getElem_cons_succ, List.getElem_cons_zero]
        rw [if_pos (by rfl)]
        refine wp_lo_apps (l := ids) (l2 := [n]) _ _ 43 43 rfl Try.underlying43 Try.underlying43 Try.infoCI rfl (by decide) intE_len (intE_ones _) LC6.out rfl _ rfl RA6.out (by have := HL.out; unfold maxLen; simp; omega) (by have := HL.out; simp; omega) ?_
        intro va wt7 la ka _
        have BK7 := Lib.hid (BK6.out.trans (ka.below (B := w.heap.size) (fun q hq e => by have := (KC.out q e).1; omega) BK6.out.size))
        have HX7 := Lib.hid (ka.at HX6.out (fun e => (KC.out R e).2 rfl))
        have LA7 := Lib.hid la
        have hS1 := (And.intro (Lib.cell_of_heap HX7.out 1) (Lib.cell_of_heap HX7.out 2) : wt7.cell? ⟨R, 1, none⟩ = some (.int .i64 t) ∧ wt7.cell? ⟨R, 2, none⟩ = some (.slice adi ids.length capi))
        refine hK _ _ (fun _ _ => hS1) ?_
        clear hK hS la ka BK6 HX6 RI6 RA6 LC6
        have hS := hS1
        clear hS1
        refine till_one 8 rfl (by kernel_rfl) (fun K hK => ?_)
        · simp only [List.getElem_toArray, List.getElem_cons_succ, List.getElem_cons_zero]
          rw [if_pos (by rfl)]
          go_simp
          refine (key_any t (ids ++ [n]) _ _ (by have := HL.out; simp; omega) (I64s_snoc HI.out HNB.out) (LA7.out.rd intE_len)).mono ?_
          rintro e wt8 ⟨rfl, hb⟩
          have BK8 := Lib.hid (BK7.out.trans (hb.mono BK7.out.size))
          have HX8 := Lib.hid (below_at' hb HX7.out)
          have LA8 := Lib.hid (LA7.out.later hb)
          have hS1 := (And.intro (Lib.cell_of_heap HX8.out 1) (Lib.cell_of_heap HX8.out 2) : wt8.cell? ⟨R, 1, none⟩ = some (.int .i64 t) ∧ wt8.cell? ⟨R, 2, none⟩ = some (.slice adi ids.length capi))
          refine hK _ _ (fun _ _ => hS1) ?_
          clear hK hS hb BK7 HX7 LA7
          have hS := hS1
          clear hS1
          refine till_take 9 (some 4) rfl rfl (by kernel_rfl) (by kernel_rfl) (by kernel_rfl) (by kernel_rfl) (by kernel_rfl) (by kernel_rfl) (fun _ _ _ h => h) (.inl ⟨by rfl, fun w' _ => (by go_simp; rfl)⟩) hS ?_
          go_frame
          refine till_done (by kernel_rfl) ?_ _
          go_wp2_with fail
          go_ret
          exact ⟨rfl, BK8.out⟩
end Go.Proofs.Ytohedljdkfmkdaa
