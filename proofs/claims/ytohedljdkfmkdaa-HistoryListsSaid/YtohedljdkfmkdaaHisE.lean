/- Chapter 11: HistoryTells, HistoryLists: the plain law, and the walks. No condition. -/
import Derived.Test.YtohedljdkfmkdaaHisD
namespace Go.Proofs.Ytohedljdkfmkdaa
open Go.RowKit

def lastB (H : List (Int × Nat)) : Int := (H.getLast?.map (·.1)).getD 0
def lastN (H : List (Int × Nat)) : Nat := (H.getLast?.map (·.2)).getD 0
theorem last_mem {H : List (Int × Nat)} {p : Int × Nat} (h : H.getLast? = some p) : p ∈ H := List.mem_of_getLast? h
theorem hisE_iff {H : List (Int × Nat)} {bk : Int} (hok : ∀ p ∈ H, 0 ≤ p.1) : hisE H bk = 0 ↔ lastB H ≤ bk ∧ bk ≤ 1099511627776 := by
  unfold hisE lastB
  cases hl : H.getLast? with
  | none =>
    simp only [Option.map_none, Option.getD_none]
    by_cases h : bk < 0 ∨ 1099511627776 < bk
    · rw [if_pos h]; constructor
      · intro e; cases e
      · intro e; omega
    · rw [if_neg h]; exact ⟨fun _ => by omega, fun _ => rfl⟩
  | some p =>
    have hp := hok p (last_mem hl)
    simp only [Option.map_some, Option.getD_some]
    by_cases h : bk < 0 ∨ 1099511627776 < bk
    · rw [if_pos h]; constructor
      · intro e; cases e
      · intro e; omega
    · rw [if_neg h]
      by_cases h2 : bk < p.1
      · rw [if_pos h2]; constructor
        · intro e; cases e
        · intro e; omega
      · rw [if_neg h2]; exact ⟨fun _ => by omega, fun _ => rfl⟩
theorem his_last {H : List (Int × Nat)} {bk : Int} {m : Nat} (h : hisE H bk = 0) : (hisS H bk m).getLast? = some (if H.getLast?.isSome = true ∧ m = lastN H ∧ bk ≠ lastB H then lastB H else bk, m) := by
  unfold hisS lastN lastB
  rw [if_pos h]
  cases hl : H.getLast? with
  | none => simp
  | some p =>
    simp only [Option.map_some, Option.getD_some, Option.isSome_some, true_and]
    by_cases h1 : bk = p.1
    · rw [if_pos h1, if_neg (fun e => e.2 h1)]; simp
    · rw [if_neg h1]
      by_cases h2 : m = p.2
      · rw [if_pos h2, if_pos ⟨h2, h1⟩, hl, h2]
      · rw [if_neg h2, if_neg fun e => h2 e.1]; simp
theorem his_look {H : List (Int × Nat)} {bk : Int} {m : Nat} (h : hisE H bk = 0) (q : Int) : (lookH (hisS H bk m) q).map (·.2) = if bk ≤ q then some m else (lookH H q).map (·.2) := by
  have hf : ∀ (l : List (Int × Nat)), (l ++ [(bk, m)]).filter (fun p => decide (p.1 ≤ q)) = l.filter (fun p => decide (p.1 ≤ q)) ++ (if bk ≤ q then [(bk, m)] else []) := by
    intro l
    rw [List.filter_append]
    by_cases hq : bk ≤ q
    · rw [if_pos hq]; simp [hq]
    · rw [if_neg hq]; simp [hq]
  unfold hisS lookH
  rw [if_pos h]
  cases hl : H.getLast? with
  | none =>
    have : H = [] := List.getLast?_eq_none_iff.1 hl
    subst this
    by_cases hq : bk ≤ q <;> simp [hq]
  | some p =>
    have hne : H ≠ [] := by intro e; subst e; cases hl
    have hd : H = H.dropLast ++ [p] := by
      have h1 := List.dropLast_concat_getLast hne
      have h2 := List.getLast?_eq_some_getLast hne
      rw [hl] at h2
      rw [Option.some.inj h2]; exact h1.symm
    simp only
    by_cases h1 : bk = p.1
    · rw [if_pos h1, hf]
      by_cases hq : bk ≤ q
      · rw [if_pos hq, if_pos hq]; simp
      · rw [if_neg hq, if_neg hq, List.append_nil]
        conv => rhs; rw [hd, List.filter_append]
        have : decide (p.1 ≤ q) = false := decide_eq_false (by omega)
        simp [this]
    · rw [if_neg h1]
      by_cases h2 : m = p.2
      · rw [if_pos h2]
        by_cases hq : bk ≤ q
        · rw [if_pos hq]
          have hle : p.1 ≤ bk := by
            unfold hisE at h
            rw [hl] at h
            split at h
            · cases h
            · simp only at h
              split at h
              · cases h
              · omega
          have : decide (p.1 ≤ q) = true := decide_eq_true (by omega)
          rw [hd, List.filter_append]
          simp [this, h2]
        · rw [if_neg hq]
      · rw [if_neg h2, hf]
        by_cases hq : bk ≤ q
        · rw [if_pos hq, if_pos hq]; simp
        · rw [if_neg hq, if_neg hq, List.append_nil]
theorem HisI.lastN_lt {f : Txt → Option Txt} {t : Int} {ids : List Int} {H : List (Int × Nat)} (h : HisI f t ids H) : lastN H < uMax := by
  unfold lastN
  cases hl : H.getLast? with
  | none => simp
  | some p => exact (h.ok p (last_mem hl)).2.2
theorem HisI.look_lt {f : Txt → Option Txt} {t : Int} {ids : List Int} {H : List (Int × Nat)} (h : HisI f t ids H) (q : Int) : ((lookH H q).map (·.2)).getD 0 < uMax := by
  cases hl : lookH H q with
  | none => simp
  | some p =>
    have := List.mem_of_getLast? hl
    exact (h.ok p (List.mem_filter.1 this).1).2.2
theorem HisI.look_at {f : Txt → Option Txt} {t : Int} {ids : List Int} {H : List (Int × Nat)} (h : HisI f t ids H) {i : Nat} (hi : i < H.length) : lookH H H[i].1 = some H[i] := by
  unfold lookH
  have e1 : (H.take (i + 1)).filter (fun p => decide (p.1 ≤ H[i].1)) = H.take (i + 1) := by
    rw [List.filter_eq_self]
    intro p hp
    obtain ⟨j, hj, rfl⟩ := List.getElem_of_mem hp
    rw [List.length_take] at hj
    rw [List.getElem_take]
    exact decide_eq_true (h.le (by omega) hi)
  have e2 : (H.drop (i + 1)).filter (fun p => decide (p.1 ≤ H[i].1)) = [] := by
    rw [List.filter_eq_nil_iff]
    intro p hp
    obtain ⟨j, hj, rfl⟩ := List.getElem_of_mem hp
    rw [List.length_drop] at hj
    rw [List.getElem_drop]
    have := List.pairwise_iff_getElem.1 h.rise i (i + 1 + j) hi (by omega) (by omega)
    simp only [decide_eq_true_eq]
    omega
  rw [show H.filter (fun p => decide (p.1 ≤ H[i].1)) = (H.take (i + 1) ++ H.drop (i + 1)).filter (fun p => decide (p.1 ≤ H[i].1)) by rw [List.take_append_drop], List.filter_append, e1, e2, List.append_nil, List.getLast?_eq_getElem?, List.length_take, Nat.min_eq_left (by omega), List.getElem?_take, if_pos (by omega), List.getElem?_eq_getElem (by omega)]
  rfl

/-- A row in the middle of a block is read, behind a guard that lets it by. -/
theorem wpList_load_mid_y {P : Program} {ops : Array Oper} {rest : List Oper} {op : Oper} {a : Act} {w : World} {Q : Exit → Act → World → Prop} (hw : Region.wanted op (yielded ops a.tmps) = true) (ty : TypeId) (x : Operand) (ho : op.op = .load ty x)
    (b o : Nat) (hx : a.eval x = .pointer (some ⟨b, o, none⟩)) (cs : List Value) (d : TypeDesc) (hc : w.rangeAt b o cs)
    (hu : P.underlying ty = some d) (hd : d.isRow = true) (hi : (P.info? ty).map (·.size) = some cs.length)
    (h : wpList P ops Q rest (a.put op.dst (.agg cs.toArray)) w) : wpList P ops Q (op :: rest) a w :=
  wpList_wanted hw fun _ hK => wp_load_mid ty x ho b o hx cs d hc hu hd hi (hK _ _ h)

theorem u0_look : u0 = #[.int .u64 (uw0 (0)), .int .u64 (uw1 (0)), .int .u64 (uw2 (0)), .int .u64 (uw3 (0))] := by kernel_rfl
/-- What HistoryTells knows. -/
structure Tel (w0 w : World) (g W Q : Nat) (s : PS) (H : List (Int × Nat)) (i : Nat) (bq : Int) : Prop where
  one : HOne w0 w g 9 [1] s H i
  want : w.heap[W]? = some (.cells #[.int .u64 (uw0 (((lookH H bq).map (·.2)).getD 0)), .int .u64 (uw1 (((lookH H bq).map (·.2)).getD 0)), .int .u64 (uw2 (((lookH H bq).map (·.2)).getD 0)), .int .u64 (uw3 (((lookH H bq).map (·.2)).getD 0))] 105 (0, 0))
  now : w.heap[Q]? = some (.cells #[.int .u64 (uw0 (lastN H)), .int .u64 (uw1 (lastN H)), .int .u64 (uw2 (lastN H)), .int .u64 (uw3 (lastN H))] 105 (0, 0))
  wW : w0.heap.size ≤ W
  wQ : w0.heap.size ≤ Q
  ne : W ≠ Q
theorem Tel.later {w0 w w' : World} {g W Q : Nat} {s : PS} {H : List (Int × Nat)} {i : Nat} {bq : Int} (h : Tel w0 w g W Q s H i bq) (hb : Below w.heap.size w w') : Tel w0 w' g W Q s H i bq :=
  ⟨h.one.later hb, below_at' hb h.want, below_at' hb h.now, h.wW, h.wQ, h.ne⟩
theorem KeyOk91 : KeyOk 9 [1] := ⟨by decide, by decide, fun x hx => by rw [List.mem_singleton.1 hx]; decide⟩

/-- A store into a block of amounts leaves the store and its history. -/
theorem hone_keep {w0 w w' : World} {g : Nat} {t : Int} {ids : List Int} {s : PS} {H : List (Int × Nat)} {n X : Nat} {cs : Array Value} (h : HOne w0 w g t ids s H n) (hX : w.heap[X]? = some (.cells cs 105 (0, 0))) (hk : Keep (· = X) w w') (hw : w0.heap.size ≤ X) : HOne w0 w' g t ids s H n := by
  obtain ⟨F, h1, h2, h3⟩ := h.one
  refine ⟨⟨F, h1.keep hk fun x hx hu => ?_, h2, h3.trans (hk.below (B := w0.heap.size) (fun y hy e => by omega) h3.size)⟩, h.fit, h.sz, h.his, h.len⟩
  obtain ⟨o, ho, k1⟩ := h1.kind x hx
  subst hu
  rw [hX] at ho
  cases ho
  have k2 : stoKind (.cells cs 105 (0, 0)) = false := rfl
  rw [k2] at k1; cases k1

set_option maxHeartbeats 16000000 in
set_option maxRecDepth 100000 in
theorem tells_any {w : World} {v1 : Value} {l : List Act11} (bq : Int) (h1 : Rd w act11E 6 v1 l) (hgd : ∀ a ∈ l, Good11 w a) :
    Calls Try.prog 11 #[v1, .int .i64 bq] w (Ret w (.bool true)) := by
  obtain ⟨ad, cap, e1, c1, c1'⟩ := h1.shape
  obtain ⟨n, hn⟩ : ∃ n, n = l.length := ⟨_, rfl⟩
  rw [← hn] at e1 c1
  subst e1
  have H1 := Lib.hid h1; have HN := Lib.hid hn; have HGD := Lib.hid hgd
  clear h1 hn hgd
  go_enter Try.func11, Try.ntmps11
  go_wp2_with fail
  refine (light11_any H1.out).mono ?_
  rintro e w1 ⟨r, rfl, hr, hb⟩
  cases r with
  | false =>
    have HB := Lib.hid hb
    clear hr hb
    go_wp2_with fail
    refine (lives11_any _).mono ?_
    rintro e w2 ⟨rfl, hb2⟩
    have HB2 := Lib.hid (HB.out.trans (hb2.mono HB.out.size))
    clear hb2
    go_wp2_with fail
    go_ret
    exact ⟨rfl, HB2.out⟩
  | true =>
  have HL := Lib.hid (hr rfl); have HB0 := Lib.hid hb
  clear hr hb
  go_wp2_with fail
  refine (snew_any _).mono ?_
  rintro e w3 ⟨g, F, rfl, q1, hb3, q3⟩
  have O3 := Lib.hid (HOne.new q1 q3 hb3 HB0.out 9 [1])
  clear q1 hb3 q3 HB0
  go_wp2_with (first
    | (refine wpList_alloc_g rfl _ rfl _ _ Try.zeroU rfl ?_))
  intro W w4 h4
  go_wp2_with (refine wpList_store_row_g (t := 105) (old := u0) rfl 105 _ _ rfl W u0 rfl rfl h4.out.cells Try.sizeU rfl (one_u64 _ _ _ _) ?_)
  intro w5 hx5 k5 _
  have hb35 : Below w3.heap.size w3 w5 := h4.out.below.trans (k5.below (B := w3.heap.size) (fun x hx e => by have := h4.out.eq; omega) h4.out.below.size)
  have O5 := Lib.hid (O3.out.later hb35); have HW5 := Lib.hid hx5; have HWW : Hid (w.heap.size ≤ W) := Lib.hid (by rw [h4.out.eq]; exact O3.out.one.below.size)
  clear h4 hx5 k5 hb35 O3
  go_wp2_with (refine wpList_alloc_g rfl _ rfl _ _ Try.zeroU rfl ?_)
  intro Q w6 h6
  go_wp2_with (refine wpList_store_row_g (t := 105) (old := u0) rfl 105 _ _ rfl Q u0 rfl rfl h6.out.cells Try.sizeU rfl (one_u64 _ _ _ _) ?_)
  intro w7 hx7 k7 _
  have hb57 : Below w5.heap.size w5 w7 := h6.out.below.trans (k7.below (B := w5.heap.size) (fun x hx e => by have := h6.out.eq; omega) h6.out.below.size)
  have T7 : Hid (Tel w w7 g W Q PS.new [] 0 bq) := Lib.hid ⟨O5.out.later hb57, (by have h := below_at' hb57 HW5.out; rw [u0_look] at h; exact h), (by have h := hx7; rw [u0_look] at h; exact h), HWW.out, by rw [h6.out.eq]; exact O5.out.one.below.size, by have := heap_lt HW5.out; have := h6.out.eq; omega⟩
  clear h6 hx7 k7 hb57 O5 HW5 HWW
  go_wp2_with fail
  go_loopw [7, 9, 10, 25] (fun vt vs vl vi wr => ∃ (i : Nat) (H : List (Int × Nat)) (s : PS), vt = .bool (lookH H bq).isSome ∧ vs = .bool H.getLast?.isSome ∧ vl = .int .i64 (lastB H) ∧ vi = .int .i64 i ∧ i ≤ n ∧ Hid (Tel w wr g W Q s H i bq)) (fun _ _ _ vi _ => n - (intOf vi).toNat)
  case atStart => exact ⟨0, [], _, rfl, rfl, rfl, rfl, Nat.zero_le _, T7⟩
  case round =>
    clear T7
    obtain ⟨i, H, s, rfl, rfl, rfl, rfl, hin, OI⟩ := hrel
    by_cases hlt : i < n
    · have HIN : Hid (i ≤ 100) := Lib.hid (by have := HL.out.1; have := HN.out; omega)
      have hi : i < l.length := by rw [← HN.out]; exact hlt
      obtain ⟨gL, off, rfl, hgL, q0, q1, q2, q3, q4, q5⟩ := Rd.act11 H1.out i hi
      have hbw := OI.out.one.one.below
      have q0' := (hbw.cell (p := ⟨gL, off + i * 6, none⟩) hgL).trans q0
      have q1' := (hbw.cell (p := ⟨gL, off + i * 6 + 1, none⟩) hgL).trans q1
      have q2' := (hbw.cell (p := ⟨gL, off + i * 6 + 2, none⟩) hgL).trans q2
      have q3' := (hbw.cell (p := ⟨gL, off + i * 6 + 3, none⟩) hgL).trans q3
      have q4' := (hbw.cell (p := ⟨gL, off + i * 6 + 4, none⟩) hgL).trans q4
      have q5' := (hbw.cell (p := ⟨gL, off + i * 6 + 5, none⟩) hgL).trans q5
      have hmem : l[i] ∈ l := List.getElem_mem hi
      obtain ⟨a, ha⟩ : ∃ a, a = l[i] := ⟨_, rfl⟩
      rw [← ha] at q0' q1' q2' q3' q4' q5' hmem
      have HLT := Lib.hid hlt; have HGX := Lib.hid (HGD.out a hmem)
      clear ha q0 q1 q2 q3 q4 q5 hgL hi hmem hbw
      go_wp2_with (refine wpList_alloc_g rfl _ rfl _ _ Try.zeroAct11 rfl ?_)
      intro R w5 h5
      go_wp2_with (refine wpList_store_row_g (t := 107) (old := #[.slice none 0 0, .int .i64 0, .int .u64 0, .int .u64 0, .int .u64 0, .int .u64 0]) rfl 107 _ _ rfl R #[.slice a.idsd a.ids.length a.idsc, .int .i64 a.b, .int .u64 (uw0 a.m), .int .u64 (uw1 a.m), .int .u64 (uw2 a.m), .int .u64 (uw3 a.m)] rfl rfl h5.out.cells Try.sizeAct11 rfl (by simp [Value.oneCell']) ?_)
      intro w6 hx6 k56 z56
      have hb56 : Below wr.heap.size wr w6 := h5.out.below.trans (k56.below (B := wr.heap.size) (fun x hx e => by have := h5.out.eq; omega) h5.out.below.size)
      have O6 := Lib.hid (OI.out.later hb56); have HX6 := Lib.hid hx6
      clear h5 hx6 k56 z56 hb56 q0' q1' q2' q3' q4' q5' OI
      have r1 : (w6.alloc (.cells #[.int .i64 1] 3)).cell? ⟨R, 1, none⟩ = some (.int .i64 a.b) := Lib.cell_of_heap (below_at' (below_new _ _) HX6.out) 1
      go_wp2_with (refine wpList_load_mid rfl 105 _ rfl R 2 rfl [.int .u64 (uw0 (a.m)), .int .u64 (uw1 (a.m)), .int .u64 (uw2 (a.m)), .int .u64 (uw3 (a.m))] _ (range_of_heap (below_at' (below_new _ _) HX6.out) 2 _ rfl) Try.underlying105 rfl Try.sizeU ?_)
      obtain ⟨w7, hwl⟩ : ∃ w2, w2 = w6.alloc (.cells #[.int .i64 1] 3) := ⟨_, rfl⟩
      obtain ⟨gi, hgi⟩ : ∃ gi, gi = w6.heap.size := ⟨_, rfl⟩
      rw [← hwl, ← hgi]
      have hbl : Below w6.heap.size w6 w7 := by rw [hwl]; exact below_new _ _
      have HOI : Hid (Own w7 0 3 intE 1 (.slice (some ⟨gi, 0, none⟩) 1 1) [1]) := Lib.hid (own_lit (l := [1]) (by rw [hwl, hgi]; exact heap_alloc_new _ _) (Nat.zero_le _) (by decide))
      clear hwl hgi
      have O7 := Lib.hid (O6.out.later hbl); have HX7 := Lib.hid (below_at' hbl HX6.out)
      clear O6 HX6 hbl r1
      refine (O7.out.one.push (by have := HIN.out; omega) KeyOk91 (by decide) HOI.out HGX.out.b_b (uw_is HGX.out.lt_m)).mono ?_
      rintro e w8 ⟨rfl, o8, ho⟩
      have HX8 := Lib.hid (ho.2 R _ HX7.out rfl rfl); have HW8 := Lib.hid (ho.2 W _ O7.out.want rfl rfl); have HQ8 := Lib.hid (ho.2 Q _ O7.out.now rfl rfl)
      have HWQ := Lib.hid (And.intro O7.out.wW (And.intro O7.out.wQ O7.out.ne))
      have HHI := Lib.hid O7.out.one.his
      have ON8 := Lib.hid o8
      have hiff := hisE_iff (bk := a.b) fun p hp => (O7.out.one.his.ok p hp).1
      have hRQ : R ≠ W ∧ R ≠ Q := ⟨fun e => by rw [e] at HX7; have h := HX7.out; rw [O7.out.want] at h; simp at h, fun e => by rw [e] at HX7; have h := HX7.out; rw [O7.out.now] at h; simp at h⟩
      have HRQ := Lib.hid hRQ
      clear o8 ho O7 HX7 HOI hRQ
      obtain ⟨lb, hlb⟩ : ∃ lb, lb = lastB H := ⟨_, rfl⟩
      rw [← hlb] at hiff ⊢
      have HLB := Lib.hid hlb
      obtain ⟨sm, hsm⟩ : ∃ sm, sm = H.getLast?.isSome := ⟨_, rfl⟩
      rw [← hsm]
      have HSM := Lib.hid hsm
      obtain ⟨th, hth⟩ : ∃ th, th = (lookH H bq).isSome := ⟨_, rfl⟩
      rw [← hth]
      have HTH := Lib.hid hth
      clear hlb hsm hth
      obtain ⟨ab, hab⟩ : ∃ ab, ab = a.b := ⟨_, rfl⟩
      have HAB := Lib.hid hab
      rw [← hab] at hiff
      have r1 : w8.cell? ⟨R, 1, none⟩ = some (.int .i64 ab) := by rw [hab]; exact Lib.cell_of_heap HX8.out 1
      by_cases hE : hisE H ab = 0
      · obtain ⟨g1, g2⟩ := hiff.1 hE
        have HE := Lib.hid hE
        have hEb : hisE H a.b = 0 := by rw [← hab]; exact hE
        rw [hEb]
        clear hiff hE hEb hab
        -- what comes of it
        have T8 : ∀ w' : World, Below w.heap.size w w' → True := fun _ _ => trivial
        clear T8
        have hlast := his_last (m := a.m) HE.out
        have hlook := his_look (m := a.m) HE.out bq
        rw [← HLB.out, ← HSM.out] at hlast
        rw [HAB.out] at hlast hlook
        have ON8' : Hid (HOne w w8 g 9 [1] (hpushS s 9 [1] a.b a.m) (hisS H a.b a.m) (i + 1)) := ON8
        obtain ⟨H2, hH2⟩ : ∃ H2, H2 = hisS H a.b a.m := ⟨_, rfl⟩
        rw [← hH2] at hlast hlook ON8'
        have HL1 := Lib.hid hlast; have HL2 := Lib.hid hlook
        clear hlast hlook hH2 ON8
        have hq := Try.eqUn (uw_is HGX.out.lt_m) (uw_is HHI.out.lastN_lt)
        have fin : ∀ (w' : World) (lb2 : Int), lb2 = (if sm = true ∧ a.m = lastN H ∧ a.b ≠ lb then lb else a.b) → HOne w w' g 9 [1] (hpushS s 9 [1] a.b a.m) H2 (i + 1) → w'.heap[Q]? = some (.cells #[.int .u64 (uw0 (a.m)), .int .u64 (uw1 (a.m)), .int .u64 (uw2 (a.m)), .int .u64 (uw3 (a.m))] 105 (0, 0)) →
            (w'.heap[W]? = if a.b ≤ bq then some (.cells #[.int .u64 (uw0 (a.m)), .int .u64 (uw1 (a.m)), .int .u64 (uw2 (a.m)), .int .u64 (uw3 (a.m))] 105 (0, 0)) else some (.cells #[.int .u64 (uw0 (((lookH H bq).map (·.2)).getD 0)), .int .u64 (uw1 (((lookH H bq).map (·.2)).getD 0)), .int .u64 (uw2 (((lookH H bq).map (·.2)).getD 0)), .int .u64 (uw3 (((lookH H bq).map (·.2)).getD 0))] 105 (0, 0))) →
            Hid (Tel w w' g W Q (hpushS s 9 [1] a.b a.m) H2 (i + 1) bq ∧ lastB H2 = lb2 ∧ H2.getLast?.isSome = true ∧ (lookH H2 bq).isSome = (if a.b ≤ bq then true else th)) := by
          intro w' lb2 h2 h3 h4 h5
          have e1 : lastN H2 = a.m := by unfold lastN; rw [HL1.out]; rfl
          have e2 : lastB H2 = lb2 := by unfold lastB; rw [HL1.out, h2]; rfl
          refine Lib.hid ⟨⟨h3, ?_, by rw [e1]; exact h4, HWQ.out.1, HWQ.out.2.1, HWQ.out.2.2⟩, e2, by rw [HL1.out]; rfl, ?_⟩
          · rw [h5, HL2.out]
            by_cases hb : a.b ≤ bq
            · rw [if_pos hb, if_pos hb]; rfl
            · rw [if_neg hb, if_neg hb]
          · have h6 := congrArg Option.isSome HL2.out
            rw [Option.isSome_map] at h6
            rw [h6]
            by_cases hb : a.b ≤ bq
            · rw [if_pos hb, if_pos hb]; rfl
            · rw [if_neg hb, if_neg hb, Option.isSome_map, HTH.out]
        have FIN := Lib.hid fin
        clear fin
        by_cases hs : sm = true
        · subst hs
          by_cases hm : a.m = lastN H
          · rw [decide_eq_true hm] at hq
            by_cases hb : ab = lb
            · have hbb : (ab == lb) = true := by rw [hb]; simp
              have hlb2 : Hid (lb = (if true = true ∧ a.m = lastN H ∧ a.b ≠ lb then lb else a.b)) := Lib.hid (by rw [if_neg (fun e => e.2.2 (by rw [← HAB.out]; exact hb)), ← HAB.out, hb])
              subst hb
              clear hm
              have hlt9 := HLT.out
              go_wp2_with (first
                | (refine wpList_load_mid_y rfl 105 _ rfl R 2 rfl [.int .u64 (uw0 (a.m)), .int .u64 (uw1 (a.m)), .int .u64 (uw2 (a.m)), .int .u64 (uw3 (a.m))] _ (range_of_heap HX8.out 2 _ rfl) Try.underlying105 rfl Try.sizeU ?_)
                | (refine wpList_load_row_y rfl 105 _ rfl Q rfl 105 _ _ _ HQ8.out Try.underlying105 rfl Try.sizeU ?_)
                | (refine wpList_load_mid rfl 105 _ rfl R 2 rfl [.int .u64 (uw0 (a.m)), .int .u64 (uw1 (a.m)), .int .u64 (uw2 (a.m)), .int .u64 (uw3 (a.m))] _ (range_of_heap HX8.out 2 _ rfl) Try.underlying105 rfl Try.sizeU ?_)
                | (refine wpList_store_row_g (t := 105) (old := #[.int .u64 (uw0 (lastN H)), .int .u64 (uw1 (lastN H)), .int .u64 (uw2 (lastN H)), .int .u64 (uw3 (lastN H))]) rfl 105 _ _ rfl Q #[.int .u64 (uw0 (a.m)), .int .u64 (uw1 (a.m)), .int .u64 (uw2 (a.m)), .int .u64 (uw3 (a.m))] rfl rfl HQ8.out Try.sizeU rfl (one_u64 _ _ _ _) ?_))
              intro w9 hx9 k9 _
              clear g1 g2
              have hb9 : Below w.heap.size w8 w9 := k9.below (B := w.heap.size) (fun x hx e => by have := HWQ.out; omega) ON8'.out.one.below.size
              have HX9 := Lib.hid (k9.at HX8.out (fun e => HRQ.out.2 e)); have HW9 := Lib.hid (k9.at HW8.out (fun e => HWQ.out.2.2 e)); have HQ9 := Lib.hid hx9
              have ON9 := Lib.hid (hone_keep ON8'.out HQ8.out k9 HWQ.out.2.1)
              have r1' : w9.cell? ⟨R, 1, none⟩ = some (.int .i64 ab) := by rw [HAB.out]; exact Lib.cell_of_heap HX9.out 1
              clear hx9 k9 hb9 r1 HX8 HW8 HQ8 ON8'
              by_cases hbq : ab ≤ bq
              · have hbq' : Hid (a.b ≤ bq) := Lib.hid (by rw [← HAB.out]; exact hbq)
                go_wp2_with (first
                  | (refine wpList_load_mid rfl 105 _ rfl R 2 rfl [.int .u64 (uw0 (a.m)), .int .u64 (uw1 (a.m)), .int .u64 (uw2 (a.m)), .int .u64 (uw3 (a.m))] _ (range_of_heap HX9.out 2 _ rfl) Try.underlying105 rfl Try.sizeU ?_)
                  | (refine wpList_store_row_g (t := 105) (old := #[.int .u64 (uw0 (((lookH H bq).map (·.2)).getD 0)), .int .u64 (uw1 (((lookH H bq).map (·.2)).getD 0)), .int .u64 (uw2 (((lookH H bq).map (·.2)).getD 0)), .int .u64 (uw3 (((lookH H bq).map (·.2)).getD 0))]) rfl 105 _ _ rfl W #[.int .u64 (uw0 (a.m)), .int .u64 (uw1 (a.m)), .int .u64 (uw2 (a.m)), .int .u64 (uw3 (a.m))] rfl rfl HW9.out Try.sizeU rfl (one_u64 _ _ _ _) ?_))
                intro wa hxa ka _
                have OI := FIN.out wa ab hlb2.out (hone_keep ON9.out HW9.out ka HWQ.out.1) (ka.at HQ9.out (fun e => HWQ.out.2.2 e.symm)) (by rw [if_pos hbq'.out]; exact hxa)
                clear hxa ka
                go_wp2_with fail
                go_roundw
                case rel => exact ⟨i + 1, H2, _, by rw [OI.out.2.2.2, if_pos hbq'.out], by rw [OI.out.2.2.1], by rw [OI.out.2.1], by go_num, HLT.out, Lib.hid OI.out.1⟩
                case measure => have := HLT.out; simp [intOf]; omega
              · have hbq' : Hid (¬ a.b ≤ bq) := Lib.hid (by rw [← HAB.out]; exact hbq)
                have OI := FIN.out w9 ab hlb2.out ON9.out HQ9.out (by rw [if_neg hbq'.out]; exact HW9.out)
                go_wp2_with fail
                go_roundw
                case rel => exact ⟨i + 1, H2, _, by rw [OI.out.2.2.2, if_neg hbq'.out], by rw [OI.out.2.2.1], by rw [OI.out.2.1], by go_num, HLT.out, Lib.hid OI.out.1⟩
                case measure => have := HLT.out; simp [intOf]; omega
            · have hbb : (ab == lb) = false := by simpa using hb
              have hlb2 : Hid (lb = (if true = true ∧ a.m = lastN H ∧ a.b ≠ lb then lb else a.b)) := Lib.hid (by rw [if_pos ⟨rfl, hm, by rw [← HAB.out]; exact hb⟩])
              clear hm
              have hlt9 := HLT.out
              go_wp2_with (first
                | (refine wpList_load_mid_y rfl 105 _ rfl R 2 rfl [.int .u64 (uw0 (a.m)), .int .u64 (uw1 (a.m)), .int .u64 (uw2 (a.m)), .int .u64 (uw3 (a.m))] _ (range_of_heap HX8.out 2 _ rfl) Try.underlying105 rfl Try.sizeU ?_)
                | (refine wpList_load_row_y rfl 105 _ rfl Q rfl 105 _ _ _ HQ8.out Try.underlying105 rfl Try.sizeU ?_)
                | (refine wpList_load_mid rfl 105 _ rfl R 2 rfl [.int .u64 (uw0 (a.m)), .int .u64 (uw1 (a.m)), .int .u64 (uw2 (a.m)), .int .u64 (uw3 (a.m))] _ (range_of_heap HX8.out 2 _ rfl) Try.underlying105 rfl Try.sizeU ?_)
                | (refine wpList_store_row_g (t := 105) (old := #[.int .u64 (uw0 (lastN H)), .int .u64 (uw1 (lastN H)), .int .u64 (uw2 (lastN H)), .int .u64 (uw3 (lastN H))]) rfl 105 _ _ rfl Q #[.int .u64 (uw0 (a.m)), .int .u64 (uw1 (a.m)), .int .u64 (uw2 (a.m)), .int .u64 (uw3 (a.m))] rfl rfl HQ8.out Try.sizeU rfl (one_u64 _ _ _ _) ?_))
              intro w9 hx9 k9 _
              clear g1 g2
              have hb9 : Below w.heap.size w8 w9 := k9.below (B := w.heap.size) (fun x hx e => by have := HWQ.out; omega) ON8'.out.one.below.size
              have HX9 := Lib.hid (k9.at HX8.out (fun e => HRQ.out.2 e)); have HW9 := Lib.hid (k9.at HW8.out (fun e => HWQ.out.2.2 e)); have HQ9 := Lib.hid hx9
              have ON9 := Lib.hid (hone_keep ON8'.out HQ8.out k9 HWQ.out.2.1)
              have r1' : w9.cell? ⟨R, 1, none⟩ = some (.int .i64 ab) := by rw [HAB.out]; exact Lib.cell_of_heap HX9.out 1
              clear hx9 k9 hb9 r1 HX8 HW8 HQ8 ON8'
              by_cases hbq : ab ≤ bq
              · have hbq' : Hid (a.b ≤ bq) := Lib.hid (by rw [← HAB.out]; exact hbq)
                go_wp2_with (first
                  | (refine wpList_load_mid rfl 105 _ rfl R 2 rfl [.int .u64 (uw0 (a.m)), .int .u64 (uw1 (a.m)), .int .u64 (uw2 (a.m)), .int .u64 (uw3 (a.m))] _ (range_of_heap HX9.out 2 _ rfl) Try.underlying105 rfl Try.sizeU ?_)
                  | (refine wpList_store_row_g (t := 105) (old := #[.int .u64 (uw0 (((lookH H bq).map (·.2)).getD 0)), .int .u64 (uw1 (((lookH H bq).map (·.2)).getD 0)), .int .u64 (uw2 (((lookH H bq).map (·.2)).getD 0)), .int .u64 (uw3 (((lookH H bq).map (·.2)).getD 0))]) rfl 105 _ _ rfl W #[.int .u64 (uw0 (a.m)), .int .u64 (uw1 (a.m)), .int .u64 (uw2 (a.m)), .int .u64 (uw3 (a.m))] rfl rfl HW9.out Try.sizeU rfl (one_u64 _ _ _ _) ?_))
                intro wa hxa ka _
                have OI := FIN.out wa lb hlb2.out (hone_keep ON9.out HW9.out ka HWQ.out.1) (ka.at HQ9.out (fun e => HWQ.out.2.2 e.symm)) (by rw [if_pos hbq'.out]; exact hxa)
                clear hxa ka
                go_wp2_with fail
                go_roundw
                case rel => exact ⟨i + 1, H2, _, by rw [OI.out.2.2.2, if_pos hbq'.out], by rw [OI.out.2.2.1], by rw [OI.out.2.1], by go_num, HLT.out, Lib.hid OI.out.1⟩
                case measure => have := HLT.out; simp [intOf]; omega
              · have hbq' : Hid (¬ a.b ≤ bq) := Lib.hid (by rw [← HAB.out]; exact hbq)
                have OI := FIN.out w9 lb hlb2.out ON9.out HQ9.out (by rw [if_neg hbq'.out]; exact HW9.out)
                go_wp2_with fail
                go_roundw
                case rel => exact ⟨i + 1, H2, _, by rw [OI.out.2.2.2, if_neg hbq'.out], by rw [OI.out.2.2.1], by rw [OI.out.2.1], by go_num, HLT.out, Lib.hid OI.out.1⟩
                case measure => have := HLT.out; simp [intOf]; omega
          · rw [decide_eq_false hm] at hq
            have hlb2 : Hid (ab = (if true = true ∧ a.m = lastN H ∧ a.b ≠ lb then lb else a.b)) := Lib.hid (by rw [if_neg (fun e => hm e.2.1), HAB.out])
            have hlt9 := HLT.out
            go_wp2_with (first
              | (refine wpList_load_mid_y rfl 105 _ rfl R 2 rfl [.int .u64 (uw0 (a.m)), .int .u64 (uw1 (a.m)), .int .u64 (uw2 (a.m)), .int .u64 (uw3 (a.m))] _ (range_of_heap HX8.out 2 _ rfl) Try.underlying105 rfl Try.sizeU ?_)
              | (refine wpList_load_row_y rfl 105 _ rfl Q rfl 105 _ _ _ HQ8.out Try.underlying105 rfl Try.sizeU ?_)
              | (refine wpList_load_mid rfl 105 _ rfl R 2 rfl [.int .u64 (uw0 (a.m)), .int .u64 (uw1 (a.m)), .int .u64 (uw2 (a.m)), .int .u64 (uw3 (a.m))] _ (range_of_heap HX8.out 2 _ rfl) Try.underlying105 rfl Try.sizeU ?_)
              | (refine wpList_store_row_g (t := 105) (old := #[.int .u64 (uw0 (lastN H)), .int .u64 (uw1 (lastN H)), .int .u64 (uw2 (lastN H)), .int .u64 (uw3 (lastN H))]) rfl 105 _ _ rfl Q #[.int .u64 (uw0 (a.m)), .int .u64 (uw1 (a.m)), .int .u64 (uw2 (a.m)), .int .u64 (uw3 (a.m))] rfl rfl HQ8.out Try.sizeU rfl (one_u64 _ _ _ _) ?_))
            intro w9 hx9 k9 _
            clear g1 g2
            have hb9 : Below w.heap.size w8 w9 := k9.below (B := w.heap.size) (fun x hx e => by have := HWQ.out; omega) ON8'.out.one.below.size
            have HX9 := Lib.hid (k9.at HX8.out (fun e => HRQ.out.2 e)); have HW9 := Lib.hid (k9.at HW8.out (fun e => HWQ.out.2.2 e)); have HQ9 := Lib.hid hx9
            have ON9 := Lib.hid (hone_keep ON8'.out HQ8.out k9 HWQ.out.2.1)
            have r1' : w9.cell? ⟨R, 1, none⟩ = some (.int .i64 ab) := by rw [HAB.out]; exact Lib.cell_of_heap HX9.out 1
            clear hx9 k9 hb9 r1 HX8 HW8 HQ8 ON8'
            by_cases hbq : ab ≤ bq
            · have hbq' : Hid (a.b ≤ bq) := Lib.hid (by rw [← HAB.out]; exact hbq)
              go_wp2_with (first
                | (refine wpList_load_mid rfl 105 _ rfl R 2 rfl [.int .u64 (uw0 (a.m)), .int .u64 (uw1 (a.m)), .int .u64 (uw2 (a.m)), .int .u64 (uw3 (a.m))] _ (range_of_heap HX9.out 2 _ rfl) Try.underlying105 rfl Try.sizeU ?_)
                | (refine wpList_store_row_g (t := 105) (old := #[.int .u64 (uw0 (((lookH H bq).map (·.2)).getD 0)), .int .u64 (uw1 (((lookH H bq).map (·.2)).getD 0)), .int .u64 (uw2 (((lookH H bq).map (·.2)).getD 0)), .int .u64 (uw3 (((lookH H bq).map (·.2)).getD 0))]) rfl 105 _ _ rfl W #[.int .u64 (uw0 (a.m)), .int .u64 (uw1 (a.m)), .int .u64 (uw2 (a.m)), .int .u64 (uw3 (a.m))] rfl rfl HW9.out Try.sizeU rfl (one_u64 _ _ _ _) ?_))
              intro wa hxa ka _
              have OI := FIN.out wa ab hlb2.out (hone_keep ON9.out HW9.out ka HWQ.out.1) (ka.at HQ9.out (fun e => HWQ.out.2.2 e.symm)) (by rw [if_pos hbq'.out]; exact hxa)
              clear hxa ka
              go_wp2_with fail
              go_roundw
              case rel => exact ⟨i + 1, H2, _, by rw [OI.out.2.2.2, if_pos hbq'.out], by rw [OI.out.2.2.1], by rw [OI.out.2.1], by go_num, HLT.out, Lib.hid OI.out.1⟩
              case measure => have := HLT.out; simp [intOf]; omega
            · have hbq' : Hid (¬ a.b ≤ bq) := Lib.hid (by rw [← HAB.out]; exact hbq)
              have OI := FIN.out w9 ab hlb2.out ON9.out HQ9.out (by rw [if_neg hbq'.out]; exact HW9.out)
              go_wp2_with fail
              go_roundw
              case rel => exact ⟨i + 1, H2, _, by rw [OI.out.2.2.2, if_neg hbq'.out], by rw [OI.out.2.2.1], by rw [OI.out.2.1], by go_num, HLT.out, Lib.hid OI.out.1⟩
              case measure => have := HLT.out; simp [intOf]; omega
        · have hs' : sm = false := by simpa using hs
          subst hs'
          have hlb2 : Hid (ab = (if false = true ∧ a.m = lastN H ∧ a.b ≠ lb then lb else a.b)) := Lib.hid (by rw [if_neg (fun e => by cases e.1), HAB.out])
          clear hq
          have hlt9 := HLT.out
          go_wp2_with (first
            | (refine wpList_load_mid_y rfl 105 _ rfl R 2 rfl [.int .u64 (uw0 (a.m)), .int .u64 (uw1 (a.m)), .int .u64 (uw2 (a.m)), .int .u64 (uw3 (a.m))] _ (range_of_heap HX8.out 2 _ rfl) Try.underlying105 rfl Try.sizeU ?_)
            | (refine wpList_load_row_y rfl 105 _ rfl Q rfl 105 _ _ _ HQ8.out Try.underlying105 rfl Try.sizeU ?_)
            | (refine wpList_load_mid rfl 105 _ rfl R 2 rfl [.int .u64 (uw0 (a.m)), .int .u64 (uw1 (a.m)), .int .u64 (uw2 (a.m)), .int .u64 (uw3 (a.m))] _ (range_of_heap HX8.out 2 _ rfl) Try.underlying105 rfl Try.sizeU ?_)
            | (refine wpList_store_row_g (t := 105) (old := #[.int .u64 (uw0 (lastN H)), .int .u64 (uw1 (lastN H)), .int .u64 (uw2 (lastN H)), .int .u64 (uw3 (lastN H))]) rfl 105 _ _ rfl Q #[.int .u64 (uw0 (a.m)), .int .u64 (uw1 (a.m)), .int .u64 (uw2 (a.m)), .int .u64 (uw3 (a.m))] rfl rfl HQ8.out Try.sizeU rfl (one_u64 _ _ _ _) ?_))
          intro w9 hx9 k9 _
          clear g1 g2
          have hb9 : Below w.heap.size w8 w9 := k9.below (B := w.heap.size) (fun x hx e => by have := HWQ.out; omega) ON8'.out.one.below.size
          have HX9 := Lib.hid (k9.at HX8.out (fun e => HRQ.out.2 e)); have HW9 := Lib.hid (k9.at HW8.out (fun e => HWQ.out.2.2 e)); have HQ9 := Lib.hid hx9
          have ON9 := Lib.hid (hone_keep ON8'.out HQ8.out k9 HWQ.out.2.1)
          have r1' : w9.cell? ⟨R, 1, none⟩ = some (.int .i64 ab) := by rw [HAB.out]; exact Lib.cell_of_heap HX9.out 1
          clear hx9 k9 hb9 r1 HX8 HW8 HQ8 ON8'
          by_cases hbq : ab ≤ bq
          · have hbq' : Hid (a.b ≤ bq) := Lib.hid (by rw [← HAB.out]; exact hbq)
            go_wp2_with (first
              | (refine wpList_load_mid rfl 105 _ rfl R 2 rfl [.int .u64 (uw0 (a.m)), .int .u64 (uw1 (a.m)), .int .u64 (uw2 (a.m)), .int .u64 (uw3 (a.m))] _ (range_of_heap HX9.out 2 _ rfl) Try.underlying105 rfl Try.sizeU ?_)
              | (refine wpList_store_row_g (t := 105) (old := #[.int .u64 (uw0 (((lookH H bq).map (·.2)).getD 0)), .int .u64 (uw1 (((lookH H bq).map (·.2)).getD 0)), .int .u64 (uw2 (((lookH H bq).map (·.2)).getD 0)), .int .u64 (uw3 (((lookH H bq).map (·.2)).getD 0))]) rfl 105 _ _ rfl W #[.int .u64 (uw0 (a.m)), .int .u64 (uw1 (a.m)), .int .u64 (uw2 (a.m)), .int .u64 (uw3 (a.m))] rfl rfl HW9.out Try.sizeU rfl (one_u64 _ _ _ _) ?_))
            intro wa hxa ka _
            have OI := FIN.out wa ab hlb2.out (hone_keep ON9.out HW9.out ka HWQ.out.1) (ka.at HQ9.out (fun e => HWQ.out.2.2 e.symm)) (by rw [if_pos hbq'.out]; exact hxa)
            clear hxa ka
            go_wp2_with fail
            go_roundw
            case rel => exact ⟨i + 1, H2, _, by rw [OI.out.2.2.2, if_pos hbq'.out], by rw [OI.out.2.2.1], by rw [OI.out.2.1], by go_num, HLT.out, Lib.hid OI.out.1⟩
            case measure => have := HLT.out; simp [intOf]; omega
          · have hbq' : Hid (¬ a.b ≤ bq) := Lib.hid (by rw [← HAB.out]; exact hbq)
            have OI := FIN.out w9 ab hlb2.out ON9.out HQ9.out (by rw [if_neg hbq'.out]; exact HW9.out)
            go_wp2_with fail
            go_roundw
            case rel => exact ⟨i + 1, H2, _, by rw [OI.out.2.2.2, if_neg hbq'.out], by rw [OI.out.2.2.1], by rw [OI.out.2.1], by go_num, HLT.out, Lib.hid OI.out.1⟩
            case measure => have := HLT.out; simp [intOf]; omega
      · have hEa : ¬ hisE H a.b = 0 := by rw [← hab]; exact hE
        have hEb : (hisE H a.b == 0) = false := by simpa using hEa
        have hSt : hisS H a.b a.m = H := by unfold hisS; rw [if_neg hEa]
        have OI : Hid (Tel w w8 g W Q (hpushS s 9 [1] a.b a.m) H (i + 1) bq) := Lib.hid ⟨by have h := ON8.out; rw [hSt] at h; exact h, HW8.out, HQ8.out, HWQ.out.1, HWQ.out.2.1, HWQ.out.2.2⟩
        obtain ⟨E, hEE⟩ : ∃ E, E = hisE H a.b := ⟨_, rfl⟩
        rw [← hEE] at hEb ⊢
        have hno : ¬ (lb ≤ ab ∧ ab ≤ 1099511627776) := fun e => hE (hiff.2 e)
        clear hEE hE hEa hSt hiff hab ON8 HW8 HQ8
        have hlt9 := HLT.out
        by_cases g1 : lb ≤ ab
        · have g2 : ¬ ab ≤ 1099511627776 := fun e => hno ⟨g1, e⟩
          clear hno
          go_wp2_with fail
          go_roundw
          case rel => exact ⟨i + 1, H, _, by rw [HTH.out], by rw [HSM.out], by rw [HLB.out], by go_num, HLT.out, OI⟩
          case measure => have := HLT.out; simp [intOf]; omega
        · clear hno
          go_wp2_with fail
          go_roundw
          case rel => exact ⟨i + 1, H, _, by rw [HTH.out], by rw [HSM.out], by rw [HLB.out], by go_num, HLT.out, OI⟩
          case measure => have := HLT.out; simp [intOf]; omega
    · clear hin
      go_wp2_with fail
      clear hlt
      obtain ⟨w7, hwl⟩ : ∃ w2, w2 = wr.alloc (.cells #[.int .i64 1] 3) := ⟨_, rfl⟩
      obtain ⟨gi, hgi⟩ : ∃ gi, gi = wr.heap.size := ⟨_, rfl⟩
      rw [← hwl, ← hgi]
      have hbl : Below wr.heap.size wr w7 := by rw [hwl]; exact below_new _ _
      have HOI : Hid (Own w7 0 3 intE 1 (.slice (some ⟨gi, 0, none⟩) 1 1) [1]) := Lib.hid (own_lit (l := [1]) (by rw [hwl, hgi]; exact heap_alloc_new _ _) (Nat.zero_le _) (by decide))
      clear hwl hgi
      have O7 := Lib.hid (OI.out.later hbl)
      clear OI hbl
      refine (O7.out.one.at bq (by decide) (I64s.one (by decide)) (own_rd HOI.out)).mono ?_
      rintro e w8 ⟨a, b, c, d, hu, rfl, hb⟩
      have HU := Lib.hid hu; have O8 := Lib.hid (O7.out.later hb)
      obtain ⟨th, hth⟩ : ∃ th, th = (lookH H bq).isSome := ⟨_, rfl⟩
      rw [← hth]
      clear hth hu hb O7 HOI
      go_wp2_with (refine wpList_alloc_g rfl _ rfl _ _ Try.zeroU rfl ?_)
      intro X w9 h9
      go_wp2_with (refine wpList_store_row_g (t := 105) (old := u0) rfl 105 _ _ rfl X #[.int .u64 a, .int .u64 b, .int .u64 c, .int .u64 d] rfl rfl h9.out.cells Try.sizeU rfl (one_u64 _ _ _ _) ?_)
      intro wa hxa ka _
      have hb8a : Below w8.heap.size w8 wa := h9.out.below.trans (ka.below (B := w8.heap.size) (fun x hx e => by have := h9.out.eq; omega) h9.out.below.size)
      have OA := Lib.hid (O8.out.later hb8a); have HXA := Lib.hid hxa
      clear h9 hxa ka hb8a O8
      have hq := Try.eqUn HU.out (uw_is (OA.out.one.his.look_lt bq))
      rw [decide_eq_true rfl] at hq
      have hbt : (th == th) = true := by simp
      go_wp2_with (first
        | (refine wpList_load_row rfl 105 _ rfl X rfl 105 _ _ _ HXA.out Try.underlying105 rfl Try.sizeU ?_)
        | (refine wpList_load_row rfl 105 _ rfl W rfl 105 _ _ _ OA.out.want Try.underlying105 rfl Try.sizeU ?_))
      refine (lives11_any _).mono ?_
      rintro e wb ⟨rfl, hb⟩
      have HBF := Lib.hid (OA.out.one.one.below.trans (hb.mono OA.out.one.one.below.size))
      clear hb
      go_wp2_with fail
      go_ret
      exact ⟨rfl, HBF.out⟩
end Go.Proofs.Ytohedljdkfmkdaa
