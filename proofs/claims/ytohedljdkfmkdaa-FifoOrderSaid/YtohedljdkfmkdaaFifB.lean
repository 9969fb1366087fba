/- Queues: Good, turn, Peek, Len, Pop and Push (code). -/
import Derived.Test.YtohedljdkfmkdaaFifA
namespace Go.Proofs.Ytohedljdkfmkdaa
open Go.RowKit

theorem txt_empty (k : Txt) : (bs k).toList.isEmpty = k.isEmpty := by rw [toList_bs]
def goodL (l : List Int) : Bool := decide (l ≠ [] ∧ ∀ x ∈ l, 0 ≤ x)
def turnS (s : PS) (t : Int) (ids : List Int) (a b : Int) : PS := if a = b then s.setRow (keyF t ids) [] else s.setRow (keyF t ids) [a, b]
def peekF (f : Txt → Option Txt) (t : Int) (ids : List Int) : List Int := if (endsF f t ids).1 = (endsF f t ids).2 then [] else rowF (valF f (keyF t (ids ++ [(endsF f t ids).1])))
def peekB (f : Txt → Option Txt) (t : Int) (ids : List Int) : Bool := !((endsF f t ids).1 == (endsF f t ids).2)
def popS (s : PS) (t : Int) (ids : List Int) : PS := if (endsF (getP s.t) t ids).1 = (endsF (getP s.t) t ids).2 then s else turnS (s.del (keyF t (ids ++ [(endsF (getP s.t) t ids).1]))) t ids ((endsF (getP s.t) t ids).1 + 1) (endsF (getP s.t) t ids).2
def pushE (f : Txt → Option Txt) (t : Int) (ids : List Int) (most : Int) (l : List Int) : Int := if keyF t ids = [] ∨ most < 1 ∨ goodL l = false then 2 else if most ≤ (endsF f t ids).2 - (endsF f t ids).1 then 7 else 0
def pushS (s : PS) (t : Int) (ids : List Int) (most : Int) (l : List Int) : PS := if pushE (getP s.t) t ids most l = 0 then turnS (s.setRow (keyF t (ids ++ [(endsF (getP s.t) t ids).2])) l) t ids (endsF (getP s.t) t ids).1 ((endsF (getP s.t) t ids).2 + 1) else s
theorem sz_turnS (s : PS) (t : Int) (ids : List Int) (a b : Int) : (turnS s t ids a b).sz ≤ s.sz + 2 := by unfold turnS; split <;> exact sz_setRow _ _ _
theorem sz_popS (s : PS) (t : Int) (ids : List Int) : (popS s t ids).sz ≤ s.sz + 4 := by
  unfold popS; split
  · omega
  · refine Nat.le_trans (sz_turnS _ _ _ _ _) ?_
    have := sz_del s (keyF t (ids ++ [(endsF (getP s.t) t ids).1])); omega
theorem sz_pushS (s : PS) (t : Int) (ids : List Int) (m : Int) (l : List Int) : (pushS s t ids m l).sz ≤ s.sz + 4 := by
  unfold pushS; split
  · refine Nat.le_trans (sz_turnS _ _ _ _ _) ?_
    have := sz_setRow s (keyF t (ids ++ [(endsF (getP s.t) t ids).2])) l; omega
  · omega
theorem Fit.turnS {s : PS} (h : Fit s) (t : Int) (ids : List Int) (a b : Int) : Fit (turnS s t ids a b) := by unfold Go.Proofs.Ytohedljdkfmkdaa.turnS; split <;> exact h.setRow _ (by simp)
theorem Fit.popS {s : PS} (h : Fit s) (t : Int) (ids : List Int) : Fit (popS s t ids) := by
  unfold Go.Proofs.Ytohedljdkfmkdaa.popS; split
  · exact h
  · exact (h.del _).turnS _ _ _ _
theorem Fit.pushS {s : PS} (h : Fit s) (t : Int) (ids : List Int) (m : Int) {l : List Int} (hl : l.length ≤ 100000) : Fit (pushS s t ids m l) := by
  unfold Go.Proofs.Ytohedljdkfmkdaa.pushS; split
  · exact (h.setRow _ hl).turnS _ _ _ _
  · exact h
theorem Own.oth {w w' : World} {B : Nat} {v : Value} {l : List Int} (h : Own w B 3 intE 1 v l) (ho : Oth w w') : Own w' B 3 intE 1 v l := by
  obtain ⟨h1, h2⟩ := h
  refine ⟨h1, ?_⟩
  rcases h2 with h2 | ⟨g, cap, cur, e, hB, hg, h3⟩
  · exact .inl h2
  · exact .inr ⟨g, cap, cur, e, hB, ho.2 g _ hg rfl rfl, h3⟩
theorem rdArr {w : World} {g : Nat} {a b : Int} {T : TypeId} {fr : Nat × Nat} (h : w.heap[g]? = some (.cells #[.int .i64 a, .int .i64 b] T fr)) : Rd w intE 1 (.slice (some ⟨g, 0, none⟩) 2 2) [a, b] := by
  refine ⟨_, 2, rfl, by simp, by unfold maxLen; decide, fun _ => ⟨g, 0, rfl, heap_lt h, fun i hi j hj => ?_⟩⟩
  obtain rfl : j = 0 := by omega
  match i, hi with
  | 0, _ => exact Lib.cell_of_heap h 0
  | 1, _ => exact Lib.cell_of_heap h 1

theorem neg_any (n : Int) (w : World) : Calls Try.prog 98 #[.int .i64 n] w fun e w' => e = .returned (.bool (decide (n < 0))) ∧ w = w' := by
  by_cases h : n < 0
  · rw [decide_eq_true h]
    go_enter Try.func98, Try.ntmps98
    go_wp2
    go_ret
    exact ⟨rfl, rfl⟩
  · rw [decide_eq_false h]
    go_enter Try.func98, Try.ntmps98
    go_wp2
    go_ret
    exact ⟨rfl, rfl⟩
set_option maxHeartbeats 4000000 in
theorem idx_any {w : World} {v : Value} {l : List Int} (hrd : Rd w intE 1 v l) :
    Calls Try.prog 120 #[v, .func (.func 98) #[] #[]] w (fun e w' => ∃ r : Int, e = .returned (.int .i64 r) ∧ ((∀ x ∈ l, 0 ≤ x) → r = -1) ∧ (¬ (∀ x ∈ l, 0 ≤ x) → 0 ≤ r) ∧ w = w') := by
  obtain ⟨ad, cap, rfl, c1, c2⟩ := hrd.shape
  obtain ⟨n, hn⟩ : ∃ n, n = l.length := ⟨_, rfl⟩
  rw [← hn] at c1 hrd ⊢
  have H := Lib.hid hrd; have HN := Lib.hid hn
  clear hrd hn
  go_enter Try.func120, Try.ntmps120
  go_wp2_with fail
  go_loopw [8] (fun vi wr => ∃ k : Nat, vi = .int .i64 k ∧ k ≤ n ∧ Hid (∀ x ∈ l.take k, 0 ≤ x) ∧ wr = w) (fun vi _ => n - (intOf vi).toNat)
  case atStart => exact ⟨0, rfl, Nat.zero_le _, Lib.hid (by simp), rfl⟩
  case round =>
    obtain ⟨k, rfl, hk, HP, rfl⟩ := hrel
    by_cases hlt : k < n
    · have hi : k < l.length := by rw [← HN.out]; exact hlt
      obtain ⟨q, off, rfl, hq, t0⟩ := H.out.at k hi
      replace t0 : wr.cell? ⟨q, off + k, none⟩ = some (.int .i64 l[k]) := t0
      have hmem : l[k] ∈ l := List.getElem_mem hi
      have htk : ∀ h : 0 ≤ l[k], ∀ x ∈ l.take (k + 1), 0 ≤ x := by
        intro h x hx
        rw [List.take_succ_eq_append_getElem hi] at hx
        rcases List.mem_append.1 hx with hx | hx
        · exact HP.out x hx
        · simp only [List.mem_singleton] at hx; rw [hx]; exact h
      obtain ⟨y, hy⟩ : ∃ y, y = l[k] := ⟨_, rfl⟩
      rw [← hy] at t0 hmem htk
      have HM := Lib.hid hmem; have HTK := Lib.hid htk; have HLT := Lib.hid hlt
      have i1 : (k : Int) < (n : Int) := by omega
      clear hmem htk hy hq hi
      go_wp2_with fail
      refine (neg_any y _).mono ?_
      rintro e w2 ⟨rfl, rfl⟩
      clear t0
      by_cases hneg : y < 0
      · rw [decide_eq_true hneg]
        have HNG := Lib.hid hneg
        clear hneg
        go_wp2_with fail
        go_ret
        exact ⟨_, rfl, fun h => absurd (h _ HM.out) (by have := HNG.out; omega), fun _ => by omega, rfl⟩
      · rw [decide_eq_false hneg]
        have HNG : Hid (0 ≤ y) := Lib.hid (by omega)
        clear hneg
        go_wp2_with fail
        go_roundw
        case rel => exact ⟨k + 1, by go_num, Nat.succ_le_of_lt HLT.out, Lib.hid (HTK.out HNG.out), by first | rfl | trivial⟩
        case measure => have hh : k < n := HLT.out; simp [intOf]; omega
    · have hall : ∀ x ∈ l, 0 ≤ x := by
        have h8 := HP.out
        rwa [List.take_of_length_le (by rw [← HN.out]; omega)] at h8
      have HALL := Lib.hid hall
      clear hall HP
      go_wp2_with fail
      go_ret
      exact ⟨_, rfl, fun _ => rfl, fun h => absurd HALL.out h, rfl⟩
set_option maxHeartbeats 4000000 in
theorem contains_any {w : World} {v : Value} {l : List Int} (hrd : Rd w intE 1 v l) :
    Calls Try.prog 97 #[v, .func (.func 98) #[] #[]] w (fun e w' => e = .returned (.bool (decide (¬ ∀ x ∈ l, 0 ≤ x))) ∧ w = w') := by
  have H := Lib.hid hrd
  clear hrd
  go_enter Try.func97, Try.ntmps97
  go_wp2_with fail
  refine (idx_any H.out).mono ?_
  rintro e w2 ⟨r, rfl, h1, h2, rfl⟩
  by_cases hp : ∀ x ∈ l, 0 ≤ x
  · obtain rfl := h1 hp
    have HD : Hid (decide (¬ ∀ x ∈ l, 0 ≤ x) = false) := Lib.hid (decide_eq_false (fun h => h hp))
    clear h1 h2 hp
    go_wp2_with fail
    go_ret
    exact ⟨by rw [HD.out]; rfl, rfl⟩
  · have h0 := h2 hp
    have HP := Lib.hid hp
    clear h1 h2 hp
    go_wp2_with fail
    go_ret
    exact ⟨by rw [decide_eq_true HP.out]; rfl, rfl⟩
set_option maxHeartbeats 4000000 in
theorem good_any {w : World} {v : Value} {l : List Int} (hrd : Rd w intE 1 v l) :
    Calls Try.prog 51 #[v] w (fun e w' => e = .returned (.bool (goodL l)) ∧ w = w') := by
  have H := Lib.hid hrd
  obtain ⟨ad, cap, rfl, c1, c2⟩ := hrd.shape
  clear hrd
  by_cases hl : l = []
  · subst hl
    go_enter Try.func51, Try.ntmps51
    go_wp2_with fail
    go_ret
    exact ⟨rfl, rfl⟩
  · have hp : 0 < l.length := by cases l with | nil => exact absurd rfl hl | cons _ _ => simp
    have HL := Lib.hid hl
    clear hl
    go_enter Try.func51, Try.ntmps51
    go_wp2_with fail
    refine (contains_any H.out).mono ?_
    rintro e w2 ⟨rfl, rfl⟩
    by_cases hq : ∀ x ∈ l, 0 ≤ x
    · rw [show decide (¬ ∀ x ∈ l, 0 ≤ x) = false from decide_eq_false (fun h => h hq)]
      have HG : Hid (goodL l = true) := Lib.hid (decide_eq_true ⟨HL.out, hq⟩)
      clear hq
      go_wp2_with fail
      go_ret
      exact ⟨by rw [HG.out]; rfl, rfl⟩
    · rw [decide_eq_true hq]
      have HG : Hid (goodL l = false) := Lib.hid (decide_eq_false (fun h => hq h.2))
      clear hq
      go_wp2_with fail
      go_ret
      exact ⟨by rw [HG.out]; rfl, rfl⟩

set_option maxHeartbeats 4000000 in
set_option maxRecDepth 100000 in
theorem turn_any {w : World} {g : Nat} {s : PS} {F : List Nat} (h : St w g s F) (hz : s.sz < 1099511627776) (t : Int) {ids : List Int} {vi : Value} (hl : ids.length ≤ 1000000) (hi : I64s ids) (hrd : Rd w intE 1 vi ids) (qa qb : Int) {a b : Int} (ha : 0 ≤ a ∧ a < 9223372036854775808) (hb : 0 ≤ b ∧ b < 9223372036854775808) :
    Calls Try.prog 90 #[.agg (qC (some ⟨g, 0, none⟩) t vi qa qb), .agg #[.int .i64 a, .int .i64 b]] w (StRet w g F (turnS s t ids a b) (.tuple #[])) := by
  have L := Lib.hid (Liv.start h); have HZ := Lib.hid hz; have HL := Lib.hid hl; have HI := Lib.hid hi; have HRD := Lib.hid hrd; have HA := Lib.hid ha; have HB := Lib.hid hb
  obtain ⟨adi, capi, rfl, _, _⟩ := hrd.shape
  clear h hz hl hi hrd ha hb
  show Calls Try.prog 90 #[.agg #[.pointer (some ⟨g, 0, none⟩), .int .i64 t, .slice adi ids.length capi, .int .i64 qa, .int .i64 qb], .agg #[.int .i64 a, .int .i64 b]] w _
  obtain ⟨w1, hw1⟩ : ∃ w1, w1 = w.alloc (.cells #[.pointer (some ⟨g, 0, none⟩), .int .i64 t, .slice adi ids.length capi, .int .i64 qa, .int .i64 qb] 147) := ⟨_, rfl⟩
  obtain ⟨w2, hw2⟩ : ∃ w2, w2 = w1.alloc (.cells #[.int .i64 a, .int .i64 b] 145) := ⟨_, rfl⟩
  obtain ⟨R, hR⟩ : ∃ R, R = w.heap.size := ⟨_, rfl⟩
  have hx1 : w1.heap[R]? = some (.cells #[.pointer (some ⟨g, 0, none⟩), .int .i64 t, .slice adi ids.length capi, .int .i64 qa, .int .i64 qb] 147 (0, 0)) := by rw [hw1, hR]; exact heap_alloc_new _ _
  have hz1 : w1.heap.size = R + 1 := by rw [hw1, hR, World.size_alloc]
  have hx2 : w2.heap[R + 1]? = some (.cells #[.int .i64 a, .int .i64 b] 145 (0, 0)) := by rw [hw2, ← hz1]; exact heap_alloc_new _ _
  have hb1 : Below w.heap.size w w1 := by rw [hw1]; exact below_new w _
  have hb2 : Below w1.heap.size w1 w2 := by rw [hw2]; exact below_new w1 _
  obtain ⟨wz, hwz⟩ : ∃ wz, wz = w2.drew := ⟨_, rfl⟩
  have hb3 : Below w2.heap.size w2 wz := by rw [hwz]; exact Below.drew (Below.refl _ _)
  have hbb : Below w.heap.size w wz := (hb1.trans (hb2.mono hb1.size)).trans (hb3.mono (Nat.le_trans hb1.size hb2.size))
  have LZ := Lib.hid (L.out.later hbb); have RZ := Lib.hid (HRD.out.later hbb)
  have HX := Lib.hid (below_at' hb3 (below_at' hb2 hx1)); have HY := Lib.hid (below_at' hb3 hx2)
  clear L HRD hx1 hz1 hx2 hb1 hb2 hb3 hbb
  have hS : wz.cell? ⟨R, 0, none⟩ = some (.pointer (some ⟨g, 0, none⟩)) ∧ wz.cell? ⟨R, 1, none⟩ = some (.int .i64 t) ∧ wz.cell? ⟨R, 2, none⟩ = some (.slice adi ids.length capi) := ⟨Lib.cell_of_heap HX.out 0, Lib.cell_of_heap HX.out 1, Lib.cell_of_heap HX.out 2⟩
  by_cases hab : a = b
  · have HT : Hid (turnS s t ids a b = s.setRow (keyF t ids) []) := Lib.hid (if_pos hab)
    have he : (a == b) = true := beq_iff_eq.2 hab
    clear hab
    go_enter Try.func90, Try.ntmps90
    go_wp2_with fail
    rw [← hw1, ← hw2, ← hR]
    clear hw1 hw2 hR he
    refine wp_region_till (fun w' => w'.cell? ⟨R, 0, none⟩ = some (.pointer (some ⟨g, 0, none⟩)) ∧ w'.cell? ⟨R, 1, none⟩ = some (.int .i64 t) ∧ w'.cell? ⟨R, 2, none⟩ = some (.slice adi ids.length capi)) 8 8 (by kernel_rfl) rfl ?_
    rw [← hwz]
    clear hwz
    refine till_take 0 (some 9) rfl rfl (by kernel_rfl) (by kernel_rfl) (by kernel_rfl) (by kernel_rfl) (by kernel_rfl) (by kernel_rfl) (fun _ _ _ h => h) (.inl ⟨by rfl, fun w' _ => (by go_simp; rfl)⟩) hS ?_
    go_frame
    refine till_take 1 (some 10) rfl rfl (by kernel_rfl) (by kernel_rfl) (by kernel_rfl) (by kernel_rfl) (by kernel_rfl) (by kernel_rfl) (fun _ _ _ h => h) (.inl ⟨by rfl, fun w' hS' => (by obtain ⟨hc1, hc2, hc3⟩ := hS'; go_simp; rfl)⟩) hS ?_
    go_frame
    refine till_take 2 (some 11) rfl rfl (by kernel_rfl) (by kernel_rfl) (by kernel_rfl) (by kernel_rfl) (by kernel_rfl) (by kernel_rfl) (fun _ _ _ h => h) (.inl ⟨by rfl, fun w' _ => (by go_simp; rfl)⟩) hS ?_
    go_frame
    refine till_take 3 (some 12) rfl rfl (by kernel_rfl) (by kernel_rfl) (by kernel_rfl) (by kernel_rfl) (by kernel_rfl) (by kernel_rfl) (fun _ _ _ h => h) (.inl ⟨by rfl, fun w' hS' => (by obtain ⟨hc1, hc2, hc3⟩ := hS'; go_simp; rfl)⟩) hS ?_
    go_frame
    refine till_take 4 (some 13) rfl rfl (by kernel_rfl) (by kernel_rfl) (by kernel_rfl) (by kernel_rfl) (by kernel_rfl) (by kernel_rfl) (fun _ _ _ h => h) (.inl ⟨by rfl, fun w' _ => (by go_simp; rfl)⟩) hS ?_
    go_frame
    refine till_take 5 (some 14) rfl rfl (by kernel_rfl) (by kernel_rfl) (by kernel_rfl) (by kernel_rfl) (by kernel_rfl) (by kernel_rfl) (fun _ _ _ h => h) (.inl ⟨by rfl, fun w' hS' => (by obtain ⟨hc1, hc2, hc3⟩ := hS'; go_simp; rfl)⟩) hS ?_
    go_frame
    refine till_one 6 rfl (by kernel_rfl) fun K hK => ?_
    simp only [List.getElem_toArray, List.getElem_cons_succ, List.getElem_cons_zero]
    rw [if_pos (by rfl)]
    go_simp
    refine (key_any t ids _ _ (by have := HL.out; omega) HI.out RZ.out).mono ?_
    rintro e wa ⟨rfl, hb⟩
    have LA := Lib.hid (LZ.out.later hb); have HXA := Lib.hid (below_at' hb HX.out); have HYA := Lib.hid (below_at' hb HY.out)
    have hS1 : wa.cell? ⟨R, 0, none⟩ = some (.pointer (some ⟨g, 0, none⟩)) ∧ wa.cell? ⟨R, 1, none⟩ = some (.int .i64 t) ∧ wa.cell? ⟨R, 2, none⟩ = some (.slice adi ids.length capi) := ⟨Lib.cell_of_heap HXA.out 0, Lib.cell_of_heap HXA.out 1, Lib.cell_of_heap HXA.out 2⟩
    refine hK _ _ (fun _ _ => hS1) ?_
    clear hK hS hb LZ HX HY RZ
    have hS := hS1
    clear hS1
    refine till_one 7 rfl (by kernel_rfl) fun K hK => ?_
    simp only [List.getElem_toArray, List.getElem_cons_succ, List.getElem_cons_zero]
    rw [if_pos (by rfl)]
    go_simp
    refine (LA.out.call fun F h => setRow_any h HZ.out (keyF t ids) (l := []) (by simp) I64s_nil (Rd.nil _ _ _)).mono ?_
    rintro e we ⟨rfl, LE, oe⟩
    have LE := Lib.hid LE
    have hS1 : we.cell? ⟨R, 0, none⟩ = some (.pointer (some ⟨g, 0, none⟩)) ∧ we.cell? ⟨R, 1, none⟩ = some (.int .i64 t) ∧ we.cell? ⟨R, 2, none⟩ = some (.slice adi ids.length capi) := ⟨Lib.cell_of_heap (oe.2 R _ HXA.out rfl rfl) 0, Lib.cell_of_heap (oe.2 R _ HXA.out rfl rfl) 1, Lib.cell_of_heap (oe.2 R _ HXA.out rfl rfl) 2⟩
    refine hK _ _ (fun _ _ => hS1) ?_
    clear hK hS oe
    have hS := hS1
    clear hS1
    refine till_done (by kernel_rfl) ?_ _
    clear hS
    go_wp2_with fail
    go_end0
    rw [HT.out]
    exact LE.out.ret
  · have HT : Hid (turnS s t ids a b = s.setRow (keyF t ids) [a, b]) := Lib.hid (if_neg hab)
    have he : (a == b) = false := beq_eq_false_iff_ne.2 hab
    clear hab
    go_enter Try.func90, Try.ntmps90
    go_wp2_with fail
    rw [← hw1, ← hw2, ← hR]
    clear hw1 hw2 hR he
    refine wp_region_till (fun w' => w'.cell? ⟨R, 0, none⟩ = some (.pointer (some ⟨g, 0, none⟩)) ∧ w'.cell? ⟨R, 1, none⟩ = some (.int .i64 t) ∧ w'.cell? ⟨R, 2, none⟩ = some (.slice adi ids.length capi)) 9 9 (by kernel_rfl) rfl ?_
    rw [← hwz]
    clear hwz
    refine till_take 0 (some 17) rfl rfl (by kernel_rfl) (by kernel_rfl) (by kernel_rfl) (by kernel_rfl) (by kernel_rfl) (by kernel_rfl) (fun _ _ _ h => h) (.inl ⟨by rfl, fun w' _ => (by go_simp; rfl)⟩) hS ?_
    go_frame
    refine till_take 1 (some 18) rfl rfl (by kernel_rfl) (by kernel_rfl) (by kernel_rfl) (by kernel_rfl) (by kernel_rfl) (by kernel_rfl) (fun _ _ _ h => h) (.inl ⟨by rfl, fun w' hS' => (by obtain ⟨hc1, hc2, hc3⟩ := hS'; go_simp; rfl)⟩) hS ?_
    go_frame
    refine till_take 2 (some 19) rfl rfl (by kernel_rfl) (by kernel_rfl) (by kernel_rfl) (by kernel_rfl) (by kernel_rfl) (by kernel_rfl) (fun _ _ _ h => h) (.inl ⟨by rfl, fun w' _ => (by go_simp; rfl)⟩) hS ?_
    go_frame
    refine till_take 3 (some 20) rfl rfl (by kernel_rfl) (by kernel_rfl) (by kernel_rfl) (by kernel_rfl) (by kernel_rfl) (by kernel_rfl) (fun _ _ _ h => h) (.inl ⟨by rfl, fun w' hS' => (by obtain ⟨hc1, hc2, hc3⟩ := hS'; go_simp; rfl)⟩) hS ?_
    go_frame
    refine till_take 4 (some 21) rfl rfl (by kernel_rfl) (by kernel_rfl) (by kernel_rfl) (by kernel_rfl) (by kernel_rfl) (by kernel_rfl) (fun _ _ _ h => h) (.inl ⟨by rfl, fun w' _ => (by go_simp; rfl)⟩) hS ?_
    go_frame
    refine till_take 5 (some 22) rfl rfl (by kernel_rfl) (by kernel_rfl) (by kernel_rfl) (by kernel_rfl) (by kernel_rfl) (by kernel_rfl) (fun _ _ _ h => h) (.inl ⟨by rfl, fun w' hS' => (by obtain ⟨hc1, hc2, hc3⟩ := hS'; go_simp; rfl)⟩) hS ?_
    go_frame
    refine till_take 7 (some 24) rfl rfl (by kernel_rfl) (by kernel_rfl) (by kernel_rfl) (by kernel_rfl) (by kernel_rfl) (by kernel_rfl) (fun _ _ _ h => h) (.inl ⟨by rfl, fun w' _ => (by go_simp; rfl)⟩) hS ?_
    go_frame
    refine till_one 6 rfl (by kernel_rfl) fun K hK => ?_
    simp only [List.getElem_toArray, List.getElem_cons_succ, List.getElem_cons_zero]
    rw [if_pos (by rfl)]
    go_simp
    refine (key_any t ids _ _ (by have := HL.out; omega) HI.out RZ.out).mono ?_
    rintro e wa ⟨rfl, hb⟩
    have LA := Lib.hid (LZ.out.later hb); have HXA := Lib.hid (below_at' hb HX.out); have HYA := Lib.hid (below_at' hb HY.out)
    have hS1 : wa.cell? ⟨R, 0, none⟩ = some (.pointer (some ⟨g, 0, none⟩)) ∧ wa.cell? ⟨R, 1, none⟩ = some (.int .i64 t) ∧ wa.cell? ⟨R, 2, none⟩ = some (.slice adi ids.length capi) := ⟨Lib.cell_of_heap HXA.out 0, Lib.cell_of_heap HXA.out 1, Lib.cell_of_heap HXA.out 2⟩
    refine hK _ _ (fun _ _ => hS1) ?_
    clear hK hS hb LZ HX HY RZ
    have hS := hS1
    clear hS1
    refine till_one 8 rfl (by kernel_rfl) fun K hK => ?_
    simp only [List.getElem_toArray, List.getElem_cons_succ, List.getElem_cons_zero]
    rw [if_pos (by rfl)]
    go_simp
    refine (LA.out.call fun F h => setRow_any h HZ.out (keyF t ids) (l := [a, b]) (by simp) (I64s.two ⟨by have := HA.out; omega, HA.out.2⟩ ⟨by have := HB.out; omega, HB.out.2⟩) (rdArr HYA.out)).mono ?_
    rintro e we ⟨rfl, LE, oe⟩
    have LE := Lib.hid LE
    have hS1 : we.cell? ⟨R, 0, none⟩ = some (.pointer (some ⟨g, 0, none⟩)) ∧ we.cell? ⟨R, 1, none⟩ = some (.int .i64 t) ∧ we.cell? ⟨R, 2, none⟩ = some (.slice adi ids.length capi) := ⟨Lib.cell_of_heap (oe.2 R _ HXA.out rfl rfl) 0, Lib.cell_of_heap (oe.2 R _ HXA.out rfl rfl) 1, Lib.cell_of_heap (oe.2 R _ HXA.out rfl rfl) 2⟩
    refine hK _ _ (fun _ _ => hS1) ?_
    clear hK hS oe
    have hS := hS1
    clear hS1
    refine till_done (by kernel_rfl) ?_ _
    clear hS
    go_wp2_with fail
    go_end0
    rw [HT.out]
    exact LE.out.ret
end Go.Proofs.Ytohedljdkfmkdaa
