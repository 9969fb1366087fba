/- Keys of rows: as keys of a map, and the order that they are sorted by (code). No condition. The order that rows are sorted by (code). No condition. -/
import Derived.Test.YtmclmccgghnglaaGreatLs4
import Derived.Test.YtmclmccgghnglaaGreatLsSrt
import Derived.Test.YtmclmccgghnglaaGreatLsOwn
import Derived.Test.YtmclmccgghnglaaGreatLsReg
import Derived.DeepKeys5
import Derived.Deep.Cut
namespace Go.Proofs.YtmclmccgghnglaaGreat
section
open Go.RowKit Go.Sort Go.Shelf
open Go.Maps (Keyed)

def kE (k : Int × Int) : List Value := [.int .i64 k.1, .int .i64 k.2]
def kV (k : Int × Int) : Value := .agg #[.int .i64 k.1, .int .i64 k.2]
def I64k (k : Int × Int) : Prop := (-9223372036854775808 ≤ k.1 ∧ k.1 < 9223372036854775808) ∧ (-9223372036854775808 ≤ k.2 ∧ k.2 < 9223372036854775808)
theorem kE_len (k : Int × Int) : (kE k).length = 2 := rfl
theorem kE_one (k : Int × Int) : ∀ u ∈ kE k, u.oneCell' = true := by
  intro u hu
  simp only [kE, List.mem_cons, List.not_mem_nil, or_false] at hu
  rcases hu with rfl | rfl <;> rfl
theorem kV_inj (a b : Int × Int) (h : kV a = kV b) : a = b := by
  obtain ⟨a1, a2⟩ := a; obtain ⟨b1, b2⟩ := b
  simpa [kV] using h
theorem Tryz.keyLaid : laidOutB Tryz.prog = true := by kernel_rfl
theorem Tryz.keyKeyed : Keyed Tryz.prog 136 :=
  Keyed.of_law (deep_law_gate Tryz.keyLaid (of_decide_eq_true (by kernel_rfl)) (of_decide_eq_true (by kernel_rfl)) (by kernel_rfl) (by kernel_rfl))
theorem wf_i64l {n : Int} (h : -9223372036854775808 ≤ n ∧ n < 9223372036854775808) : (Lit.int .i64 n).wf = true := by
  simp [Lit.wf, IntKind.min, IntKind.signed, IntKind.bits]
  omega
theorem Tryz.keyLit {k : Int × Int} (hk : I64k k) : Tryz.prog.keyLits (Tryz.prog.types.size + 1) 136 (kV k).cells.toList = some [.int .i64 k.1, .int .i64 k.2] := by
  have h1 := wf_i64l hk.1; have h2 := wf_i64l hk.2
  obtain ⟨d, hd⟩ : ∃ d, Tryz.prog.types.size = d + 1 := ⟨Tryz.prog.types.size - 1, by kernel_rfl⟩
  have hc : Tryz.prog.cellsOf 136 = 2 := by kernel_rfl
  have hi : Tryz.prog.cellsOf 3 = 1 := by kernel_rfl
  rw [hd]
  unfold Program.keyLits
  rw [Tryz.underlying136]
  simp only [kV, Value.cells]
  rw [hc]
  simp [Program.keyLits, Tryz.underlying3, hi, h1, h2]
theorem Tryz.keyOk : KeyOk Tryz.prog 136 kV I64k where
  keyed := Tryz.keyKeyed
  key k hk := by
    unfold keyOf
    rw [Tryz.underlying136]
    have hc : Tryz.prog.cellsOf 136 = 2 := by kernel_rfl
    have hf : (Tryz.prog.keyType 136 && (kV k).formed Tryz.prog 136) = true := by
      rw [show Tryz.prog.keyType 136 = true by kernel_rfl]
      simp only [kV, Value.formed, Tryz.underlying136, hc]
      rfl
    simp only [hf, if_true, Tryz.keyLit hk]
    exact ⟨_, rfl⟩
  inj := kV_inj
end
section
open Go.RowKit Go.Sort Go.Shelf

def cmpI (x y : Int) : Int := if x < y then -1 else if y < x then 1 else 0
set_option maxHeartbeats 1000000 in
theorem isnan_any (x : Int) (w : World) : Calls Tryz.prog 183 #[.int .i64 x] w fun e w' => e = .returned (.bool false) ∧ w = w' := by
  have h : (x != x) = false := by simp
  go_enter Tryz.func183, Tryz.ntmps183
  go_wp2_with fail
  go_ret
  exact ⟨rfl, rfl⟩
set_option maxHeartbeats 1000000 in
theorem cmpI_any (x y : Int) (w : World) : Calls Tryz.prog 82 #[.int .i64 x, .int .i64 y] w fun e w' => e = .returned (.int .i64 (cmpI x y)) ∧ w = w' := by
  have hv : (x < y ∧ cmpI x y = -1) ∨ (¬ x < y ∧ y < x ∧ cmpI x y = 1) ∨ (¬ x < y ∧ ¬ y < x ∧ cmpI x y = 0) := by
    unfold cmpI
    by_cases h : x < y
    · exact .inl ⟨h, if_pos h⟩
    · by_cases h2 : y < x
      · exact .inr (.inl ⟨h, h2, by rw [if_neg h, if_pos h2]⟩)
      · exact .inr (.inr ⟨h, h2, by rw [if_neg h, if_neg h2]⟩)
  obtain ⟨r, hr⟩ : ∃ r, r = cmpI x y := ⟨_, rfl⟩
  rw [← hr] at hv ⊢
  clear hr
  rcases hv with ⟨h1, rfl⟩ | ⟨h1, h2, rfl⟩ | ⟨h1, h2, rfl⟩
  all_goals
    go_enter Tryz.func82, Tryz.ntmps82
    go_wp2_with fail
    refine (isnan_any x _).mono ?_
    rintro e w1 ⟨rfl, rfl⟩
    go_wp2_with fail
    refine (isnan_any y _).mono ?_
    rintro e w1 ⟨rfl, rfl⟩
    go_wp2_with fail
    go_ret
    exact ⟨rfl, rfl⟩
set_option maxHeartbeats 1000000 in
theorem cmpOr_any (a b : Int) (v : Value) (w : World) (h : Rd w intE 1 v [a, b]) : Calls Tryz.prog 81 #[v] w fun e w' => e = .returned (.int .i64 (if a ≠ 0 then a else b)) ∧ w = w' := by
  obtain ⟨r, hr⟩ : ∃ r, r = if a ≠ 0 then a else b := ⟨_, rfl⟩
  rw [← hr]
  have HR := Lib.hid hr
  clear hr
  obtain ⟨ad, cap, rfl, _, _⟩ := h.shape
  obtain ⟨bb, off, rfl, hbb, c0⟩ := h.at 0 (by simp)
  obtain ⟨_, _, e, _, c1⟩ := h.at 1 (by simp)
  cases e
  replace c0 : w.cell? ⟨bb, off + 0, none⟩ = some (.int .i64 a) := c0
  replace c1 : w.cell? ⟨bb, off + 1, none⟩ = some (.int .i64 b) := c1
  rw [Nat.add_zero] at c0
  clear h hbb
  go_enter Tryz.func81, Tryz.ntmps81
  go_wp2_with fail
  go_loopw [8] (fun x wr => wr = w ∧ (x = .int .i64 0 ∨ (x = .int .i64 1 ∧ Hid (a = 0)) ∨ (x = .int .i64 2 ∧ Hid (a = 0 ∧ b = 0)))) (fun x _ => 2 - (intOf x).toNat)
  case atStart => exact ⟨rfl, .inl rfl⟩
  case round =>
    obtain ⟨rfl, rfl | ⟨rfl, ha⟩ | ⟨rfl, ha⟩⟩ := hrel
    · by_cases h0 : a = 0
      · have ht : (a != 0) = false := by simp [h0]
        have H0 := Lib.hid h0; clear h0
        go_wp2_with fail
        go_roundw
        case rel => exact ⟨by first | rfl | trivial, .inr (.inl ⟨rfl, H0⟩)⟩
        case measure => simp [intOf]
      · have ht : (a != 0) = true := by simp [h0]
        have H0 := Lib.hid h0; clear h0
        go_wp2_with fail
        go_ret
        exact ⟨by rw [HR.out, if_pos H0.out]; rfl, rfl⟩
    · by_cases h0 : b = 0
      · have ht : (b != 0) = false := by simp [h0]
        have H0 := Lib.hid h0; clear h0
        go_wp2_with fail
        go_roundw
        case rel => exact ⟨by first | rfl | trivial, .inr (.inr ⟨rfl, Lib.hid ⟨ha.out, H0.out⟩⟩)⟩
        case measure => simp [intOf]
      · have ht : (b != 0) = true := by simp [h0]
        have H0 := Lib.hid h0; clear h0
        go_wp2_with fail
        go_ret
        exact ⟨by rw [HR.out, if_neg (fun h => h ha.out)]; rfl, rfl⟩
    · go_wp2_with fail
      go_ret
      exact ⟨by rw [HR.out, if_neg (fun h => h ha.out.1), ha.out.2]; rfl, rfl⟩
/-- How two keys stand. -/
def cmpK (x y : Int × Int) : Int := if cmpI x.1 y.1 ≠ 0 then cmpI x.1 y.1 else cmpI x.2 y.2

set_option maxHeartbeats 4000000 in
set_option maxRecDepth 100000 in
theorem clos_any (x y : Int × Int) (w : World) : Calls Tryz.prog 80 #[.agg (kE x).toArray, .agg (kE y).toArray] w fun e w' => e = .returned (.int .i64 (cmpK x y)) ∧ ∃ q os', w' = grow (w.drewN q) os' := by
  obtain ⟨x1, x2⟩ := x; obtain ⟨y1, y2⟩ := y
  show Calls Tryz.prog 80 #[.agg #[.int .i64 x1, .int .i64 x2], .agg #[.int .i64 y1, .int .i64 y2]] w _
  obtain ⟨a, ha⟩ : ∃ a, a = cmpI x1 y1 := ⟨_, rfl⟩
  obtain ⟨b, hb⟩ : ∃ b, b = cmpI x2 y2 := ⟨_, rfl⟩
  have HA := Lib.hid (fun w => by rw [ha]; exact cmpI_any x1 y1 w : ∀ w, Calls Tryz.prog 82 #[.int .i64 x1, .int .i64 y1] w fun e w' => e = .returned (.int .i64 a) ∧ w = w')
  have HB := Lib.hid (fun w => by rw [hb]; exact cmpI_any x2 y2 w : ∀ w, Calls Tryz.prog 82 #[.int .i64 x2, .int .i64 y2] w fun e w' => e = .returned (.int .i64 b) ∧ w = w')
  obtain ⟨r, hr⟩ : ∃ r, r = cmpK (x1, x2) (y1, y2) := ⟨_, rfl⟩
  rw [← hr]
  have HR := Lib.hid (show r = if a ≠ 0 then a else b by rw [hr, ha, hb]; rfl)
  clear ha hb hr
  go_enter Tryz.func80, Tryz.ntmps80
  go_wp2_with fail
  obtain ⟨X, hX⟩ : ∃ X, X = w.heap.size := ⟨_, rfl⟩
  obtain ⟨Y, hY⟩ : ∃ Y, Y = X + 1 := ⟨_, rfl⟩
  obtain ⟨wz, hwz⟩ : ∃ wz, wz = ((w.alloc (.cells #[.int .i64 x1, .int .i64 x2] 136)).alloc (.cells #[.int .i64 y1, .int .i64 y2] 136)).drew := ⟨_, rfl⟩
  have hS : wz.heap[X]? = some (.cells #[.int .i64 x1, .int .i64 x2] 136 (0, 0)) ∧ wz.heap[Y]? = some (.cells #[.int .i64 y1, .int .i64 y2] 136 (0, 0)) := by
    rw [hwz, hY, hX]
    exact ⟨heap_alloc2_old _ _ _, heap_alloc2_new _ _ _⟩
  have HG := Lib.hid (show wz = grow (w.drewN 1) #[.cells #[.int .i64 x1, .int .i64 x2] 136 (0, 0), .cells #[.int .i64 y1, .int .i64 y2] 136 (0, 0)] by rw [hwz, alloc_eq_grow, alloc_eq_grow, grow_grow]; rfl)
  rw [← hX, ← hY]
  refine wp_region_till (fun w' => w'.heap[X]? = some (.cells #[.int .i64 x1, .int .i64 x2] 136 (0, 0)) ∧ w'.heap[Y]? = some (.cells #[.int .i64 y1, .int .i64 y2] 136 (0, 0))) 13 13 (by kernel_rfl) rfl ?_
  rw [← hwz]
  clear hwz hX hY
  refine till_take 0 (some 5) rfl rfl (by kernel_rfl) (by kernel_rfl) (by kernel_rfl) (by kernel_rfl) (by kernel_rfl) (by kernel_rfl) (fun _ _ _ h => h) (.inl ⟨by rfl, fun w' _ => (by go_simp; rfl)⟩) hS ?_
  go_frame
  refine till_take 1 (some 6) rfl rfl (by kernel_rfl) (by kernel_rfl) (by kernel_rfl) (by kernel_rfl) (by kernel_rfl) (by kernel_rfl) (fun _ _ _ h => h) (.inl ⟨by rfl, fun w' hS' => (by have hc : w'.cell? ⟨X, 0, none⟩ = some (.int .i64 x1) := Lib.cell_of_heap hS'.1 0; go_simp; rfl)⟩) hS ?_
  go_frame
  refine till_take 2 (some 7) rfl rfl (by kernel_rfl) (by kernel_rfl) (by kernel_rfl) (by kernel_rfl) (by kernel_rfl) (by kernel_rfl) (fun _ _ _ h => h) (.inl ⟨by rfl, fun w' _ => (by go_simp; rfl)⟩) hS ?_
  go_frame
  refine till_take 3 (some 8) rfl rfl (by kernel_rfl) (by kernel_rfl) (by kernel_rfl) (by kernel_rfl) (by kernel_rfl) (by kernel_rfl) (fun _ _ _ h => h) (.inl ⟨by rfl, fun w' hS' => (by have hc : w'.cell? ⟨Y, 0, none⟩ = some (.int .i64 y1) := Lib.cell_of_heap hS'.2 0; go_simp; rfl)⟩) hS ?_
  go_frame
  refine till_take 5 (some 10) rfl rfl (by kernel_rfl) (by kernel_rfl) (by kernel_rfl) (by kernel_rfl) (by kernel_rfl) (by kernel_rfl) (fun _ _ _ h => h) (.inl ⟨by rfl, fun w' _ => (by go_simp; rfl)⟩) hS ?_
  go_frame
  refine till_take 6 (some 11) rfl rfl (by kernel_rfl) (by kernel_rfl) (by kernel_rfl) (by kernel_rfl) (by kernel_rfl) (by kernel_rfl) (fun _ _ _ h => h) (.inl ⟨by rfl, fun w' hS' => (by have hc : w'.cell? ⟨X, 1, none⟩ = some (.int .i64 x2) := Lib.cell_of_heap hS'.1 1; go_simp; rfl)⟩) hS ?_
  go_frame
  refine till_take 7 (some 12) rfl rfl (by kernel_rfl) (by kernel_rfl) (by kernel_rfl) (by kernel_rfl) (by kernel_rfl) (by kernel_rfl) (fun _ _ _ h => h) (.inl ⟨by rfl, fun w' _ => (by go_simp; rfl)⟩) hS ?_
  go_frame
  refine till_take 8 (some 13) rfl rfl (by kernel_rfl) (by kernel_rfl) (by kernel_rfl) (by kernel_rfl) (by kernel_rfl) (by kernel_rfl) (fun _ _ _ h => h) (.inl ⟨by rfl, fun w' hS' => (by have hc : w'.cell? ⟨Y, 1, none⟩ = some (.int .i64 y2) := Lib.cell_of_heap hS'.2 1; go_simp; rfl)⟩) hS ?_
  go_frame
  refine till_one 4 rfl (by kernel_rfl) fun K hK => ?_
  simp only [List.getElem_toArray, List.getElem_cons_succ, List.getElem_cons_zero]
  rw [if_pos (by rfl)]
  go_simp
  refine (HA.out _).mono ?_
  rintro e w2 ⟨rfl, rfl⟩
  refine hK _ _ (fun _ _ => hS) ?_
  clear hK
  refine till_one 9 rfl (by kernel_rfl) fun K hK => ?_
  simp only [List.getElem_toArray, List.getElem_cons_succ, List.getElem_cons_zero]
  rw [if_pos (by rfl)]
  go_simp
  refine (HB.out _).mono ?_
  rintro e w2 ⟨rfl, rfl⟩
  refine hK _ _ (fun _ _ => hS) ?_
  clear hK
  refine till_one 10 rfl (by kernel_rfl) fun K hK => ?_
  simp only [List.getElem_toArray, List.getElem_cons_succ, List.getElem_cons_zero]
  rw [if_pos (by rfl)]
  go_simp
  obtain ⟨w3, hw3⟩ : ∃ w3, w3 = wz.alloc (.cells #[.int .i64 a, .int .i64 b] 3) := ⟨_, rfl⟩
  have hrd : Rd w3 intE 1 (.slice (some ⟨wz.heap.size, 0, none⟩) 2 2) [a, b] := by rw [hw3]; exact rd_new1 wz intE (fun _ => rfl) 3 [a, b] _ 2 rfl (by omega) rfl
  have HG3 := Lib.hid (show w3 = grow wz #[.cells #[.int .i64 a, .int .i64 b] 3 (0, 0)] by rw [hw3, alloc_eq_grow])
  rw [← hw3]
  have hb3 : Below wz.heap.size wz w3 := by rw [hw3]; exact (Below.refl _ _).alloc (Nat.le_refl _) _
  have hS3 := And.intro ((hb3.block _ (heap_lt hS.1)).trans hS.1) ((hb3.block _ (heap_lt hS.2)).trans hS.2)
  have HO := Lib.hid (cmpOr_any a b _ w3 hrd)
  rw [← HR.out] at HO
  clear hw3 hb3 hrd hS
  have hS := hS3
  clear hS3
  refine hK _ _ (fun _ _ => hS) ?_
  clear hK
  refine till_one 11 rfl (by kernel_rfl) fun K hK => ?_
  simp only [List.getElem_toArray, List.getElem_cons_succ, List.getElem_cons_zero]
  rw [if_pos (by rfl)]
  go_simp
  refine HO.out.mono ?_
  rintro e w2 ⟨rfl, rfl⟩
  refine hK _ _ (fun _ _ => hS) ?_
  clear hK
  refine till_take 12 (some 4) rfl rfl (by kernel_rfl) (by kernel_rfl) (by kernel_rfl) (by kernel_rfl) (by kernel_rfl) (by kernel_rfl) (fun _ _ _ h => h) (.inl ⟨by rfl, fun w' _ => (by go_simp; rfl)⟩) hS ?_
  go_frame
  refine till_done (by kernel_rfl) ?_ _
  clear hS
  go_wp2_with fail
  go_ret
  exact ⟨rfl, 1, _, by rw [HG3.out, HG.out, grow_grow]⟩

theorem cmpI_lt (x y : Int) : cmpI x y < 0 ↔ x < y := by
  unfold cmpI
  split
  · simp [*]
  · split <;> simp [*]
theorem cmpI_eq (x y : Int) : cmpI x y = 0 ↔ x = y := by
  unfold cmpI
  split
  · simp; omega
  · split
    · simp; omega
    · simp; omega
/-- One key stands ahead of another. -/
def kLt (x y : Int × Int) : Prop := x.1 < y.1 ∨ (x.1 = y.1 ∧ x.2 < y.2)
theorem cmpK_lt (x y : Int × Int) : ltOf cmpK x y = true ↔ kLt x y := by
  unfold ltOf cmpK kLt
  simp only [decide_eq_true_eq]
  by_cases h : x.1 = y.1
  · rw [if_neg (fun e => e ((cmpI_eq _ _).2 h)), cmpI_lt]
    omega
  · rw [if_pos (fun e => h ((cmpI_eq _ _).1 e)), cmpI_lt]
    omega
theorem cmpK_ge (x y : Int × Int) : ltOf cmpK x y = false ↔ ¬ kLt x y := by rw [← cmpK_lt]; simp
theorem kLt_irrefl (x : Int × Int) : ¬ kLt x x := by unfold kLt; omega
theorem kLt_trans {x y z : Int × Int} (h : kLt x y) (k : kLt y z) : kLt x z := by unfold kLt at *; omega
theorem kLt_total {x y : Int × Int} (h : ¬ kLt x y) (k : ¬ kLt y x) : x = y := by
  obtain ⟨a, b⟩ := x; obtain ⟨c, d⟩ := y
  unfold kLt at *
  simp only at h k
  rw [Prod.mk.injEq]; omega
theorem cmpK_SWO : SWO (ltOf cmpK) where
  irrefl x := (cmpK_ge x x).2 (kLt_irrefl x)
  trans x y z h k := (cmpK_lt x z).2 (kLt_trans ((cmpK_lt x y).1 h) ((cmpK_lt y z).1 k))
  ntrans x y z h k := (cmpK_ge x z).2 (by have h1 := (cmpK_ge x y).1 h; have h2 := (cmpK_ge y z).1 k; unfold kLt at *; omega)
end
end Go.Proofs.YtmclmccgghnglaaGreat
