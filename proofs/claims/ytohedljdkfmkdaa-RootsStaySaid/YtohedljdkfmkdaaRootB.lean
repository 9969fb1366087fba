/- Roots: Count, Get and Usable, of the code and the document's. -/
import Derived.Test.YtohedljdkfmkdaaRootA
namespace Go.Proofs.Ytohedljdkfmkdaa
open Go.RowKit

theorem res_row_val3 {P : Program} {fn : Func} {p u1 u2 u3 : Tmp} {ty : TypeId} (h : fn.results = #[.cell p ty, .tmp u1, .tmp u2, .tmp u3]) (tmps : Array Value) (w : World) (g : Nat) (t : TypeId) (cs : Array Value) (fr : Nat × Nat) (d : TypeDesc)
    (hp : tmps.getD p undef = .pointer (some ⟨g, 0, none⟩)) (hg : w.heap[g]? = some (.cells cs t fr))
    (hu : P.underlying ty = some d) (hd : (match d with | .struct _ | .array _ _ => true | _ => false) = true) (hi : (P.info? ty).map (·.size) = some cs.size) (v1 v2 v3 : Value) (h1 : tmps.getD u1 undef = v1) (h2 : tmps.getD u2 undef = v2) (h3 : tmps.getD u3 undef = v3) :
    (results fn tmps).run P w = .ok (.tuple #[.agg cs, v1, v2, v3]) w := by
  subst h1 h2 h3
  have h4 : (results fn tmps).run P w =
      ((asAddr (tmps.getD p undef)).run P w).andThen fun a w₁ => ((loadVar ty a).run P w₁).andThen fun v w₂ => .ok (.tuple #[v, tmps.getD u1 undef, tmps.getD u2 undef, tmps.getD u3 undef]) w₂ := by
    simp only [results, h]
    simp [Sem.run_bind, Result.andThen]
  rw [h4, hp]
  have := run_loadVar_row (P := P) w g t ty cs fr d hg hu hd hi
  simp [asAddr, this, Result.andThen]
theorem rstr_index {P : Program} (t : TypeId) (ht : P.underlying t = some .string) (k : IntKind) (l : List UInt8) (i : Nat) (hi : i < l.length) (x : Int) (hx : x = (i : Int)) (w : World) :
    (Instr.index t (.string (bs l)) (.int k x)).run P w = .ok (.int .u8 ((gB l i).toNat : Int)) w := by
  subst hx
  rw [run_index_string w t _ k _ ht]
  have hi2 : (0 : Int) ≤ (i : Int) ∧ (i : Int) < ((bs l).size : Int) := by rw [bs_size]; omega
  rw [dif_pos hi2]
  congr 3
  simp only [ge_beq, Int.toNat_natCast, bs_toList, gB]
  rw [List.getD_eq_getElem?_getD, List.getElem?_eq_getElem hi]; rfl
def fillT (v : Txt) (k : Nat) : Txt := v.take k ++ z32.drop k
theorem fillT_len {v : Txt} (h : v.length = 32) {k : Nat} (hk : k ≤ 32) : (fillT v k).length = 32 := by
  unfold fillT; rw [List.length_append, List.length_take, List.length_drop, h, z32_len]; omega
theorem fillT_all {v : Txt} (h : v.length = 32) : fillT v 32 = v := by
  unfold fillT; rw [List.take_of_length_le (by omega), List.drop_of_length_le (by rw [z32_len]; omega), List.append_nil]
theorem fillT_set {v : Txt} (h : v.length = 32) {k : Nat} (hk : k < 32) : (c8 (fillT v k)).setIfInBounds k (.int .u8 ((gB v k).toNat : Int)) = c8 (fillT v (k + 1)) := by
  have e : fillT v (k + 1) = (fillT v k).set k (gB v k) := by
    unfold fillT
    have hl : (v.take k).length = k := by rw [List.length_take]; omega
    rw [List.set_append_right k (gB v k) (Nat.le_of_eq hl), hl, Nat.sub_self]
    have hz : k < z32.length := by rw [z32_len]; exact hk
    have hv : k < v.length := by rw [h]; exact hk
    rw [List.drop_eq_getElem_cons hz, List.set_cons_zero]
    rw [List.take_succ_eq_append_getElem hv, gB, List.getD_eq_getElem?_getD, List.getElem?_eq_getElem hv, Option.getD_some, List.append_assoc]
    rfl
  rw [e]
  unfold c8
  rw [List.map_set]
  simp [byteV]

theorem use_none {f : Txt → Option Txt} {i b : Int} (h : (rootF f i).ok = false) : useE f i b = 8 ∧ useH f i b = z32 := by
  have e : useE f i b = 8 := by unfold useE; rw [if_pos h]
  exact ⟨e, by unfold useH; rw [e]; rfl⟩
theorem use_off {f : Txt → Option Txt} {i b : Int} (h : (rootF f i).ok = true) (h2 : (rootF f i).st ≠ 1 ∨ b < (rootF f i).at_) : useE f i b = 10 ∧ useH f i b = z32 := by
  have e : useE f i b = 10 := by unfold useE; rw [if_neg (by rw [h]; decide), if_pos h2]
  exact ⟨e, by unfold useH; rw [e]; rfl⟩
theorem use_on {f : Txt → Option Txt} {i b : Int} {r : RV} (hr : rootF f i = r) (h : r.ok = true) (h2 : r.st = 1) (h3 : r.at_ ≤ b) : useE f i b = 0 ∧ useH f i b = r.h := by
  subst hr
  have e := useE_yes h h2 h3
  exact ⟨e, by unfold useH; rw [if_pos e]⟩

/-- A whole row is read. -/
theorem load_heap {P : Program} {w : World} {g : Nat} {t ty : TypeId} {cs : Array Value} {fr : Nat × Nat} {d : TypeDesc} (hg : w.heap[g]? = some (.cells cs t fr))
    (hu : P.underlying ty = some d) (hd : (match d with | .struct _ | .array _ _ => true | _ => false) = true) (hi : (P.info? ty).map (·.size) = some cs.size) :
    (Instr.loadAt ty (.pointer (some ⟨g, 0, none⟩))).run P w = .ok (.agg cs) w := by
  have h := run_loadVar_row (P := P) w g t ty cs fr d hg hu hd hi
  exact h

theorem cnt_any {w : World} {x : Option Addr} {m : Bool} {f : Txt → Option Txt} (h : Look w x m f) (hf : FitF f) :
    Calls Try.prog 50 #[.pointer x] w (Ret w (.int .i64 (cntF f))) := by
  have H := Lib.hid h; have HF := Lib.hid hf
  clear h hf
  go_enter Try.func50, Try.ntmps50
  go_wp2_with fail
  refine (key_any 36 [] _ _ (by simp) I64s_nil (Rd.nil _ _ _)).mono ?_
  rintro e w1 ⟨rfl, hb1⟩
  have HB1 := Lib.hid hb1
  clear hb1
  go_wp2_with fail
  refine (int_any (H.out.later HB1.out) HF.out (keyF 36 [])).mono ?_
  rintro e w2 ⟨rfl, hb2⟩
  have HB2 := Lib.hid (HB1.out.trans (hb2.mono HB1.out.size))
  clear hb2 HB1
  go_wp2_with fail
  go_ret
  exact ⟨rfl, HB2.out⟩
theorem rcnt_any {w : World} {g : Nat} {s : PS} {F : List Nat} (h : RS w g s F) (hz : s.sz < 1099511627776) (hf : Fit s) :
    Calls Try.prog 60 #[.pointer (some ⟨g, 0, none⟩)] w (Ret w (.int .i64 (cntF (getP s.t)))) := by
  have H := Lib.hid h; have HF := Lib.hid hf; have HZ := Lib.hid hz
  clear h hf hz
  go_enter Try.func60, Try.ntmps60
  go_wp2_with fail
  refine (refKey_any 36 [] _ _ (by simp) I64s_nil (Rd.nil _ _ _)).mono ?_
  rintro e w1 ⟨rfl, hb1⟩
  have HB1 := Lib.hid hb1
  clear hb1
  go_wp2_with fail
  refine (rint_any (H.out.later HB1.out) HZ.out HF.out (keyF 36 [])).mono ?_
  rintro e w2 ⟨rfl, hb2⟩
  have HB2 := Lib.hid (HB1.out.trans (hb2.mono HB1.out.size))
  clear hb2 HB1
  go_wp2_with fail
  go_ret
  exact ⟨rfl, HB2.out⟩

set_option maxHeartbeats 4000000 in
set_option maxRecDepth 100000 in
theorem get32_any {w : World} {x : Option Addr} {m : Bool} {f : Txt → Option Txt} (h : Look w x m f) (hf : FitF f) {i : Int} (hi : -9223372036854775808 ≤ i ∧ i < 9223372036854775808) :
    Calls Try.prog 47 #[.pointer x, .int .i64 i] w (Ret w (.tuple #[.agg (c8 (rootF f i).h), .int .i64 (rootF f i).at_, .bool ((rootF f i).st == 1), .bool (rootF f i).ok])) := by
  have H := Lib.hid h; have HF := Lib.hid hf; have HI := Lib.hid hi
  clear h hf hi
  have hlen := rootF_h f i
  go_enter Try.func47, Try.ntmps47
  go_wp2_with (refine wpList_alloc_g rfl _ rfl _ _ Try.zeroHsh rfl ?_)
  intro R w1 h1
  have HR1 := Lib.hid h1.out.cells; have HB1 := Lib.hid h1.out.below; have HRW : Hid (w.heap.size ≤ R) := Lib.hid (Nat.le_of_eq h1.out.eq.symm)
  clear h1
  go_wp2_with fail
  refine (of_any (H.out.later HB1.out) HF.out HI.out).mono ?_
  rintro e w2 ⟨rfl, hb2⟩
  have HB2 := Lib.hid (HB1.out.trans (hb2.mono HB1.out.size)); have HR2 := Lib.hid (below_at' hb2 HR1.out)
  clear hb2 HB1 HR1
  obtain ⟨h, st, a, ok, hr⟩ : ∃ h st a ok, rootF f i = ⟨h, st, a, ok⟩ := ⟨_, _, _, _, rfl⟩
  have HRT := Lib.hid hr
  rw [hr] at hlen ⊢
  have HH : Hid (h.length = 32) := Lib.hid hlen
  clear hlen hr
  go_wp2_with (refine wpList_alloc_g rfl _ rfl _ _ Try.zeroRoot rfl ?_)
  intro X w3 h3
  have HX3 := Lib.hid h3.out.cells; have HB3 := Lib.hid (HB2.out.trans (h3.out.below.mono HB2.out.size)); have HR3 := Lib.hid (below_at' h3.out.below HR2.out); have HXW : Hid (w.heap.size ≤ X) := Lib.hid (by rw [h3.out.eq]; exact HB2.out.size)
  have HXR : Hid (X ≠ R) := Lib.hid (by have := heap_lt HR2.out; have := h3.out.eq; omega)
  clear h3 HB2 HR2
  go_wp2_with (refine wpList_store_row_g (t := 155) (old := rvC RV.none) rfl 155 _ _ rfl X (rvC ⟨h, st, a, ok⟩) rfl rfl HX3.out (Try.sizeRoot (r := ⟨h, st, a, ok⟩) HH.out) (by rw [rvC_size (r := ⟨h, st, a, ok⟩) HH.out, rvC_size (r := RV.none) z32_len]) (rvC_one _) ?_)
  intro w4 hx4 k34 z34
  have HX4 := Lib.hid hx4; have HB4 := Lib.hid (HB3.out.trans (k34.below (B := w.heap.size) (fun y hy e => by have := HXW.out; omega) HB3.out.size)); have HR4 := Lib.hid (k34.at HR3.out (fun e => HXR.out e.symm))
  clear hx4 k34 z34 HX3 HB3 HR3
  have hS : w4.drew.heap[X]? = some (.cells (rvC ⟨h, st, a, ok⟩) 155 (0, 0)) := HX4.out
  have HR4d : Hid (w4.drew.heap[R]? = some (.cells (c8 z32) 83 (0, 0))) := HR4; have HB4d := Lib.hid HB4.out.drew
  clear HX4 HR4 HB4
  go_wp2_with fail
  refine wp_region_till (fun w' => w'.heap[X]? = some (.cells (rvC ⟨h, st, a, ok⟩) 155 (0, 0))) 12 12 (by kernel_rfl) rfl ?_
  refine till_take 0 (some 16) rfl rfl (by kernel_rfl) (by kernel_rfl) (by kernel_rfl) (by kernel_rfl) (by kernel_rfl) (by kernel_rfl) (fun _ _ _ h => h) (.inl ⟨by rfl, fun w' _ => (by go_simp; rfl)⟩) hS ?_
  go_frame
  refine till_take 1 (some 17) rfl rfl (by kernel_rfl) (by kernel_rfl) (by kernel_rfl) (by kernel_rfl) (by kernel_rfl) (by kernel_rfl) (fun _ _ _ h => h) (yieldsIf_load_mid (by rfl) 83 _ rfl X 0 rfl (h.map byteV) _ (fun w' hS' => rvC_h (r := ⟨h, st, a, ok⟩) hS') Try.underlying83 rfl (Try.sizeHshL HH.out)) hS ?_
  go_frame
  refine till_take 2 (some 18) rfl rfl (by kernel_rfl) (by kernel_rfl) (by kernel_rfl) (by kernel_rfl) (by kernel_rfl) (by kernel_rfl) (fun _ _ _ h => h) (.inl ⟨by rfl, fun w' _ => (by go_simp; rfl)⟩) hS ?_
  go_frame
  refine till_take 3 (some 19) rfl rfl (by kernel_rfl) (by kernel_rfl) (by kernel_rfl) (by kernel_rfl) (by kernel_rfl) (by kernel_rfl) (fun _ _ _ h => h) (.inl ⟨by rfl, fun w' hS' => (by have hc1 := (Lib.cell_of_heap hS' 33).trans (rvC_at (r := ⟨h, st, a, ok⟩) HH.out); go_simp; rfl)⟩) hS ?_
  go_frame
  refine till_take 4 (some 20) rfl rfl (by kernel_rfl) (by kernel_rfl) (by kernel_rfl) (by kernel_rfl) (by kernel_rfl) (by kernel_rfl) (fun _ _ _ h => h) (.inl ⟨by rfl, fun w' _ => (by go_simp; rfl)⟩) hS ?_
  go_frame
  refine till_take 5 (some 21) rfl rfl (by kernel_rfl) (by kernel_rfl) (by kernel_rfl) (by kernel_rfl) (by kernel_rfl) (by kernel_rfl) (fun _ _ _ h => h) (.inl ⟨by rfl, fun w' hS' => (by have hc1 := (Lib.cell_of_heap hS' 32).trans (rvC_st (r := ⟨h, st, a, ok⟩) HH.out); go_simp; rfl)⟩) hS ?_
  go_frame
  refine till_take 6 (some 22) rfl rfl (by kernel_rfl) (by kernel_rfl) (by kernel_rfl) (by kernel_rfl) (by kernel_rfl) (by kernel_rfl) (fun _ _ _ h => h) (.inl ⟨by rfl, fun w' _ => (by go_simp; rfl)⟩) hS ?_
  go_frame
  refine till_take 7 (some 23) rfl rfl (by kernel_rfl) (by kernel_rfl) (by kernel_rfl) (by kernel_rfl) (by kernel_rfl) (by kernel_rfl) (fun _ _ _ h => h) (.inl ⟨by rfl, fun w' _ => (by go_simp; rfl)⟩) hS ?_
  go_frame
  refine till_one 8 rfl (by kernel_rfl) fun K hK => ?_
  simp only [List.getElem_toArray, List.getElem_cons_succ, List.getElem_cons_zero]
  rw [if_pos (by rfl)]
  refine wp_store_row_g (t := 83) (old := c8 z32) 83 _ _ rfl R (c8 h) rfl rfl HR4d.out (Try.sizeHsh HH.out) (by rw [c8_size, c8_size, HH.out]; rfl) (c8_one _) ?_
  intro w5 hx5 k45 z45
  have HR5 := Lib.hid hx5; have HB5 := Lib.hid (HB4d.out.trans (k45.below (B := w.heap.size) (fun y hy e => by have := HRW.out; omega) HB4d.out.size))
  have hS1 : w5.heap[X]? = some (.cells (rvC ⟨h, st, a, ok⟩) 155 (0, 0)) := k45.at hS (fun e => HXR.out e)
  refine hK _ _ (fun _ _ => hS1) ?_
  clear hK hS hx5 k45 z45
  have hS := hS1
  clear hS1
  refine till_take 9 (some 5) rfl rfl (by kernel_rfl) (by kernel_rfl) (by kernel_rfl) (by kernel_rfl) (by kernel_rfl) (by kernel_rfl) (fun _ _ _ h => h) (.inl ⟨by rfl, fun w' _ => (by go_simp; rfl)⟩) hS ?_
  go_frame
  refine till_take 10 (some 6) rfl rfl (by kernel_rfl) (by kernel_rfl) (by kernel_rfl) (by kernel_rfl) (by kernel_rfl) (by kernel_rfl) (fun _ _ _ h => h) (.inl ⟨by rfl, fun w' _ => (by go_simp; rfl)⟩) hS ?_
  go_frame
  refine till_take 11 (some 7) rfl rfl (by kernel_rfl) (by kernel_rfl) (by kernel_rfl) (by kernel_rfl) (by kernel_rfl) (by kernel_rfl) (fun _ _ _ h => h) (.inl ⟨by rfl, fun w' _ => (by go_simp; rfl)⟩) hS ?_
  go_frame
  refine till_done (by kernel_rfl) ?_ _
  go_wp2_with fail
  exact bodyPost_ret (res_row_val3 rfl _ _ R _ _ _ _ rfl HR5.out Try.underlying83 rfl (Try.sizeHsh HH.out) (.int .i64 a) (.bool (st == 1)) (.bool ok) rfl rfl rfl) rfl ⟨by rw [HRT.out], HB5.out⟩

set_option maxHeartbeats 4000000 in
set_option maxRecDepth 100000 in
theorem use32_any {w : World} {x : Option Addr} {m : Bool} {f : Txt → Option Txt} (h : Look w x m f) (hf : FitF f) {i : Int} (b : Int) (hi : -9223372036854775808 ≤ i ∧ i < 9223372036854775808) :
    Calls Try.prog 46 #[.pointer x, .int .i64 i, .int .i64 b] w (Ret w (.tuple #[.agg (c8 (useH f i b)), .int .i64 (useE f i b)])) := by
  have H := Lib.hid h; have HF := Lib.hid hf; have HI := Lib.hid hi
  clear h hf hi
  have hlen := rootF_h f i
  go_enter Try.func46, Try.ntmps46
  go_wp2_with (refine wpList_alloc_g rfl _ rfl _ _ Try.zeroHsh rfl ?_)
  intro R w1 h1
  have HR1 := Lib.hid h1.out.cells; have HB1 := Lib.hid h1.out.below; have HRW : Hid (w.heap.size ≤ R) := Lib.hid (Nat.le_of_eq h1.out.eq.symm)
  clear h1
  go_wp2_with fail
  refine (of_any (H.out.later HB1.out) HF.out HI.out).mono ?_
  rintro e w2 ⟨rfl, hb2⟩
  have HB2 := Lib.hid (HB1.out.trans (hb2.mono HB1.out.size)); have HR2 := Lib.hid (below_at' hb2 HR1.out)
  clear hb2 HB1 HR1
  obtain ⟨h, st, a, ok, hr⟩ : ∃ h st a ok, rootF f i = ⟨h, st, a, ok⟩ := ⟨_, _, _, _, rfl⟩
  have HRT := Lib.hid hr
  rw [hr] at hlen ⊢
  have HH : Hid (h.length = 32) := Lib.hid hlen
  clear hlen hr
  go_wp2_with (refine wpList_alloc_g rfl _ rfl _ _ Try.zeroRoot rfl ?_)
  intro X w3 h3
  have HX3 := Lib.hid h3.out.cells; have HB3 := Lib.hid (HB2.out.trans (h3.out.below.mono HB2.out.size)); have HR3 := Lib.hid (below_at' h3.out.below HR2.out); have HXW : Hid (w.heap.size ≤ X) := Lib.hid (by rw [h3.out.eq]; exact HB2.out.size)
  have HXR : Hid (X ≠ R) := Lib.hid (by have := heap_lt HR2.out; have := h3.out.eq; omega)
  clear h3 HB2 HR2
  go_wp2_with (refine wpList_store_row_g (t := 155) (old := rvC RV.none) rfl 155 _ _ rfl X (rvC ⟨h, st, a, ok⟩) rfl rfl HX3.out (Try.sizeRoot (r := ⟨h, st, a, ok⟩) HH.out) (by rw [rvC_size (r := ⟨h, st, a, ok⟩) HH.out, rvC_size (r := RV.none) z32_len]) (rvC_one _) ?_)
  intro w4 hx4 k34 z34
  have HX4 := Lib.hid hx4; have HB4 := Lib.hid (HB3.out.trans (k34.below (B := w.heap.size) (fun y hy e => by have := HXW.out; omega) HB3.out.size)); have HR4 := Lib.hid (k34.at HR3.out (fun e => HXR.out e.symm))
  clear hx4 k34 z34 HX3 HB3 HR3
  have q1 : w4.cell? ⟨X, 32, none⟩ = some (.int .i64 st) := (Lib.cell_of_heap HX4.out 32).trans (rvC_st HH.out)
  have q2 : w4.cell? ⟨X, 33, none⟩ = some (.int .i64 a) := (Lib.cell_of_heap HX4.out 33).trans (rvC_at HH.out)
  cases ok with
  | false =>
    have HE : Hid (useE f i b = 8 ∧ useH f i b = z32) := Lib.hid (use_none (by rw [HRT.out]))
    go_wp2_with (refine wpList_store_row_g (t := 83) (old := c8 z32) rfl 83 _ _ rfl R (c8 z32) rfl (congrArg Value.agg zeroH32) HR4.out (Try.sizeHsh z32_len) rfl (c8_one _) ?_)
    intro w5 hx5 k45 z45
    have HR5 := Lib.hid hx5; have HB5 := Lib.hid (HB4.out.trans (k45.below (B := w.heap.size) (fun y hy e => by have := HRW.out; omega) HB4.out.size))
    clear hx5 k45 z45
    go_wp2_with fail
    exact bodyPost_ret (res_row_val rfl _ _ R _ _ _ _ rfl HR5.out Try.underlying83 rfl (Try.sizeHsh z32_len) (.int .i64 8) rfl) rfl ⟨by rw [HE.out.1, HE.out.2], HB5.out⟩
  | true =>
  by_cases h1 : st = 1
  · have hne : (st != 1) = false := by rw [h1]; rfl
    by_cases h2 : b < a
    · have HE : Hid (useE f i b = 10 ∧ useH f i b = z32) := Lib.hid (use_off (by rw [HRT.out]) (by rw [HRT.out]; exact .inr h2))
      clear h1
      go_wp2_with (refine wpList_store_row_g (t := 83) (old := c8 z32) rfl 83 _ _ rfl R (c8 z32) rfl (congrArg Value.agg zeroH32) HR4.out (Try.sizeHsh z32_len) rfl (c8_one _) ?_)
      intro w5 hx5 k45 z45
      have HR5 := Lib.hid hx5; have HB5 := Lib.hid (HB4.out.trans (k45.below (B := w.heap.size) (fun y hy e => by have := HRW.out; omega) HB4.out.size))
      clear hx5 k45 z45
      go_wp2_with fail
      exact bodyPost_ret (res_row_val rfl _ _ R _ _ _ _ rfl HR5.out Try.underlying83 rfl (Try.sizeHsh z32_len) (.int .i64 10) rfl) rfl ⟨by rw [HE.out.1, HE.out.2], HB5.out⟩
    · have HE : Hid (useE f i b = 0 ∧ useH f i b = h) := Lib.hid (use_on (r := ⟨h, st, a, true⟩) HRT.out rfl h1 (by show a ≤ b; omega))
      clear h1
      go_wp2_with (first | (refine wpList_load_mid rfl 83 _ rfl X 0 rfl (h.map byteV) _ (rvC_h (r := ⟨h, st, a, true⟩) HX4.out) Try.underlying83 rfl (Try.sizeHshL HH.out) ?_) | (refine wpList_store_row_g (t := 83) (old := c8 z32) rfl 83 _ _ rfl R (c8 h) rfl rfl HR4.out (Try.sizeHsh HH.out) (by rw [c8_size, c8_size, HH.out]; rfl) (c8_one _) ?_))
      intro w5 hx5 k45 z45
      have HR5 := Lib.hid hx5; have HB5 := Lib.hid (HB4.out.trans (k45.below (B := w.heap.size) (fun y hy e => by have := HRW.out; omega) HB4.out.size))
      clear hx5 k45 z45
      go_wp2_with fail
      exact bodyPost_ret (res_row_val rfl _ _ R _ _ _ _ rfl HR5.out Try.underlying83 rfl (Try.sizeHsh HH.out) (.int .i64 0) rfl) rfl ⟨by rw [HE.out.1, HE.out.2], HB5.out⟩
  · have hne : (st != 1) = true := bne_iff_ne.2 h1
    have HE : Hid (useE f i b = 10 ∧ useH f i b = z32) := Lib.hid (use_off (by rw [HRT.out]) (by rw [HRT.out]; exact .inl h1))
    clear h1
    go_wp2_with (refine wpList_store_row_g (t := 83) (old := c8 z32) rfl 83 _ _ rfl R (c8 z32) rfl (congrArg Value.agg zeroH32) HR4.out (Try.sizeHsh z32_len) rfl (c8_one _) ?_)
    intro w5 hx5 k45 z45
    have HR5 := Lib.hid hx5; have HB5 := Lib.hid (HB4.out.trans (k45.below (B := w.heap.size) (fun y hy e => by have := HRW.out; omega) HB4.out.size))
    clear hx5 k45 z45
    go_wp2_with fail
    exact bodyPost_ret (res_row_val rfl _ _ R _ _ _ _ rfl HR5.out Try.underlying83 rfl (Try.sizeHsh z32_len) (.int .i64 10) rfl) rfl ⟨by rw [HE.out.1, HE.out.2], HB5.out⟩

set_option maxHeartbeats 4000000 in
set_option maxRecDepth 100000 in
theorem rget32_any {w : World} {g : Nat} {s : PS} {F : List Nat} (h : RS w g s F) (hz : s.sz < 1099511627776) (hf : Fit s) {i : Int} (hi : -9223372036854775808 ≤ i ∧ i < 9223372036854775808) :
    Calls Try.prog 61 #[.pointer (some ⟨g, 0, none⟩), .int .i64 i] w (Ret w (.tuple #[.agg (c8 (rootF (getP s.t) i).h), .int .i64 (rootF (getP s.t) i).at_, .bool ((rootF (getP s.t) i).st == 1), .bool (rootF (getP s.t) i).ok])) := by
  have H := Lib.hid h; have HF := Lib.hid hf; have HZ := Lib.hid hz; have HI := Lib.hid hi
  clear h hf hz hi
  go_enter Try.func61, Try.ntmps61
  go_wp2_with (refine wpList_alloc_g rfl _ rfl _ _ Try.zeroHsh rfl ?_)
  intro R w0 h0
  have HR0 := Lib.hid h0.out.cells; have HB0 := Lib.hid h0.out.below; have HRW : Hid (w.heap.size ≤ R) := Lib.hid (Nat.le_of_eq h0.out.eq.symm)
  clear h0
  go_wp2_with (refine wpList_alloc_g rfl _ rfl _ _ Try.zeroHsh rfl ?_)
  intro X w1 h1
  have HX1 := Lib.hid h1.out.cells; have HB1 := Lib.hid (HB0.out.trans (h1.out.below.mono HB0.out.size)); have HR1 := Lib.hid (below_at' h1.out.below HR0.out); have HXW : Hid (w.heap.size ≤ X) := Lib.hid (by rw [h1.out.eq]; exact HB0.out.size)
  have HXR : Hid (X ≠ R) := Lib.hid (by have := heap_lt HR0.out; have := h1.out.eq; omega)
  clear h1 HB0 HR0
  go_wp2_with fail
  have hb := below_new w1 (.cells #[.int .i64 i] 3)
  refine (refKey_any 37 [i] _ _ (by simp) (I64s.one HI.out) (lit1 w1 i)).mono ?_
  rintro e w2 ⟨rfl, hb2⟩
  have hb3 := hb.trans (hb2.mono hb.size)
  have HB2 := Lib.hid (HB1.out.trans (hb3.mono HB1.out.size)); have HR2 := Lib.hid (below_at' hb3 HR1.out); have HX2 := Lib.hid (below_at' hb3 HX1.out)
  clear hb hb2 hb3 HB1 HR1 HX1
  go_wp2_with fail
  refine (rrow_any (H.out.later HB2.out) HZ.out HF.out (keyF 37 [i])).mono ?_
  rintro e w3 ⟨v, rfl, ho, hb3⟩
  have HRT : Hid (rootF (getP s.t) i = mkR (rowF (valF (getP s.t) (keyF 37 [i]))) (valF (getP s.t) (keyF 38 [i]))) := Lib.hid rfl
  obtain ⟨l, hll⟩ : ∃ l, l = rowF (valF (getP s.t) (keyF 37 [i])) := ⟨_, rfl⟩
  rw [← hll] at ho HRT
  have HO := Lib.hid (RowRet.rd ho)
  have HB3 := Lib.hid (HB2.out.trans (hb3.mono HB2.out.size)); have HR3 := Lib.hid (below_at' hb3 HR2.out); have HX3 := Lib.hid (below_at' hb3 HX2.out)
  have hqx : ∀ q, v.ownBlock = some q → q ≠ X ∧ q ≠ R := by
    intro q hq
    have h8 := heap_lt HX2.out; have h9 := heap_lt HR2.out
    rcases ho.2 with hh | ⟨g', _, _, hh, hB, _⟩
    · rw [hh.1] at hq; cases hq
    · have hq' : g' = q := by rw [hh] at hq; exact Option.some.inj hq
      constructor <;> intro e <;> omega
  have HQX := Lib.hid hqx
  clear ho hll hb3 HB2 HR2 HX2 hqx
  obtain ⟨ad, cap, rfl, c1, c2⟩ := HO.out.shape
  obtain ⟨n, hn⟩ : ∃ n, n = l.length := ⟨_, rfl⟩
  rw [← hn] at c1 HQX ⊢
  have HN := Lib.hid hn
  rw [← hn] at HO
  clear hn
  go_wp2_with fail
  have hb := below_new w3 (.cells #[.int .i64 i] 3)
  refine (refKey_any 38 [i] _ _ (by simp) (I64s.one HI.out) (lit1 w3 i)).mono ?_
  rintro e w4 ⟨rfl, hb2⟩
  have hb3 := hb.trans (hb2.mono hb.size)
  have HB4 := Lib.hid (HB3.out.trans (hb3.mono HB3.out.size)); have HR4 := Lib.hid (below_at' hb3 HR3.out); have HX4 := Lib.hid (below_at' hb3 HX3.out); have HO4 := Lib.hid (HO.out.later hb3)
  clear hb hb2 hb3 HB3 HR3 HX3 HO
  go_wp2_with fail
  refine (rget_any (H.out.later HB4.out) (by have := HZ.out; unfold PS.sz at this; omega) (keyF 38 [i])).mono ?_
  rintro e w5 ⟨rfl, rfl⟩
  obtain ⟨b0, hb0⟩ : ∃ b, b = (getP s.t (keyF 38 [i])).isSome := ⟨_, rfl⟩
  rw [← hb0, show (getP s.t (keyF 38 [i])).getD [] = valF (getP s.t) (keyF 38 [i]) from rfl]
  obtain ⟨v, hv⟩ : ∃ v, v = valF (getP s.t) (keyF 38 [i]) := ⟨_, rfl⟩
  rw [← hv] at HRT ⊢
  clear hb0 hv
  have NO : ¬ (n = 2 ∧ v.length = 32) → Hid (rootF (getP s.t) i = RV.none) := fun h => Lib.hid (by rw [HRT.out]; exact mkR_no (by rw [← HN.out]; exact h))
  by_cases h2 : n = 2
  · by_cases h3 : v.length = 32
    · subst h2
      obtain ⟨a, b, rfl⟩ := two_of HN.out.symm
      obtain ⟨q, off, rfl, hq, t0⟩ := HO4.out.at 0 (by simp)
      obtain ⟨q', off', e', _, t1⟩ := HO4.out.at 1 (by simp)
      cases e'
      have HT : Hid (w4.cell? ⟨q, off, none⟩ = some (.int .i64 a) ∧ w4.cell? ⟨q, off + 1, none⟩ = some (.int .i64 b)) := Lib.hid ⟨t0, t1⟩
      have HQ : Hid (q ≠ X) := Lib.hid (HQX.out q rfl).1; have HQR : Hid (q ≠ R) := Lib.hid (HQX.out q rfl).2
      have h3' : (((bs v).size : Int) != 32) = false := by rw [bs_size, h3]; rfl
      have H3 := Lib.hid h3
      have HY : Hid (rootF (getP s.t) i = ⟨v, a, b, true⟩) := Lib.hid (by rw [HRT.out]; exact mkR_yes H3.out)
      clear t0 t1 h3 NO hq HO4 HQX HRT
      go_wp2_with fail
      clear h3'
      go_loopw [35] (fun vi wr => ∃ k : Nat, vi = .int .i64 k ∧ k ≤ 32 ∧ Hid (wr.heap[X]? = some (.cells (c8 (fillT v k)) 83 (0, 0)) ∧ Keep (· = X) w4 wr)) (fun vi _ => 32 - (intOf vi).toNat)
      case atStart => exact ⟨0, rfl, by omega, Lib.hid ⟨HX4.out, Keep.refl _ _⟩⟩
      case round =>
        obtain ⟨k, rfl, hk, HK⟩ := hrel
        by_cases hlt : k < 32
        · have hx1 : ∀ w, (Instr.index 9 (.string (bs v)) (.int .i64 (k : Int))).run Try.prog w = .ok (.int .u8 ((gB v k).toNat : Int)) w := fun w => rstr_index _ Try.underlying9 _ _ _ (by rw [H3.out]; omega) _ rfl w
          have i1 : (k : Int) < 32 := by omega
          have i2 : (0 : Int) ≤ (k : Int) := by omega
          have HLT := Lib.hid hlt
          go_wp2_with (refine wpList_store1_g rfl 5 _ _ rfl X k _ (by first | rfl | (simp; rfl)) rfl rfl rfl 83 _ HK.out.1 Try.sizeU8 (by rw [c8_size, fillT_len H3.out (by have := HLT.out; omega)]; exact HLT.out) (c8 (fillT v (k + 1))) (fillT_set H3.out HLT.out) ?_)
          intro w5 hx5 k45 z45
          have HK5 : Hid (w5.heap[X]? = some (.cells (c8 (fillT v (k + 1))) 83 (0, 0)) ∧ Keep (· = X) w4 w5) := Lib.hid ⟨hx5, HK.out.2.then k45 (fun x hx => .inl hx)⟩
          clear hx5 k45 z45 HK
          go_wp2_with fail
          go_roundw
          case rel => exact ⟨k + 1, by go_num, Nat.succ_le_of_lt HLT.out, HK5⟩
          case measure => have hh : k < 32 := HLT.out; simp [intOf]; omega
        · obtain rfl : k = 32 := by omega
          have hxk := HK.out.1
          rw [fillT_all H3.out] at hxk
          have hS : wr.drew.cell? ⟨q, off, none⟩ = some (.int .i64 a) ∧ wr.drew.cell? ⟨q, off + 1, none⟩ = some (.int .i64 b) ∧ wr.drew.heap[X]? = some (.cells (c8 v) 83 (0, 0)) := ⟨keep_cell HK.out.2 HT.out.1 (fun e => HQ.out e), keep_cell HK.out.2 HT.out.2 (fun e => HQ.out e), hxk⟩
          have HRd : Hid (wr.drew.heap[R]? = some (.cells (c8 z32) 83 (0, 0))) := Lib.hid (HK.out.2.at HR4.out (fun e => HXR.out e.symm))
          have HBd : Hid (Below w.heap.size w wr.drew) := Lib.hid ((HB4.out.trans (HK.out.2.below (B := w.heap.size) (fun y hy e => by have := HXW.out; omega) HB4.out.size)).drew)
          clear hxk HK hk hlt
          go_wp2_with fail
          refine wp_region_till (fun w' => w'.cell? ⟨q, off, none⟩ = some (.int .i64 a) ∧ w'.cell? ⟨q, off + 1, none⟩ = some (.int .i64 b) ∧ w'.heap[X]? = some (.cells (c8 v) 83 (0, 0))) 12 12 (by kernel_rfl) rfl ?_
          refine till_take 0 (some 44) rfl rfl (by kernel_rfl) (by kernel_rfl) (by kernel_rfl) (by kernel_rfl) (by kernel_rfl) (by kernel_rfl) (fun _ _ _ h => h) (yields_load (by rfl) 83 _ rfl (.pointer (some ⟨X, 0, none⟩)) rfl (.agg (c8 v)) (fun w' hS' => load_heap hS'.2.2 Try.underlying83 rfl (Try.sizeHsh H3.out))) hS ?_
          go_frame
          refine till_take 1 (some 45) rfl rfl (by kernel_rfl) (by kernel_rfl) (by kernel_rfl) (by kernel_rfl) (by kernel_rfl) (by kernel_rfl) (fun _ _ _ h => h) (.inl ⟨by rfl, fun w' _ => (by go_simp; rfl)⟩) hS ?_
          go_frame
          refine till_take 2 (some 46) rfl rfl (by kernel_rfl) (by kernel_rfl) (by kernel_rfl) (by kernel_rfl) (by kernel_rfl) (by kernel_rfl) (fun _ _ _ h => h) (.inl ⟨by rfl, fun w' _ => (by go_simp; rfl)⟩) hS ?_
          go_frame
          refine till_take 3 (some 47) rfl rfl (by kernel_rfl) (by kernel_rfl) (by kernel_rfl) (by kernel_rfl) (by kernel_rfl) (by kernel_rfl) (fun _ _ _ h => h) (.inl ⟨by rfl, fun w' hS' => (by obtain ⟨hc1, hc2, _⟩ := hS'; go_simp; rfl)⟩) hS ?_
          go_frame
          refine till_take 4 (some 48) rfl rfl (by kernel_rfl) (by kernel_rfl) (by kernel_rfl) (by kernel_rfl) (by kernel_rfl) (by kernel_rfl) (fun _ _ _ h => h) (.inl ⟨by rfl, fun w' _ => (by go_simp; rfl)⟩) hS ?_
          go_frame
          refine till_take 5 (some 49) rfl rfl (by kernel_rfl) (by kernel_rfl) (by kernel_rfl) (by kernel_rfl) (by kernel_rfl) (by kernel_rfl) (fun _ _ _ h => h) (.inl ⟨by rfl, fun w' _ => (by go_simp; rfl)⟩) hS ?_
          go_frame
          refine till_take 6 (some 50) rfl rfl (by kernel_rfl) (by kernel_rfl) (by kernel_rfl) (by kernel_rfl) (by kernel_rfl) (by kernel_rfl) (fun _ _ _ h => h) (.inl ⟨by rfl, fun w' hS' => (by obtain ⟨hc1, hc2, _⟩ := hS'; go_simp; rfl)⟩) hS ?_
          go_frame
          refine till_take 7 (some 51) rfl rfl (by kernel_rfl) (by kernel_rfl) (by kernel_rfl) (by kernel_rfl) (by kernel_rfl) (by kernel_rfl) (fun _ _ _ h => h) (.inl ⟨by rfl, fun w' _ => (by go_simp; rfl)⟩) hS ?_
          go_frame
          refine till_one 8 rfl (by kernel_rfl) fun K hK => ?_
          simp only [List.getElem_toArray, List.getElem_cons_succ, List.getElem_cons_zero]
          rw [if_pos (by rfl)]
          refine wp_store_row_g (t := 83) (old := c8 z32) 83 _ _ rfl R (c8 v) rfl rfl HRd.out (Try.sizeHsh H3.out) (by rw [c8_size, c8_size, H3.out]; rfl) (c8_one _) ?_
          intro w5 hx5 k45 z45
          have HR5 := Lib.hid hx5; have HB5 := Lib.hid (HBd.out.trans (k45.below (B := w.heap.size) (fun y hy e => by have := HRW.out; omega) HBd.out.size))
          have hS1 : w5.cell? ⟨q, off, none⟩ = some (.int .i64 a) ∧ w5.cell? ⟨q, off + 1, none⟩ = some (.int .i64 b) ∧ w5.heap[X]? = some (.cells (c8 v) 83 (0, 0)) := ⟨keep_cell k45 hS.1 (fun e => HQR.out e), keep_cell k45 hS.2.1 (fun e => HQR.out e), k45.at hS.2.2 (fun e => HXR.out e)⟩
          refine hK _ _ (fun _ _ => hS1) ?_
          clear hK hS hx5 k45 z45
          have hS := hS1
          clear hS1
          refine till_take 9 (some 5) rfl rfl (by kernel_rfl) (by kernel_rfl) (by kernel_rfl) (by kernel_rfl) (by kernel_rfl) (by kernel_rfl) (fun _ _ _ h => h) (.inl ⟨by rfl, fun w' _ => (by go_simp; rfl)⟩) hS ?_
          go_frame
          refine till_take 10 (some 6) rfl rfl (by kernel_rfl) (by kernel_rfl) (by kernel_rfl) (by kernel_rfl) (by kernel_rfl) (by kernel_rfl) (fun _ _ _ h => h) (.inl ⟨by rfl, fun w' _ => (by go_simp; rfl)⟩) hS ?_
          go_frame
          refine till_take 11 (some 7) rfl rfl (by kernel_rfl) (by kernel_rfl) (by kernel_rfl) (by kernel_rfl) (by kernel_rfl) (by kernel_rfl) (fun _ _ _ h => h) (.inl ⟨by rfl, fun w' _ => (by go_simp; rfl)⟩) hS ?_
          go_frame
          refine till_done (by kernel_rfl) ?_ _
          go_wp2_with fail
          exact bodyPost_ret (res_row_val3 rfl _ _ R _ _ _ _ rfl HR5.out Try.underlying83 rfl (Try.sizeHsh H3.out) (.int .i64 b) (.bool (a == 1)) (.bool true) rfl rfl rfl) rfl ⟨by rw [HY.out], HB5.out⟩
    · have h3' : (((bs v).size : Int) != 32) = true := by rw [bs_size, bne_iff_ne]; omega
      have HN0 := NO (fun h => h3 h.2)
      subst h2
      clear h3 NO
      go_wp2_with (first | (refine wpList_load_row rfl 83 _ rfl X rfl 83 _ _ _ HX4.out Try.underlying83 rfl (Try.sizeHsh z32_len) ?_) | (refine wpList_store_row_g (t := 83) (old := c8 z32) rfl 83 _ _ rfl R (c8 z32) rfl rfl HR4.out (Try.sizeHsh z32_len) rfl (c8_one _) ?_))
      intro w5 hx5 k45 z45
      have HR5 := Lib.hid hx5; have HB5 := Lib.hid (HB4.out.trans (k45.below (B := w.heap.size) (fun y hy e => by have := HRW.out; omega) HB4.out.size))
      clear hx5 k45 z45
      go_wp2_with fail
      exact bodyPost_ret (res_row_val3 rfl _ _ R _ _ _ _ rfl HR5.out Try.underlying83 rfl (Try.sizeHsh z32_len) (.int .i64 0) (.bool false) (.bool false) rfl rfl rfl) rfl ⟨by rw [HN0.out]; rfl, HB5.out⟩
  · have h3' : ((n : Int) != 2) = true := by rw [bne_iff_ne]; omega
    have HN0 := NO (fun h => h2 h.1)
    clear h2 NO
    go_wp2_with (first | (refine wpList_load_row rfl 83 _ rfl X rfl 83 _ _ _ HX4.out Try.underlying83 rfl (Try.sizeHsh z32_len) ?_) | (refine wpList_store_row_g (t := 83) (old := c8 z32) rfl 83 _ _ rfl R (c8 z32) rfl rfl HR4.out (Try.sizeHsh z32_len) rfl (c8_one _) ?_))
    intro w5 hx5 k45 z45
    have HR5 := Lib.hid hx5; have HB5 := Lib.hid (HB4.out.trans (k45.below (B := w.heap.size) (fun y hy e => by have := HRW.out; omega) HB4.out.size))
    clear hx5 k45 z45
    go_wp2_with fail
    exact bodyPost_ret (res_row_val3 rfl _ _ R _ _ _ _ rfl HR5.out Try.underlying83 rfl (Try.sizeHsh z32_len) (.int .i64 0) (.bool false) (.bool false) rfl rfl rfl) rfl ⟨by rw [HN0.out]; rfl, HB5.out⟩

set_option maxHeartbeats 4000000 in
set_option maxRecDepth 100000 in
theorem ruse32_any {w : World} {g : Nat} {s : PS} {F : List Nat} (h : RS w g s F) (hz : s.sz < 1099511627776) (hf : Fit s) {i : Int} (b : Int) (hi : -9223372036854775808 ≤ i ∧ i < 9223372036854775808) :
    Calls Try.prog 62 #[.pointer (some ⟨g, 0, none⟩), .int .i64 i, .int .i64 b] w (Ret w (.tuple #[.agg (c8 (useH (getP s.t) i b)), .int .i64 (useE (getP s.t) i b)])) := by
  obtain ⟨f, hff⟩ : ∃ f, f = getP s.t := ⟨_, rfl⟩
  have hget := fun w' (hb : Below w.heap.size w w') => rget32_any (h.later hb) hz hf hi
  rw [← hff] at hget ⊢
  have HGET := Lib.hid hget
  clear h hz hf hi hget hff
  have hlen := rootF_h f i
  go_enter Try.func62, Try.ntmps62
  go_wp2_with (refine wpList_alloc_g rfl _ rfl _ _ Try.zeroHsh rfl ?_)
  intro R w1 h1
  have HR1 := Lib.hid h1.out.cells; have HB1 := Lib.hid h1.out.below; have HRW : Hid (w.heap.size ≤ R) := Lib.hid (Nat.le_of_eq h1.out.eq.symm)
  clear h1
  go_wp2_with fail
  refine (HGET.out _ HB1.out).mono ?_
  rintro e w2 ⟨rfl, hb2⟩
  have HB2 := Lib.hid (HB1.out.trans (hb2.mono HB1.out.size)); have HR2 := Lib.hid (below_at' hb2 HR1.out)
  clear hb2 HB1 HR1
  obtain ⟨h, st, a, ok, hr⟩ : ∃ h st a ok, rootF f i = ⟨h, st, a, ok⟩ := ⟨_, _, _, _, rfl⟩
  have HRT := Lib.hid hr
  rw [hr] at hlen ⊢
  have HH : Hid (h.length = 32) := Lib.hid hlen
  clear hlen hr
  go_wp2_with (refine wpList_alloc_g rfl _ rfl _ _ Try.zeroHsh rfl ?_)
  intro X w3 h3
  have HX3 := Lib.hid h3.out.cells; have HB3 := Lib.hid (HB2.out.trans (h3.out.below.mono HB2.out.size)); have HR3 := Lib.hid (below_at' h3.out.below HR2.out); have HXW : Hid (w.heap.size ≤ X) := Lib.hid (by rw [h3.out.eq]; exact HB2.out.size)
  have HXR : Hid (X ≠ R) := Lib.hid (by have := heap_lt HR2.out; have := h3.out.eq; omega)
  clear h3 HB2 HR2
  go_wp2_with (refine wpList_store_row_g (t := 83) (old := c8 z32) rfl 83 _ _ rfl X (c8 h) rfl rfl HX3.out (Try.sizeHsh HH.out) (by rw [c8_size, c8_size, HH.out]; rfl) (c8_one _) ?_)
  intro w4 hx4 k34 z34
  have HX4 := Lib.hid hx4; have HB4 := Lib.hid (HB3.out.trans (k34.below (B := w.heap.size) (fun y hy e => by have := HXW.out; omega) HB3.out.size)); have HR4 := Lib.hid (k34.at HR3.out (fun e => HXR.out e.symm))
  clear hx4 k34 z34 HX3 HB3 HR3
  cases ok with
  | false =>
    have HE : Hid (useE f i b = 8 ∧ useH f i b = z32) := Lib.hid (use_none (by rw [HRT.out]))
    go_wp2_with (refine wpList_store_row_g (t := 83) (old := c8 z32) rfl 83 _ _ rfl R (c8 z32) rfl (congrArg Value.agg zeroH32) HR4.out (Try.sizeHsh z32_len) rfl (c8_one _) ?_)
    intro w5 hx5 k45 z45
    have HR5 := Lib.hid hx5; have HB5 := Lib.hid (HB4.out.trans (k45.below (B := w.heap.size) (fun y hy e => by have := HRW.out; omega) HB4.out.size))
    clear hx5 k45 z45
    go_wp2_with fail
    exact bodyPost_ret (res_row_val rfl _ _ R _ _ _ _ rfl HR5.out Try.underlying83 rfl (Try.sizeHsh z32_len) (.int .i64 8) rfl) rfl ⟨by rw [HE.out.1, HE.out.2], HB5.out⟩
  | true =>
  by_cases h1 : st = 1
  · have hne : (st == 1) = true := by rw [h1]; rfl
    by_cases h2 : b < a
    · have HE : Hid (useE f i b = 10 ∧ useH f i b = z32) := Lib.hid (use_off (by rw [HRT.out]) (by rw [HRT.out]; exact .inr h2))
      clear h1
      go_wp2_with (refine wpList_store_row_g (t := 83) (old := c8 z32) rfl 83 _ _ rfl R (c8 z32) rfl (congrArg Value.agg zeroH32) HR4.out (Try.sizeHsh z32_len) rfl (c8_one _) ?_)
      intro w5 hx5 k45 z45
      have HR5 := Lib.hid hx5; have HB5 := Lib.hid (HB4.out.trans (k45.below (B := w.heap.size) (fun y hy e => by have := HRW.out; omega) HB4.out.size))
      clear hx5 k45 z45
      go_wp2_with fail
      exact bodyPost_ret (res_row_val rfl _ _ R _ _ _ _ rfl HR5.out Try.underlying83 rfl (Try.sizeHsh z32_len) (.int .i64 10) rfl) rfl ⟨by rw [HE.out.1, HE.out.2], HB5.out⟩
    · have HE : Hid (useE f i b = 0 ∧ useH f i b = h) := Lib.hid (use_on (r := ⟨h, st, a, true⟩) HRT.out rfl h1 (by show a ≤ b; omega))
      clear h1
      go_wp2_with (first | (refine wpList_load_row rfl 83 _ rfl X rfl 83 _ _ _ HX4.out Try.underlying83 rfl (Try.sizeHsh HH.out) ?_) | (refine wpList_store_row_g (t := 83) (old := c8 z32) rfl 83 _ _ rfl R (c8 h) rfl rfl HR4.out (Try.sizeHsh HH.out) (by rw [c8_size, c8_size, HH.out]; rfl) (c8_one _) ?_))
      intro w5 hx5 k45 z45
      have HR5 := Lib.hid hx5; have HB5 := Lib.hid (HB4.out.trans (k45.below (B := w.heap.size) (fun y hy e => by have := HRW.out; omega) HB4.out.size))
      clear hx5 k45 z45
      go_wp2_with fail
      exact bodyPost_ret (res_row_val rfl _ _ R _ _ _ _ rfl HR5.out Try.underlying83 rfl (Try.sizeHsh HH.out) (.int .i64 0) rfl) rfl ⟨by rw [HE.out.1, HE.out.2], HB5.out⟩
  · have hne : (st == 1) = false := beq_eq_false_iff_ne.2 h1
    have HE : Hid (useE f i b = 10 ∧ useH f i b = z32) := Lib.hid (use_off (by rw [HRT.out]) (by rw [HRT.out]; exact .inl h1))
    clear h1
    go_wp2_with (refine wpList_store_row_g (t := 83) (old := c8 z32) rfl 83 _ _ rfl R (c8 z32) rfl (congrArg Value.agg zeroH32) HR4.out (Try.sizeHsh z32_len) rfl (c8_one _) ?_)
    intro w5 hx5 k45 z45
    have HR5 := Lib.hid hx5; have HB5 := Lib.hid (HB4.out.trans (k45.below (B := w.heap.size) (fun y hy e => by have := HRW.out; omega) HB4.out.size))
    clear hx5 k45 z45
    go_wp2_with fail
    exact bodyPost_ret (res_row_val rfl _ _ R _ _ _ _ rfl HR5.out Try.underlying83 rfl (Try.sizeHsh z32_len) (.int .i64 10) rfl) rfl ⟨by rw [HE.out.1, HE.out.2], HB5.out⟩
end Go.Proofs.Ytohedljdkfmkdaa
