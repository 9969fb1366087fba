/- Magnitudes: the greatest one as it is, and as it was (code). No condition. Magnitudes: a cut (code). No condition. Chapter 22: magnitudes in a store of its own; lives. No condition. Chapter 22: MagnFalls: the plain law of a cut, and the walk. No condition. -/
import Derived.Test.YtnoocidoblndgaaHisC
import Derived.Test.YtnoocidoblndgaaAriB
import Derived.Test.YtnoocidoblndgaaCelC
import Derived.Deep.QuietTactic
import Derived.BigQuiet
import Derived.WalkSmall
import Derived.Test.YtnoocidoblndgaaAriJ
namespace Go.Proofs.Ytnoocidoblndgaa
section
open Go.RowKit

def lastB (H : List (Int × Nat)) : Int := (H.getLast?.map (·.1)).getD 0
def lastN (H : List (Int × Nat)) : Nat := (H.getLast?.map (·.2)).getD 0
theorem last_mem {H : List (Int × Nat)} {p : Int × Nat} (h : H.getLast? = some p) : p ∈ H := List.mem_of_getLast? h
theorem HisI.lastN_lt {f : Txt → Option Txt} {t : Int} {ids : List Int} {H : List (Int × Nat)} (h : HisI f t ids H) : lastN H < uMax := by
  unfold lastN
  cases hl : H.getLast? with
  | none => simp
  | some p => exact (h.ok p (last_mem hl)).2.2
theorem HisI.look_lt {f : Txt → Option Txt} {t : Int} {ids : List Int} {H : List (Int × Nat)} (h : HisI f t ids H) (q : Int) : ((lookH H q).map (·.2)).getD 0 < uMax := by
  cases hl : lookH H q with
  | none => simp
  | some p =>
    have := List.mem_of_getLast? hl
    exact (h.ok p (List.mem_filter.1 this).1).2.2
abbrev uOne : Nat := 1000000000000000000
theorem Try.sizeFd : (Try.prog.info? 138).map (·.size) = some 5 := by kernel_rfl
theorem Try.zeroFd (w : World) : (zeroValue 138).run Try.prog w = .ok (.agg #[.int .u64 0, .int .u64 0, .int .u64 0, .int .u64 0, .bool false]) w := by kernel_rfl
theorem Try.eqFd (a b c d : Int) (k : Bool) (w : World) : (Op.equalIn 10000 138 (.agg #[.int .u64 a, .int .u64 b, .int .u64 c, .int .u64 d, .bool k]) (.agg #[.int .u64 0, .int .u64 0, .int .u64 0, .int .u64 0, .bool false])).run Try.prog w = .ok (decide ([a, b, c, d] = [0, 0, 0, 0]) && (k == false)) w := by
  obtain ⟨i, hi, _, hs, _⟩ := info_parts Try.infoU64
  have hu := run_equalIn_arr (P := Try.prog) w 9997 30 28 .u64 4 Try.underlying30 Try.underlying28 i hi hs [a, b, c, d] [0, 0, 0, 0] rfl rfl
  rw [show (10000 : Nat) = 9999 + 1 from rfl, run_equalIn_struct (P := Try.prog) w 9999 138 _ _ (by kernel_rfl) (by kernel_rfl)]
  have hf : (Try.prog.fieldsOf 138).toList = [{ name := "a", type := 30, offset := 0, embedded := false, tag := "", pkgPath := "tallage/magn", byteOffset := 0 }, { name := "ok", type := 4, offset := 4, embedded := false, tag := "", pkgPath := "tallage/magn", byteOffset := 32 }] := by kernel_rfl
  rw [hf]
  have p1 : ∀ (x y z u : Int) (q : Bool) w, (Go.part 30 #[.int .u64 x, .int .u64 y, .int .u64 z, .int .u64 u, .bool q] 0).run Try.prog w = .ok (.agg #[.int .u64 x, .int .u64 y, .int .u64 z, .int .u64 u]) w := fun x y z u q w => by kernel_rfl
  have p2 : ∀ (x y z u : Int) (q : Bool) w, (Go.part 4 #[.int .u64 x, .int .u64 y, .int .u64 z, .int .u64 u, .bool q] 4).run Try.prog w = .ok (.bool q) w := fun x y z u q w => by kernel_rfl
  have hu2 : (Op.equalIn 9999 30 (.agg #[.int .u64 a, .int .u64 b, .int .u64 c, .int .u64 d]) (.agg #[.int .u64 0, .int .u64 0, .int .u64 0, .int .u64 0])).run Try.prog w = .ok (decide ([a, b, c, d] = [0, 0, 0, 0])) w := hu
  have hb2 : ∀ x y : Bool, (Op.equalIn 9999 4 (.bool x) (.bool y)).run Try.prog w = .ok (x == y) w := fun x y => run_equalIn_bool' (P := Try.prog) w 9998 4 x y Try.underlying4
  simp only [Op.eqFields, ne_eq, String.reduceEq, not_false_eq_true, if_true, Sem.run_bind, p1, Result.andThen_ok, hu2]
  by_cases h : [a, b, c, d] = [0, 0, 0, 0]
  · rw [decide_eq_true h]
    simp only [Bool.not_true, Bool.false_eq_true, if_false, Sem.run_bind, p2, Result.andThen_ok, hb2]
    cases k <;> simp
  · rw [decide_eq_false h]; simp

set_option maxHeartbeats 4000000 in
set_option maxRecDepth 100000 in
theorem hLast_any {w : World} {x : Option Addr} {m : Bool} {f : Txt → Option Txt} (h : Look w x m f) (hf : FitF f) {t : Int} {ids : List Int} {vi : Value} {H : List (Int × Nat)} (hH : HisI f t ids H) (hl : ids.length ≤ 1000000) (hi : I64s ids) (hrd : Rd w intE 1 vi ids) (hn : H.length ≤ 1000000) :
    Calls Try.prog 78 #[.pointer x, .int .i64 t, vi] w (UOk w (lastN H) H.getLast?.isSome) := by
  obtain ⟨adi, capi, rfl, _, _⟩ := hrd.shape
  have HK := Lib.hid h; have HF := Lib.hid hf; have HI := Lib.hid hi; have HR := Lib.hid hrd; have HL := Lib.hid hl; have HH := Lib.hid hH
  obtain ⟨N, hN⟩ : ∃ N, N = H.length := ⟨_, rfl⟩
  rw [← hN] at hn
  have HN := Lib.hid hN
  clear h hf hl hi hrd hH hN
  go_enter Try.func78, Try.ntmps78
  go_wp2_with (refine wpList_alloc_g rfl _ rfl _ _ Try.zeroUz rfl ?_)
  intro R w1 h1
  have HR1 := Lib.hid h1.out.cells; have HB1 := Lib.hid h1.out.below; have HRW : Hid (w.heap.size ≤ R) := Lib.hid (Nat.le_of_eq h1.out.eq.symm)
  clear h1
  go_wp2_with fail
  refine (hlen_any (HK.out.later HB1.out) HF.out t HL.out HI.out (HR.out.later HB1.out)).mono ?_
  rintro e w2 ⟨rfl, hb⟩
  rw [HH.out.cnt, ← HN.out]
  have HR2 := Lib.hid (below_at' hb HR1.out); have HB2 := Lib.hid (HB1.out.trans (hb.mono HB1.out.size))
  clear hb HR1 HB1
  by_cases h0 : N = 0
  · have HE : Hid (H.getLast?.isSome = false ∧ lastN H = 0) := Lib.hid (by
      have : H = [] := List.length_eq_zero_iff.1 (by rw [← HN.out]; exact h0)
      subst this; exact ⟨rfl, rfl⟩)
    subst h0
    go_wp2_with (refine wpList_store_row_g (t := 30) (old := u0) rfl 30 _ _ rfl R u0 rfl rfl HR2.out Try.sizeU rfl (one_u64 _ _ _ _) ?_)
    intro w8 hx8 k8 _
    have HX8 := Lib.hid hx8; have HB8 := Lib.hid (HB2.out.trans (k8.below (B := w.heap.size) (fun y hy e => by have := HRW.out; omega) HB2.out.size))
    clear hx8 k8
    go_wp2_with fail
    exact bodyPost_ret (res_row_val rfl _ _ R _ u0 _ _ rfl HX8.out Try.underlying30 rfl Try.sizeU _ rfl) rfl ⟨0, 0, 0, 0, by rw [HE.out.1]; exact UIs.zero, by rw [HE.out.1]; rfl, HB8.out⟩
  · have hb0 : ((N : Int) == 0) = false := beq_eq_false_iff_ne.2 (by omega)
    have HE : Hid (H.getLast?.isSome = true ∧ lastN H = (H[N - 1]'(by rw [← HN.out]; omega)).2) := Lib.hid (by
      have h1 := last_of (H := H) (by rw [← HN.out]; omega)
      unfold lastN
      rw [h1]
      refine ⟨rfl, ?_⟩
      simp only [Option.map_some, Option.getD_some, HN.out])
    have hlt : N - 1 < H.length := by rw [← HN.out]; omega
    have hamt := HH.out.amt hlt
    rw [show ((N - 1 : Nat) : Int) = (N : Int) - 1 by omega, ← HE.out.2] at hamt
    have HAMT := Lib.hid hamt
    have hN0 := h0
    clear hamt
    go_wp2_with fail
    refine (hread_any (HK.out.later HB2.out) HF.out t (n := (N : Int) - 1) HL.out HI.out (HR.out.later HB2.out) (by omega)).mono ?_
    rintro e w4 ⟨a, b, c, d, hu, rfl, hb⟩
    have hfd := Try.ptField1 (ptB (valF f (keyF t (ids ++ [(N : Int) - 1])))) a b c d
    rw [HAMT.out] at hu
    have HU := Lib.hid hu; have HR4 := Lib.hid (below_at' hb HR2.out); have HB4 := Lib.hid (HB2.out.trans (hb.mono HB2.out.size))
    clear hb hu HR2 HB2 hlt
    go_wp2_with (refine wpList_store_row_g (t := 30) (old := u0) rfl 30 _ _ rfl R #[.int .u64 a, .int .u64 b, .int .u64 c, .int .u64 d] rfl rfl HR4.out Try.sizeU rfl (one_u64 _ _ _ _) ?_)
    intro w8 hx8 k8 _
    have HX8 := Lib.hid hx8; have HB8 := Lib.hid (HB4.out.trans (k8.below (B := w.heap.size) (fun y hy e => by have := HRW.out; omega) HB4.out.size))
    clear hx8 k8
    go_wp2_with fail
    exact bodyPost_ret (res_row_val rfl _ _ R _ _ _ _ rfl HX8.out Try.underlying30 rfl Try.sizeU _ rfl) rfl ⟨a, b, c, d, by rw [HE.out.1]; exact HU.out, by rw [HE.out.1]; rfl, HB8.out⟩

/-- What is told, or the whole. -/
def orF (o : Int) (n : Nat) (k : Bool) : Nat := if o = 0 ∨ (n = 0 ∧ k = false) then uOne else n

set_option maxHeartbeats 4000000 in
set_option maxRecDepth 100000 in
theorem or_any {a b c d : Int} {n : Nat} (hu : UIs a b c d n) (k : Bool) (o : Int) (w : World) :
    Calls Try.prog 79 #[.agg #[.int .u64 a, .int .u64 b, .int .u64 c, .int .u64 d, .bool k], .int .i64 o] w (URet w (orF o n k)) := by
  have HU := Lib.hid hu
  have he := Try.eqFd a b c d k
  rw [hu.eq UIs.zero] at he
  obtain ⟨z, hz⟩ : ∃ z, z = (decide (n = 0) && (k == false)) := ⟨_, rfl⟩
  rw [← hz] at he
  have HZ := Lib.hid hz
  clear hu hz
  obtain ⟨v, hv⟩ : ∃ v, v = orF o n k := ⟨_, rfl⟩
  rw [← hv]
  have HV := Lib.hid hv
  clear hv
  go_enter Try.func79, Try.ntmps79
  go_wp2_with (refine wpList_alloc_g rfl _ rfl _ _ Try.zeroUz rfl ?_)
  obtain ⟨w1, hw1⟩ : ∃ w1, w1 = w.alloc (.cells #[.int .u64 a, .int .u64 b, .int .u64 c, .int .u64 d, .bool k] 138) := ⟨_, rfl⟩
  obtain ⟨X, hX⟩ : ∃ X, X = w.heap.size := ⟨_, rfl⟩
  rw [← hw1, ← hX]
  have hb1 : Below w.heap.size w w1 := by rw [hw1]; exact below_new _ _
  have HX1 : Hid (w1.heap[X]? = some (.cells #[.int .u64 a, .int .u64 b, .int .u64 c, .int .u64 d, .bool k] 138 (0, 0))) := Lib.hid (by rw [hw1, hX]; exact heap_alloc_new _ _)
  have HB1 := Lib.hid hb1
  clear hw1 hX hb1
  intro R w2 h2
  have HR2 := Lib.hid h2.out.cells; have HB2 := Lib.hid (HB1.out.trans (h2.out.below.mono HB1.out.size)); have HRW : Hid (w.heap.size ≤ R) := Lib.hid (by rw [h2.out.eq]; exact HB1.out.size)
  have HX2 := Lib.hid (below_at' h2.out.below HX1.out)
  clear h2 HX1 HB1
  have hor : o = 0 ∨ (o ≠ 0 ∧ z = true) ∨ (o ≠ 0 ∧ z = false) := by
    by_cases h : o = 0
    · exact .inl h
    · cases z
      · exact .inr (.inr ⟨h, rfl⟩)
      · exact .inr (.inl ⟨h, rfl⟩)
  rcases hor with h | ⟨h, h'⟩ | ⟨h, h'⟩
  · have HV1 : Hid (v = uOne) := Lib.hid (by rw [HV.out]; unfold orF; rw [if_pos (.inl h)])
    subst h
    go_wp2_with fail
    refine (wone_any _).mono ?_
    rintro e w3 ⟨oa, ob, oc, od, hu1, rfl, hb⟩
    have HU1 := Lib.hid hu1; have HR3 := Lib.hid (below_at' hb HR2.out); have HB3 := Lib.hid (HB2.out.trans (hb.mono HB2.out.size))
    clear hu1 hb HR2 HB2
    go_wp2_with (refine wpList_store_row_g (t := 30) (old := u0) rfl 30 _ _ rfl R #[.int .u64 oa, .int .u64 ob, .int .u64 oc, .int .u64 od] rfl rfl HR3.out Try.sizeU rfl (one_u64 _ _ _ _) ?_)
    intro w4 hx k8 _
    have HX := Lib.hid hx
    have HB4 : Hid (Below w.heap.size w w4) := Lib.hid (HB3.out.trans (k8.below (B := w.heap.size) (fun x hx e => by have := HRW.out; omega) HB3.out.size))
    clear hx k8
    go_wp2_with fail
    exact bodyPost_ret (results_cell_row rfl _ _ _ _ _ _ _ rfl HX.out Try.underlying30 rfl Try.sizeU) rfl ⟨_, _, _, _, by rw [HV1.out]; exact HU1.out, rfl, HB4.out⟩
  · have HV1 : Hid (v = uOne) := Lib.hid (by
      rw [HV.out]; unfold orF
      have hz := HZ.out
      rw [h'] at hz
      have := hz.symm
      simp only [Bool.and_eq_true, decide_eq_true_eq, beq_iff_eq] at this
      rw [if_pos (.inr this)])
    subst h'
    have ho : (o == 0) = false := beq_eq_false_iff_ne.2 h
    clear h
    go_wp2_with (refine wpList_load_row_y rfl 138 _ rfl X rfl 138 _ _ _ HX2.out Try.underlying138 rfl Try.sizeFd ?_)
    refine (wone_any _).mono ?_
    rintro e w3 ⟨oa, ob, oc, od, hu1, rfl, hb⟩
    have HU1 := Lib.hid hu1; have HR3 := Lib.hid (below_at' hb HR2.out); have HB3 := Lib.hid (HB2.out.trans (hb.mono HB2.out.size))
    clear hu1 hb HR2 HB2
    go_wp2_with (refine wpList_store_row_g (t := 30) (old := u0) rfl 30 _ _ rfl R #[.int .u64 oa, .int .u64 ob, .int .u64 oc, .int .u64 od] rfl rfl HR3.out Try.sizeU rfl (one_u64 _ _ _ _) ?_)
    intro w4 hx k8 _
    have HX := Lib.hid hx
    have HB4 : Hid (Below w.heap.size w w4) := Lib.hid (HB3.out.trans (k8.below (B := w.heap.size) (fun x hx e => by have := HRW.out; omega) HB3.out.size))
    clear hx k8
    go_wp2_with fail
    exact bodyPost_ret (results_cell_row rfl _ _ _ _ _ _ _ rfl HX.out Try.underlying30 rfl Try.sizeU) rfl ⟨_, _, _, _, by rw [HV1.out]; exact HU1.out, rfl, HB4.out⟩
  · have HV1 : Hid (v = n) := Lib.hid (by
      rw [HV.out]; unfold orF
      have hz := HZ.out
      rw [h'] at hz
      have hz2 : ¬ (n = 0 ∧ k = false) := by
        rintro ⟨e1, e2⟩
        rw [e1, e2] at hz; cases hz
      rw [if_neg (by rintro (e | e); exact h e; exact hz2 e)])
    subst h'
    have ho : (o == 0) = false := beq_eq_false_iff_ne.2 h
    clear h
    go_wp2_with (first
      | (refine wpList_load_row_y rfl 138 _ rfl X rfl 138 _ _ _ HX2.out Try.underlying138 rfl Try.sizeFd ?_)
      | (refine wpList_load_mid rfl 30 _ rfl X 0 rfl [.int .u64 a, .int .u64 b, .int .u64 c, .int .u64 d] _ (range_of_heap HX2.out 0 _ rfl) Try.underlying30 rfl Try.sizeU ?_)
      | (refine wpList_store_row_g (t := 30) (old := u0) rfl 30 _ _ rfl R #[.int .u64 a, .int .u64 b, .int .u64 c, .int .u64 d] rfl rfl HR2.out Try.sizeU rfl (one_u64 _ _ _ _) ?_))
    intro w3 hx k8 _
    have HX := Lib.hid hx
    have HB3 : Hid (Below w.heap.size w w3) := Lib.hid (HB2.out.trans (k8.below (B := w.heap.size) (fun x hx e => by have := HRW.out; omega) HB2.out.size))
    clear hx k8
    go_wp2_with fail
    exact bodyPost_ret (results_cell_row rfl _ _ _ _ _ _ _ rfl HX.out Try.underlying30 rfl Try.sizeU) rfl ⟨_, _, _, _, by rw [HV1.out]; exact HU.out, rfl, HB3.out⟩
/-- The greatest magnitude. -/
def maxH (o : Int) (H : List (Int × Nat)) : Nat := if o = 0 ∨ H.getLast?.isSome = false then uOne else lastN H
def atH (o : Int) (H : List (Int × Nat)) (bk : Int) : Nat := if o = 0 ∨ (lookH H bk).isSome = false then uOne else ((lookH H bk).map (·.2)).getD 0
theorem or_max (o : Int) (H : List (Int × Nat)) : orF o (if H.getLast?.isSome then lastN H else 0) H.getLast?.isSome = maxH o H := by
  unfold orF maxH
  cases h : H.getLast? with
  | none => simp
  | some p => simp
theorem or_at (o : Int) (H : List (Int × Nat)) (bk : Int) : orF o (((lookH H bk).map (·.2)).getD 0) (lookH H bk).isSome = atH o H bk := by
  unfold orF atH
  cases h : lookH H bk with
  | none => simp
  | some p => simp

set_option maxHeartbeats 4000000 in
set_option maxRecDepth 100000 in
theorem mMax_any {w : World} {x : Option Addr} {m : Bool} {f : Txt → Option Txt} (h : Look w x m f) (hf : FitF f) {o st : Int} {H : List (Int × Nat)} (hH : HisI f 13 [o, st] H) (hn : H.length ≤ 1000000) (ho : -9223372036854775808 ≤ o ∧ o < 9223372036854775808) (hst : -9223372036854775808 ≤ st ∧ st < 9223372036854775808) :
    Calls Try.prog 40 #[.pointer x, .int .i64 o, .int .i64 st] w (URet w (maxH o H)) := by
  have HK := Lib.hid h; have HF := Lib.hid hf; have HH := Lib.hid hH; have HI : Hid (I64s [o, st]) := Lib.hid (I64s.two ho hst); have HN := Lib.hid hn
  obtain ⟨v, hv⟩ : ∃ v, v = maxH o H := ⟨_, rfl⟩
  rw [← hv]
  have HVV := Lib.hid hv
  clear h hf hH hn ho hst hv
  go_enter Try.func40, Try.ntmps40
  go_wp2_with (refine wpList_alloc_g rfl _ rfl _ _ Try.zeroUz rfl ?_)
  intro R w1 h1
  have HR1 := Lib.hid h1.out.cells; have HB1 := Lib.hid h1.out.below; have HRW : Hid (w.heap.size ≤ R) := Lib.hid (Nat.le_of_eq h1.out.eq.symm)
  clear h1
  go_wp2_with (refine wpList_alloc_g rfl _ rfl _ _ Try.zeroFd rfl ?_)
  intro X w2 h2
  have HR2 := Lib.hid (below_at' h2.out.below HR1.out); have HB2 := Lib.hid (HB1.out.trans (h2.out.below.mono HB1.out.size)); have HX2 := Lib.hid h2.out.cells
  have HXR : Hid (w.heap.size ≤ X ∧ R ≠ X) := Lib.hid (by have := h2.out.eq; have := heap_lt HR1.out; have := HB1.out.size; exact ⟨by omega, by omega⟩)
  clear h2 HR1 HB1
  go_wp2_with fail
  obtain ⟨w3, hwl⟩ : ∃ w3, w3 = w2.alloc (.cells #[.int .i64 o, .int .i64 st] 3) := ⟨_, rfl⟩
  obtain ⟨gi, hgi⟩ : ∃ gi, gi = w2.heap.size := ⟨_, rfl⟩
  rw [← hwl, ← hgi]
  have hbl : Below w2.heap.size w2 w3 := by rw [hwl]; exact below_new _ _
  have HOI : Hid (Rd w3 intE 1 (.slice (some ⟨gi, 0, none⟩) 2 2) [o, st]) := Lib.hid (by rw [hwl, hgi]; exact lit2 _ _ _)
  have HR3 := Lib.hid (below_at' hbl HR2.out); have HX3 := Lib.hid (below_at' hbl HX2.out); have HB3 := Lib.hid (HB2.out.trans (hbl.mono HB2.out.size))
  clear hwl hgi hbl HR2 HX2 HB2
  refine (hLast_any (HK.out.later HB3.out) HF.out HH.out (by simp) HI.out HOI.out HN.out).mono ?_
  rintro e w4 ⟨a, b, c, d, hu, rfl, hb⟩
  obtain ⟨q, hq⟩ : ∃ q, q = H.getLast?.isSome := ⟨_, rfl⟩
  rw [← hq] at hu ⊢
  have HOR : Hid (orF o (if q = true then lastN H else 0) q = v) := Lib.hid (by rw [HVV.out, hq]; exact or_max o H)
  clear hq
  have HU := Lib.hid hu; have HR4 := Lib.hid (below_at' hb HR3.out); have HX4 := Lib.hid (below_at' hb HX3.out); have HB4 := Lib.hid (HB3.out.trans (hb.mono HB3.out.size))
  clear hu hb HR3 HX3 HB3 HOI
  go_wp2_with (refine wpList_store_part_g rfl 30 _ _ rfl X 0 #[.int .u64 a, .int .u64 b, .int .u64 c, .int .u64 d] rfl rfl 138 _ HX4.out Try.sizeU (by simp) (one_u64 _ _ _ _) #[.int .u64 a, .int .u64 b, .int .u64 c, .int .u64 d, .bool false] rfl ?_)
  intro w5 hx5 k5 _
  have HX5 := Lib.hid hx5; have HR5 := Lib.hid (k5.at HR4.out (fun e => HXR.out.2 e)); have HB5 := Lib.hid (HB4.out.trans (k5.below (B := w.heap.size) (fun y hy e => by have := HXR.out; omega) HB4.out.size))
  clear hx5 k5 HX4 HR4 HB4
  go_wp2_with (refine wpList_store1_g rfl 4 _ _ rfl X 4 (.bool q) rfl rfl rfl rfl 138 _ HX5.out (by kernel_rfl) (by simp) #[.int .u64 a, .int .u64 b, .int .u64 c, .int .u64 d, .bool q] rfl ?_)
  intro w6 hx6 k6 _
  have HX6 := Lib.hid hx6; have HR6 := Lib.hid (k6.at HR5.out (fun e => HXR.out.2 e)); have HB6 := Lib.hid (HB5.out.trans (k6.below (B := w.heap.size) (fun y hy e => by have := HXR.out; omega) HB5.out.size))
  clear hx6 k6 HX5 HR5 HB5
  go_wp2_with (refine wpList_load_row rfl 138 _ rfl X rfl 138 _ _ _ HX6.out Try.underlying138 rfl Try.sizeFd ?_)
  refine (or_any HU.out q o _).mono ?_
  rw [show orF o _ q = v from HOR.out]
  rintro e w7 ⟨a2, b2, c2, d2, hu, rfl, hb⟩
  have HU2 := Lib.hid hu; have HR7 := Lib.hid (below_at' hb HR6.out); have HB7 := Lib.hid (HB6.out.trans (hb.mono HB6.out.size))
  clear hu hb HR6 HB6
  go_wp2_with (refine wpList_store_row_g (t := 30) (old := u0) rfl 30 _ _ rfl R #[.int .u64 a2, .int .u64 b2, .int .u64 c2, .int .u64 d2] rfl rfl HR7.out Try.sizeU rfl (one_u64 _ _ _ _) ?_)
  intro w8 hx k8 _
  have HX8 := Lib.hid hx
  have HB8 : Hid (Below w.heap.size w w8) := Lib.hid (HB7.out.trans (k8.below (B := w.heap.size) (fun x hx e => by have := HRW.out; omega) HB7.out.size))
  clear hx k8
  go_wp2_with fail
  exact bodyPost_ret (results_cell_row rfl _ _ _ _ _ _ _ rfl HX8.out Try.underlying30 rfl Try.sizeU) rfl ⟨_, _, _, _, HU2.out, rfl, HB8.out⟩

set_option maxHeartbeats 4000000 in
set_option maxRecDepth 100000 in
theorem mAt_any {w : World} {x : Option Addr} {m : Bool} {f : Txt → Option Txt} (h : Look w x m f) (hf : FitF f) {o st : Int} {H : List (Int × Nat)} (hH : HisI f 13 [o, st] H) (hn : H.length ≤ 1000000) (ho : -9223372036854775808 ≤ o ∧ o < 9223372036854775808) (hst : -9223372036854775808 ≤ st ∧ st < 9223372036854775808) (bk : Int) :
    Calls Try.prog 44 #[.pointer x, .int .i64 o, .int .i64 st, .int .i64 bk] w (URet w (atH o H bk)) := by
  have HK := Lib.hid h; have HF := Lib.hid hf; have HH := Lib.hid hH; have HI : Hid (I64s [o, st]) := Lib.hid (I64s.two ho hst); have _HN := Lib.hid hn
  obtain ⟨v, hv⟩ : ∃ v, v = atH o H bk := ⟨_, rfl⟩
  rw [← hv]
  have HVV := Lib.hid hv
  clear h hf hH hn ho hst hv
  go_enter Try.func44, Try.ntmps44
  go_wp2_with (refine wpList_alloc_g rfl _ rfl _ _ Try.zeroUz rfl ?_)
  intro R w1 h1
  have HR1 := Lib.hid h1.out.cells; have HB1 := Lib.hid h1.out.below; have HRW : Hid (w.heap.size ≤ R) := Lib.hid (Nat.le_of_eq h1.out.eq.symm)
  clear h1
  go_wp2_with (refine wpList_alloc_g rfl _ rfl _ _ Try.zeroFd rfl ?_)
  intro X w2 h2
  have HR2 := Lib.hid (below_at' h2.out.below HR1.out); have HB2 := Lib.hid (HB1.out.trans (h2.out.below.mono HB1.out.size)); have HX2 := Lib.hid h2.out.cells
  have HXR : Hid (w.heap.size ≤ X ∧ R ≠ X) := Lib.hid (by have := h2.out.eq; have := heap_lt HR1.out; have := HB1.out.size; exact ⟨by omega, by omega⟩)
  clear h2 HR1 HB1
  go_wp2_with fail
  obtain ⟨w3, hwl⟩ : ∃ w3, w3 = w2.alloc (.cells #[.int .i64 o, .int .i64 st] 3) := ⟨_, rfl⟩
  obtain ⟨gi, hgi⟩ : ∃ gi, gi = w2.heap.size := ⟨_, rfl⟩
  rw [← hwl, ← hgi]
  have hbl : Below w2.heap.size w2 w3 := by rw [hwl]; exact below_new _ _
  have HOI : Hid (Rd w3 intE 1 (.slice (some ⟨gi, 0, none⟩) 2 2) [o, st]) := Lib.hid (by rw [hwl, hgi]; exact lit2 _ _ _)
  have HR3 := Lib.hid (below_at' hbl HR2.out); have HX3 := Lib.hid (below_at' hbl HX2.out); have HB3 := Lib.hid (HB2.out.trans (hbl.mono HB2.out.size))
  clear hwl hgi hbl HR2 HX2 HB2
  refine (hAtH (HK.out.later HB3.out) HF.out HH.out bk (by simp) HI.out HOI.out).mono ?_
  rintro e w4 ⟨a, b, c, d, hu, rfl, hb⟩
  obtain ⟨q, hq⟩ : ∃ q, q = (lookH H bk).isSome := ⟨_, rfl⟩
  rw [← hq]
  have HOR : Hid (orF o (((lookH H bk).map (·.2)).getD 0) q = v) := Lib.hid (by rw [HVV.out, hq]; exact or_at o H bk)
  clear hq
  have HU := Lib.hid hu; have HR4 := Lib.hid (below_at' hb HR3.out); have HX4 := Lib.hid (below_at' hb HX3.out); have HB4 := Lib.hid (HB3.out.trans (hb.mono HB3.out.size))
  clear hu hb HR3 HX3 HB3 HOI
  go_wp2_with (refine wpList_store_part_g rfl 30 _ _ rfl X 0 #[.int .u64 a, .int .u64 b, .int .u64 c, .int .u64 d] rfl rfl 138 _ HX4.out Try.sizeU (by simp) (one_u64 _ _ _ _) #[.int .u64 a, .int .u64 b, .int .u64 c, .int .u64 d, .bool false] rfl ?_)
  intro w5 hx5 k5 _
  have HX5 := Lib.hid hx5; have HR5 := Lib.hid (k5.at HR4.out (fun e => HXR.out.2 e)); have HB5 := Lib.hid (HB4.out.trans (k5.below (B := w.heap.size) (fun y hy e => by have := HXR.out; omega) HB4.out.size))
  clear hx5 k5 HX4 HR4 HB4
  go_wp2_with (refine wpList_store1_g rfl 4 _ _ rfl X 4 (.bool q) rfl rfl rfl rfl 138 _ HX5.out (by kernel_rfl) (by simp) #[.int .u64 a, .int .u64 b, .int .u64 c, .int .u64 d, .bool q] rfl ?_)
  intro w6 hx6 k6 _
  have HX6 := Lib.hid hx6; have HR6 := Lib.hid (k6.at HR5.out (fun e => HXR.out.2 e)); have HB6 := Lib.hid (HB5.out.trans (k6.below (B := w.heap.size) (fun y hy e => by have := HXR.out; omega) HB5.out.size))
  clear hx6 k6 HX5 HR5 HB5
  go_wp2_with (refine wpList_load_row rfl 138 _ rfl X rfl 138 _ _ _ HX6.out Try.underlying138 rfl Try.sizeFd ?_)
  refine (or_any HU.out q o _).mono ?_
  rw [show orF o _ q = v from HOR.out]
  rintro e w7 ⟨a2, b2, c2, d2, hu, rfl, hb⟩
  have HU2 := Lib.hid hu; have HR7 := Lib.hid (below_at' hb HR6.out); have HB7 := Lib.hid (HB6.out.trans (hb.mono HB6.out.size))
  clear hu hb HR6 HB6
  go_wp2_with (refine wpList_store_row_g (t := 30) (old := u0) rfl 30 _ _ rfl R #[.int .u64 a2, .int .u64 b2, .int .u64 c2, .int .u64 d2] rfl rfl HR7.out Try.sizeU rfl (one_u64 _ _ _ _) ?_)
  intro w8 hx k8 _
  have HX8 := Lib.hid hx
  have HB8 : Hid (Below w.heap.size w w8) := Lib.hid (HB7.out.trans (k8.below (B := w.heap.size) (fun x hx e => by have := HRW.out; omega) HB7.out.size))
  clear hx k8
  go_wp2_with fail
  exact bodyPost_ret (results_cell_row rfl _ _ _ _ _ _ _ rfl HX8.out Try.underlying30 rfl Try.sizeU) rfl ⟨_, _, _, _, HU2.out, rfl, HB8.out⟩

set_option maxHeartbeats 4000000 in
set_option maxRecDepth 100000 in
theorem mChg_any {w : World} {x : Option Addr} {m : Bool} {f : Txt → Option Txt} (h : Look w x m f) (hf : FitF f) {o st : Int} {H : List (Int × Nat)} (hH : HisI f 13 [o, st] H) (ho : -9223372036854775808 ≤ o ∧ o < 9223372036854775808) (hst : -9223372036854775808 ≤ st ∧ st < 9223372036854775808) :
    Calls Try.prog 45 #[.pointer x, .int .i64 o, .int .i64 st] w (Ret w (.int .i64 H.length)) := by
  have HK := Lib.hid h; have HF := Lib.hid hf; have HH := Lib.hid hH; have HI : Hid (I64s [o, st]) := Lib.hid (I64s.two ho hst)
  clear h hf hH ho hst
  go_enter Try.func45, Try.ntmps45
  go_wp2_with fail
  obtain ⟨w3, hwl⟩ : ∃ w3, w3 = w.alloc (.cells #[.int .i64 o, .int .i64 st] 3) := ⟨_, rfl⟩
  obtain ⟨gi, hgi⟩ : ∃ gi, gi = w.heap.size := ⟨_, rfl⟩
  rw [← hwl, ← hgi]
  have hbl : Below w.heap.size w w3 := by rw [hwl]; exact below_new _ _
  have HOI : Hid (Rd w3 intE 1 (.slice (some ⟨gi, 0, none⟩) 2 2) [o, st]) := Lib.hid (by rw [hwl, hgi]; exact lit2 _ _ _)
  have HB3 := Lib.hid hbl
  clear hwl hgi hbl
  refine (hlen_any (HK.out.later HB3.out) HF.out 13 (by simp) HI.out HOI.out).mono ?_
  rintro e w4 ⟨rfl, hb⟩
  rw [HH.out.cnt]
  have HB4 := Lib.hid (HB3.out.trans (hb.mono HB3.out.size))
  clear hb
  go_wp2_with fail
  go_ret
  exact ⟨rfl, HB4.out⟩
end
section
open Go.RowKit

theorem results_three {fn : Func} {p q u : Tmp} {ty : TypeId} (h : fn.results = #[.cell p ty, .cell q ty, .tmp u]) (tmps : Array Value) (P : Program) (w : World) :
    (results fn tmps).run P w =
      ((asAddr (tmps.getD p undef)).run P w).andThen fun a w₁ => ((loadVar ty a).run P w₁).andThen fun v w₂ => ((asAddr (tmps.getD q undef)).run P w₂).andThen fun a' w₃ => ((loadVar ty a').run P w₃).andThen fun v' w₄ => .ok (.tuple #[v, v', tmps.getD u undef]) w₄ := by
  simp only [results, h]
  simp [Sem.run_bind, Result.andThen]
theorem res_three {P : Program} {fn : Func} {p q u : Tmp} {ty : TypeId} (h : fn.results = #[.cell p ty, .cell q ty, .tmp u]) (tmps : Array Value) (w : World) (g g' : Nat) (t t' : TypeId) (cs cs' : Array Value) (fr fr' : Nat × Nat) (d : TypeDesc)
    (hp : tmps.getD p undef = .pointer (some ⟨g, 0, none⟩)) (hg : w.heap[g]? = some (.cells cs t fr)) (hp' : tmps.getD q undef = .pointer (some ⟨g', 0, none⟩)) (hg' : w.heap[g']? = some (.cells cs' t' fr'))
    (hu : P.underlying ty = some d) (hd : (match d with | .struct _ | .array _ _ => true | _ => false) = true) (hi : (P.info? ty).map (·.size) = some cs.size) (hi' : (P.info? ty).map (·.size) = some cs'.size) (v : Value) (hv : tmps.getD u undef = v) :
    (results fn tmps).run P w = .ok (.tuple #[.agg cs, .agg cs', v]) w := by
  subst hv
  rw [results_three h, hp, hp']
  have h1 := run_loadVar_row (P := P) w g t ty cs fr d hg hu hd hi
  have h2 := run_loadVar_row (P := P) w g' t' ty cs' fr' d hg' hu hd hi'
  simp [asAddr, h1, h2, Result.andThen]
/-- A cut's error. -/
def cutE (o st : Int) (H : List (Int × Nat)) (bk : Int) (m : Nat) : Int := if o < 1 ∨ st < 1 then 2 else if ¬ m ≤ maxH o H then 13 else hisE H bk
def cutS (s : PS) (o st : Int) (H : List (Int × Nat)) (bk : Int) (m : Nat) : PS := if o < 1 ∨ st < 1 ∨ ¬ m ≤ maxH o H then s else hpushS s 13 [o, st] bk (maxH o H - m)
def CutRet (w : World) (g : Nat) (F : List Nat) (s' : PS) (n1 n2 : Nat) (er : Int) (e : Ending) (w' : World) : Prop :=
  ∃ a b c d a' b' c' d' : Int, UIs a b c d n1 ∧ UIs a' b' c' d' n2 ∧ StRet w g F s' (.tuple #[.agg #[.int .u64 a, .int .u64 b, .int .u64 c, .int .u64 d], .agg #[.int .u64 a', .int .u64 b', .int .u64 c', .int .u64 d'], .int .i64 er]) e w'
theorem Liv.lk {w0 w : World} {F0 : List Nat} {g : Nat} {s : PS} (L : Liv w0 F0 w g s) : Look w (some ⟨g, 0, none⟩) true (getP s.t) := by
  obtain ⟨F, h1, _⟩ := L; exact Look.of_st h1
theorem liv_uu {w0 w w' : World} {F0 : List Nat} {g : Nat} {s : PS} {X : Nat} {cs : Array Value} (L : Liv w0 F0 w g s) (hX : w.heap[X]? = some (.cells cs 30 (0, 0))) (hk : Keep (· = X) w w') (hw : w0.heap.size ≤ X) : Liv w0 F0 w' g s := by
  obtain ⟨F, h1, h2, h3⟩ := L
  refine ⟨F, h1.keep hk fun x hx hu => ?_, h2.trans (hk.mono fun y _ hy => .inr (hy ▸ hw)), h3⟩
  obtain ⟨o, ho, k1⟩ := h1.kind x hx
  subst hu
  rw [hX] at ho
  cases ho
  have k2 : stoKind (.cells cs 30 (0, 0)) = false := rfl
  rw [k2] at k1; cases k1
theorem maxH_lt {f : Txt → Option Txt} {t : Int} {ids : List Int} {H : List (Int × Nat)} (h : HisI f t ids H) (o : Int) : maxH o H < uMax := by
  unfold maxH
  split
  · unfold uOne uMax; omega
  · exact h.lastN_lt

set_option maxHeartbeats 8000000 in
set_option maxRecDepth 100000 in
theorem mCut_any {w : World} {g : Nat} {s : PS} {F : List Nat} (h : St w g s F) (hz : s.sz < 1000000000000) (hf : Fit s) {o st bk : Int} {H : List (Int × Nat)} (hH : 1 ≤ o → 1 ≤ st → HisI (getP s.t) 13 [o, st] H) (hn : H.length ≤ 1000000)
    (ho : -9223372036854775808 ≤ o ∧ o < 9223372036854775808) (hst : -9223372036854775808 ≤ st ∧ st < 9223372036854775808) (hbk : -9223372036854775808 ≤ bk ∧ bk < 9223372036854775808) {a b c d : Int} {m : Nat} (hu : UIs a b c d m) :
    Calls Try.prog 41 #[.pointer (some ⟨g, 0, none⟩), .int .i64 o, .int .i64 st, .int .i64 bk, .agg #[.int .u64 a, .int .u64 b, .int .u64 c, .int .u64 d]] w (CutRet w g F (cutS s o st H bk m) (if cutE o st H bk m = 0 then maxH o H else 0) (if cutE o st H bk m = 0 then maxH o H - m else 0) (cutE o st H bk m)) := by
  have L := Lib.hid (Liv.start h); have HZ := Lib.hid hz; have HF := Lib.hid hf; have HH := Lib.hid hH; have HN := Lib.hid hn; have HO := Lib.hid ho; have HST := Lib.hid hst; have HBK := Lib.hid hbk; have HU := Lib.hid hu
  clear h hz hf hH hn ho hst hbk hu
  obtain ⟨E, hE⟩ : ∃ E, E = cutE o st H bk m := ⟨_, rfl⟩
  obtain ⟨S', hS'⟩ : ∃ S', S' = cutS s o st H bk m := ⟨_, rfl⟩
  obtain ⟨N1, hN1⟩ : ∃ N, N = if E = 0 then maxH o H else 0 := ⟨_, rfl⟩
  obtain ⟨N2, hN2⟩ : ∃ N, N = if E = 0 then maxH o H - m else 0 := ⟨_, rfl⟩
  rw [← hE, ← hS', ← hN1, ← hN2]
  have HE := Lib.hid hE; have HS' := Lib.hid hS'; have HN1 := Lib.hid hN1; have HN2 := Lib.hid hN2
  clear hE hS' hN1 hN2
  have fail0 : E ≠ 0 → N1 = 0 ∧ N2 = 0 := fun h => ⟨by rw [HN1.out, if_neg h], by rw [HN2.out, if_neg h]⟩
  have FAIL := Lib.hid fail0
  clear fail0
  go_enter Try.func41, Try.ntmps41
  go_wp2_with (refine wpList_alloc_g rfl _ rfl _ _ Try.zeroUz rfl ?_)
  obtain ⟨w1, hw1⟩ : ∃ w1, w1 = w.alloc (.cells #[.int .u64 a, .int .u64 b, .int .u64 c, .int .u64 d] 30) := ⟨_, rfl⟩
  obtain ⟨X, hX⟩ : ∃ X, X = w.heap.size := ⟨_, rfl⟩
  rw [← hw1, ← hX]
  have hb1 : Below w.heap.size w w1 := by rw [hw1]; exact below_new _ _
  have HX1 : Hid (w1.heap[X]? = some (.cells #[.int .u64 a, .int .u64 b, .int .u64 c, .int .u64 d] 30 (0, 0))) := Lib.hid (by rw [hw1, hX]; exact heap_alloc_new _ _)
  have L1 := Lib.hid (L.out.later hb1); have Z1 : Hid (w.heap.size ≤ w1.heap.size) := Lib.hid hb1.size
  clear hw1 hX hb1 L
  intro P w2 h2
  have HP2 := Lib.hid h2.out.cells; have HX2 := Lib.hid (below_at' h2.out.below HX1.out); have L2 := Lib.hid (L1.out.later h2.out.below); have HPW : Hid (w.heap.size ≤ P) := Lib.hid (by have := h2.out.eq; have := Z1.out; omega)
  have HPX : Hid (P ≠ X) := Lib.hid (by have := heap_lt HX1.out; have := h2.out.eq; omega)
  have Z2 : Hid (w.heap.size ≤ w2.heap.size) := Lib.hid (Nat.le_trans Z1.out h2.out.below.size)
  clear h2 HX1 L1 Z1
  go_wp2_with (refine wpList_alloc_g rfl _ rfl _ _ Try.zeroUz rfl ?_)
  intro Q w3 h3
  have HQ3 := Lib.hid h3.out.cells; have HP3 := Lib.hid (below_at' h3.out.below HP2.out); have HX3 := Lib.hid (below_at' h3.out.below HX2.out); have L3 := Lib.hid (L2.out.later h3.out.below)
  have HQW : Hid (w.heap.size ≤ Q ∧ Q ≠ P ∧ Q ≠ X) := Lib.hid (by have := h3.out.eq; have := Z2.out; have := heap_lt HP2.out; have := heap_lt HX2.out; exact ⟨by omega, by omega, by omega⟩)
  have Z3 : Hid (w.heap.size ≤ w3.heap.size) := Lib.hid (Nat.le_trans Z2.out h3.out.below.size)
  clear h3 HP2 HX2 L2 Z2
  by_cases hk : o < 1 ∨ st < 1
  · have HE2 : Hid (E = 2) := Lib.hid (by rw [HE.out]; unfold cutE; rw [if_pos hk])
    have HSS : Hid (S' = s) := Lib.hid (by rw [HS'.out]; unfold cutS; rw [if_pos (by rcases hk with h | h; exact .inl h; exact .inr (.inl h))])
    have HF0 := Lib.hid (FAIL.out (by rw [HE2.out]; decide))
    have hk2 : o < 1 ∨ (¬ o < 1 ∧ st < 1) := by omega
    clear hk
    rcases hk2 with g1 | ⟨g1, g2⟩
    · go_wp2_with (first
        | (refine wpList_store_row_g (t := 30) (old := u0) rfl 30 _ _ rfl P u0 rfl rfl HP3.out Try.sizeU rfl (one_u64 _ _ _ _) ?_))
      intro wx hx kx _
      have HPx := Lib.hid hx; have HQx := Lib.hid (kx.at HQ3.out (fun e => HQW.out.2.1 e)); have Lx := Lib.hid (liv_uu L3.out HP3.out kx HPW.out)
      clear hx kx
      go_wp2_with (first
        | (refine wpList_store_row_g (t := 30) (old := u0) rfl 30 _ _ rfl Q u0 rfl rfl HQx.out Try.sizeU rfl (one_u64 _ _ _ _) ?_))
      intro wy hy ky _
      have HQy := Lib.hid hy; have HPy := Lib.hid (ky.at HPx.out (fun e => HQW.out.2.1 e.symm)); have Ly := Lib.hid (liv_uu Lx.out HQx.out ky HQW.out.1)
      clear hy ky
      go_wp2_with fail
      exact bodyPost_ret (res_three rfl _ _ P Q _ _ u0 u0 _ _ _ rfl HPy.out rfl HQy.out Try.underlying30 rfl Try.sizeU Try.sizeU _ rfl) rfl ⟨0, 0, 0, 0, 0, 0, 0, 0, by rw [HF0.out.1]; exact UIs.zero, by rw [HF0.out.2]; exact UIs.zero, by rw [HSS.out, HE2.out]; exact Ly.out.ret⟩
    · go_wp2_with (first
        | (refine wpList_store_row_g (t := 30) (old := u0) rfl 30 _ _ rfl P u0 rfl rfl HP3.out Try.sizeU rfl (one_u64 _ _ _ _) ?_))
      intro wx hx kx _
      have HPx := Lib.hid hx; have HQx := Lib.hid (kx.at HQ3.out (fun e => HQW.out.2.1 e)); have Lx := Lib.hid (liv_uu L3.out HP3.out kx HPW.out)
      clear hx kx
      go_wp2_with (first
        | (refine wpList_store_row_g (t := 30) (old := u0) rfl 30 _ _ rfl Q u0 rfl rfl HQx.out Try.sizeU rfl (one_u64 _ _ _ _) ?_))
      intro wy hy ky _
      have HQy := Lib.hid hy; have HPy := Lib.hid (ky.at HPx.out (fun e => HQW.out.2.1 e.symm)); have Ly := Lib.hid (liv_uu Lx.out HQx.out ky HQW.out.1)
      clear hy ky
      go_wp2_with fail
      exact bodyPost_ret (res_three rfl _ _ P Q _ _ u0 u0 _ _ _ rfl HPy.out rfl HQy.out Try.underlying30 rfl Try.sizeU Try.sizeU _ rfl) rfl ⟨0, 0, 0, 0, 0, 0, 0, 0, by rw [HF0.out.1]; exact UIs.zero, by rw [HF0.out.2]; exact UIs.zero, by rw [HSS.out, HE2.out]; exact Ly.out.ret⟩
  have hk1 : ¬ o < 1 := fun h => hk (.inl h)
  have hk2 : ¬ st < 1 := fun h => hk (.inr h)
  have hH := HH.out (by omega) (by omega)
  have HK : Hid (KeyOk 13 [o, st]) := Lib.hid ⟨by decide, by decide, fun x hx => by
    simp only [List.mem_cons, List.not_mem_nil, or_false] at hx
    have h1 := HO.out; have h2 := HST.out
    rcases hx with rfl | rfl <;> omega⟩
  have HHI := Lib.hid hH
  have HNK := Lib.hid hk
  clear hk hH
  go_wp2_with fail
  clear hk1 hk2
  refine (mMax_any L3.out.lk HF.out.f HHI.out HN.out HO.out HST.out).mono ?_
  obtain ⟨fv, hfv⟩ : ∃ v, v = maxH o H := ⟨_, rfl⟩
  rw [← hfv]
  have HFV := Lib.hid hfv
  clear hfv
  rintro e w4 ⟨fa, fb, fc, fd, hu1, rfl, hb⟩
  have HUF := Lib.hid hu1; have L4 := Lib.hid (L3.out.later hb); have HX4 := Lib.hid (below_at' hb HX3.out); have HP4 := Lib.hid (below_at' hb HP3.out); have HQ4 := Lib.hid (below_at' hb HQ3.out); have Z4 : Hid (w.heap.size ≤ w4.heap.size) := Lib.hid (Nat.le_trans Z3.out hb.size)
  clear hu1 hb L3 HX3 HP3 HQ3 Z3
  go_wp2_with (refine wpList_alloc_g rfl _ rfl _ _ Try.zeroUz rfl ?_)
  intro A w5 h5
  go_wp2_with (refine wpList_store_row_g (t := 30) (old := u0) rfl 30 _ _ rfl A #[.int .u64 fa, .int .u64 fb, .int .u64 fc, .int .u64 fd] rfl rfl h5.out.cells Try.sizeU rfl (one_u64 _ _ _ _) ?_)
  intro w6 hx6 k6 z6
  have hb46 : Below w4.heap.size w4 w6 := h5.out.below.trans (k6.below (B := w4.heap.size) (fun x hx e => by have := h5.out.eq; omega) h5.out.below.size)
  have HA6 := Lib.hid hx6; have L6 := Lib.hid (L4.out.later hb46); have HX6 := Lib.hid (below_at' hb46 HX4.out); have HP6 := Lib.hid (below_at' hb46 HP4.out); have HQ6 := Lib.hid (below_at' hb46 HQ4.out); have Z6 : Hid (w.heap.size ≤ w6.heap.size) := Lib.hid (Nat.le_trans Z4.out hb46.size)
  have HAD : Hid (w.heap.size ≤ A ∧ A ≠ P ∧ A ≠ Q) := Lib.hid (by have := h5.out.eq; have := Z4.out; have := heap_lt HP4.out; have := heap_lt HQ4.out; exact ⟨by omega, by omega, by omega⟩)
  clear z6 h5 hx6 k6 hb46 L4 HX4 HP4 HQ4 Z4
  go_wp2_with (first
    | (refine wpList_load_row rfl 30 _ rfl A rfl 30 _ _ _ HA6.out Try.underlying30 rfl Try.sizeU ?_)
    | (refine wpList_load_row rfl 30 _ rfl X rfl 30 _ _ _ HX6.out Try.underlying30 rfl Try.sizeU ?_))
  refine (usub_any HUF.out HU.out _).mono ?_
  obtain ⟨ok, hok⟩ : ∃ q, q = decide (m ≤ fv) := ⟨_, rfl⟩
  rw [← hok]
  have HOK := Lib.hid hok
  clear hok
  rintro e w7 ⟨ta, tb, tc, td, hu2, rfl, hb⟩
  have HUT := Lib.hid hu2; have HA7 := Lib.hid (below_at' hb HA6.out); have L7 := Lib.hid (L6.out.later hb); have HP7 := Lib.hid (below_at' hb HP6.out); have HQ7 := Lib.hid (below_at' hb HQ6.out); have Z7 : Hid (w.heap.size ≤ w7.heap.size) := Lib.hid (Nat.le_trans Z6.out hb.size)
  clear hu2 hb HA6 L6 HX6 HP6 HQ6 Z6
  go_wp2_with (refine wpList_alloc_g rfl _ rfl _ _ Try.zeroUz rfl ?_)
  intro B w8 h8
  go_wp2_with (refine wpList_store_row_g (t := 30) (old := u0) rfl 30 _ _ rfl B #[.int .u64 ta, .int .u64 tb, .int .u64 tc, .int .u64 td] rfl rfl h8.out.cells Try.sizeU rfl (one_u64 _ _ _ _) ?_)
  intro w9 hx9 k9 z9
  have hb79 : Below w7.heap.size w7 w9 := h8.out.below.trans (k9.below (B := w7.heap.size) (fun x hx e => by have := h8.out.eq; omega) h8.out.below.size)
  have HB9 := Lib.hid hx9; have HA9 := Lib.hid (below_at' hb79 HA7.out); have L9 := Lib.hid (L7.out.later hb79); have HP9 := Lib.hid (below_at' hb79 HP7.out); have HQ9 := Lib.hid (below_at' hb79 HQ7.out)
  have HBD : Hid (w.heap.size ≤ B ∧ B ≠ P ∧ B ≠ Q) := Lib.hid (by have := h8.out.eq; have := Z7.out; have := heap_lt HP7.out; have := heap_lt HQ7.out; exact ⟨by omega, by omega, by omega⟩)
  clear z9 h8 hx9 k9 hb79 HA7 L7 HP7 HQ7 Z7
  cases ok with
  | false =>
    have hno : ¬ m ≤ fv := of_decide_eq_false HOK.out.symm
    have HE2 : Hid (E = 13) := Lib.hid (by rw [HE.out]; unfold cutE; rw [if_neg HNK.out, if_pos (by rw [← HFV.out]; exact hno)])
    have HSS : Hid (S' = s) := Lib.hid (by rw [HS'.out]; unfold cutS; rw [if_pos (.inr (.inr (by rw [← HFV.out]; exact hno)))])
    have HF0 := Lib.hid (FAIL.out (by rw [HE2.out]; decide))
    clear hno
    go_wp2_with (first
      | (refine wpList_store_row_g (t := 30) (old := u0) rfl 30 _ _ rfl P u0 rfl rfl HP9.out Try.sizeU rfl (one_u64 _ _ _ _) ?_))
    intro wx hx kx _
    have HPx := Lib.hid hx; have HQx := Lib.hid (kx.at HQ9.out (fun e => HQW.out.2.1 e)); have Lx := Lib.hid (liv_uu L9.out HP9.out kx HPW.out)
    clear hx kx
    go_wp2_with (first
      | (refine wpList_store_row_g (t := 30) (old := u0) rfl 30 _ _ rfl Q u0 rfl rfl HQx.out Try.sizeU rfl (one_u64 _ _ _ _) ?_))
    intro wy hy ky _
    have HQy := Lib.hid hy; have HPy := Lib.hid (ky.at HPx.out (fun e => HQW.out.2.1 e.symm)); have Ly := Lib.hid (liv_uu Lx.out HQx.out ky HQW.out.1)
    clear hy ky
    go_wp2_with fail
    exact bodyPost_ret (res_three rfl _ _ P Q _ _ u0 u0 _ _ _ rfl HPy.out rfl HQy.out Try.underlying30 rfl Try.sizeU Try.sizeU _ rfl) rfl ⟨0, 0, 0, 0, 0, 0, 0, 0, by rw [HF0.out.1]; exact UIs.zero, by rw [HF0.out.2]; exact UIs.zero, by rw [HSS.out, HE2.out]; exact Ly.out.ret⟩
  | true =>
    have hyes : m ≤ fv := of_decide_eq_true HOK.out.symm
    have hE : E = hisE H bk := by rw [HE.out]; unfold cutE; rw [if_neg HNK.out, if_neg (fun h => h (by rw [← HFV.out]; exact hyes))]
    have hSS : S' = hpushS s 13 [o, st] bk (fv - m) := by
      rw [HS'.out]; unfold cutS
      rw [if_neg, HFV.out]
      rintro (h | h | h)
      · exact HNK.out (.inl h)
      · exact HNK.out (.inr h)
      · exact h (by rw [← HFV.out]; exact hyes)
    have HEH := Lib.hid hE; have HSH := Lib.hid hSS
    have HUT2 : Hid (UIs ta tb tc td (fv - m)) := HUT
    clear hyes hE hSS
    have lb : (w9.alloc (.cells #[.int .i64 o, .int .i64 st] 3)).heap[B]? = some (.cells #[.int .u64 ta, .int .u64 tb, .int .u64 tc, .int .u64 td] 30 (0, 0)) := below_at' (below_new _ _) HB9.out
    have HLB := Lib.hid lb
    clear lb
    go_wp2_with (refine wpList_load_row rfl 30 _ rfl B rfl 30 _ _ _ HLB.out Try.underlying30 rfl Try.sizeU ?_)
    obtain ⟨wa, hwl⟩ : ∃ wa, wa = w9.alloc (.cells #[.int .i64 o, .int .i64 st] 3) := ⟨_, rfl⟩
    obtain ⟨gi, hgi⟩ : ∃ gi, gi = w9.heap.size := ⟨_, rfl⟩
    rw [← hwl, ← hgi]
    have hbl : Below w9.heap.size w9 wa := by rw [hwl]; exact below_new _ _
    have HOI : Hid (Own wa 0 3 intE 1 (.slice (some ⟨gi, 0, none⟩) 2 2) [o, st]) := Lib.hid (own_lit (l := [o, st]) (by rw [hwl, hgi]; exact heap_alloc_new _ _) (Nat.zero_le _) (by unfold maxLen; simp))
    have LA := Lib.hid (L9.out.later hbl); have HAa := Lib.hid (below_at' hbl HA9.out); have HBa := Lib.hid (below_at' hbl HB9.out); have HPa := Lib.hid (below_at' hbl HP9.out); have HQa := Lib.hid (below_at' hbl HQ9.out)
    clear hwl hgi hbl L9 HA9 HB9 HP9 HQ9 HLB
    refine (LA.out.call fun F h => hpush_any h HZ.out HF.out 13 (by simp) (I64s.two HO.out HST.out) HOI.out HBK.out HUT2.out (by rw [HHI.out.cnt]; have := HN.out; omega)).mono ?_
    rintro e wb ⟨rfl, LB, hoth⟩
    rw [HHI.out.pushE HK.out bk, ← HEH.out]
    have LB := Lib.hid LB; have HAb := Lib.hid (hoth.2 _ _ HAa.out rfl rfl); have HBb := Lib.hid (hoth.2 _ _ HBa.out rfl rfl); have HPb := Lib.hid (hoth.2 _ _ HPa.out rfl rfl); have HQb := Lib.hid (hoth.2 _ _ HQa.out rfl rfl)
    clear hoth LA HAa HBa HPa HQa HOI
    by_cases hz : E = 0
    · have HN1E : Hid (N1 = fv ∧ N2 = fv - m) := Lib.hid (by rw [HN1.out, HN2.out, if_pos hz, if_pos hz, HFV.out]; exact ⟨rfl, rfl⟩)
      subst hz
      obtain ⟨wz, hwz⟩ : ∃ wz, wz = wb.drew := ⟨_, rfl⟩
      have hbz : Below wb.heap.size wb wz := by rw [hwz]; exact (Below.refl _ _).drew
      have L0 := Lib.hid (LB.out.later hbz); have HP0 := Lib.hid (below_at' hbz HPb.out); have HQ0 := Lib.hid (below_at' hbz HQb.out)
      have hS : wz.heap[A]? = some (.cells #[.int .u64 fa, .int .u64 fb, .int .u64 fc, .int .u64 fd] 30 (0, 0)) ∧ wz.heap[B]? = some (.cells #[.int .u64 ta, .int .u64 tb, .int .u64 tc, .int .u64 td] 30 (0, 0)) := ⟨below_at' hbz HAb.out, below_at' hbz HBb.out⟩
      clear hbz LB HAb HBb HPb HQb
      go_wp2_with fail
      refine wp_region_till (fun w' => w'.heap[A]? = some (.cells #[.int .u64 fa, .int .u64 fb, .int .u64 fc, .int .u64 fd] 30 (0, 0)) ∧ w'.heap[B]? = some (.cells #[.int .u64 ta, .int .u64 tb, .int .u64 tc, .int .u64 td] 30 (0, 0))) 5 5 (by kernel_rfl) rfl ?_
      rw [← hwz]
      clear hwz
      refine till_take 0 (some 51) rfl rfl (by kernel_rfl) (by kernel_rfl) (by kernel_rfl) (by kernel_rfl) (by kernel_rfl) (by kernel_rfl) (fun _ _ _ h => h) (yields_load (by rfl) 30 _ rfl (.pointer (some ⟨A, 0, none⟩)) rfl (.agg #[.int .u64 fa, .int .u64 fb, .int .u64 fc, .int .u64 fd]) (fun w' hS' => load_heap hS'.1 Try.underlying30 rfl Try.sizeU)) hS ?_
      go_frame
      refine till_take 1 (some 52) rfl rfl (by kernel_rfl) (by kernel_rfl) (by kernel_rfl) (by kernel_rfl) (by kernel_rfl) (by kernel_rfl) (fun _ _ _ h => h) (yields_load (by rfl) 30 _ rfl (.pointer (some ⟨B, 0, none⟩)) rfl (.agg #[.int .u64 ta, .int .u64 tb, .int .u64 tc, .int .u64 td]) (fun w' hS' => load_heap hS'.2 Try.underlying30 rfl Try.sizeU)) hS ?_
      go_frame
      refine till_one 2 rfl (by kernel_rfl) fun K hK => ?_
      simp only [List.getElem_toArray, List.getElem_cons_succ, List.getElem_cons_zero]
      rw [if_pos (by rfl)]
      refine wp_store_row_g (t := 30) (old := u0) 30 _ _ rfl P #[.int .u64 fa, .int .u64 fb, .int .u64 fc, .int .u64 fd] rfl rfl HP0.out Try.sizeU rfl (one_u64 _ _ _ _) ?_
      intro wt1 hx8 k8 _
      have VHP1 := Lib.hid hx8
      have hS1 := And.intro (k8.at hS.1 (fun e => HAD.out.2.1 e)) (k8.at hS.2 (fun e => HBD.out.2.1 e))
      have L1 := Lib.hid (liv_uu L0.out HP0.out k8 HPW.out)
      have HQ1 := Lib.hid (k8.at HQ0.out (fun e => HQW.out.2.1 e))
      refine hK _ _ (fun _ _ => hS1) ?_
      clear hK hS hx8 k8 L0 HP0 HQ0
      have hS := hS1
      clear hS1
      refine till_one 3 rfl (by kernel_rfl) fun K hK => ?_
      simp only [List.getElem_toArray, List.getElem_cons_succ, List.getElem_cons_zero]
      rw [if_pos (by rfl)]
      refine wp_store_row_g (t := 30) (old := u0) 30 _ _ rfl Q #[.int .u64 ta, .int .u64 tb, .int .u64 tc, .int .u64 td] rfl rfl HQ1.out Try.sizeU rfl (one_u64 _ _ _ _) ?_
      intro wt2 hx8 k8 _
      have VHQ2 := Lib.hid hx8
      have hS1 := And.intro (k8.at hS.1 (fun e => HAD.out.2.2 e)) (k8.at hS.2 (fun e => HBD.out.2.2 e))
      have L2 := Lib.hid (liv_uu L1.out HQ1.out k8 HQW.out.1)
      have VHP2 := Lib.hid (k8.at VHP1.out (fun e => HQW.out.2.1 e.symm))
      refine hK _ _ (fun _ _ => hS1) ?_
      clear hK hS hx8 k8 L1 HQ1 VHP1
      have hS := hS1
      clear hS1
      refine till_take 4 (some 12) rfl rfl (by kernel_rfl) (by kernel_rfl) (by kernel_rfl) (by kernel_rfl) (by kernel_rfl) (by kernel_rfl) (fun _ _ _ h => h) (.inl ⟨by rfl, fun w' _ => (by go_simp; rfl)⟩) hS ?_
      go_frame
      refine till_done (by kernel_rfl) ?_ _
      clear hS
      go_wp2_with fail
      exact bodyPost_ret (res_three rfl _ _ P Q _ _ #[.int .u64 fa, .int .u64 fb, .int .u64 fc, .int .u64 fd] #[.int .u64 ta, .int .u64 tb, .int .u64 tc, .int .u64 td] _ _ _ rfl VHP2.out rfl VHQ2.out Try.underlying30 rfl Try.sizeU Try.sizeU _ rfl) rfl ⟨fa, fb, fc, fd, ta, tb, tc, td, by rw [HN1E.out.1]; exact HUF.out, by rw [HN1E.out.2]; exact HUT2.out, by rw [HSH.out]; exact L2.out.ret⟩
    · have HF0 := Lib.hid (FAIL.out hz)
      have hzb : (E == 0) = false := beq_eq_false_iff_ne.2 hz
      clear hz
      go_wp2_with (first
        | (refine wpList_store_row_g (t := 30) (old := u0) rfl 30 _ _ rfl P u0 rfl rfl HPb.out Try.sizeU rfl (one_u64 _ _ _ _) ?_))
      intro wx hx kx _
      have HPx := Lib.hid hx; have HQx := Lib.hid (kx.at HQb.out (fun e => HQW.out.2.1 e)); have Lx := Lib.hid (liv_uu LB.out HPb.out kx HPW.out)
      clear hx kx
      go_wp2_with (first
        | (refine wpList_store_row_g (t := 30) (old := u0) rfl 30 _ _ rfl Q u0 rfl rfl HQx.out Try.sizeU rfl (one_u64 _ _ _ _) ?_))
      intro wy hy ky _
      have HQy := Lib.hid hy; have HPy := Lib.hid (ky.at HPx.out (fun e => HQW.out.2.1 e.symm)); have Ly := Lib.hid (liv_uu Lx.out HQx.out ky HQW.out.1)
      clear hy ky
      go_wp2_with fail
      exact bodyPost_ret (res_three rfl _ _ P Q _ _ u0 u0 _ _ _ rfl HPy.out rfl HQy.out Try.underlying30 rfl Try.sizeU Try.sizeU _ rfl) rfl ⟨0, 0, 0, 0, 0, 0, 0, 0, by rw [HF0.out.1]; exact UIs.zero, by rw [HF0.out.2]; exact UIs.zero, by rw [HSH.out]; exact Ly.out.ret⟩
end
section
open Go.RowKit

/-- tallagelaw22.Cut, read. -/
structure Act22 where
  o : Int
  st : Int
  b : Int
  m : Nat
def act22E (a : Act22) : List Value := [.int .i64 a.o, .int .i64 a.st, .int .i64 a.b, .int .u64 (uw0 a.m), .int .u64 (uw1 a.m), .int .u64 (uw2 a.m), .int .u64 (uw3 a.m)]
theorem act22E_len (a : Act22) : (act22E a).length = 7 := rfl
structure Good22 (w : World) (a : Act22) : Prop where
  b_o : -9223372036854775808 ≤ a.o ∧ a.o < 9223372036854775808
  b_st : -9223372036854775808 ≤ a.st ∧ a.st < 9223372036854775808
  b_b : -9223372036854775808 ≤ a.b ∧ a.b < 9223372036854775808
  lt_m : a.m < uMax
theorem Good22.later {w w' : World} {a : Act22} (h : Good22 w a) (_hb : Below w.heap.size w w') : Good22 w' a := ⟨h.b_o, h.b_st, h.b_b, h.lt_m⟩
theorem Rd.act22 {w : World} {ad : Option Addr} {n cap : Nat} {t : List Act22} (h : Rd w act22E 7 (.slice ad n cap) t) (i : Nat) (hi : i < t.length) :
    ∃ g off, ad = some ⟨g, off, none⟩ ∧ g < w.heap.size ∧ w.cell? ⟨g, off + i * 7, none⟩ = some (.int .i64 t[i].o) ∧ w.cell? ⟨g, off + i * 7 + 1, none⟩ = some (.int .i64 t[i].st) ∧ w.cell? ⟨g, off + i * 7 + 2, none⟩ = some (.int .i64 t[i].b) ∧ w.cell? ⟨g, off + i * 7 + 3, none⟩ = some (.int .u64 (uw0 t[i].m)) ∧ w.cell? ⟨g, off + i * 7 + 4, none⟩ = some (.int .u64 (uw1 t[i].m)) ∧ w.cell? ⟨g, off + i * 7 + 5, none⟩ = some (.int .u64 (uw2 t[i].m)) ∧ w.cell? ⟨g, off + i * 7 + 6, none⟩ = some (.int .u64 (uw3 t[i].m)) := by
  have hne : t ≠ [] := by rintro rfl; simp at hi
  obtain ⟨ax, cx, e3, _, _, h3⟩ := h
  obtain ⟨b, off, e4, hb, h5⟩ := h3 hne
  exact ⟨b, off, (Value.slice.inj e3).1.trans e4, hb, h5 i hi 0 (by decide), h5 i hi 1 (by decide), h5 i hi 2 (by decide), h5 i hi 3 (by decide), h5 i hi 4 (by decide), h5 i hi 5 (by decide), h5 i hi 6 (by decide)⟩
theorem Try.zeroAct22 (w : World) : (zeroValue 83).run Try.prog w = .ok (.agg #[.int .i64 0, .int .i64 0, .int .i64 0, .int .u64 0, .int .u64 0, .int .u64 0, .int .u64 0]) w := by kernel_rfl
theorem Try.sizeAct22 : (Try.prog.info? 83).map (·.size) = some 7 := by kernel_rfl
theorem litA22 (w : World) (a : Act22) : Rd (w.alloc (.cells #[.int .i64 a.o, .int .i64 a.st, .int .i64 a.b, .int .u64 (uw0 a.m), .int .u64 (uw1 a.m), .int .u64 (uw2 a.m), .int .u64 (uw3 a.m)] 83)) act22E 7 (.slice (some ⟨w.heap.size, 0, none⟩) 1 1) [a] := by
  refine ⟨_, 1, rfl, Nat.le_refl _, (by unfold maxLen; decide), fun _ => ⟨_, 0, rfl, by rw [World.size_alloc]; omega, fun i hi j hj => ?_⟩⟩
  have h := heap_alloc_new w (.cells #[.int .i64 a.o, .int .i64 a.st, .int .i64 a.b, .int .u64 (uw0 a.m), .int .u64 (uw1 a.m), .int .u64 (uw2 a.m), .int .u64 (uw3 a.m)] 83)
  simp only [List.length_singleton] at hi
  obtain rfl : i = 0 := by omega
  match j, hj with
  | 0, _ => exact Lib.cell_of_heap h 0
  | 1, _ => exact Lib.cell_of_heap h 1
  | 2, _ => exact Lib.cell_of_heap h 2
  | 3, _ => exact Lib.cell_of_heap h 3
  | 4, _ => exact Lib.cell_of_heap h 4
  | 5, _ => exact Lib.cell_of_heap h 5
  | 6, _ => exact Lib.cell_of_heap h 6

/-- The greatest magnitudes fall. -/
structure Desc (H : List (Int × Nat)) : Prop where
  pw : H.Pairwise fun p q => q.2 ≤ p.2
  le : ∀ p ∈ H, p.2 ≤ uOne
theorem Desc.nil : Desc [] := ⟨List.Pairwise.nil, fun p h => by cases h⟩
theorem Desc.max_le {H : List (Int × Nat)} (h : Desc H) (o : Int) : maxH o H ≤ uOne := by
  unfold maxH
  split
  · exact Nat.le_refl _
  · unfold lastN
    cases hl : H.getLast? with
    | none => simp
    | some p => exact h.le p (last_mem hl)
theorem Desc.last {H : List (Int × Nat)} (h : Desc H) : ∀ p ∈ H, lastN H ≤ p.2 := by
  intro p hp
  have hne : H ≠ [] := by intro e; subst e; cases hp
  have h1 := List.dropLast_concat_getLast hne
  have h2 := List.getLast?_eq_some_getLast hne
  have hl : lastN H = (H.getLast hne).2 := by unfold lastN; rw [h2]; rfl
  rw [hl]
  have hpw := h.pw
  rw [← h1, List.pairwise_append] at hpw
  rw [← h1] at hp
  rcases List.mem_append.1 hp with hp | hp
  · exact hpw.2.2 p hp _ (by simp)
  · rw [List.mem_singleton.1 hp]; exact Nat.le_refl _
theorem Desc.push {H : List (Int × Nat)} (h : Desc H) {bk : Int} {m : Nat} (hm : m ≤ maxH 7 H) : Desc (hisS H bk m) := by
  have hm1 : m ≤ uOne := Nat.le_trans hm (h.max_le 7)
  have hml : ∀ p ∈ H, m ≤ p.2 := by
    intro p hp
    have h1 := h.last p hp
    have h2 : maxH 7 H = lastN H := by
      unfold maxH
      rw [if_neg]
      rintro (e | e)
      · cases e
      · have hne : H ≠ [] := by intro e2; subst e2; cases hp
        rw [List.getLast?_eq_some_getLast hne] at e; cases e
    omega
  unfold hisS
  split
  · split
    · exact ⟨List.pairwise_singleton _ _, fun p hp => by rw [List.mem_singleton.1 hp]; exact hm1⟩
    · rename_i q hq
      split
      · refine ⟨List.pairwise_append.2 ⟨h.pw.sublist (List.dropLast_sublist _), List.pairwise_singleton _ _, fun p hp r hr => ?_⟩, fun p hp => ?_⟩
        · rw [List.mem_singleton.1 hr]; exact hml p (List.dropLast_subset _ hp)
        · rcases List.mem_append.1 hp with hp | hp
          · exact h.le p (List.dropLast_subset _ hp)
          · rw [List.mem_singleton.1 hp]; exact hm1
      · split
        · exact h
        · refine ⟨List.pairwise_append.2 ⟨h.pw, List.pairwise_singleton _ _, fun p hp r hr => ?_⟩, fun p hp => ?_⟩
          · rw [List.mem_singleton.1 hr]; exact hml p hp
          · rcases List.mem_append.1 hp with hp | hp
            · exact h.le p hp
            · rw [List.mem_singleton.1 hp]; exact hm1
  · exact h
theorem pw_last {α : Type} {R : α → α → Prop} {l : List α} (h : l.Pairwise R) {p q : α} (hq : l.getLast? = some q) (hp : p ∈ l) : p = q ∨ R p q := by
  have hne : l ≠ [] := by intro e; subst e; cases hp
  have h1 := List.dropLast_concat_getLast hne
  have h2 := List.getLast?_eq_some_getLast hne
  rw [hq] at h2
  have h3 : q = l.getLast hne := Option.some.inj h2
  rw [← h1, List.pairwise_append] at h
  rw [← h1] at hp
  rcases List.mem_append.1 hp with hp | hp
  · right; rw [h3]; exact h.2.2 p hp _ (by simp)
  · left; rw [List.mem_singleton.1 hp, h3]
/-- Nor do they rise from block to block. -/
theorem Desc.at_le {H : List (Int × Nat)} (h : Desc H) {b b' : Int} (hb : b ≤ b') : atH 7 H b' ≤ atH 7 H b := by
  have hle : ∀ c, atH 7 H c ≤ uOne := by
    intro c
    unfold atH
    split
    · exact Nat.le_refl _
    · cases hl : lookH H c with
      | none => simp
      | some p => exact h.le p (List.mem_filter.1 (List.mem_of_getLast? hl)).1
  cases hl : lookH H b with
  | none =>
    have : atH 7 H b = uOne := by unfold atH; rw [hl]; simp
    rw [this]; exact hle b'
  | some p =>
    have hp := List.mem_filter.1 (List.mem_of_getLast? hl)
    have hp' : p ∈ H.filter fun q => decide (q.1 ≤ b') := List.mem_filter.2 ⟨hp.1, decide_eq_true (Int.le_trans (of_decide_eq_true hp.2) hb)⟩
    have hne : H.filter (fun q => decide (q.1 ≤ b')) ≠ [] := by intro e; rw [e] at hp'; cases hp'
    obtain ⟨q, hq⟩ : ∃ q, lookH H b' = some q := ⟨_, List.getLast?_eq_some_getLast hne⟩
    have h1 := pw_last (h.pw.sublist List.filter_sublist) hq hp'
    have e1 : atH 7 H b = p.2 := by unfold atH; rw [hl]; simp
    have e2 : atH 7 H b' = q.2 := by unfold atH; rw [hq]; simp
    rw [e1, e2]
    rcases h1 with h1 | h1
    · rw [← h1]; exact Nat.le_refl _
    · exact h1
/-- A store that a law made, with the magnitudes of one operator and one strategy. -/
structure MOne (w0 w : World) (g : Nat) (s : PS) (H : List (Int × Nat)) (n : Nat) : Prop where
  one : One w0 w g s
  fit : Fit s
  sz : s.sz ≤ 4 * n
  his : HisI (getP s.t) 13 [7, 1] H
  len : H.length ≤ n
  nobody : getP s.t (keyF 13 [0, 1]) = none
theorem MOne.later {w0 w w' : World} {g : Nat} {s : PS} {H : List (Int × Nat)} {n : Nat} (h : MOne w0 w g s H n) (hb : Below w.heap.size w w') : MOne w0 w' g s H n := ⟨h.one.later hb, h.fit, h.sz, h.his, h.len, h.nobody⟩
theorem KeyOk71 : KeyOk 13 [7, 1] := ⟨by decide, by decide, fun x hx => by simp only [List.mem_cons, List.not_mem_nil, or_false] at hx; rcases hx with rfl | rfl <;> decide⟩
theorem KeyOk01 : KeyOk 13 [0, 1] := ⟨by decide, by decide, fun x hx => by simp only [List.mem_cons, List.not_mem_nil, or_false] at hx; rcases hx with rfl | rfl <;> decide⟩
theorem MOne.hisNobody {w0 w : World} {g : Nat} {s : PS} {H : List (Int × Nat)} {n : Nat} (h : MOne w0 w g s H n) : HisI (getP s.t) 13 [0, 1] [] where
  cnt := by unfold getI valF; rw [h.nobody, show rowF ((Option.none : Option Txt).getD []) = [] from rowF_nil]; rfl
  pts := fun i h => by cases h
  ok := fun p h => by cases h
  rise := List.Pairwise.nil
theorem key01_ne (i : Int) : keyF 13 [0, 1] ≠ keyF 13 ([7, 1] ++ [i]) := by
  by_cases h : 0 ≤ i
  · intro e
    have h1 : (keyF 13 [0, 1]).length = 17 := by rw [KeyOk01.eq]; simp [numL_length]
    have h2 : (keyF 13 ([7, 1] ++ [i])).length = 25 := by
      rw [keyF_good (by decide) (by decide) (by intro x hx; simp only [List.cons_append, List.nil_append, List.mem_cons, List.not_mem_nil, or_false] at hx; omega)]; simp [numL_length]
    rw [e, h2] at h1; cases h1
  · have : keyF 13 ([7, 1] ++ [i]) = [] := by unfold keyF; rw [if_pos]; exact .inr (.inr ⟨i, by simp, by omega⟩)
    rw [this]; exact KeyOk01.ne
def cutH (H : List (Int × Nat)) (bk : Int) (m : Nat) : List (Int × Nat) := if ¬ m ≤ maxH 7 H then H else hisS H bk (maxH 7 H - m)
/-- What a cut tells. -/
def CutSays (w0 w : World) (g : Nat) (s' : PS) (H' : List (Int × Nat)) (n n1 n2 : Nat) (er : Int) (e : Ending) (w' : World) : Prop :=
  ∃ a b c d a' b' c' d' : Int, UIs a b c d n1 ∧ UIs a' b' c' d' n2 ∧ e = .returned (.tuple #[.agg #[.int .u64 a, .int .u64 b, .int .u64 c, .int .u64 d], .agg #[.int .u64 a', .int .u64 b', .int .u64 c', .int .u64 d'], .int .i64 er]) ∧ MOne w0 w' g s' H' n ∧ Oth w w'
theorem MOne.cut {w0 w : World} {g : Nat} {s : PS} {H : List (Int × Nat)} {n : Nat} (h : MOne w0 w g s H n) (hn : n ≤ 100000) {bk : Int} (hbk : -9223372036854775808 ≤ bk ∧ bk < 9223372036854775808) {a b c d : Int} {m : Nat} (hu : UIs a b c d m) :
    Calls Try.prog 41 #[.pointer (some ⟨g, 0, none⟩), .int .i64 7, .int .i64 1, .int .i64 bk, .agg #[.int .u64 a, .int .u64 b, .int .u64 c, .int .u64 d]] w
      (CutSays w0 w g (cutS s 7 1 H bk m) (cutH H bk m) (n + 1) (if cutE 7 1 H bk m = 0 then maxH 7 H else 0) (if cutE 7 1 H bk m = 0 then maxH 7 H - m else 0) (cutE 7 1 H bk m)) := by
  obtain ⟨F, h1, h3, h5⟩ := h.one
  have hsz := h.sz; have hln := h.len
  refine (mCut_any h1 (by omega) h.fit (fun _ _ => h.his) (by omega) (by decide) (by decide) hbk hu).mono ?_
  rintro e w' ⟨a1, b1, c1, d1, a2, b2, c2, d2, hu1, hu2, he, F', q1, q2, q3⟩
  have hcs := sz_hpush s 13 [7, 1] bk (maxH 7 H - m)
  have hcl := hisS_len H bk (maxH 7 H - m)
  refine ⟨a1, b1, c1, d1, a2, b2, c2, d2, hu1, hu2, he, ⟨⟨F', q1, fun x hx => ?_, h5.trans (q2.below (B := w0.heap.size) (fun q hq e => by have := h3 q e; omega) h5.size)⟩, ?_, ?_, ?_, ?_, ?_⟩, Oth.of_st h1 q2⟩
  · rcases q3 x hx with h | h
    · exact h3 x h
    · exact Nat.le_trans h5.size h
  all_goals
    try unfold cutS
    try unfold cutH
    by_cases hm : m ≤ maxH 7 H
    · first
        | (rw [if_neg (by rintro (e | e | e) <;> first | exact absurd e (by decide) | exact e hm)])
        | skip
      first
        | exact h.fit.hpush _ _ _ _
        | omega
        | (rw [if_neg (fun e => e hm)]; exact h.his.push KeyOk71 (by omega) bk (by have := maxH_lt h.his 7; omega))
        | (rw [if_neg (fun e => e hm)]; omega)
        | (rw [hpush_other (KeyOk01.apart KeyOk71 (by decide)) key01_ne (by rw [h.his.cnt]; omega)]; exact h.nobody)
    · first
        | (rw [if_pos (Or.inr (Or.inr hm))])
        | skip
      first
        | exact h.fit
        | omega
        | (rw [if_pos hm]; exact h.his)
        | (rw [if_pos hm]; omega)
        | exact h.nobody
theorem MOne.new {w0 w w' : World} {g : Nat} {F : List Nat} (h : St w' g PS.new F) (hF : ∀ x ∈ F, w.heap.size ≤ x) (hb : Below w.heap.size w w') (h0 : Below w0.heap.size w0 w) : MOne w0 w' g PS.new [] 0 :=
  ⟨⟨F, h, fun x hx => Nat.le_trans h0.size (hF x hx), h0.trans (hb.mono h0.size)⟩, Fit.new, by decide, HisI.new _ _, Nat.le_refl _, rfl⟩
theorem MOne.look {w0 w : World} {g : Nat} {s : PS} {H : List (Int × Nat)} {n : Nat} (h : MOne w0 w g s H n) : Look w (some ⟨g, 0, none⟩) true (getP s.t) := by
  obtain ⟨F, h1⟩ := h.one.get; exact Look.of_st h1

theorem mone_keep {w0 w w' : World} {g : Nat} {s : PS} {H : List (Int × Nat)} {n X : Nat} {cs : Array Value} (h : MOne w0 w g s H n) (hX : w.heap[X]? = some (.cells cs 30 (0, 0))) (hk : Keep (· = X) w w') (hw : w0.heap.size ≤ X) : MOne w0 w' g s H n := by
  obtain ⟨F, h1, h2, h3⟩ := h.one
  refine ⟨⟨F, h1.keep hk fun x hx hu => ?_, h2, h3.trans (hk.below (B := w0.heap.size) (fun y hy e => by omega) h3.size)⟩, h.fit, h.sz, h.his, h.len, h.nobody⟩
  obtain ⟨o, ho, k1⟩ := h1.kind x hx
  subst hu
  rw [hX] at ho
  cases ho
  have k2 : stoKind (.cells cs 30 (0, 0)) = false := rfl
  rw [k2] at k1; cases k1

set_option maxHeartbeats 8000000 in
set_option maxRecDepth 100000 in
theorem lives22_any (w : World) : Calls Try.prog 39 #[] w (Ret w (.bool true)) := by
  go_enter Try.func39, Try.ntmps39
  go_wp2_with fail
  refine (snew_any _).mono ?_
  rintro e w1 ⟨g, F, rfl, h1, hb1, hf1⟩
  have O1 := Lib.hid (MOne.new h1 hf1 hb1 (Below.refl _ _))
  clear h1 hb1 hf1
  have u25 : UIs 250000000000000000 0 0 0 250000000000000000 := by unfold UIs; omega
  have u75 : UIs 750000000000000000 0 0 0 750000000000000000 := by unfold UIs; omega
  have U25 := Lib.hid u25; have U75 := Lib.hid u75
  clear u25 u75
  go_wp2_with fail
  refine (O1.out.cut (by decide) (bk := 5) (by decide) U25.out).mono ?_
  rw [show cutE 7 1 [] 5 250000000000000000 = 0 from by decide +kernel, show cutH [] 5 250000000000000000 = [(5, 750000000000000000)] from by decide +kernel, if_pos rfl, if_pos rfl, show maxH 7 [] - 250000000000000000 = 750000000000000000 from by decide +kernel]
  rintro e w2 ⟨fa, fb, fc, fd, ta, tb, tc, td, _, hu, rfl, O2, _⟩
  have HU := Lib.hid hu; have O2 := Lib.hid O2
  clear hu O1
  go_wp2_with (refine wpList_alloc_g rfl _ rfl _ _ Try.zeroUz rfl ?_)
  intro A w3 h3
  have O3 := Lib.hid (O2.out.later h3.out.below); have HA3 := Lib.hid h3.out.cells; have HAW : Hid (w.heap.size ≤ A) := Lib.hid (by rw [h3.out.eq]; exact O2.out.one.below.size)
  clear h3 O2
  go_wp2_with (refine wpList_alloc_g rfl _ rfl _ _ Try.zeroUz rfl ?_)
  intro B w4 h4
  have O4 := Lib.hid (O3.out.later h4.out.below); have HA4 := Lib.hid (below_at' h4.out.below HA3.out); have HB4 := Lib.hid h4.out.cells; have HBW : Hid (w.heap.size ≤ B ∧ A ≠ B) := Lib.hid (by rw [h4.out.eq]; exact ⟨O3.out.one.below.size, by have := heap_lt HA3.out; omega⟩)
  clear h4 O3 HA3
  go_wp2_with (refine wpList_store_row_g (t := 30) (old := u0) rfl 30 _ _ rfl A #[.int .u64 fa, .int .u64 fb, .int .u64 fc, .int .u64 fd] rfl rfl HA4.out Try.sizeU rfl (one_u64 _ _ _ _) ?_)
  intro w5 hx5 k5 z5
  have O5 := Lib.hid (mone_keep O4.out HA4.out k5 HAW.out); have HB5 := Lib.hid (k5.at HB4.out (fun e => HBW.out.2 e.symm))
  clear hx5 k5 z5 O4 HA4 HB4
  go_wp2_with (refine wpList_store_row_g (t := 30) (old := u0) rfl 30 _ _ rfl B #[.int .u64 ta, .int .u64 tb, .int .u64 tc, .int .u64 td] rfl rfl HB5.out Try.sizeU rfl (one_u64 _ _ _ _) ?_)
  intro w6 hx6 k6 z6
  have O6 := Lib.hid (mone_keep O5.out HB5.out k6 HBW.out.1); have HB6 := Lib.hid hx6
  clear hx6 k6 z6 O5 HB5
  have q1 := Try.eqUn HU.out U75.out
  rw [decide_eq_true rfl] at q1
  have hS : w6.drew.heap[B]? = some (.cells #[.int .u64 ta, .int .u64 tb, .int .u64 tc, .int .u64 td] 30 (0, 0)) := HB6.out
  have OD := Lib.hid (O6.out.later (Below.drew (Below.refl w6.heap.size w6)))
  clear O6 HB6
  go_wp2_with fail
  refine wp_region_till (fun w' => w'.heap[B]? = some (.cells #[.int .u64 ta, .int .u64 tb, .int .u64 tc, .int .u64 td] 30 (0, 0))) 25 25 (by kernel_rfl) rfl ?_
  refine till_take 0 (some 13) rfl rfl (by kernel_rfl) (by kernel_rfl) (by kernel_rfl) (by kernel_rfl) (by kernel_rfl) (by kernel_rfl) (fun _ _ _ h => h) (.inl ⟨by rfl, fun w' _ => (by go_simp; rfl)⟩) hS ?_
  go_frame
  refine till_take 1 (some 14) rfl rfl (by kernel_rfl) (by kernel_rfl) (by kernel_rfl) (by kernel_rfl) (by kernel_rfl) (by kernel_rfl) (fun _ _ _ h => h) (.inl ⟨by rfl, fun w' _ => (by go_simp; rfl)⟩) hS ?_
  go_frame
  refine till_take 2 (some 15) rfl rfl (by kernel_rfl) (by kernel_rfl) (by kernel_rfl) (by kernel_rfl) (by kernel_rfl) (by kernel_rfl) (fun _ _ _ h => h) (.inl ⟨by rfl, fun w' _ => (by go_simp; rfl)⟩) hS ?_
  go_frame
  refine till_take 3 (some 16) rfl rfl (by kernel_rfl) (by kernel_rfl) (by kernel_rfl) (by kernel_rfl) (by kernel_rfl) (by kernel_rfl) (fun _ _ _ h => h) (yields_load (by rfl) 30 _ rfl (.pointer (some ⟨B, 0, none⟩)) rfl (.agg #[.int .u64 ta, .int .u64 tb, .int .u64 tc, .int .u64 td]) (fun w' hS' => load_heap hS' Try.underlying30 rfl Try.sizeU)) hS ?_
  go_frame
  refine till_take 4 (some 17) rfl rfl (by kernel_rfl) (by kernel_rfl) (by kernel_rfl) (by kernel_rfl) (by kernel_rfl) (by kernel_rfl) (fun _ _ _ h => h) (.inl ⟨by rfl, fun w' _ => (by go_simp; rfl)⟩) hS ?_
  go_frame
  refine till_take 5 (some 18) rfl rfl (by kernel_rfl) (by kernel_rfl) (by kernel_rfl) (by kernel_rfl) (by kernel_rfl) (by kernel_rfl) (fun _ _ _ h => h) (.inl ⟨by rfl, fun w' _ => (by go_simp; rfl)⟩) hS ?_
  go_frame
  refine till_take 6 (some 19) rfl rfl (by kernel_rfl) (by kernel_rfl) (by kernel_rfl) (by kernel_rfl) (by kernel_rfl) (by kernel_rfl) (fun _ _ _ h => h) (.inl ⟨by rfl, fun w' _ => (by go_simp; rfl)⟩) hS ?_
  go_frame
  refine till_take 7 (some 20) rfl rfl (by kernel_rfl) (by kernel_rfl) (by kernel_rfl) (by kernel_rfl) (by kernel_rfl) (by kernel_rfl) (fun _ _ _ h => h) (.inl ⟨by rfl, fun w' _ => (by go_simp; rfl)⟩) hS ?_
  go_frame
  refine till_take 8 (some 21) rfl rfl (by kernel_rfl) (by kernel_rfl) (by kernel_rfl) (by kernel_rfl) (by kernel_rfl) (by kernel_rfl) (fun _ _ _ h => h) (.inl ⟨by rfl, fun w' _ => (by go_simp; rfl)⟩) hS ?_
  go_frame
  refine till_one 9 rfl (by kernel_rfl) fun K hK => ?_
  simp only [List.getElem_toArray, List.getElem_cons_succ, List.getElem_cons_zero]
  rw [if_pos (by rfl)]
  go_simp
  refine (mAt_any OD.out.look OD.out.fit.f OD.out.his (by decide) (by decide) (by decide) 4).mono ?_
  rw [show atH 7 [(5, 750000000000000000)] 4 = uOne from by decide +kernel]
  rintro e wa ⟨xa, xb, xc, xd, hu1, rfl, hb⟩
  have HU1 := Lib.hid hu1
  clear hu1
  have hS2 := below_at' hb hS
  have ODn := Lib.hid (OD.out.later hb)
  refine hK _ _ (fun _ _ => hS2) ?_
  clear hK hS hb OD
  have hS := hS2
  have OD := ODn
  clear hS2 ODn
  refine till_one 10 rfl (by kernel_rfl) fun K hK => ?_
  simp only [List.getElem_toArray, List.getElem_cons_succ, List.getElem_cons_zero]
  rw [if_pos (by rfl)]
  go_simp
  refine (wone_any _).mono ?_
  rintro e wb ⟨ya, yb, yc, yd, hu1, rfl, hb⟩
  have q2 := Try.eqUn HU1.out hu1
  rw [decide_eq_true rfl] at q2
  clear hu1
  have hS2 := below_at' hb hS
  have ODn := Lib.hid (OD.out.later hb)
  refine hK _ _ (fun _ _ => hS2) ?_
  clear hK hS hb OD
  have hS := hS2
  have OD := ODn
  clear hS2 ODn
  refine till_take 11 (some 24) rfl rfl (by kernel_rfl) (by kernel_rfl) (by kernel_rfl) (by kernel_rfl) (by kernel_rfl) (by kernel_rfl) (fun _ _ _ h => h) (.inl ⟨by rfl, fun w' _ => (by go_simp; rfl)⟩) hS ?_
  go_frame
  refine till_take 12 (some 25) rfl rfl (by kernel_rfl) (by kernel_rfl) (by kernel_rfl) (by kernel_rfl) (by kernel_rfl) (by kernel_rfl) (fun _ _ _ h => h) (.inl ⟨by rfl, fun w' _ => (by go_simp; rfl)⟩) hS ?_
  go_frame
  refine till_take 13 (some 26) rfl rfl (by kernel_rfl) (by kernel_rfl) (by kernel_rfl) (by kernel_rfl) (by kernel_rfl) (by kernel_rfl) (fun _ _ _ h => h) (.inl ⟨by rfl, fun w' _ => (by go_simp; rfl)⟩) hS ?_
  go_frame
  refine till_take 14 (some 27) rfl rfl (by kernel_rfl) (by kernel_rfl) (by kernel_rfl) (by kernel_rfl) (by kernel_rfl) (by kernel_rfl) (fun _ _ _ h => h) (.inl ⟨by rfl, fun w' _ => (by go_simp; rfl)⟩) hS ?_
  go_frame
  refine till_take 16 (some 29) rfl rfl (by kernel_rfl) (by kernel_rfl) (by kernel_rfl) (by kernel_rfl) (by kernel_rfl) (by kernel_rfl) (fun _ _ _ h => h) (yields_load (by rfl) 30 _ rfl (.pointer (some ⟨B, 0, none⟩)) rfl (.agg #[.int .u64 ta, .int .u64 tb, .int .u64 tc, .int .u64 td]) (fun w' hS' => load_heap hS' Try.underlying30 rfl Try.sizeU)) hS ?_
  go_frame
  refine till_one 15 rfl (by kernel_rfl) fun K hK => ?_
  simp only [List.getElem_toArray, List.getElem_cons_succ, List.getElem_cons_zero]
  rw [if_pos (by rfl)]
  go_simp
  refine (mAt_any OD.out.look OD.out.fit.f OD.out.his (by decide) (by decide) (by decide) 5).mono ?_
  rw [show atH 7 [(5, 750000000000000000)] 5 = 750000000000000000 from by decide +kernel]
  rintro e wc ⟨za, zb, zc, zd, hu1, rfl, hb⟩
  have q3 := Try.eqUn hu1 HU.out
  rw [decide_eq_true rfl] at q3
  clear hu1
  have hS2 := below_at' hb hS
  have ODn := Lib.hid (OD.out.later hb)
  refine hK _ _ (fun _ _ => hS2) ?_
  clear hK hS hb OD
  have hS := hS2
  have OD := ODn
  clear hS2 ODn
  refine till_take 17 (some 30) rfl rfl (by kernel_rfl) (by kernel_rfl) (by kernel_rfl) (by kernel_rfl) (by kernel_rfl) (by kernel_rfl) (fun _ _ _ h => h) (.inl ⟨by rfl, fun w' _ => (by go_simp; rfl)⟩) hS ?_
  go_frame
  refine till_take 18 (some 31) rfl rfl (by kernel_rfl) (by kernel_rfl) (by kernel_rfl) (by kernel_rfl) (by kernel_rfl) (by kernel_rfl) (fun _ _ _ h => h) (.inl ⟨by rfl, fun w' _ => (by go_simp; rfl)⟩) hS ?_
  go_frame
  refine till_take 19 (some 32) rfl rfl (by kernel_rfl) (by kernel_rfl) (by kernel_rfl) (by kernel_rfl) (by kernel_rfl) (by kernel_rfl) (fun _ _ _ h => h) (.inl ⟨by rfl, fun w' _ => (by go_simp; rfl)⟩) hS ?_
  go_frame
  refine till_take 20 (some 33) rfl rfl (by kernel_rfl) (by kernel_rfl) (by kernel_rfl) (by kernel_rfl) (by kernel_rfl) (by kernel_rfl) (fun _ _ _ h => h) (.inl ⟨by rfl, fun w' _ => (by go_simp; rfl)⟩) hS ?_
  go_frame
  refine till_one 21 rfl (by kernel_rfl) fun K hK => ?_
  simp only [List.getElem_toArray, List.getElem_cons_succ, List.getElem_cons_zero]
  rw [if_pos (by rfl)]
  go_simp
  refine (mChg_any OD.out.look OD.out.fit.f OD.out.his (by decide) (by decide)).mono ?_
  rintro e we ⟨rfl, hb⟩
  have hS2 := below_at' hb hS
  have ODn := Lib.hid (OD.out.later hb)
  refine hK _ _ (fun _ _ => hS2) ?_
  clear hK hS hb OD
  have hS := hS2
  have OD := ODn
  clear hS2 ODn
  refine till_take 22 (some 35) rfl rfl (by kernel_rfl) (by kernel_rfl) (by kernel_rfl) (by kernel_rfl) (by kernel_rfl) (by kernel_rfl) (fun _ _ _ h => h) (.inl ⟨by rfl, fun w' _ => (by go_simp; rfl)⟩) hS ?_
  go_frame
  refine till_take 23 (some 36) rfl rfl (by kernel_rfl) (by kernel_rfl) (by kernel_rfl) (by kernel_rfl) (by kernel_rfl) (by kernel_rfl) (fun _ _ _ h => h) (.inl ⟨by rfl, fun w' _ => (by go_simp; rfl)⟩) hS ?_
  go_frame
  refine till_take 24 (some 0) rfl rfl (by kernel_rfl) (by kernel_rfl) (by kernel_rfl) (by kernel_rfl) (by kernel_rfl) (by kernel_rfl) (fun _ _ _ h => h) (.inl ⟨by rfl, fun w' _ => (by go_simp; rfl)⟩) hS ?_
  go_frame
  refine till_done (by kernel_rfl) ?_ _
  clear hS
  go_wp2_with fail
  go_ret
  exact ⟨rfl, OD.out.one.below⟩
end
section
open Go.RowKit

theorem hisE_iff {H : List (Int × Nat)} {bk : Int} (hok : ∀ p ∈ H, 0 ≤ p.1) : hisE H bk = 0 ↔ lastB H ≤ bk ∧ bk ≤ 1099511627776 := by
  unfold hisE lastB
  cases hl : H.getLast? with
  | none =>
    simp only [Option.map_none, Option.getD_none]
    by_cases h : bk < 0 ∨ 1099511627776 < bk
    · rw [if_pos h]; constructor
      · intro e; cases e
      · intro e; omega
    · rw [if_neg h]; exact ⟨fun _ => by omega, fun _ => rfl⟩
  | some p =>
    have hp := hok p (last_mem hl)
    simp only [Option.map_some, Option.getD_some]
    by_cases h : bk < 0 ∨ 1099511627776 < bk
    · rw [if_pos h]; constructor
      · intro e; cases e
      · intro e; omega
    · rw [if_neg h]
      by_cases h2 : bk < p.1
      · rw [if_pos h2]; constructor
        · intro e; cases e
        · intro e; omega
      · rw [if_neg h2]; exact ⟨fun _ => by omega, fun _ => rfl⟩
theorem his_last {H : List (Int × Nat)} {bk : Int} {m : Nat} (h : hisE H bk = 0) : (hisS H bk m).getLast? = some (if H.getLast?.isSome = true ∧ m = lastN H ∧ bk ≠ lastB H then lastB H else bk, m) := by
  unfold hisS lastN lastB
  rw [if_pos h]
  cases hl : H.getLast? with
  | none => simp
  | some p =>
    simp only [Option.map_some, Option.getD_some, Option.isSome_some, true_and]
    by_cases h1 : bk = p.1
    · rw [if_pos h1, if_neg (fun e => e.2 h1)]; simp
    · rw [if_neg h1]
      by_cases h2 : m = p.2
      · rw [if_pos h2, if_pos ⟨h2, h1⟩, hl, h2]
      · rw [if_neg h2, if_neg fun e => h2 e.1]; simp
/-- A row in the middle of a block is read, behind a guard that lets it by. -/
theorem wpList_load_mid_y {P : Program} {ops : Array Oper} {rest : List Oper} {op : Oper} {a : Act} {w : World} {Q : Exit → Act → World → Prop} (hw : Region.wanted op (yielded ops a.tmps) = true) (ty : TypeId) (x : Operand) (ho : op.op = .load ty x)
    (b o : Nat) (hx : a.eval x = .pointer (some ⟨b, o, none⟩)) (cs : List Value) (d : TypeDesc) (hc : w.rangeAt b o cs)
    (hu : P.underlying ty = some d) (hd : d.isRow = true) (hi : (P.info? ty).map (·.size) = some cs.length)
    (h : wpList P ops Q rest (a.put op.dst (.agg cs.toArray)) w) : wpList P ops Q (op :: rest) a w :=
  wpList_wanted hw fun _ hK => wp_load_mid ty x ho b o hx cs d hc hu hd hi (hK _ _ h)


theorem Desc.at_one {H : List (Int × Nat)} (h : Desc H) (c : Int) : atH 7 H c ≤ uOne := by
  unfold atH
  split
  · exact Nat.le_refl _
  · cases hl : lookH H c with
    | none => simp
    | some p => exact h.le p (List.mem_filter.1 (List.mem_of_getLast? hl)).1
theorem cut_ok {f : Txt → Option Txt} {H : List (Int × Nat)} {bk : Int} {m : Nat} (hH : HisI f 13 [7, 1] H) (hd : Desc H) (hb : lastB H ≤ bk) (h1 : bk ≤ 1099511627776) (hm : m ≤ maxH 7 H) :
    cutE 7 1 H bk m = 0 ∧ maxH 7 (cutH H bk m) = maxH 7 H - m ∧ lastB (cutH H bk m) ≤ bk ∧ Desc (cutH H bk m) := by
  have hE : hisE H bk = 0 := (hisE_iff fun p hp => (hH.ok p hp).1).2 ⟨hb, h1⟩
  have hC : cutH H bk m = hisS H bk (maxH 7 H - m) := by unfold cutH; rw [if_neg (fun e => e hm)]
  have hL := his_last (m := maxH 7 H - m) hE
  refine ⟨?_, ?_, ?_, ?_⟩
  · unfold cutE; rw [if_neg (by decide), if_neg (fun e => e hm)]; exact hE
  · rw [hC]
    unfold maxH lastN at hL ⊢
    rw [hL]
    rw [if_neg (by simp)]; simp
  · rw [hC]
    unfold lastB at hL hb ⊢
    rw [hL]
    simp only [Option.map_some, Option.getD_some]
    split <;> omega
  · rw [hC]; exact hd.push (Nat.sub_le _ _)
theorem cut_no {H : List (Int × Nat)} {bk : Int} {m : Nat} (hm : ¬ m ≤ maxH 7 H) : cutE 7 1 H bk m = 13 ∧ cutH H bk m = H := by
  refine ⟨?_, ?_⟩
  · unfold cutE; rw [if_neg (by decide), if_pos hm]
  · unfold cutH; rw [if_pos hm]
theorem cut_all {f : Txt → Option Txt} {H : List (Int × Nat)} {bk : Int} (m : Nat) (hH : HisI f 13 [7, 1] H) (hd : Desc H) (hb : lastB H ≤ bk) (h1 : bk ≤ 1099511627776) :
    maxH 7 (cutH H bk m) ≤ maxH 7 H ∧ lastB (cutH H bk m) ≤ bk ∧ Desc (cutH H bk m) ∧
    ((cutE 7 1 H bk m = 0 ∧ maxH 7 (cutH H bk m) = maxH 7 H - m) ∨ (cutE 7 1 H bk m ≠ 0 ∧ maxH 7 (cutH H bk m) = maxH 7 H)) := by
  by_cases hm : m ≤ maxH 7 H
  · obtain ⟨q1, q2, q3, q4⟩ := cut_ok hH hd hb h1 hm
    exact ⟨by omega, q3, q4, .inl ⟨q1, q2⟩⟩
  · obtain ⟨q1, q2⟩ := cut_no (bk := bk) hm
    rw [q2]
    exact ⟨Nat.le_refl _, hb, hd, .inr ⟨by rw [q1]; decide, rfl⟩⟩
theorem cmpV_le {n m : Nat} (h : n ≤ m) : cmpV n m ≤ 0 := by
  unfold cmpV
  split
  · decide
  · rw [if_pos (by omega)]; decide


set_option maxHeartbeats 32000000 in
set_option maxRecDepth 100000 in
theorem falls_any {w : World} {v1 v2 : Value} {l : List Act22} {st : List UInt8} (h1 : Rd w act22E 7 v1 l) (hgd : ∀ a ∈ l, Good22 w a) (h2 : Rd w u8E 1 v2 st) :
    Calls Try.prog 8 #[v1, v2] w (Ret w (.bool true)) := by
  obtain ⟨ad, cap, e1, c1, c1'⟩ := h1.shape
  obtain ⟨n, hn⟩ : ∃ n, n = l.length := ⟨_, rfl⟩
  rw [← hn] at e1 c1
  subst e1
  obtain ⟨ad2, cap2, e2, c2, c2'⟩ := h2.shape
  obtain ⟨m2, hm2⟩ : ∃ m2, m2 = st.length := ⟨_, rfl⟩
  rw [← hm2] at e2 c2
  subst e2
  have H1 := Lib.hid h1; have HN := Lib.hid hn; have HGD := Lib.hid hgd; have H2 := Lib.hid h2; have HM := Lib.hid hm2
  clear h1 hn hgd h2 hm2
  by_cases hbig : 60 < n ∨ 60 < m2
  · go_enter Try.func8, Try.ntmps8
    by_cases hb1 : 60 < n
    · clear hbig
      go_wp2_with fail
      refine (lives22_any _).mono ?_
      rintro e w2 ⟨rfl, hb⟩
      have HB := Lib.hid hb
      clear hb
      go_wp2_with fail
      go_ret
      exact ⟨rfl, HB.out⟩
    · have hb2 : 60 < m2 := by omega
      clear hbig
      go_wp2_with fail
      refine (lives22_any _).mono ?_
      rintro e w2 ⟨rfl, hb⟩
      have HB := Lib.hid hb
      clear hb
      go_wp2_with fail
      go_ret
      exact ⟨rfl, HB.out⟩
  have hb1 : ¬ 60 < n := fun e => hbig (.inl e)
  have hb2 : ¬ 60 < m2 := fun e => hbig (.inr e)
  clear hbig
  go_enter Try.func8, Try.ntmps8
  go_wp2_with fail
  refine (snew_any _).mono ?_
  rintro e w1 ⟨g, F, rfl, q1, hb, q3⟩
  have O1 := Lib.hid (MOne.new q1 q3 hb (Below.refl _ _))
  have N60 : Hid (n ≤ 60) := Lib.hid (by omega)
  clear q1 hb q3 hb1 hb2
  go_wp2_with fail
  go_loopw [6, 29] (fun vb vi wr => ∃ (i : Nat) (bk : Int) (H : List (Int × Nat)) (s : PS), vi = .int .i64 i ∧ vb = .int .i64 bk ∧ i ≤ n ∧ Hid (0 ≤ bk ∧ bk ≤ 255 * i) ∧ Hid (lastB H ≤ bk ∧ Desc H) ∧ Hid (MOne w wr g s H i)) (fun _ vi _ => n - (intOf vi).toNat)
  case atStart => exact ⟨0, 0, [], _, rfl, rfl, Nat.zero_le _, Lib.hid (by decide), Lib.hid ⟨by decide, Desc.nil⟩, O1⟩
  case round =>
    clear O1
    obtain ⟨i, bk, H, s, rfl, rfl, hin, HBK, HLD, OI⟩ := hrel
    have HIN : Hid (i ≤ 60) := Lib.hid (by have := N60.out; omega)
    by_cases hlt : i < n
    · have hi : i < l.length := by rw [← HN.out]; exact hlt
      obtain ⟨gL, off, rfl, hgL, q0, q1, q2, q3, q4, q5, q6⟩ := Rd.act22 H1.out i hi
      have hbw := OI.out.one.below
      have q0' := (hbw.cell (p := ⟨gL, off + i * 7, none⟩) hgL).trans q0
      have q1' := (hbw.cell (p := ⟨gL, off + i * 7 + 1, none⟩) hgL).trans q1
      have q2' := (hbw.cell (p := ⟨gL, off + i * 7 + 2, none⟩) hgL).trans q2
      have q3' := (hbw.cell (p := ⟨gL, off + i * 7 + 3, none⟩) hgL).trans q3
      have q4' := (hbw.cell (p := ⟨gL, off + i * 7 + 4, none⟩) hgL).trans q4
      have q5' := (hbw.cell (p := ⟨gL, off + i * 7 + 5, none⟩) hgL).trans q5
      have q6' := (hbw.cell (p := ⟨gL, off + i * 7 + 6, none⟩) hgL).trans q6
      have hmem : l[i] ∈ l := List.getElem_mem hi
      obtain ⟨a, ha⟩ : ∃ a, a = l[i] := ⟨_, rfl⟩
      rw [← ha] at q0' q1' q2' q3' q4' q5' q6' hmem
      have HLT := Lib.hid hlt; have HGX := Lib.hid (HGD.out a hmem)
      clear ha q0 q1 q2 q3 q4 q5 q6 hgL hi hmem hbw
      go_wp2_with (refine wpList_alloc_g rfl _ rfl _ _ Try.zeroAct22 rfl ?_)
      intro R w5 h5
      go_wp2_with (refine wpList_store_row_g (t := 83) (old := #[.int .i64 0, .int .i64 0, .int .i64 0, .int .u64 0, .int .u64 0, .int .u64 0, .int .u64 0]) rfl 83 _ _ rfl R #[.int .i64 a.o, .int .i64 a.st, .int .i64 a.b, .int .u64 (uw0 a.m), .int .u64 (uw1 a.m), .int .u64 (uw2 a.m), .int .u64 (uw3 a.m)] rfl rfl h5.out.cells Try.sizeAct22 rfl (by simp [Value.oneCell']) ?_)
      intro w6 hx6 k56 z56
      have hb56 : Below wr.heap.size wr w6 := h5.out.below.trans (k56.below (B := wr.heap.size) (fun x hx e => by have := h5.out.eq; omega) h5.out.below.size)
      have O6 := Lib.hid (OI.out.later hb56); have HR := Lib.hid hx6
      clear h5 hx6 k56 z56 hb56 q0' q1' q2' q3' q4' q5' q6' OI
      have OI := O6
      clear O6
      by_cases hs : i < m2
      · have hj : i < st.length := by rw [← HM.out]; exact hs
        obtain ⟨gS, of2, rfl, hgS, q⟩ := H2.out.at i hj
        have q' := (OI.out.one.below.cell (p := ⟨gS, of2 + i, none⟩) hgS).trans q
        obtain ⟨y, hy⟩ : ∃ y : Int, y = (st[i].toNat : Int) := ⟨_, rfl⟩
        have hy1 : w6.cell? ⟨gS, of2 + i, none⟩ = some (.int .u8 y) := by rw [hy]; exact q'
        have hy2 : 0 ≤ y := by omega
        have hy3 : y < 256 := by rw [hy]; have := st[i].toNat_lt; omega
        have hbk9 := HBK.out
        have hin9 := HIN.out
        have hlt9 := HLT.out
        clear q q' hy hgS hj
        go_wp2_with fail
        have HYY := Lib.hid (And.intro hy2 hy3)
        obtain ⟨bk2, hbk2⟩ : ∃ bk2, bk2 = bk + y := ⟨_, rfl⟩
        rw [← hbk2]
        have HB2 : Hid (0 ≤ bk2 ∧ bk2 ≤ 255 * i + 255 ∧ bk2 ≤ 20000) := Lib.hid (by omega)
        have HLB : Hid (lastB H ≤ bk2) := Lib.hid (by have := HLD.out.1; omega)
        have DS := Lib.hid HLD.out.2
        clear hbk2 hy1 hy2 hy3 hbk9 hin9 HLD HYY HBK hlt9
        refine (mMax_any OI.out.look OI.out.fit.f OI.out.his (by have := OI.out.len; have := HIN.out; omega) (by decide) (by decide)).mono ?_
        rintro e w7 ⟨xa, xb, xc, xd, hu, rfl, hb⟩
        have HU := Lib.hid hu
        clear hu
        have OIm := Lib.hid (OI.out.later hb)
        have HRm := Lib.hid (below_at' hb HR.out)
        clear hb OI HR
        have OI := OIm
        have HR := HRm
        clear OIm HRm
        go_wp2_with (refine wpList_alloc_g rfl _ rfl _ _ Try.zeroUz rfl ?_)
        intro P w8m hP
        have OIm := Lib.hid (OI.out.later hP.out.below)
        have HRm := Lib.hid (below_at' hP.out.below HR.out)
        have HPm := Lib.hid hP.out.cells; have HPW : Hid (w.heap.size ≤ P) := Lib.hid (by rw [hP.out.eq]; exact OI.out.one.below.size)
        have NRP : Hid (R ≠ P) := Lib.hid (by have := hP.out.eq; have := heap_lt HR.out; omega)
        clear hP OI HR
        go_wp2_with (refine wpList_store_row_g (t := 30) (old := u0) rfl 30 _ _ rfl P #[.int .u64 xa, .int .u64 xb, .int .u64 xc, .int .u64 xd] rfl rfl HPm.out Try.sizeU rfl (one_u64 _ _ _ _) ?_)
        intro w8 hxP kP zP
        have OI := Lib.hid (mone_keep OIm.out HPm.out kP HPW.out)
        have HR := Lib.hid (kP.at HRm.out NRP.out)
        have HP := Lib.hid hxP
        clear hxP kP zP OIm HPm HRm
        go_wp2_with (refine wpList_load_mid rfl 30 _ rfl R 3 rfl [.int .u64 (uw0 a.m), .int .u64 (uw1 a.m), .int .u64 (uw2 a.m), .int .u64 (uw3 a.m)] _ (range_of_heap HR.out 3 _ rfl) Try.underlying30 rfl Try.sizeU ?_)
        have hall := cut_all (bk := bk2) a.m OI.out.his DS.out HLB.out (by have := HB2.out; omega)
        have HALL := Lib.hid hall
        clear hall
        refine (OI.out.cut (by have := HIN.out; omega) (bk := bk2) (by have := HB2.out; omega) (uw_is HGX.out.lt_m)).mono ?_
        obtain ⟨H', hH'⟩ : ∃ H', H' = cutH H bk2 a.m := ⟨_, rfl⟩
        obtain ⟨s', hs'⟩ : ∃ s', s' = cutS s 7 1 H bk2 a.m := ⟨_, rfl⟩
        obtain ⟨er, her⟩ : ∃ er, er = cutE 7 1 H bk2 a.m := ⟨_, rfl⟩
        rw [← hH', ← her] at HALL
        rw [← hH', ← hs', ← her]
        have HER : Hid (er = 0 → ∀ n, n = (if er = 0 then maxH 7 H - a.m else 0) → n = maxH 7 H') := Lib.hid (by
          intro h n hn
          rcases HALL.out.2.2.2 with h2 | h2
          · rw [hn, if_pos h, h2.2]
          · exact absurd h h2.1)
        obtain ⟨n2, hn2⟩ : ∃ n2, n2 = (if er = 0 then maxH 7 H - a.m else 0) := ⟨_, rfl⟩
        rw [← hn2]
        have HN2 : Hid (er = 0 → n2 = maxH 7 H') := Lib.hid fun h => HER.out h n2 hn2
        obtain ⟨n1, hn1⟩ : ∃ n1, n1 = (if er = 0 then maxH 7 H else 0) := ⟨_, rfl⟩
        rw [← hn1]
        have HN1 : Hid (er = 0 → n1 = maxH 7 H) := Lib.hid fun h => by rw [hn1, if_pos h]
        clear hn1 hn2 her hs' hH' HER
        rintro e w9 ⟨fa, fb, fc, fd, ta, tb, tc, td, hu1, hu2, rfl, oc, hoth⟩
        have HPm := Lib.hid (hoth.2 P _ HP.out rfl rfl)
        have HU1 := Lib.hid hu1; have HU2 := Lib.hid hu2; have OC := Lib.hid oc
        clear hu1 hu2 oc hoth OI HP HR
        have OI := OC; have HP := HPm
        clear OC HPm
        go_wp2_with (refine wpList_alloc_g rfl _ rfl _ _ Try.zeroUz rfl ?_)
        intro A wa hA
        have OJ := Lib.hid (OI.out.later hA.out.below); have HPj := Lib.hid (below_at' hA.out.below HP.out); have HAj := Lib.hid hA.out.cells; have HAW : Hid (w.heap.size ≤ A) := Lib.hid (by rw [hA.out.eq]; exact OI.out.one.below.size); have NPA : Hid (P ≠ A) := Lib.hid (by have := hA.out.eq; have := heap_lt HP.out; omega)
        clear hA OI HP
        go_wp2_with (refine wpList_alloc_g rfl _ rfl _ _ Try.zeroUz rfl ?_)
        intro B wb hB
        have OK := Lib.hid (OJ.out.later hB.out.below); have HPk := Lib.hid (below_at' hB.out.below HPj.out); have HAk := Lib.hid (below_at' hB.out.below HAj.out); have HBk := Lib.hid hB.out.cells; have HBW : Hid (w.heap.size ≤ B) := Lib.hid (by rw [hB.out.eq]; exact OJ.out.one.below.size); have NPB : Hid (P ≠ B) := Lib.hid (by have := hB.out.eq; have := heap_lt HPj.out; omega); have NAB : Hid (A ≠ B) := Lib.hid (by have := hB.out.eq; have := heap_lt HAj.out; omega)
        clear hB OJ HPj HAj
        go_wp2_with (refine wpList_store_row_g (t := 30) (old := u0) rfl 30 _ _ rfl A #[.int .u64 fa, .int .u64 fb, .int .u64 fc, .int .u64 fd] rfl rfl HAk.out Try.sizeU rfl (one_u64 _ _ _ _) ?_)
        intro wc hxA kA zA
        have OL := Lib.hid (mone_keep OK.out HAk.out kA HAW.out); have HPl := Lib.hid (kA.at HPk.out NPA.out); have HBl := Lib.hid (kA.at HBk.out (fun e => NAB.out e.symm)); have HAl := Lib.hid hxA
        clear hxA kA zA OK HPk HBk HAk
        go_wp2_with (refine wpList_store_row_g (t := 30) (old := u0) rfl 30 _ _ rfl B #[.int .u64 ta, .int .u64 tb, .int .u64 tc, .int .u64 td] rfl rfl HBl.out Try.sizeU rfl (one_u64 _ _ _ _) ?_)
        intro wd hxB kB zB
        have OI := Lib.hid (mone_keep OL.out HBl.out kB HBW.out); have HP := Lib.hid (kB.at HPl.out NPB.out); have HA := Lib.hid (kB.at HAl.out NAB.out); have HB := Lib.hid hxB
        clear hxB kB zB OL HPl HAl HBl
        go_wp2_with fail
        refine (mMax_any OI.out.look OI.out.fit.f OI.out.his (by have := OI.out.len; have := HIN.out; omega) (by decide) (by decide)).mono ?_
        rintro e we ⟨ya, yb, yc, yd, hu, rfl, hb⟩
        have HY := Lib.hid hu
        clear hu
        have OIm := Lib.hid (OI.out.later hb)
        have HPm := Lib.hid (below_at' hb HP.out)
        have HAm := Lib.hid (below_at' hb HA.out)
        have HBm := Lib.hid (below_at' hb HB.out)
        clear hb OI HP HA HB
        have OI := OIm
        have HP := HPm
        have HA := HAm
        have HB := HBm
        clear OIm HPm HAm HBm
        go_wp2_with (refine wpList_alloc_g rfl _ rfl _ _ Try.zeroUz rfl ?_)
        intro Q wfm hQ
        have OIm := Lib.hid (OI.out.later hQ.out.below)
        have HPm := Lib.hid (below_at' hQ.out.below HP.out)
        have HAm := Lib.hid (below_at' hQ.out.below HA.out)
        have HBm := Lib.hid (below_at' hQ.out.below HB.out)
        have HQm := Lib.hid hQ.out.cells; have HQW : Hid (w.heap.size ≤ Q) := Lib.hid (by rw [hQ.out.eq]; exact OI.out.one.below.size)
        have NPQ : Hid (P ≠ Q) := Lib.hid (by have := hQ.out.eq; have := heap_lt HP.out; omega)
        have NAQ : Hid (A ≠ Q) := Lib.hid (by have := hQ.out.eq; have := heap_lt HA.out; omega)
        have NBQ : Hid (B ≠ Q) := Lib.hid (by have := hQ.out.eq; have := heap_lt HB.out; omega)
        clear hQ OI HP HA HB
        go_wp2_with (refine wpList_store_row_g (t := 30) (old := u0) rfl 30 _ _ rfl Q #[.int .u64 ya, .int .u64 yb, .int .u64 yc, .int .u64 yd] rfl rfl HQm.out Try.sizeU rfl (one_u64 _ _ _ _) ?_)
        intro wf hxQ kQ zQ
        have OI := Lib.hid (mone_keep OIm.out HQm.out kQ HQW.out)
        have HP := Lib.hid (kQ.at HPm.out NPQ.out)
        have HA := Lib.hid (kQ.at HAm.out NAQ.out)
        have HB := Lib.hid (kQ.at HBm.out NBQ.out)
        have HQ := Lib.hid hxQ
        clear hxQ kQ zQ OIm HQm HPm HAm HBm
        go_wp2_with (first
          | (refine wpList_load_row rfl 30 _ rfl Q rfl 30 _ _ _ HQ.out Try.underlying30 rfl Try.sizeU ?_)
          | (refine wpList_load_row rfl 30 _ rfl P rfl 30 _ _ _ HP.out Try.underlying30 rfl Try.sizeU ?_))
        refine (ucmp_any HY.out HU.out _).mono ?_
        rintro e wg ⟨rfl, hb⟩
        have OIm := Lib.hid (OI.out.later hb)
        have HPm := Lib.hid (below_at' hb HP.out)
        have HAm := Lib.hid (below_at' hb HA.out)
        have HBm := Lib.hid (below_at' hb HB.out)
        have HQm := Lib.hid (below_at' hb HQ.out)
        clear hb OI HP HA HB HQ
        have OI := OIm
        have HP := HPm
        have HA := HAm
        have HB := HBm
        have HQ := HQm
        clear OIm HPm HAm HBm HQm
        obtain ⟨cv, hcv⟩ : ∃ cv, cv = cmpV (maxH 7 H') (maxH 7 H) := ⟨_, rfl⟩
        rw [← hcv]
        have hc0 : cv ≤ 0 := by rw [hcv]; exact cmpV_le HALL.out.1
        have hc1 : ¬ 0 < cv := by omega
        have hc2 : decide (0 < cv) = false := decide_eq_false hc1
        clear hcv hc0
        have hlt9 := HLT.out
        have hbk9 := HB2.out
        by_cases her : er = 0
        · subst her
          have qa := Try.eqUn HU1.out HU.out
          have qb := Try.eqUn HU2.out HY.out
          rw [decide_eq_true (HN1.out rfl)] at qa
          rw [decide_eq_true (HN2.out rfl)] at qb
          clear HU1 HU2 HU HY
          have cQ0 : wg.cell? ⟨Q, 0, none⟩ = some (.int .u64 ya) := Lib.cell_of_heap HQ.out 0; have cQ1 : wg.cell? ⟨Q, 1, none⟩ = some (.int .u64 yb) := Lib.cell_of_heap HQ.out 1; have cQ2 : wg.cell? ⟨Q, 2, none⟩ = some (.int .u64 yc) := Lib.cell_of_heap HQ.out 2; have cQ3 : wg.cell? ⟨Q, 3, none⟩ = some (.int .u64 yd) := Lib.cell_of_heap HQ.out 3
          have cP0 : wg.cell? ⟨P, 0, none⟩ = some (.int .u64 xa) := Lib.cell_of_heap HP.out 0; have cP1 : wg.cell? ⟨P, 1, none⟩ = some (.int .u64 xb) := Lib.cell_of_heap HP.out 1; have cP2 : wg.cell? ⟨P, 2, none⟩ = some (.int .u64 xc) := Lib.cell_of_heap HP.out 2; have cP3 : wg.cell? ⟨P, 3, none⟩ = some (.int .u64 xd) := Lib.cell_of_heap HP.out 3
          have cA0 : wg.cell? ⟨A, 0, none⟩ = some (.int .u64 fa) := Lib.cell_of_heap HA.out 0; have cA1 : wg.cell? ⟨A, 1, none⟩ = some (.int .u64 fb) := Lib.cell_of_heap HA.out 1; have cA2 : wg.cell? ⟨A, 2, none⟩ = some (.int .u64 fc) := Lib.cell_of_heap HA.out 2; have cA3 : wg.cell? ⟨A, 3, none⟩ = some (.int .u64 fd) := Lib.cell_of_heap HA.out 3
          have cB0 : wg.cell? ⟨B, 0, none⟩ = some (.int .u64 ta) := Lib.cell_of_heap HB.out 0; have cB1 : wg.cell? ⟨B, 1, none⟩ = some (.int .u64 tb) := Lib.cell_of_heap HB.out 1; have cB2 : wg.cell? ⟨B, 2, none⟩ = some (.int .u64 tc) := Lib.cell_of_heap HB.out 2; have cB3 : wg.cell? ⟨B, 3, none⟩ = some (.int .u64 td) := Lib.cell_of_heap HB.out 3
          go_wp2_with fail
          go_roundw
          case rel => exact ⟨i + 1, bk2, H', s', by go_num, rfl, HLT.out, Lib.hid (by have := HB2.out; omega), Lib.hid ⟨HALL.out.2.1, HALL.out.2.2.1⟩, OI⟩
          case measure => have := HLT.out; simp [intOf]; omega
        · have hne : (er == 0) = false := by simpa using her
          have hne2 : (er != 0) = true := by simpa using her
          have hmx : maxH 7 H' = maxH 7 H := by rcases HALL.out.2.2.2 with h2 | h2 <;> first | exact absurd h2.1 her | exact h2.2
          have qc := Try.eqUn HY.out HU.out
          rw [decide_eq_true hmx] at qc
          clear HU1 HU2 HU HY hmx
          have cQ0 : wg.cell? ⟨Q, 0, none⟩ = some (.int .u64 ya) := Lib.cell_of_heap HQ.out 0; have cQ1 : wg.cell? ⟨Q, 1, none⟩ = some (.int .u64 yb) := Lib.cell_of_heap HQ.out 1; have cQ2 : wg.cell? ⟨Q, 2, none⟩ = some (.int .u64 yc) := Lib.cell_of_heap HQ.out 2; have cQ3 : wg.cell? ⟨Q, 3, none⟩ = some (.int .u64 yd) := Lib.cell_of_heap HQ.out 3
          have cP0 : wg.cell? ⟨P, 0, none⟩ = some (.int .u64 xa) := Lib.cell_of_heap HP.out 0; have cP1 : wg.cell? ⟨P, 1, none⟩ = some (.int .u64 xb) := Lib.cell_of_heap HP.out 1; have cP2 : wg.cell? ⟨P, 2, none⟩ = some (.int .u64 xc) := Lib.cell_of_heap HP.out 2; have cP3 : wg.cell? ⟨P, 3, none⟩ = some (.int .u64 xd) := Lib.cell_of_heap HP.out 3
          go_wp2_with fail
          go_roundw
          case rel => exact ⟨i + 1, bk2, H', s', by go_num, rfl, HLT.out, Lib.hid (by have := HB2.out; omega), Lib.hid ⟨HALL.out.2.1, HALL.out.2.2.1⟩, OI⟩
          case measure => have := HLT.out; simp [intOf]; omega
      · clear hin
        have hs9 : ¬ i < m2 := hs
        go_wp2_with fail
        obtain ⟨bk2, hbk2⟩ : ∃ bk2, bk2 = bk := ⟨_, rfl⟩
        rw [← hbk2]
        have HB2 : Hid (0 ≤ bk2 ∧ bk2 ≤ 255 * i + 255 ∧ bk2 ≤ 20000) := Lib.hid (by have := HBK.out; have := HIN.out; omega)
        have HLB : Hid (lastB H ≤ bk2) := Lib.hid (by have := HLD.out.1; omega)
        have DS := Lib.hid HLD.out.2
        clear hbk2 hs9 HLD HBK
        refine (mMax_any OI.out.look OI.out.fit.f OI.out.his (by have := OI.out.len; have := HIN.out; omega) (by decide) (by decide)).mono ?_
        rintro e w7 ⟨xa, xb, xc, xd, hu, rfl, hb⟩
        have HU := Lib.hid hu
        clear hu
        have OIm := Lib.hid (OI.out.later hb)
        have HRm := Lib.hid (below_at' hb HR.out)
        clear hb OI HR
        have OI := OIm
        have HR := HRm
        clear OIm HRm
        go_wp2_with (refine wpList_alloc_g rfl _ rfl _ _ Try.zeroUz rfl ?_)
        intro P w8m hP
        have OIm := Lib.hid (OI.out.later hP.out.below)
        have HRm := Lib.hid (below_at' hP.out.below HR.out)
        have HPm := Lib.hid hP.out.cells; have HPW : Hid (w.heap.size ≤ P) := Lib.hid (by rw [hP.out.eq]; exact OI.out.one.below.size)
        have NRP : Hid (R ≠ P) := Lib.hid (by have := hP.out.eq; have := heap_lt HR.out; omega)
        clear hP OI HR
        go_wp2_with (refine wpList_store_row_g (t := 30) (old := u0) rfl 30 _ _ rfl P #[.int .u64 xa, .int .u64 xb, .int .u64 xc, .int .u64 xd] rfl rfl HPm.out Try.sizeU rfl (one_u64 _ _ _ _) ?_)
        intro w8 hxP kP zP
        have OI := Lib.hid (mone_keep OIm.out HPm.out kP HPW.out)
        have HR := Lib.hid (kP.at HRm.out NRP.out)
        have HP := Lib.hid hxP
        clear hxP kP zP OIm HPm HRm
        go_wp2_with (refine wpList_load_mid rfl 30 _ rfl R 3 rfl [.int .u64 (uw0 a.m), .int .u64 (uw1 a.m), .int .u64 (uw2 a.m), .int .u64 (uw3 a.m)] _ (range_of_heap HR.out 3 _ rfl) Try.underlying30 rfl Try.sizeU ?_)
        have hall := cut_all (bk := bk2) a.m OI.out.his DS.out HLB.out (by have := HB2.out; omega)
        have HALL := Lib.hid hall
        clear hall
        refine (OI.out.cut (by have := HIN.out; omega) (bk := bk2) (by have := HB2.out; omega) (uw_is HGX.out.lt_m)).mono ?_
        obtain ⟨H', hH'⟩ : ∃ H', H' = cutH H bk2 a.m := ⟨_, rfl⟩
        obtain ⟨s', hs'⟩ : ∃ s', s' = cutS s 7 1 H bk2 a.m := ⟨_, rfl⟩
        obtain ⟨er, her⟩ : ∃ er, er = cutE 7 1 H bk2 a.m := ⟨_, rfl⟩
        rw [← hH', ← her] at HALL
        rw [← hH', ← hs', ← her]
        have HER : Hid (er = 0 → ∀ n, n = (if er = 0 then maxH 7 H - a.m else 0) → n = maxH 7 H') := Lib.hid (by
          intro h n hn
          rcases HALL.out.2.2.2 with h2 | h2
          · rw [hn, if_pos h, h2.2]
          · exact absurd h h2.1)
        obtain ⟨n2, hn2⟩ : ∃ n2, n2 = (if er = 0 then maxH 7 H - a.m else 0) := ⟨_, rfl⟩
        rw [← hn2]
        have HN2 : Hid (er = 0 → n2 = maxH 7 H') := Lib.hid fun h => HER.out h n2 hn2
        obtain ⟨n1, hn1⟩ : ∃ n1, n1 = (if er = 0 then maxH 7 H else 0) := ⟨_, rfl⟩
        rw [← hn1]
        have HN1 : Hid (er = 0 → n1 = maxH 7 H) := Lib.hid fun h => by rw [hn1, if_pos h]
        clear hn1 hn2 her hs' hH' HER
        rintro e w9 ⟨fa, fb, fc, fd, ta, tb, tc, td, hu1, hu2, rfl, oc, hoth⟩
        have HPm := Lib.hid (hoth.2 P _ HP.out rfl rfl)
        have HU1 := Lib.hid hu1; have HU2 := Lib.hid hu2; have OC := Lib.hid oc
        clear hu1 hu2 oc hoth OI HP HR
        have OI := OC; have HP := HPm
        clear OC HPm
        go_wp2_with (refine wpList_alloc_g rfl _ rfl _ _ Try.zeroUz rfl ?_)
        intro A wa hA
        have OJ := Lib.hid (OI.out.later hA.out.below); have HPj := Lib.hid (below_at' hA.out.below HP.out); have HAj := Lib.hid hA.out.cells; have HAW : Hid (w.heap.size ≤ A) := Lib.hid (by rw [hA.out.eq]; exact OI.out.one.below.size); have NPA : Hid (P ≠ A) := Lib.hid (by have := hA.out.eq; have := heap_lt HP.out; omega)
        clear hA OI HP
        go_wp2_with (refine wpList_alloc_g rfl _ rfl _ _ Try.zeroUz rfl ?_)
        intro B wb hB
        have OK := Lib.hid (OJ.out.later hB.out.below); have HPk := Lib.hid (below_at' hB.out.below HPj.out); have HAk := Lib.hid (below_at' hB.out.below HAj.out); have HBk := Lib.hid hB.out.cells; have HBW : Hid (w.heap.size ≤ B) := Lib.hid (by rw [hB.out.eq]; exact OJ.out.one.below.size); have NPB : Hid (P ≠ B) := Lib.hid (by have := hB.out.eq; have := heap_lt HPj.out; omega); have NAB : Hid (A ≠ B) := Lib.hid (by have := hB.out.eq; have := heap_lt HAj.out; omega)
        clear hB OJ HPj HAj
        go_wp2_with (refine wpList_store_row_g (t := 30) (old := u0) rfl 30 _ _ rfl A #[.int .u64 fa, .int .u64 fb, .int .u64 fc, .int .u64 fd] rfl rfl HAk.out Try.sizeU rfl (one_u64 _ _ _ _) ?_)
        intro wc hxA kA zA
        have OL := Lib.hid (mone_keep OK.out HAk.out kA HAW.out); have HPl := Lib.hid (kA.at HPk.out NPA.out); have HBl := Lib.hid (kA.at HBk.out (fun e => NAB.out e.symm)); have HAl := Lib.hid hxA
        clear hxA kA zA OK HPk HBk HAk
        go_wp2_with (refine wpList_store_row_g (t := 30) (old := u0) rfl 30 _ _ rfl B #[.int .u64 ta, .int .u64 tb, .int .u64 tc, .int .u64 td] rfl rfl HBl.out Try.sizeU rfl (one_u64 _ _ _ _) ?_)
        intro wd hxB kB zB
        have OI := Lib.hid (mone_keep OL.out HBl.out kB HBW.out); have HP := Lib.hid (kB.at HPl.out NPB.out); have HA := Lib.hid (kB.at HAl.out NAB.out); have HB := Lib.hid hxB
        clear hxB kB zB OL HPl HAl HBl
        go_wp2_with fail
        refine (mMax_any OI.out.look OI.out.fit.f OI.out.his (by have := OI.out.len; have := HIN.out; omega) (by decide) (by decide)).mono ?_
        rintro e we ⟨ya, yb, yc, yd, hu, rfl, hb⟩
        have HY := Lib.hid hu
        clear hu
        have OIm := Lib.hid (OI.out.later hb)
        have HPm := Lib.hid (below_at' hb HP.out)
        have HAm := Lib.hid (below_at' hb HA.out)
        have HBm := Lib.hid (below_at' hb HB.out)
        clear hb OI HP HA HB
        have OI := OIm
        have HP := HPm
        have HA := HAm
        have HB := HBm
        clear OIm HPm HAm HBm
        go_wp2_with (refine wpList_alloc_g rfl _ rfl _ _ Try.zeroUz rfl ?_)
        intro Q wfm hQ
        have OIm := Lib.hid (OI.out.later hQ.out.below)
        have HPm := Lib.hid (below_at' hQ.out.below HP.out)
        have HAm := Lib.hid (below_at' hQ.out.below HA.out)
        have HBm := Lib.hid (below_at' hQ.out.below HB.out)
        have HQm := Lib.hid hQ.out.cells; have HQW : Hid (w.heap.size ≤ Q) := Lib.hid (by rw [hQ.out.eq]; exact OI.out.one.below.size)
        have NPQ : Hid (P ≠ Q) := Lib.hid (by have := hQ.out.eq; have := heap_lt HP.out; omega)
        have NAQ : Hid (A ≠ Q) := Lib.hid (by have := hQ.out.eq; have := heap_lt HA.out; omega)
        have NBQ : Hid (B ≠ Q) := Lib.hid (by have := hQ.out.eq; have := heap_lt HB.out; omega)
        clear hQ OI HP HA HB
        go_wp2_with (refine wpList_store_row_g (t := 30) (old := u0) rfl 30 _ _ rfl Q #[.int .u64 ya, .int .u64 yb, .int .u64 yc, .int .u64 yd] rfl rfl HQm.out Try.sizeU rfl (one_u64 _ _ _ _) ?_)
        intro wf hxQ kQ zQ
        have OI := Lib.hid (mone_keep OIm.out HQm.out kQ HQW.out)
        have HP := Lib.hid (kQ.at HPm.out NPQ.out)
        have HA := Lib.hid (kQ.at HAm.out NAQ.out)
        have HB := Lib.hid (kQ.at HBm.out NBQ.out)
        have HQ := Lib.hid hxQ
        clear hxQ kQ zQ OIm HQm HPm HAm HBm
        go_wp2_with (first
          | (refine wpList_load_row rfl 30 _ rfl Q rfl 30 _ _ _ HQ.out Try.underlying30 rfl Try.sizeU ?_)
          | (refine wpList_load_row rfl 30 _ rfl P rfl 30 _ _ _ HP.out Try.underlying30 rfl Try.sizeU ?_))
        refine (ucmp_any HY.out HU.out _).mono ?_
        rintro e wg ⟨rfl, hb⟩
        have OIm := Lib.hid (OI.out.later hb)
        have HPm := Lib.hid (below_at' hb HP.out)
        have HAm := Lib.hid (below_at' hb HA.out)
        have HBm := Lib.hid (below_at' hb HB.out)
        have HQm := Lib.hid (below_at' hb HQ.out)
        clear hb OI HP HA HB HQ
        have OI := OIm
        have HP := HPm
        have HA := HAm
        have HB := HBm
        have HQ := HQm
        clear OIm HPm HAm HBm HQm
        obtain ⟨cv, hcv⟩ : ∃ cv, cv = cmpV (maxH 7 H') (maxH 7 H) := ⟨_, rfl⟩
        rw [← hcv]
        have hc0 : cv ≤ 0 := by rw [hcv]; exact cmpV_le HALL.out.1
        have hc1 : ¬ 0 < cv := by omega
        have hc2 : decide (0 < cv) = false := decide_eq_false hc1
        clear hcv hc0
        have hlt9 := HLT.out
        have hbk9 := HB2.out
        by_cases her : er = 0
        · subst her
          have qa := Try.eqUn HU1.out HU.out
          have qb := Try.eqUn HU2.out HY.out
          rw [decide_eq_true (HN1.out rfl)] at qa
          rw [decide_eq_true (HN2.out rfl)] at qb
          clear HU1 HU2 HU HY
          have cQ0 : wg.cell? ⟨Q, 0, none⟩ = some (.int .u64 ya) := Lib.cell_of_heap HQ.out 0; have cQ1 : wg.cell? ⟨Q, 1, none⟩ = some (.int .u64 yb) := Lib.cell_of_heap HQ.out 1; have cQ2 : wg.cell? ⟨Q, 2, none⟩ = some (.int .u64 yc) := Lib.cell_of_heap HQ.out 2; have cQ3 : wg.cell? ⟨Q, 3, none⟩ = some (.int .u64 yd) := Lib.cell_of_heap HQ.out 3
          have cP0 : wg.cell? ⟨P, 0, none⟩ = some (.int .u64 xa) := Lib.cell_of_heap HP.out 0; have cP1 : wg.cell? ⟨P, 1, none⟩ = some (.int .u64 xb) := Lib.cell_of_heap HP.out 1; have cP2 : wg.cell? ⟨P, 2, none⟩ = some (.int .u64 xc) := Lib.cell_of_heap HP.out 2; have cP3 : wg.cell? ⟨P, 3, none⟩ = some (.int .u64 xd) := Lib.cell_of_heap HP.out 3
          have cA0 : wg.cell? ⟨A, 0, none⟩ = some (.int .u64 fa) := Lib.cell_of_heap HA.out 0; have cA1 : wg.cell? ⟨A, 1, none⟩ = some (.int .u64 fb) := Lib.cell_of_heap HA.out 1; have cA2 : wg.cell? ⟨A, 2, none⟩ = some (.int .u64 fc) := Lib.cell_of_heap HA.out 2; have cA3 : wg.cell? ⟨A, 3, none⟩ = some (.int .u64 fd) := Lib.cell_of_heap HA.out 3
          have cB0 : wg.cell? ⟨B, 0, none⟩ = some (.int .u64 ta) := Lib.cell_of_heap HB.out 0; have cB1 : wg.cell? ⟨B, 1, none⟩ = some (.int .u64 tb) := Lib.cell_of_heap HB.out 1; have cB2 : wg.cell? ⟨B, 2, none⟩ = some (.int .u64 tc) := Lib.cell_of_heap HB.out 2; have cB3 : wg.cell? ⟨B, 3, none⟩ = some (.int .u64 td) := Lib.cell_of_heap HB.out 3
          go_wp2_with fail
          go_roundw
          case rel => exact ⟨i + 1, bk2, H', s', by go_num, rfl, HLT.out, Lib.hid (by have := HB2.out; omega), Lib.hid ⟨HALL.out.2.1, HALL.out.2.2.1⟩, OI⟩
          case measure => have := HLT.out; simp [intOf]; omega
        · have hne : (er == 0) = false := by simpa using her
          have hne2 : (er != 0) = true := by simpa using her
          have hmx : maxH 7 H' = maxH 7 H := by rcases HALL.out.2.2.2 with h2 | h2 <;> first | exact absurd h2.1 her | exact h2.2
          have qc := Try.eqUn HY.out HU.out
          rw [decide_eq_true hmx] at qc
          clear HU1 HU2 HU HY hmx
          have cQ0 : wg.cell? ⟨Q, 0, none⟩ = some (.int .u64 ya) := Lib.cell_of_heap HQ.out 0; have cQ1 : wg.cell? ⟨Q, 1, none⟩ = some (.int .u64 yb) := Lib.cell_of_heap HQ.out 1; have cQ2 : wg.cell? ⟨Q, 2, none⟩ = some (.int .u64 yc) := Lib.cell_of_heap HQ.out 2; have cQ3 : wg.cell? ⟨Q, 3, none⟩ = some (.int .u64 yd) := Lib.cell_of_heap HQ.out 3
          have cP0 : wg.cell? ⟨P, 0, none⟩ = some (.int .u64 xa) := Lib.cell_of_heap HP.out 0; have cP1 : wg.cell? ⟨P, 1, none⟩ = some (.int .u64 xb) := Lib.cell_of_heap HP.out 1; have cP2 : wg.cell? ⟨P, 2, none⟩ = some (.int .u64 xc) := Lib.cell_of_heap HP.out 2; have cP3 : wg.cell? ⟨P, 3, none⟩ = some (.int .u64 xd) := Lib.cell_of_heap HP.out 3
          go_wp2_with fail
          go_roundw
          case rel => exact ⟨i + 1, bk2, H', s', by go_num, rfl, HLT.out, Lib.hid (by have := HB2.out; omega), Lib.hid ⟨HALL.out.2.1, HALL.out.2.2.1⟩, OI⟩
          case measure => have := HLT.out; simp [intOf]; omega
    · clear hin
      go_wp2_with fail
      refine (wone_any _).mono ?_
      rintro e w3 ⟨xa, xb, xc, xd, hu, rfl, hb⟩
      have HU := Lib.hid hu; have O3 := Lib.hid (OI.out.later hb)
      clear hu hb OI hlt
      have OI := O3
      clear O3
      go_wp2_with (refine wpList_alloc_g rfl _ rfl _ _ Try.zeroUz rfl ?_)
      intro L w4m hL
      have OIm := Lib.hid (OI.out.later hL.out.below)
      have HLm := Lib.hid hL.out.cells; have HLW : Hid (w.heap.size ≤ L) := Lib.hid (by rw [hL.out.eq]; exact OI.out.one.below.size)
      clear hL OI 
      go_wp2_with (refine wpList_store_row_g (t := 30) (old := u0) rfl 30 _ _ rfl L #[.int .u64 xa, .int .u64 xb, .int .u64 xc, .int .u64 xd] rfl rfl HLm.out Try.sizeU rfl (one_u64 _ _ _ _) ?_)
      intro w4 hxL kL zL
      have OI := Lib.hid (mone_keep OIm.out HLm.out kL HLW.out)
      have HL := Lib.hid hxL
      clear hxL kL zL OIm HLm 
      have BK : Hid (0 ≤ bk ∧ bk ≤ 20000) := Lib.hid (by have := HBK.out; have := HIN.out; omega)
      go_wp2_with fail
      go_loopw [15] (fun vb wr => ∃ (b : Nat), vb = .int .i64 b ∧ b ≤ 3000 ∧ Hid (MOne w wr g s H i) ∧ Hid (∃ la lb lc ld N, UIs la lb lc ld N ∧ (∀ q : Int, (b : Int) ≤ q → atH 7 H q ≤ N) ∧ wr.heap[L]? = some (.cells #[.int .u64 la, .int .u64 lb, .int .u64 lc, .int .u64 ld] 30 (0, 0)))) (fun vb _ => 3000 - (intOf vb).toNat)
      case atStart => exact ⟨0, rfl, by omega, OI, Lib.hid ⟨_, _, _, _, _, HU.out, fun q _ => HLD.out.2.at_one q, HL.out⟩⟩
      case round =>
        clear OI HL
        obtain ⟨b, rfl, hb3, OI, HLX⟩ := hrel
        obtain ⟨la, lb, lc, ld, N, hlu, hln, hlx⟩ := HLX.out
        have HLU := Lib.hid hlu; have HLN := Lib.hid hln; have HL := Lib.hid hlx
        clear hlu hln hlx HLX
        have hbk9 := BK.out
        have hmax : i ≤ 60 := HIN.out
        have HB3 := Lib.hid hb3
        by_cases hc1 : (b : Int) ≤ bk + 1
        · by_cases hc2 : b < 3000
          · have HC2 := Lib.hid hc2
            go_wp2_with fail
            refine (mAt_any OI.out.look OI.out.fit.f OI.out.his (by have := OI.out.len; have := HIN.out; omega) (by decide) (by decide) b).mono ?_
            rintro e w7 ⟨ya, yb, yc, yd, hu, rfl, hb⟩
            have HY := Lib.hid hu
            clear hu
            have OIm := Lib.hid (OI.out.later hb)
            have HLm := Lib.hid (below_at' hb HL.out)
            clear hb OI HL
            have OI := OIm
            have HL := HLm
            clear OIm HLm
            go_wp2_with (refine wpList_alloc_g rfl _ rfl _ _ Try.zeroUz rfl ?_)
            intro Z w8m hZ
            have OIm := Lib.hid (OI.out.later hZ.out.below)
            have HLm := Lib.hid (below_at' hZ.out.below HL.out)
            have HZm := Lib.hid hZ.out.cells; have HZW : Hid (w.heap.size ≤ Z) := Lib.hid (by rw [hZ.out.eq]; exact OI.out.one.below.size)
            have NLZ : Hid (L ≠ Z) := Lib.hid (by have := hZ.out.eq; have := heap_lt HL.out; omega)
            clear hZ OI HL
            go_wp2_with (refine wpList_store_row_g (t := 30) (old := u0) rfl 30 _ _ rfl Z #[.int .u64 ya, .int .u64 yb, .int .u64 yc, .int .u64 yd] rfl rfl HZm.out Try.sizeU rfl (one_u64 _ _ _ _) ?_)
            intro w8 hxZ kZ zZ
            have OI := Lib.hid (mone_keep OIm.out HZm.out kZ HZW.out)
            have HL := Lib.hid (kZ.at HLm.out NLZ.out)
            have HZ := Lib.hid hxZ
            clear hxZ kZ zZ OIm HZm HLm
            go_wp2_with (first
              | (refine wpList_load_row rfl 30 _ rfl Z rfl 30 _ _ _ HZ.out Try.underlying30 rfl Try.sizeU ?_)
              | (refine wpList_load_row rfl 30 _ rfl L rfl 30 _ _ _ HL.out Try.underlying30 rfl Try.sizeU ?_))
            refine (ucmp_any HY.out HLU.out _).mono ?_
            rintro e wg ⟨rfl, hb⟩
            have OIm := Lib.hid (OI.out.later hb)
            have HLm := Lib.hid (below_at' hb HL.out)
            have HZm := Lib.hid (below_at' hb HZ.out)
            clear hb OI HL HZ
            have OI := OIm
            have HL := HLm
            have HZ := HZm
            clear OIm HLm HZm
            obtain ⟨cv, hcv⟩ : ∃ cv, cv = cmpV (atH 7 H b) N := ⟨_, rfl⟩
            rw [← hcv]
            have hv0 : cv ≤ 0 := by rw [hcv]; exact cmpV_le (HLN.out _ (Int.le_refl _))
            have hv1 : ¬ 0 < cv := by omega
            have hv2 : decide (0 < cv) = false := decide_eq_false hv1
            clear hcv hv0
            go_wp2_with (first
              | (refine wpList_load_row rfl 30 _ rfl Z rfl 30 _ _ _ HZ.out Try.underlying30 rfl Try.sizeU ?_)
              | (refine wpList_store_row_g (t := 30) (old := #[.int .u64 la, .int .u64 lb, .int .u64 lc, .int .u64 ld]) rfl 30 _ _ rfl L #[.int .u64 ya, .int .u64 yb, .int .u64 yc, .int .u64 yd] rfl rfl HL.out Try.sizeU rfl (one_u64 _ _ _ _) ?_))
            intro wh hxL kL zL
            have OH := Lib.hid (mone_keep OI.out HL.out kL HLW.out); have HLh := Lib.hid hxL
            clear hxL kL zL OI HL
            have hbn := HC2.out
            go_wp2_with fail
            go_roundw
            case rel => exact ⟨b + 1, by go_num, HC2.out, OH, Lib.hid ⟨_, _, _, _, _, HY.out, fun q hq => HLD.out.2.at_le (by omega), HLh.out⟩⟩
            case measure => have := HC2.out; simp [intOf]; omega
          · clear hb3
            have hc3 : ¬ (b : Int) < 3000 := by omega
            go_wp2_with fail
            have hno := OI.out.hisNobody
            have HNO := Lib.hid hno
            clear hno
            refine (mMax_any OI.out.look OI.out.fit.f HNO.out (by decide) (by decide) (by decide)).mono ?_
            rintro e w7 ⟨ya, yb, yc, yd, hu1, rfl, hb⟩
            have hu1' : UIs ya yb yc yd uOne := hu1
            have HY := Lib.hid hu1'
            clear hu1 hu1' HNO
            have OIm := Lib.hid (OI.out.later hb)
            clear hb OI 
            have OI := OIm
            clear OIm 
            go_wp2_with fail
            refine (wone_any _).mono ?_
            rintro e w8 ⟨za, zb, zc, zd, hu1, rfl, hb⟩
            have qa := Try.eqUn HY.out hu1
            rw [decide_eq_true rfl] at qa
            clear hu1 HY
            have OIm := Lib.hid (OI.out.later hb)
            clear hb OI 
            have OI := OIm
            clear OIm 
            go_wp2_with fail
            have hno := OI.out.hisNobody
            have HNO := Lib.hid hno
            clear hno qa
            refine (mAt_any OI.out.look OI.out.fit.f HNO.out (by decide) (by decide) (by decide) bk).mono ?_
            rintro e w9 ⟨pa, pb, pc, pd, hu1, rfl, hb⟩
            have hu1' : UIs pa pb pc pd uOne := hu1
            have HY := Lib.hid hu1'
            clear hu1 hu1' HNO
            have OIm := Lib.hid (OI.out.later hb)
            clear hb OI 
            have OI := OIm
            clear OIm 
            go_wp2_with fail
            refine (wone_any _).mono ?_
            rintro e wa ⟨ra, rb, rc, rd, hu1, rfl, hb⟩
            have qb := Try.eqUn HY.out hu1
            rw [decide_eq_true rfl] at qb
            clear hu1 HY
            have OIm := Lib.hid (OI.out.later hb)
            clear hb OI 
            have OI := OIm
            clear OIm 
            go_wp2_with fail
            clear qb
            refine (lives22_any _).mono ?_
            rintro e wb ⟨rfl, hb⟩
            have HBF := Lib.hid (OI.out.one.below.trans (hb.mono OI.out.one.below.size))
            clear hb
            go_wp2_with fail
            go_ret
            exact ⟨rfl, HBF.out⟩
        · clear hb3
          go_wp2_with fail
          have hno := OI.out.hisNobody
          have HNO := Lib.hid hno
          clear hno
          refine (mMax_any OI.out.look OI.out.fit.f HNO.out (by decide) (by decide) (by decide)).mono ?_
          rintro e w7 ⟨ya, yb, yc, yd, hu1, rfl, hb⟩
          have hu1' : UIs ya yb yc yd uOne := hu1
          have HY := Lib.hid hu1'
          clear hu1 hu1' HNO
          have OIm := Lib.hid (OI.out.later hb)
          clear hb OI 
          have OI := OIm
          clear OIm 
          go_wp2_with fail
          refine (wone_any _).mono ?_
          rintro e w8 ⟨za, zb, zc, zd, hu1, rfl, hb⟩
          have qa := Try.eqUn HY.out hu1
          rw [decide_eq_true rfl] at qa
          clear hu1 HY
          have OIm := Lib.hid (OI.out.later hb)
          clear hb OI 
          have OI := OIm
          clear OIm 
          go_wp2_with fail
          have hno := OI.out.hisNobody
          have HNO := Lib.hid hno
          clear hno qa
          refine (mAt_any OI.out.look OI.out.fit.f HNO.out (by decide) (by decide) (by decide) bk).mono ?_
          rintro e w9 ⟨pa, pb, pc, pd, hu1, rfl, hb⟩
          have hu1' : UIs pa pb pc pd uOne := hu1
          have HY := Lib.hid hu1'
          clear hu1 hu1' HNO
          have OIm := Lib.hid (OI.out.later hb)
          clear hb OI 
          have OI := OIm
          clear OIm 
          go_wp2_with fail
          refine (wone_any _).mono ?_
          rintro e wa ⟨ra, rb, rc, rd, hu1, rfl, hb⟩
          have qb := Try.eqUn HY.out hu1
          rw [decide_eq_true rfl] at qb
          clear hu1 HY
          have OIm := Lib.hid (OI.out.later hb)
          clear hb OI 
          have OI := OIm
          clear OIm 
          go_wp2_with fail
          clear qb
          refine (lives22_any _).mono ?_
          rintro e wb ⟨rfl, hb⟩
          have HBF := Lib.hid (OI.out.one.below.trans (hb.mono OI.out.one.below.size))
          clear hb
          go_wp2_with fail
          go_ret
          exact ⟨rfl, HBF.out⟩
end
end Go.Proofs.Ytnoocidoblndgaa
