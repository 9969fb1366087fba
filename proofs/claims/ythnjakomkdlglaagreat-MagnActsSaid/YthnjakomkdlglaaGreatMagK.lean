/- Magnitudes: the greatest one as it is, and as it was (code). No condition. Magnitudes: a cut (code). No condition. Chapter 22: magnitudes in a store of its own; lives. No condition. Chapter 22: MagnFalls: the plain law of a cut, and the walk. No condition. Histories of the reference: an id with a number behind, what is read and laid (code). No condition. The reference's histories and magnitudes: what is told (code). No condition. The reference's histories and magnitudes: one more (code). No condition. Law 22: MagnActs: magnitudes of all operators and strategies; the law's walk. No condition. -/
import Derived.Test.YthnjakomkdlglaaGreatHisC
import Derived.Test.YthnjakomkdlglaaGreatAriB
import Derived.Test.YthnjakomkdlglaaGreatCelC
import Derived.Deep.QuietTactic
import Derived.BigQuiet
import Derived.WalkSmall
import Derived.Test.YthnjakomkdlglaaGreatAriJ
import Derived.Test.YthnjakomkdlglaaGreatCelR
import Derived.Deep.Cut
namespace Go.Proofs.YthnjakomkdlglaaGreat
section
section
open Go.RowKit

def lastB (H : List (Int × Nat)) : Int := (H.getLast?.map (·.1)).getD 0
def lastN (H : List (Int × Nat)) : Nat := (H.getLast?.map (·.2)).getD 0
theorem last_mem {H : List (Int × Nat)} {p : Int × Nat} (h : H.getLast? = some p) : p ∈ H := List.mem_of_getLast? h
theorem HisI.lastN_lt {f : Txt → Option Txt} {t : Int} {ids : List Int} {H : List (Int × Nat)} (h : HisI f t ids H) : lastN H < uMax := by
  unfold lastN
  cases hl : H.getLast? with
  | none => simp
  | some p => exact (h.ok p (last_mem hl)).2.2
theorem HisI.look_lt {f : Txt → Option Txt} {t : Int} {ids : List Int} {H : List (Int × Nat)} (h : HisI f t ids H) (q : Int) : ((lookH H q).map (·.2)).getD 0 < uMax := by
  cases hl : lookH H q with
  | none => simp
  | some p =>
    have := List.mem_of_getLast? hl
    exact (h.ok p (List.mem_filter.1 this).1).2.2
abbrev uOne : Nat := 1000000000000000000
theorem Tryz.sizeFd : (Tryz.prog.info? 107).map (·.size) = some 5 := by kernel_rfl
theorem Tryz.zeroFd (w : World) : (zeroValue 107).run Tryz.prog w = .ok (.agg #[.int .u64 0, .int .u64 0, .int .u64 0, .int .u64 0, .bool false]) w := by kernel_rfl
theorem Tryz.eqFd (a b c d : Int) (k : Bool) (w : World) : (Op.equalIn 10000 107 (.agg #[.int .u64 a, .int .u64 b, .int .u64 c, .int .u64 d, .bool k]) (.agg #[.int .u64 0, .int .u64 0, .int .u64 0, .int .u64 0, .bool false])).run Tryz.prog w = .ok (decide ([a, b, c, d] = [0, 0, 0, 0]) && (k == false)) w := by
  obtain ⟨i, hi, _, hs, _⟩ := info_parts Tryz.infoU64
  have hu := run_equalIn_arr (P := Tryz.prog) w 9997 33 31 .u64 4 Tryz.underlying33 Tryz.underlying31 i hi hs [a, b, c, d] [0, 0, 0, 0] rfl rfl
  rw [show (10000 : Nat) = 9999 + 1 from rfl, run_equalIn_struct (P := Tryz.prog) w 9999 107 _ _ (by kernel_rfl) (by kernel_rfl)]
  have hf : (Tryz.prog.fieldsOf 107).toList = [{ name := "a", type := 33, offset := 0, embedded := false, tag := "", pkgPath := "tallage/magn", byteOffset := 0 }, { name := "ok", type := 4, offset := 4, embedded := false, tag := "", pkgPath := "tallage/magn", byteOffset := 32 }] := by kernel_rfl
  rw [hf]
  have p1 : ∀ (x y z u : Int) (q : Bool) w, (Go.part 33 #[.int .u64 x, .int .u64 y, .int .u64 z, .int .u64 u, .bool q] 0).run Tryz.prog w = .ok (.agg #[.int .u64 x, .int .u64 y, .int .u64 z, .int .u64 u]) w := fun x y z u q w => by kernel_rfl
  have p2 : ∀ (x y z u : Int) (q : Bool) w, (Go.part 4 #[.int .u64 x, .int .u64 y, .int .u64 z, .int .u64 u, .bool q] 4).run Tryz.prog w = .ok (.bool q) w := fun x y z u q w => by kernel_rfl
  have hu2 : (Op.equalIn 9999 33 (.agg #[.int .u64 a, .int .u64 b, .int .u64 c, .int .u64 d]) (.agg #[.int .u64 0, .int .u64 0, .int .u64 0, .int .u64 0])).run Tryz.prog w = .ok (decide ([a, b, c, d] = [0, 0, 0, 0])) w := hu
  have hb2 : ∀ x y : Bool, (Op.equalIn 9999 4 (.bool x) (.bool y)).run Tryz.prog w = .ok (x == y) w := fun x y => run_equalIn_bool' (P := Tryz.prog) w 9998 4 x y Tryz.underlying4
  simp only [Op.eqFields, ne_eq, String.reduceEq, not_false_eq_true, if_true, Sem.run_bind, p1, Result.andThen_ok, hu2]
  by_cases h : [a, b, c, d] = [0, 0, 0, 0]
  · rw [decide_eq_true h]
    simp only [Bool.not_true, Bool.false_eq_true, if_false, Sem.run_bind, p2, Result.andThen_ok, hb2]
    cases k <;> simp
  · rw [decide_eq_false h]; simp

set_option maxHeartbeats 4000000 in
set_option maxRecDepth 100000 in
theorem hLast_any {w : World} {x : Option Addr} {m : Bool} {f : Txt → Option Txt} (h : Look w x m f) (hf : FitF f) {t : Int} {ids : List Int} {vi : Value} {H : List (Int × Nat)} (hH : HisI f t ids H) (hl : ids.length ≤ 1000000) (hi : I64s ids) (hrd : Rd w intE 1 vi ids) (hn : H.length ≤ 1000000) :
    Calls Tryz.prog 71 #[.pointer x, .int .i64 t, vi] w (UOk w (lastN H) H.getLast?.isSome) := by
  obtain ⟨adi, capi, rfl, _, _⟩ := hrd.shape
  have HK := Lib.hid h; have HF := Lib.hid hf; have HI := Lib.hid hi; have HR := Lib.hid hrd; have HL := Lib.hid hl; have HH := Lib.hid hH
  obtain ⟨N, hN⟩ : ∃ N, N = H.length := ⟨_, rfl⟩
  rw [← hN] at hn
  have HN := Lib.hid hN
  clear h hf hl hi hrd hH hN
  go_enter Tryz.func71, Tryz.ntmps71
  go_wp2_with (refine wpList_alloc_g rfl _ rfl _ _ Tryz.zeroUz rfl ?_)
  intro R w1 h1
  have HR1 := Lib.hid h1.out.cells; have HB1 := Lib.hid h1.out.below; have HRW : Hid (w.heap.size ≤ R) := Lib.hid (Nat.le_of_eq h1.out.eq.symm)
  clear h1
  go_wp2_with fail
  refine (hlen_any (HK.out.later HB1.out) HF.out t HL.out HI.out (HR.out.later HB1.out)).mono ?_
  rintro e w2 ⟨rfl, hb⟩
  rw [HH.out.cnt, ← HN.out]
  have HR2 := Lib.hid (below_at' hb HR1.out); have HB2 := Lib.hid (HB1.out.trans (hb.mono HB1.out.size))
  clear hb HR1 HB1
  by_cases h0 : N = 0
  · have HE : Hid (H.getLast?.isSome = false ∧ lastN H = 0) := Lib.hid (by
      have : H = [] := List.length_eq_zero_iff.1 (by rw [← HN.out]; exact h0)
      subst this; exact ⟨rfl, rfl⟩)
    subst h0
    go_wp2_with (refine wpList_store_row_g (t := 33) (old := u0) rfl 33 _ _ rfl R u0 rfl rfl HR2.out Tryz.sizeU rfl (one_u64 _ _ _ _) ?_)
    intro w8 hx8 k8 _
    have HX8 := Lib.hid hx8; have HB8 := Lib.hid (HB2.out.trans (k8.below (B := w.heap.size) (fun y hy e => by have := HRW.out; omega) HB2.out.size))
    clear hx8 k8
    go_wp2_with fail
    exact bodyPost_ret (res_row_val rfl _ _ R _ u0 _ _ rfl HX8.out Tryz.underlying33 rfl Tryz.sizeU _ rfl) rfl ⟨0, 0, 0, 0, by rw [HE.out.1]; exact UIs.zero, by rw [HE.out.1]; rfl, HB8.out⟩
  · have hb0 : ((N : Int) == 0) = false := beq_eq_false_iff_ne.2 (by omega)
    have HE : Hid (H.getLast?.isSome = true ∧ lastN H = (H[N - 1]'(by rw [← HN.out]; omega)).2) := Lib.hid (by
      have h1 := last_of (H := H) (by rw [← HN.out]; omega)
      unfold lastN
      rw [h1]
      refine ⟨rfl, ?_⟩
      simp only [Option.map_some, Option.getD_some, HN.out])
    have hlt : N - 1 < H.length := by rw [← HN.out]; omega
    have hamt := HH.out.amt hlt
    rw [show ((N - 1 : Nat) : Int) = (N : Int) - 1 by omega, ← HE.out.2] at hamt
    have HAMT := Lib.hid hamt
    have hN0 := h0
    clear hamt
    go_wp2_with fail
    refine (hread_any (HK.out.later HB2.out) HF.out t (n := (N : Int) - 1) HL.out HI.out (HR.out.later HB2.out) (by omega)).mono ?_
    rintro e w4 ⟨a, b, c, d, hu, rfl, hb⟩
    have hfd := Tryz.ptField1 (ptB (valF f (keyF t (ids ++ [(N : Int) - 1])))) a b c d
    rw [HAMT.out] at hu
    have HU := Lib.hid hu; have HR4 := Lib.hid (below_at' hb HR2.out); have HB4 := Lib.hid (HB2.out.trans (hb.mono HB2.out.size))
    clear hb hu HR2 HB2 hlt
    go_wp2_with (refine wpList_store_row_g (t := 33) (old := u0) rfl 33 _ _ rfl R #[.int .u64 a, .int .u64 b, .int .u64 c, .int .u64 d] rfl rfl HR4.out Tryz.sizeU rfl (one_u64 _ _ _ _) ?_)
    intro w8 hx8 k8 _
    have HX8 := Lib.hid hx8; have HB8 := Lib.hid (HB4.out.trans (k8.below (B := w.heap.size) (fun y hy e => by have := HRW.out; omega) HB4.out.size))
    clear hx8 k8
    go_wp2_with fail
    exact bodyPost_ret (res_row_val rfl _ _ R _ _ _ _ rfl HX8.out Tryz.underlying33 rfl Tryz.sizeU _ rfl) rfl ⟨a, b, c, d, by rw [HE.out.1]; exact HU.out, by rw [HE.out.1]; rfl, HB8.out⟩

/-- What is told, or the whole. -/
def orF (o : Int) (n : Nat) (k : Bool) : Nat := if o = 0 ∨ (n = 0 ∧ k = false) then uOne else n

set_option maxHeartbeats 4000000 in
set_option maxRecDepth 100000 in
theorem or_any {a b c d : Int} {n : Nat} (hu : UIs a b c d n) (k : Bool) (o : Int) (w : World) :
    Calls Tryz.prog 72 #[.agg #[.int .u64 a, .int .u64 b, .int .u64 c, .int .u64 d, .bool k], .int .i64 o] w (URet w (orF o n k)) := by
  have HU := Lib.hid hu
  have he := Tryz.eqFd a b c d k
  rw [hu.eq UIs.zero] at he
  obtain ⟨z, hz⟩ : ∃ z, z = (decide (n = 0) && (k == false)) := ⟨_, rfl⟩
  rw [← hz] at he
  have HZ := Lib.hid hz
  clear hu hz
  obtain ⟨v, hv⟩ : ∃ v, v = orF o n k := ⟨_, rfl⟩
  rw [← hv]
  have HV := Lib.hid hv
  clear hv
  go_enter Tryz.func72, Tryz.ntmps72
  go_wp2_with (refine wpList_alloc_g rfl _ rfl _ _ Tryz.zeroUz rfl ?_)
  obtain ⟨w1, hw1⟩ : ∃ w1, w1 = w.alloc (.cells #[.int .u64 a, .int .u64 b, .int .u64 c, .int .u64 d, .bool k] 107) := ⟨_, rfl⟩
  obtain ⟨X, hX⟩ : ∃ X, X = w.heap.size := ⟨_, rfl⟩
  rw [← hw1, ← hX]
  have hb1 : Below w.heap.size w w1 := by rw [hw1]; exact below_new _ _
  have HX1 : Hid (w1.heap[X]? = some (.cells #[.int .u64 a, .int .u64 b, .int .u64 c, .int .u64 d, .bool k] 107 (0, 0))) := Lib.hid (by rw [hw1, hX]; exact heap_alloc_new _ _)
  have HB1 := Lib.hid hb1
  clear hw1 hX hb1
  intro R w2 h2
  have HR2 := Lib.hid h2.out.cells; have HB2 := Lib.hid (HB1.out.trans (h2.out.below.mono HB1.out.size)); have HRW : Hid (w.heap.size ≤ R) := Lib.hid (by rw [h2.out.eq]; exact HB1.out.size)
  have HX2 := Lib.hid (below_at' h2.out.below HX1.out)
  clear h2 HX1 HB1
  have hor : o = 0 ∨ (o ≠ 0 ∧ z = true) ∨ (o ≠ 0 ∧ z = false) := by
    by_cases h : o = 0
    · exact .inl h
    · cases z
      · exact .inr (.inr ⟨h, rfl⟩)
      · exact .inr (.inl ⟨h, rfl⟩)
  rcases hor with h | ⟨h, h'⟩ | ⟨h, h'⟩
  · have HV1 : Hid (v = uOne) := Lib.hid (by rw [HV.out]; unfold orF; rw [if_pos (.inl h)])
    subst h
    go_wp2_with fail
    refine (wone_any _).mono ?_
    rintro e w3 ⟨oa, ob, oc, od, hu1, rfl, hb⟩
    have HU1 := Lib.hid hu1; have HR3 := Lib.hid (below_at' hb HR2.out); have HB3 := Lib.hid (HB2.out.trans (hb.mono HB2.out.size))
    clear hu1 hb HR2 HB2
    go_wp2_with (refine wpList_store_row_g (t := 33) (old := u0) rfl 33 _ _ rfl R #[.int .u64 oa, .int .u64 ob, .int .u64 oc, .int .u64 od] rfl rfl HR3.out Tryz.sizeU rfl (one_u64 _ _ _ _) ?_)
    intro w4 hx k8 _
    have HX := Lib.hid hx
    have HB4 : Hid (Below w.heap.size w w4) := Lib.hid (HB3.out.trans (k8.below (B := w.heap.size) (fun x hx e => by have := HRW.out; omega) HB3.out.size))
    clear hx k8
    go_wp2_with fail
    exact bodyPost_ret (results_cell_row rfl _ _ _ _ _ _ _ rfl HX.out Tryz.underlying33 rfl Tryz.sizeU) rfl ⟨_, _, _, _, by rw [HV1.out]; exact HU1.out, rfl, HB4.out⟩
  · have HV1 : Hid (v = uOne) := Lib.hid (by
      rw [HV.out]; unfold orF
      have hz := HZ.out
      rw [h'] at hz
      have := hz.symm
      simp only [Bool.and_eq_true, decide_eq_true_eq, beq_iff_eq] at this
      rw [if_pos (.inr this)])
    subst h'
    have ho : (o == 0) = false := beq_eq_false_iff_ne.2 h
    clear h
    go_wp2_with (refine wpList_load_row_y rfl 107 _ rfl X rfl 107 _ _ _ HX2.out Tryz.underlying107 rfl Tryz.sizeFd ?_)
    refine (wone_any _).mono ?_
    rintro e w3 ⟨oa, ob, oc, od, hu1, rfl, hb⟩
    have HU1 := Lib.hid hu1; have HR3 := Lib.hid (below_at' hb HR2.out); have HB3 := Lib.hid (HB2.out.trans (hb.mono HB2.out.size))
    clear hu1 hb HR2 HB2
    go_wp2_with (refine wpList_store_row_g (t := 33) (old := u0) rfl 33 _ _ rfl R #[.int .u64 oa, .int .u64 ob, .int .u64 oc, .int .u64 od] rfl rfl HR3.out Tryz.sizeU rfl (one_u64 _ _ _ _) ?_)
    intro w4 hx k8 _
    have HX := Lib.hid hx
    have HB4 : Hid (Below w.heap.size w w4) := Lib.hid (HB3.out.trans (k8.below (B := w.heap.size) (fun x hx e => by have := HRW.out; omega) HB3.out.size))
    clear hx k8
    go_wp2_with fail
    exact bodyPost_ret (results_cell_row rfl _ _ _ _ _ _ _ rfl HX.out Tryz.underlying33 rfl Tryz.sizeU) rfl ⟨_, _, _, _, by rw [HV1.out]; exact HU1.out, rfl, HB4.out⟩
  · have HV1 : Hid (v = n) := Lib.hid (by
      rw [HV.out]; unfold orF
      have hz := HZ.out
      rw [h'] at hz
      have hz2 : ¬ (n = 0 ∧ k = false) := by
        rintro ⟨e1, e2⟩
        rw [e1, e2] at hz; cases hz
      rw [if_neg (by rintro (e | e); exact h e; exact hz2 e)])
    subst h'
    have ho : (o == 0) = false := beq_eq_false_iff_ne.2 h
    clear h
    go_wp2_with (first
      | (refine wpList_load_row_y rfl 107 _ rfl X rfl 107 _ _ _ HX2.out Tryz.underlying107 rfl Tryz.sizeFd ?_)
      | (refine wpList_load_mid rfl 33 _ rfl X 0 rfl [.int .u64 a, .int .u64 b, .int .u64 c, .int .u64 d] _ (range_of_heap HX2.out 0 _ rfl) Tryz.underlying33 rfl Tryz.sizeU ?_)
      | (refine wpList_store_row_g (t := 33) (old := u0) rfl 33 _ _ rfl R #[.int .u64 a, .int .u64 b, .int .u64 c, .int .u64 d] rfl rfl HR2.out Tryz.sizeU rfl (one_u64 _ _ _ _) ?_))
    intro w3 hx k8 _
    have HX := Lib.hid hx
    have HB3 : Hid (Below w.heap.size w w3) := Lib.hid (HB2.out.trans (k8.below (B := w.heap.size) (fun x hx e => by have := HRW.out; omega) HB2.out.size))
    clear hx k8
    go_wp2_with fail
    exact bodyPost_ret (results_cell_row rfl _ _ _ _ _ _ _ rfl HX.out Tryz.underlying33 rfl Tryz.sizeU) rfl ⟨_, _, _, _, by rw [HV1.out]; exact HU.out, rfl, HB3.out⟩
/-- The greatest magnitude. -/
def maxH (o : Int) (H : List (Int × Nat)) : Nat := if o = 0 ∨ H.getLast?.isSome = false then uOne else lastN H
def atH (o : Int) (H : List (Int × Nat)) (bk : Int) : Nat := if o = 0 ∨ (lookH H bk).isSome = false then uOne else ((lookH H bk).map (·.2)).getD 0
theorem or_max (o : Int) (H : List (Int × Nat)) : orF o (if H.getLast?.isSome then lastN H else 0) H.getLast?.isSome = maxH o H := by
  unfold orF maxH
  cases h : H.getLast? with
  | none => simp
  | some p => simp
theorem or_at (o : Int) (H : List (Int × Nat)) (bk : Int) : orF o (((lookH H bk).map (·.2)).getD 0) (lookH H bk).isSome = atH o H bk := by
  unfold orF atH
  cases h : lookH H bk with
  | none => simp
  | some p => simp

set_option maxHeartbeats 4000000 in
set_option maxRecDepth 100000 in
theorem mMax_any {w : World} {x : Option Addr} {m : Bool} {f : Txt → Option Txt} (h : Look w x m f) (hf : FitF f) {o st : Int} {H : List (Int × Nat)} (hH : HisI f 13 [o, st] H) (hn : H.length ≤ 1000000) (ho : -9223372036854775808 ≤ o ∧ o < 9223372036854775808) (hst : -9223372036854775808 ≤ st ∧ st < 9223372036854775808) :
    Calls Tryz.prog 23 #[.pointer x, .int .i64 o, .int .i64 st] w (URet w (maxH o H)) := by
  have HK := Lib.hid h; have HF := Lib.hid hf; have HH := Lib.hid hH; have HI : Hid (I64s [o, st]) := Lib.hid (I64s.two ho hst); have HN := Lib.hid hn
  obtain ⟨v, hv⟩ : ∃ v, v = maxH o H := ⟨_, rfl⟩
  rw [← hv]
  have HVV := Lib.hid hv
  clear h hf hH hn ho hst hv
  go_enter Tryz.func23, Tryz.ntmps23
  go_wp2_with (refine wpList_alloc_g rfl _ rfl _ _ Tryz.zeroUz rfl ?_)
  intro R w1 h1
  have HR1 := Lib.hid h1.out.cells; have HB1 := Lib.hid h1.out.below; have HRW : Hid (w.heap.size ≤ R) := Lib.hid (Nat.le_of_eq h1.out.eq.symm)
  clear h1
  go_wp2_with (refine wpList_alloc_g rfl _ rfl _ _ Tryz.zeroFd rfl ?_)
  intro X w2 h2
  have HR2 := Lib.hid (below_at' h2.out.below HR1.out); have HB2 := Lib.hid (HB1.out.trans (h2.out.below.mono HB1.out.size)); have HX2 := Lib.hid h2.out.cells
  have HXR : Hid (w.heap.size ≤ X ∧ R ≠ X) := Lib.hid (by have := h2.out.eq; have := heap_lt HR1.out; have := HB1.out.size; exact ⟨by omega, by omega⟩)
  clear h2 HR1 HB1
  go_wp2_with fail
  obtain ⟨w3, hwl⟩ : ∃ w3, w3 = w2.alloc (.cells #[.int .i64 o, .int .i64 st] 3) := ⟨_, rfl⟩
  obtain ⟨gi, hgi⟩ : ∃ gi, gi = w2.heap.size := ⟨_, rfl⟩
  rw [← hwl, ← hgi]
  have hbl : Below w2.heap.size w2 w3 := by rw [hwl]; exact below_new _ _
  have HOI : Hid (Rd w3 intE 1 (.slice (some ⟨gi, 0, none⟩) 2 2) [o, st]) := Lib.hid (by rw [hwl, hgi]; exact lit2 _ _ _)
  have HR3 := Lib.hid (below_at' hbl HR2.out); have HX3 := Lib.hid (below_at' hbl HX2.out); have HB3 := Lib.hid (HB2.out.trans (hbl.mono HB2.out.size))
  clear hwl hgi hbl HR2 HX2 HB2
  refine (hLast_any (HK.out.later HB3.out) HF.out HH.out (by simp) HI.out HOI.out HN.out).mono ?_
  rintro e w4 ⟨a, b, c, d, hu, rfl, hb⟩
  obtain ⟨q, hq⟩ : ∃ q, q = H.getLast?.isSome := ⟨_, rfl⟩
  rw [← hq] at hu ⊢
  have HOR : Hid (orF o (if q = true then lastN H else 0) q = v) := Lib.hid (by rw [HVV.out, hq]; exact or_max o H)
  clear hq
  have HU := Lib.hid hu; have HR4 := Lib.hid (below_at' hb HR3.out); have HX4 := Lib.hid (below_at' hb HX3.out); have HB4 := Lib.hid (HB3.out.trans (hb.mono HB3.out.size))
  clear hu hb HR3 HX3 HB3 HOI
  go_wp2_with (refine wpList_store_part_g rfl 33 _ _ rfl X 0 #[.int .u64 a, .int .u64 b, .int .u64 c, .int .u64 d] rfl rfl 107 _ HX4.out Tryz.sizeU (by simp) (one_u64 _ _ _ _) #[.int .u64 a, .int .u64 b, .int .u64 c, .int .u64 d, .bool false] rfl ?_)
  intro w5 hx5 k5 _
  have HX5 := Lib.hid hx5; have HR5 := Lib.hid (k5.at HR4.out (fun e => HXR.out.2 e)); have HB5 := Lib.hid (HB4.out.trans (k5.below (B := w.heap.size) (fun y hy e => by have := HXR.out; omega) HB4.out.size))
  clear hx5 k5 HX4 HR4 HB4
  go_wp2_with (refine wpList_store1_g rfl 4 _ _ rfl X 4 (.bool q) rfl rfl rfl rfl 107 _ HX5.out (by kernel_rfl) (by simp) #[.int .u64 a, .int .u64 b, .int .u64 c, .int .u64 d, .bool q] rfl ?_)
  intro w6 hx6 k6 _
  have HX6 := Lib.hid hx6; have HR6 := Lib.hid (k6.at HR5.out (fun e => HXR.out.2 e)); have HB6 := Lib.hid (HB5.out.trans (k6.below (B := w.heap.size) (fun y hy e => by have := HXR.out; omega) HB5.out.size))
  clear hx6 k6 HX5 HR5 HB5
  go_wp2_with (refine wpList_load_row rfl 107 _ rfl X rfl 107 _ _ _ HX6.out Tryz.underlying107 rfl Tryz.sizeFd ?_)
  refine (or_any HU.out q o _).mono ?_
  rw [show orF o _ q = v from HOR.out]
  rintro e w7 ⟨a2, b2, c2, d2, hu, rfl, hb⟩
  have HU2 := Lib.hid hu; have HR7 := Lib.hid (below_at' hb HR6.out); have HB7 := Lib.hid (HB6.out.trans (hb.mono HB6.out.size))
  clear hu hb HR6 HB6
  go_wp2_with (refine wpList_store_row_g (t := 33) (old := u0) rfl 33 _ _ rfl R #[.int .u64 a2, .int .u64 b2, .int .u64 c2, .int .u64 d2] rfl rfl HR7.out Tryz.sizeU rfl (one_u64 _ _ _ _) ?_)
  intro w8 hx k8 _
  have HX8 := Lib.hid hx
  have HB8 : Hid (Below w.heap.size w w8) := Lib.hid (HB7.out.trans (k8.below (B := w.heap.size) (fun x hx e => by have := HRW.out; omega) HB7.out.size))
  clear hx k8
  go_wp2_with fail
  exact bodyPost_ret (results_cell_row rfl _ _ _ _ _ _ _ rfl HX8.out Tryz.underlying33 rfl Tryz.sizeU) rfl ⟨_, _, _, _, HU2.out, rfl, HB8.out⟩

set_option maxHeartbeats 4000000 in
set_option maxRecDepth 100000 in
theorem mAt_any {w : World} {x : Option Addr} {m : Bool} {f : Txt → Option Txt} (h : Look w x m f) (hf : FitF f) {o st : Int} {H : List (Int × Nat)} (hH : HisI f 13 [o, st] H) (hn : H.length ≤ 1000000) (ho : -9223372036854775808 ≤ o ∧ o < 9223372036854775808) (hst : -9223372036854775808 ≤ st ∧ st < 9223372036854775808) (bk : Int) :
    Calls Tryz.prog 25 #[.pointer x, .int .i64 o, .int .i64 st, .int .i64 bk] w (URet w (atH o H bk)) := by
  have HK := Lib.hid h; have HF := Lib.hid hf; have HH := Lib.hid hH; have HI : Hid (I64s [o, st]) := Lib.hid (I64s.two ho hst); have _HN := Lib.hid hn
  obtain ⟨v, hv⟩ : ∃ v, v = atH o H bk := ⟨_, rfl⟩
  rw [← hv]
  have HVV := Lib.hid hv
  clear h hf hH hn ho hst hv
  go_enter Tryz.func25, Tryz.ntmps25
  go_wp2_with (refine wpList_alloc_g rfl _ rfl _ _ Tryz.zeroUz rfl ?_)
  intro R w1 h1
  have HR1 := Lib.hid h1.out.cells; have HB1 := Lib.hid h1.out.below; have HRW : Hid (w.heap.size ≤ R) := Lib.hid (Nat.le_of_eq h1.out.eq.symm)
  clear h1
  go_wp2_with (refine wpList_alloc_g rfl _ rfl _ _ Tryz.zeroFd rfl ?_)
  intro X w2 h2
  have HR2 := Lib.hid (below_at' h2.out.below HR1.out); have HB2 := Lib.hid (HB1.out.trans (h2.out.below.mono HB1.out.size)); have HX2 := Lib.hid h2.out.cells
  have HXR : Hid (w.heap.size ≤ X ∧ R ≠ X) := Lib.hid (by have := h2.out.eq; have := heap_lt HR1.out; have := HB1.out.size; exact ⟨by omega, by omega⟩)
  clear h2 HR1 HB1
  go_wp2_with fail
  obtain ⟨w3, hwl⟩ : ∃ w3, w3 = w2.alloc (.cells #[.int .i64 o, .int .i64 st] 3) := ⟨_, rfl⟩
  obtain ⟨gi, hgi⟩ : ∃ gi, gi = w2.heap.size := ⟨_, rfl⟩
  rw [← hwl, ← hgi]
  have hbl : Below w2.heap.size w2 w3 := by rw [hwl]; exact below_new _ _
  have HOI : Hid (Rd w3 intE 1 (.slice (some ⟨gi, 0, none⟩) 2 2) [o, st]) := Lib.hid (by rw [hwl, hgi]; exact lit2 _ _ _)
  have HR3 := Lib.hid (below_at' hbl HR2.out); have HX3 := Lib.hid (below_at' hbl HX2.out); have HB3 := Lib.hid (HB2.out.trans (hbl.mono HB2.out.size))
  clear hwl hgi hbl HR2 HX2 HB2
  refine (hAtH (HK.out.later HB3.out) HF.out HH.out bk (by simp) HI.out HOI.out).mono ?_
  rintro e w4 ⟨a, b, c, d, hu, rfl, hb⟩
  obtain ⟨q, hq⟩ : ∃ q, q = (lookH H bk).isSome := ⟨_, rfl⟩
  rw [← hq]
  have HOR : Hid (orF o (((lookH H bk).map (·.2)).getD 0) q = v) := Lib.hid (by rw [HVV.out, hq]; exact or_at o H bk)
  clear hq
  have HU := Lib.hid hu; have HR4 := Lib.hid (below_at' hb HR3.out); have HX4 := Lib.hid (below_at' hb HX3.out); have HB4 := Lib.hid (HB3.out.trans (hb.mono HB3.out.size))
  clear hu hb HR3 HX3 HB3 HOI
  go_wp2_with (refine wpList_store_part_g rfl 33 _ _ rfl X 0 #[.int .u64 a, .int .u64 b, .int .u64 c, .int .u64 d] rfl rfl 107 _ HX4.out Tryz.sizeU (by simp) (one_u64 _ _ _ _) #[.int .u64 a, .int .u64 b, .int .u64 c, .int .u64 d, .bool false] rfl ?_)
  intro w5 hx5 k5 _
  have HX5 := Lib.hid hx5; have HR5 := Lib.hid (k5.at HR4.out (fun e => HXR.out.2 e)); have HB5 := Lib.hid (HB4.out.trans (k5.below (B := w.heap.size) (fun y hy e => by have := HXR.out; omega) HB4.out.size))
  clear hx5 k5 HX4 HR4 HB4
  go_wp2_with (refine wpList_store1_g rfl 4 _ _ rfl X 4 (.bool q) rfl rfl rfl rfl 107 _ HX5.out (by kernel_rfl) (by simp) #[.int .u64 a, .int .u64 b, .int .u64 c, .int .u64 d, .bool q] rfl ?_)
  intro w6 hx6 k6 _
  have HX6 := Lib.hid hx6; have HR6 := Lib.hid (k6.at HR5.out (fun e => HXR.out.2 e)); have HB6 := Lib.hid (HB5.out.trans (k6.below (B := w.heap.size) (fun y hy e => by have := HXR.out; omega) HB5.out.size))
  clear hx6 k6 HX5 HR5 HB5
  go_wp2_with (refine wpList_load_row rfl 107 _ rfl X rfl 107 _ _ _ HX6.out Tryz.underlying107 rfl Tryz.sizeFd ?_)
  refine (or_any HU.out q o _).mono ?_
  rw [show orF o _ q = v from HOR.out]
  rintro e w7 ⟨a2, b2, c2, d2, hu, rfl, hb⟩
  have HU2 := Lib.hid hu; have HR7 := Lib.hid (below_at' hb HR6.out); have HB7 := Lib.hid (HB6.out.trans (hb.mono HB6.out.size))
  clear hu hb HR6 HB6
  go_wp2_with (refine wpList_store_row_g (t := 33) (old := u0) rfl 33 _ _ rfl R #[.int .u64 a2, .int .u64 b2, .int .u64 c2, .int .u64 d2] rfl rfl HR7.out Tryz.sizeU rfl (one_u64 _ _ _ _) ?_)
  intro w8 hx k8 _
  have HX8 := Lib.hid hx
  have HB8 : Hid (Below w.heap.size w w8) := Lib.hid (HB7.out.trans (k8.below (B := w.heap.size) (fun x hx e => by have := HRW.out; omega) HB7.out.size))
  clear hx k8
  go_wp2_with fail
  exact bodyPost_ret (results_cell_row rfl _ _ _ _ _ _ _ rfl HX8.out Tryz.underlying33 rfl Tryz.sizeU) rfl ⟨_, _, _, _, HU2.out, rfl, HB8.out⟩

set_option maxHeartbeats 4000000 in
set_option maxRecDepth 100000 in
theorem mChg_any {w : World} {x : Option Addr} {m : Bool} {f : Txt → Option Txt} (h : Look w x m f) (hf : FitF f) {o st : Int} {H : List (Int × Nat)} (hH : HisI f 13 [o, st] H) (ho : -9223372036854775808 ≤ o ∧ o < 9223372036854775808) (hst : -9223372036854775808 ≤ st ∧ st < 9223372036854775808) :
    Calls Tryz.prog 27 #[.pointer x, .int .i64 o, .int .i64 st] w (Ret w (.int .i64 H.length)) := by
  have HK := Lib.hid h; have HF := Lib.hid hf; have HH := Lib.hid hH; have HI : Hid (I64s [o, st]) := Lib.hid (I64s.two ho hst)
  clear h hf hH ho hst
  go_enter Tryz.func27, Tryz.ntmps27
  go_wp2_with fail
  obtain ⟨w3, hwl⟩ : ∃ w3, w3 = w.alloc (.cells #[.int .i64 o, .int .i64 st] 3) := ⟨_, rfl⟩
  obtain ⟨gi, hgi⟩ : ∃ gi, gi = w.heap.size := ⟨_, rfl⟩
  rw [← hwl, ← hgi]
  have hbl : Below w.heap.size w w3 := by rw [hwl]; exact below_new _ _
  have HOI : Hid (Rd w3 intE 1 (.slice (some ⟨gi, 0, none⟩) 2 2) [o, st]) := Lib.hid (by rw [hwl, hgi]; exact lit2 _ _ _)
  have HB3 := Lib.hid hbl
  clear hwl hgi hbl
  refine (hlen_any (HK.out.later HB3.out) HF.out 13 (by simp) HI.out HOI.out).mono ?_
  rintro e w4 ⟨rfl, hb⟩
  rw [HH.out.cnt]
  have HB4 := Lib.hid (HB3.out.trans (hb.mono HB3.out.size))
  clear hb
  go_wp2_with fail
  go_ret
  exact ⟨rfl, HB4.out⟩
end
section
open Go.RowKit

theorem results_three {fn : Func} {p q u : Tmp} {ty : TypeId} (h : fn.results = #[.cell p ty, .cell q ty, .tmp u]) (tmps : Array Value) (P : Program) (w : World) :
    (results fn tmps).run P w =
      ((asAddr (tmps.getD p undef)).run P w).andThen fun a w₁ => ((loadVar ty a).run P w₁).andThen fun v w₂ => ((asAddr (tmps.getD q undef)).run P w₂).andThen fun a' w₃ => ((loadVar ty a').run P w₃).andThen fun v' w₄ => .ok (.tuple #[v, v', tmps.getD u undef]) w₄ := by
  simp only [results, h]
  simp [Sem.run_bind, Result.andThen]
theorem res_three {P : Program} {fn : Func} {p q u : Tmp} {ty : TypeId} (h : fn.results = #[.cell p ty, .cell q ty, .tmp u]) (tmps : Array Value) (w : World) (g g' : Nat) (t t' : TypeId) (cs cs' : Array Value) (fr fr' : Nat × Nat) (d : TypeDesc)
    (hp : tmps.getD p undef = .pointer (some ⟨g, 0, none⟩)) (hg : w.heap[g]? = some (.cells cs t fr)) (hp' : tmps.getD q undef = .pointer (some ⟨g', 0, none⟩)) (hg' : w.heap[g']? = some (.cells cs' t' fr'))
    (hu : P.underlying ty = some d) (hd : (match d with | .struct _ | .array _ _ => true | _ => false) = true) (hi : (P.info? ty).map (·.size) = some cs.size) (hi' : (P.info? ty).map (·.size) = some cs'.size) (v : Value) (hv : tmps.getD u undef = v) :
    (results fn tmps).run P w = .ok (.tuple #[.agg cs, .agg cs', v]) w := by
  subst hv
  rw [results_three h, hp, hp']
  have h1 := run_loadVar_row (P := P) w g t ty cs fr d hg hu hd hi
  have h2 := run_loadVar_row (P := P) w g' t' ty cs' fr' d hg' hu hd hi'
  simp [asAddr, h1, h2, Result.andThen]
/-- A cut's error. -/
def cutE (o st : Int) (H : List (Int × Nat)) (bk : Int) (m : Nat) : Int := if o < 1 ∨ st < 1 then 2 else if ¬ m ≤ maxH o H then 13 else hisE H bk
def cutS (s : PS) (o st : Int) (H : List (Int × Nat)) (bk : Int) (m : Nat) : PS := if o < 1 ∨ st < 1 ∨ ¬ m ≤ maxH o H then s else hpushS s 13 [o, st] bk (maxH o H - m)
def CutRet (w : World) (g : Nat) (F : List Nat) (s' : PS) (n1 n2 : Nat) (er : Int) (e : Ending) (w' : World) : Prop :=
  ∃ a b c d a' b' c' d' : Int, UIs a b c d n1 ∧ UIs a' b' c' d' n2 ∧ StRet w g F s' (.tuple #[.agg #[.int .u64 a, .int .u64 b, .int .u64 c, .int .u64 d], .agg #[.int .u64 a', .int .u64 b', .int .u64 c', .int .u64 d'], .int .i64 er]) e w'
theorem Liv.lk {w0 w : World} {F0 : List Nat} {g : Nat} {s : PS} (L : Liv w0 F0 w g s) : Look w (some ⟨g, 0, none⟩) true (getP s.t) := by
  obtain ⟨F, h1, _⟩ := L; exact Look.of_st h1
theorem liv_uu {w0 w w' : World} {F0 : List Nat} {g : Nat} {s : PS} {X : Nat} {cs : Array Value} (L : Liv w0 F0 w g s) (hX : w.heap[X]? = some (.cells cs 33 (0, 0))) (hk : Keep (· = X) w w') (hw : w0.heap.size ≤ X) : Liv w0 F0 w' g s := by
  obtain ⟨F, h1, h2, h3⟩ := L
  refine ⟨F, h1.keep hk fun x hx hu => ?_, h2.trans (hk.mono fun y _ hy => .inr (hy ▸ hw)), h3⟩
  obtain ⟨o, ho, k1⟩ := h1.kind x hx
  subst hu
  rw [hX] at ho
  cases ho
  have k2 : stoKind (.cells cs 33 (0, 0)) = false := rfl
  rw [k2] at k1; cases k1
theorem maxH_lt {f : Txt → Option Txt} {t : Int} {ids : List Int} {H : List (Int × Nat)} (h : HisI f t ids H) (o : Int) : maxH o H < uMax := by
  unfold maxH
  split
  · unfold uOne uMax; omega
  · exact h.lastN_lt

set_option maxHeartbeats 8000000 in
set_option maxRecDepth 100000 in
theorem mCut_any {w : World} {g : Nat} {s : PS} {F : List Nat} (h : St w g s F) (hz : s.sz < 1000000000000) (hf : Fit s) {o st bk : Int} {H : List (Int × Nat)} (hH : 1 ≤ o → 1 ≤ st → HisI (getP s.t) 13 [o, st] H) (hn : H.length ≤ 1000000)
    (ho : -9223372036854775808 ≤ o ∧ o < 9223372036854775808) (hst : -9223372036854775808 ≤ st ∧ st < 9223372036854775808) (hbk : -9223372036854775808 ≤ bk ∧ bk < 9223372036854775808) {a b c d : Int} {m : Nat} (hu : UIs a b c d m) :
    Calls Tryz.prog 21 #[.pointer (some ⟨g, 0, none⟩), .int .i64 o, .int .i64 st, .int .i64 bk, .agg #[.int .u64 a, .int .u64 b, .int .u64 c, .int .u64 d]] w (CutRet w g F (cutS s o st H bk m) (if cutE o st H bk m = 0 then maxH o H else 0) (if cutE o st H bk m = 0 then maxH o H - m else 0) (cutE o st H bk m)) := by
  have L := Lib.hid (Liv.start h); have HZ := Lib.hid hz; have HF := Lib.hid hf; have HH := Lib.hid hH; have HN := Lib.hid hn; have HO := Lib.hid ho; have HST := Lib.hid hst; have HBK := Lib.hid hbk; have HU := Lib.hid hu
  clear h hz hf hH hn ho hst hbk hu
  obtain ⟨E, hE⟩ : ∃ E, E = cutE o st H bk m := ⟨_, rfl⟩
  obtain ⟨S', hS'⟩ : ∃ S', S' = cutS s o st H bk m := ⟨_, rfl⟩
  obtain ⟨N1, hN1⟩ : ∃ N, N = if E = 0 then maxH o H else 0 := ⟨_, rfl⟩
  obtain ⟨N2, hN2⟩ : ∃ N, N = if E = 0 then maxH o H - m else 0 := ⟨_, rfl⟩
  rw [← hE, ← hS', ← hN1, ← hN2]
  have HE := Lib.hid hE; have HS' := Lib.hid hS'; have HN1 := Lib.hid hN1; have HN2 := Lib.hid hN2
  clear hE hS' hN1 hN2
  have fail0 : E ≠ 0 → N1 = 0 ∧ N2 = 0 := fun h => ⟨by rw [HN1.out, if_neg h], by rw [HN2.out, if_neg h]⟩
  have FAIL := Lib.hid fail0
  clear fail0
  go_enter Tryz.func21, Tryz.ntmps21
  go_wp2_with (refine wpList_alloc_g rfl _ rfl _ _ Tryz.zeroUz rfl ?_)
  obtain ⟨w1, hw1⟩ : ∃ w1, w1 = w.alloc (.cells #[.int .u64 a, .int .u64 b, .int .u64 c, .int .u64 d] 33) := ⟨_, rfl⟩
  obtain ⟨X, hX⟩ : ∃ X, X = w.heap.size := ⟨_, rfl⟩
  rw [← hw1, ← hX]
  have hb1 : Below w.heap.size w w1 := by rw [hw1]; exact below_new _ _
  have HX1 : Hid (w1.heap[X]? = some (.cells #[.int .u64 a, .int .u64 b, .int .u64 c, .int .u64 d] 33 (0, 0))) := Lib.hid (by rw [hw1, hX]; exact heap_alloc_new _ _)
  have L1 := Lib.hid (L.out.later hb1); have Z1 : Hid (w.heap.size ≤ w1.heap.size) := Lib.hid hb1.size
  clear hw1 hX hb1 L
  intro P w2 h2
  have HP2 := Lib.hid h2.out.cells; have HX2 := Lib.hid (below_at' h2.out.below HX1.out); have L2 := Lib.hid (L1.out.later h2.out.below); have HPW : Hid (w.heap.size ≤ P) := Lib.hid (by have := h2.out.eq; have := Z1.out; omega)
  have HPX : Hid (P ≠ X) := Lib.hid (by have := heap_lt HX1.out; have := h2.out.eq; omega)
  have Z2 : Hid (w.heap.size ≤ w2.heap.size) := Lib.hid (Nat.le_trans Z1.out h2.out.below.size)
  clear h2 HX1 L1 Z1
  go_wp2_with (refine wpList_alloc_g rfl _ rfl _ _ Tryz.zeroUz rfl ?_)
  intro Q w3 h3
  have HQ3 := Lib.hid h3.out.cells; have HP3 := Lib.hid (below_at' h3.out.below HP2.out); have HX3 := Lib.hid (below_at' h3.out.below HX2.out); have L3 := Lib.hid (L2.out.later h3.out.below)
  have HQW : Hid (w.heap.size ≤ Q ∧ Q ≠ P ∧ Q ≠ X) := Lib.hid (by have := h3.out.eq; have := Z2.out; have := heap_lt HP2.out; have := heap_lt HX2.out; exact ⟨by omega, by omega, by omega⟩)
  have Z3 : Hid (w.heap.size ≤ w3.heap.size) := Lib.hid (Nat.le_trans Z2.out h3.out.below.size)
  clear h3 HP2 HX2 L2 Z2
  by_cases hk : o < 1 ∨ st < 1
  · have HE2 : Hid (E = 2) := Lib.hid (by rw [HE.out]; unfold cutE; rw [if_pos hk])
    have HSS : Hid (S' = s) := Lib.hid (by rw [HS'.out]; unfold cutS; rw [if_pos (by rcases hk with h | h; exact .inl h; exact .inr (.inl h))])
    have HF0 := Lib.hid (FAIL.out (by rw [HE2.out]; decide))
    have hk2 : o < 1 ∨ (¬ o < 1 ∧ st < 1) := by omega
    clear hk
    rcases hk2 with g1 | ⟨g1, g2⟩
    · go_wp2_with (first
        | (refine wpList_store_row_g (t := 33) (old := u0) rfl 33 _ _ rfl P u0 rfl rfl HP3.out Tryz.sizeU rfl (one_u64 _ _ _ _) ?_))
      intro wx hx kx _
      have HPx := Lib.hid hx; have HQx := Lib.hid (kx.at HQ3.out (fun e => HQW.out.2.1 e)); have Lx := Lib.hid (liv_uu L3.out HP3.out kx HPW.out)
      clear hx kx
      go_wp2_with (first
        | (refine wpList_store_row_g (t := 33) (old := u0) rfl 33 _ _ rfl Q u0 rfl rfl HQx.out Tryz.sizeU rfl (one_u64 _ _ _ _) ?_))
      intro wy hy ky _
      have HQy := Lib.hid hy; have HPy := Lib.hid (ky.at HPx.out (fun e => HQW.out.2.1 e.symm)); have Ly := Lib.hid (liv_uu Lx.out HQx.out ky HQW.out.1)
      clear hy ky
      go_wp2_with fail
      exact bodyPost_ret (res_three rfl _ _ P Q _ _ u0 u0 _ _ _ rfl HPy.out rfl HQy.out Tryz.underlying33 rfl Tryz.sizeU Tryz.sizeU _ rfl) rfl ⟨0, 0, 0, 0, 0, 0, 0, 0, by rw [HF0.out.1]; exact UIs.zero, by rw [HF0.out.2]; exact UIs.zero, by rw [HSS.out, HE2.out]; exact Ly.out.ret⟩
    · go_wp2_with (first
        | (refine wpList_store_row_g (t := 33) (old := u0) rfl 33 _ _ rfl P u0 rfl rfl HP3.out Tryz.sizeU rfl (one_u64 _ _ _ _) ?_))
      intro wx hx kx _
      have HPx := Lib.hid hx; have HQx := Lib.hid (kx.at HQ3.out (fun e => HQW.out.2.1 e)); have Lx := Lib.hid (liv_uu L3.out HP3.out kx HPW.out)
      clear hx kx
      go_wp2_with (first
        | (refine wpList_store_row_g (t := 33) (old := u0) rfl 33 _ _ rfl Q u0 rfl rfl HQx.out Tryz.sizeU rfl (one_u64 _ _ _ _) ?_))
      intro wy hy ky _
      have HQy := Lib.hid hy; have HPy := Lib.hid (ky.at HPx.out (fun e => HQW.out.2.1 e.symm)); have Ly := Lib.hid (liv_uu Lx.out HQx.out ky HQW.out.1)
      clear hy ky
      go_wp2_with fail
      exact bodyPost_ret (res_three rfl _ _ P Q _ _ u0 u0 _ _ _ rfl HPy.out rfl HQy.out Tryz.underlying33 rfl Tryz.sizeU Tryz.sizeU _ rfl) rfl ⟨0, 0, 0, 0, 0, 0, 0, 0, by rw [HF0.out.1]; exact UIs.zero, by rw [HF0.out.2]; exact UIs.zero, by rw [HSS.out, HE2.out]; exact Ly.out.ret⟩
  have hk1 : ¬ o < 1 := fun h => hk (.inl h)
  have hk2 : ¬ st < 1 := fun h => hk (.inr h)
  have hH := HH.out (by omega) (by omega)
  have HK : Hid (KeyOk 13 [o, st]) := Lib.hid ⟨by decide, by decide, fun x hx => by
    simp only [List.mem_cons, List.not_mem_nil, or_false] at hx
    have h1 := HO.out; have h2 := HST.out
    rcases hx with rfl | rfl <;> omega⟩
  have HHI := Lib.hid hH
  have HNK := Lib.hid hk
  clear hk hH
  go_wp2_with fail
  clear hk1 hk2
  refine (mMax_any L3.out.lk HF.out.f HHI.out HN.out HO.out HST.out).mono ?_
  obtain ⟨fv, hfv⟩ : ∃ v, v = maxH o H := ⟨_, rfl⟩
  rw [← hfv]
  have HFV := Lib.hid hfv
  clear hfv
  rintro e w4 ⟨fa, fb, fc, fd, hu1, rfl, hb⟩
  have HUF := Lib.hid hu1; have L4 := Lib.hid (L3.out.later hb); have HX4 := Lib.hid (below_at' hb HX3.out); have HP4 := Lib.hid (below_at' hb HP3.out); have HQ4 := Lib.hid (below_at' hb HQ3.out); have Z4 : Hid (w.heap.size ≤ w4.heap.size) := Lib.hid (Nat.le_trans Z3.out hb.size)
  clear hu1 hb L3 HX3 HP3 HQ3 Z3
  go_wp2_with (refine wpList_alloc_g rfl _ rfl _ _ Tryz.zeroUz rfl ?_)
  intro A w5 h5
  go_wp2_with (refine wpList_store_row_g (t := 33) (old := u0) rfl 33 _ _ rfl A #[.int .u64 fa, .int .u64 fb, .int .u64 fc, .int .u64 fd] rfl rfl h5.out.cells Tryz.sizeU rfl (one_u64 _ _ _ _) ?_)
  intro w6 hx6 k6 z6
  have hb46 : Below w4.heap.size w4 w6 := h5.out.below.trans (k6.below (B := w4.heap.size) (fun x hx e => by have := h5.out.eq; omega) h5.out.below.size)
  have HA6 := Lib.hid hx6; have L6 := Lib.hid (L4.out.later hb46); have HX6 := Lib.hid (below_at' hb46 HX4.out); have HP6 := Lib.hid (below_at' hb46 HP4.out); have HQ6 := Lib.hid (below_at' hb46 HQ4.out); have Z6 : Hid (w.heap.size ≤ w6.heap.size) := Lib.hid (Nat.le_trans Z4.out hb46.size)
  have HAD : Hid (w.heap.size ≤ A ∧ A ≠ P ∧ A ≠ Q) := Lib.hid (by have := h5.out.eq; have := Z4.out; have := heap_lt HP4.out; have := heap_lt HQ4.out; exact ⟨by omega, by omega, by omega⟩)
  clear z6 h5 hx6 k6 hb46 L4 HX4 HP4 HQ4 Z4
  go_wp2_with (first
    | (refine wpList_load_row rfl 33 _ rfl A rfl 33 _ _ _ HA6.out Tryz.underlying33 rfl Tryz.sizeU ?_)
    | (refine wpList_load_row rfl 33 _ rfl X rfl 33 _ _ _ HX6.out Tryz.underlying33 rfl Tryz.sizeU ?_))
  refine (usub_any HUF.out HU.out _).mono ?_
  obtain ⟨ok, hok⟩ : ∃ q, q = decide (m ≤ fv) := ⟨_, rfl⟩
  rw [← hok]
  have HOK := Lib.hid hok
  clear hok
  rintro e w7 ⟨ta, tb, tc, td, hu2, rfl, hb⟩
  have HUT := Lib.hid hu2; have HA7 := Lib.hid (below_at' hb HA6.out); have L7 := Lib.hid (L6.out.later hb); have HP7 := Lib.hid (below_at' hb HP6.out); have HQ7 := Lib.hid (below_at' hb HQ6.out); have Z7 : Hid (w.heap.size ≤ w7.heap.size) := Lib.hid (Nat.le_trans Z6.out hb.size)
  clear hu2 hb HA6 L6 HX6 HP6 HQ6 Z6
  go_wp2_with (refine wpList_alloc_g rfl _ rfl _ _ Tryz.zeroUz rfl ?_)
  intro B w8 h8
  go_wp2_with (refine wpList_store_row_g (t := 33) (old := u0) rfl 33 _ _ rfl B #[.int .u64 ta, .int .u64 tb, .int .u64 tc, .int .u64 td] rfl rfl h8.out.cells Tryz.sizeU rfl (one_u64 _ _ _ _) ?_)
  intro w9 hx9 k9 z9
  have hb79 : Below w7.heap.size w7 w9 := h8.out.below.trans (k9.below (B := w7.heap.size) (fun x hx e => by have := h8.out.eq; omega) h8.out.below.size)
  have HB9 := Lib.hid hx9; have HA9 := Lib.hid (below_at' hb79 HA7.out); have L9 := Lib.hid (L7.out.later hb79); have HP9 := Lib.hid (below_at' hb79 HP7.out); have HQ9 := Lib.hid (below_at' hb79 HQ7.out)
  have HBD : Hid (w.heap.size ≤ B ∧ B ≠ P ∧ B ≠ Q) := Lib.hid (by have := h8.out.eq; have := Z7.out; have := heap_lt HP7.out; have := heap_lt HQ7.out; exact ⟨by omega, by omega, by omega⟩)
  clear z9 h8 hx9 k9 hb79 HA7 L7 HP7 HQ7 Z7
  cases ok with
  | false =>
    have hno : ¬ m ≤ fv := of_decide_eq_false HOK.out.symm
    have HE2 : Hid (E = 13) := Lib.hid (by rw [HE.out]; unfold cutE; rw [if_neg HNK.out, if_pos (by rw [← HFV.out]; exact hno)])
    have HSS : Hid (S' = s) := Lib.hid (by rw [HS'.out]; unfold cutS; rw [if_pos (.inr (.inr (by rw [← HFV.out]; exact hno)))])
    have HF0 := Lib.hid (FAIL.out (by rw [HE2.out]; decide))
    clear hno
    go_wp2_with (first
      | (refine wpList_store_row_g (t := 33) (old := u0) rfl 33 _ _ rfl P u0 rfl rfl HP9.out Tryz.sizeU rfl (one_u64 _ _ _ _) ?_))
    intro wx hx kx _
    have HPx := Lib.hid hx; have HQx := Lib.hid (kx.at HQ9.out (fun e => HQW.out.2.1 e)); have Lx := Lib.hid (liv_uu L9.out HP9.out kx HPW.out)
    clear hx kx
    go_wp2_with (first
      | (refine wpList_store_row_g (t := 33) (old := u0) rfl 33 _ _ rfl Q u0 rfl rfl HQx.out Tryz.sizeU rfl (one_u64 _ _ _ _) ?_))
    intro wy hy ky _
    have HQy := Lib.hid hy; have HPy := Lib.hid (ky.at HPx.out (fun e => HQW.out.2.1 e.symm)); have Ly := Lib.hid (liv_uu Lx.out HQx.out ky HQW.out.1)
    clear hy ky
    go_wp2_with fail
    exact bodyPost_ret (res_three rfl _ _ P Q _ _ u0 u0 _ _ _ rfl HPy.out rfl HQy.out Tryz.underlying33 rfl Tryz.sizeU Tryz.sizeU _ rfl) rfl ⟨0, 0, 0, 0, 0, 0, 0, 0, by rw [HF0.out.1]; exact UIs.zero, by rw [HF0.out.2]; exact UIs.zero, by rw [HSS.out, HE2.out]; exact Ly.out.ret⟩
  | true =>
    have hyes : m ≤ fv := of_decide_eq_true HOK.out.symm
    have hE : E = hisE H bk := by rw [HE.out]; unfold cutE; rw [if_neg HNK.out, if_neg (fun h => h (by rw [← HFV.out]; exact hyes))]
    have hSS : S' = hpushS s 13 [o, st] bk (fv - m) := by
      rw [HS'.out]; unfold cutS
      rw [if_neg, HFV.out]
      rintro (h | h | h)
      · exact HNK.out (.inl h)
      · exact HNK.out (.inr h)
      · exact h (by rw [← HFV.out]; exact hyes)
    have HEH := Lib.hid hE; have HSH := Lib.hid hSS
    have HUT2 : Hid (UIs ta tb tc td (fv - m)) := HUT
    clear hyes hE hSS
    have lb : (w9.alloc (.cells #[.int .i64 o, .int .i64 st] 3)).heap[B]? = some (.cells #[.int .u64 ta, .int .u64 tb, .int .u64 tc, .int .u64 td] 33 (0, 0)) := below_at' (below_new _ _) HB9.out
    have HLB := Lib.hid lb
    clear lb
    go_wp2_with (refine wpList_load_row rfl 33 _ rfl B rfl 33 _ _ _ HLB.out Tryz.underlying33 rfl Tryz.sizeU ?_)
    obtain ⟨wa, hwl⟩ : ∃ wa, wa = w9.alloc (.cells #[.int .i64 o, .int .i64 st] 3) := ⟨_, rfl⟩
    obtain ⟨gi, hgi⟩ : ∃ gi, gi = w9.heap.size := ⟨_, rfl⟩
    rw [← hwl, ← hgi]
    have hbl : Below w9.heap.size w9 wa := by rw [hwl]; exact below_new _ _
    have HOI : Hid (Own wa 0 3 intE 1 (.slice (some ⟨gi, 0, none⟩) 2 2) [o, st]) := Lib.hid (own_lit (l := [o, st]) (by rw [hwl, hgi]; exact heap_alloc_new _ _) (Nat.zero_le _) (by unfold maxLen; simp))
    have LA := Lib.hid (L9.out.later hbl); have HAa := Lib.hid (below_at' hbl HA9.out); have HBa := Lib.hid (below_at' hbl HB9.out); have HPa := Lib.hid (below_at' hbl HP9.out); have HQa := Lib.hid (below_at' hbl HQ9.out)
    clear hwl hgi hbl L9 HA9 HB9 HP9 HQ9 HLB
    refine (LA.out.call fun F h => hpush_any h HZ.out HF.out 13 (by simp) (I64s.two HO.out HST.out) HOI.out HBK.out HUT2.out (by rw [HHI.out.cnt]; have := HN.out; omega)).mono ?_
    rintro e wb ⟨rfl, LB, hoth⟩
    rw [HHI.out.pushE HK.out bk, ← HEH.out]
    have LB := Lib.hid LB; have HAb := Lib.hid (hoth.2 _ _ HAa.out rfl rfl); have HBb := Lib.hid (hoth.2 _ _ HBa.out rfl rfl); have HPb := Lib.hid (hoth.2 _ _ HPa.out rfl rfl); have HQb := Lib.hid (hoth.2 _ _ HQa.out rfl rfl)
    clear hoth LA HAa HBa HPa HQa HOI
    by_cases hz : E = 0
    · have HN1E : Hid (N1 = fv ∧ N2 = fv - m) := Lib.hid (by rw [HN1.out, HN2.out, if_pos hz, if_pos hz, HFV.out]; exact ⟨rfl, rfl⟩)
      subst hz
      obtain ⟨wz, hwz⟩ : ∃ wz, wz = wb.drew := ⟨_, rfl⟩
      have hbz : Below wb.heap.size wb wz := by rw [hwz]; exact (Below.refl _ _).drew
      have L0 := Lib.hid (LB.out.later hbz); have HP0 := Lib.hid (below_at' hbz HPb.out); have HQ0 := Lib.hid (below_at' hbz HQb.out)
      have hS : wz.heap[A]? = some (.cells #[.int .u64 fa, .int .u64 fb, .int .u64 fc, .int .u64 fd] 33 (0, 0)) ∧ wz.heap[B]? = some (.cells #[.int .u64 ta, .int .u64 tb, .int .u64 tc, .int .u64 td] 33 (0, 0)) := ⟨below_at' hbz HAb.out, below_at' hbz HBb.out⟩
      clear hbz LB HAb HBb HPb HQb
      go_wp2_with fail
      refine wp_region_till (fun w' => w'.heap[A]? = some (.cells #[.int .u64 fa, .int .u64 fb, .int .u64 fc, .int .u64 fd] 33 (0, 0)) ∧ w'.heap[B]? = some (.cells #[.int .u64 ta, .int .u64 tb, .int .u64 tc, .int .u64 td] 33 (0, 0))) 5 5 (by kernel_rfl) rfl ?_
      rw [← hwz]
      clear hwz
      refine till_take 0 (some 51) rfl rfl (by kernel_rfl) (by kernel_rfl) (by kernel_rfl) (by kernel_rfl) (by kernel_rfl) (by kernel_rfl) (fun _ _ _ h => h) (yields_load (by rfl) 33 _ rfl (.pointer (some ⟨A, 0, none⟩)) rfl (.agg #[.int .u64 fa, .int .u64 fb, .int .u64 fc, .int .u64 fd]) (fun w' hS' => load_heap hS'.1 Tryz.underlying33 rfl Tryz.sizeU)) hS ?_
      go_frame
      refine till_take 1 (some 52) rfl rfl (by kernel_rfl) (by kernel_rfl) (by kernel_rfl) (by kernel_rfl) (by kernel_rfl) (by kernel_rfl) (fun _ _ _ h => h) (yields_load (by rfl) 33 _ rfl (.pointer (some ⟨B, 0, none⟩)) rfl (.agg #[.int .u64 ta, .int .u64 tb, .int .u64 tc, .int .u64 td]) (fun w' hS' => load_heap hS'.2 Tryz.underlying33 rfl Tryz.sizeU)) hS ?_
      go_frame
      refine till_one 2 rfl (by kernel_rfl) fun K hK => ?_
      simp only [List.getElem_toArray, List.getElem_cons_succ, List.getElem_cons_zero]
      rw [if_pos (by rfl)]
      refine wp_store_row_g (t := 33) (old := u0) 33 _ _ rfl P #[.int .u64 fa, .int .u64 fb, .int .u64 fc, .int .u64 fd] rfl rfl HP0.out Tryz.sizeU rfl (one_u64 _ _ _ _) ?_
      intro wt1 hx8 k8 _
      have VHP1 := Lib.hid hx8
      have hS1 := And.intro (k8.at hS.1 (fun e => HAD.out.2.1 e)) (k8.at hS.2 (fun e => HBD.out.2.1 e))
      have L1 := Lib.hid (liv_uu L0.out HP0.out k8 HPW.out)
      have HQ1 := Lib.hid (k8.at HQ0.out (fun e => HQW.out.2.1 e))
      refine hK _ _ (fun _ _ => hS1) ?_
      clear hK hS hx8 k8 L0 HP0 HQ0
      have hS := hS1
      clear hS1
      refine till_one 3 rfl (by kernel_rfl) fun K hK => ?_
      simp only [List.getElem_toArray, List.getElem_cons_succ, List.getElem_cons_zero]
      rw [if_pos (by rfl)]
      refine wp_store_row_g (t := 33) (old := u0) 33 _ _ rfl Q #[.int .u64 ta, .int .u64 tb, .int .u64 tc, .int .u64 td] rfl rfl HQ1.out Tryz.sizeU rfl (one_u64 _ _ _ _) ?_
      intro wt2 hx8 k8 _
      have VHQ2 := Lib.hid hx8
      have hS1 := And.intro (k8.at hS.1 (fun e => HAD.out.2.2 e)) (k8.at hS.2 (fun e => HBD.out.2.2 e))
      have L2 := Lib.hid (liv_uu L1.out HQ1.out k8 HQW.out.1)
      have VHP2 := Lib.hid (k8.at VHP1.out (fun e => HQW.out.2.1 e.symm))
      refine hK _ _ (fun _ _ => hS1) ?_
      clear hK hS hx8 k8 L1 HQ1 VHP1
      have hS := hS1
      clear hS1
      refine till_take 4 (some 12) rfl rfl (by kernel_rfl) (by kernel_rfl) (by kernel_rfl) (by kernel_rfl) (by kernel_rfl) (by kernel_rfl) (fun _ _ _ h => h) (.inl ⟨by rfl, fun w' _ => (by go_simp; rfl)⟩) hS ?_
      go_frame
      refine till_done (by kernel_rfl) ?_ _
      clear hS
      go_wp2_with fail
      exact bodyPost_ret (res_three rfl _ _ P Q _ _ #[.int .u64 fa, .int .u64 fb, .int .u64 fc, .int .u64 fd] #[.int .u64 ta, .int .u64 tb, .int .u64 tc, .int .u64 td] _ _ _ rfl VHP2.out rfl VHQ2.out Tryz.underlying33 rfl Tryz.sizeU Tryz.sizeU _ rfl) rfl ⟨fa, fb, fc, fd, ta, tb, tc, td, by rw [HN1E.out.1]; exact HUF.out, by rw [HN1E.out.2]; exact HUT2.out, by rw [HSH.out]; exact L2.out.ret⟩
    · have HF0 := Lib.hid (FAIL.out hz)
      have hzb : (E == 0) = false := beq_eq_false_iff_ne.2 hz
      clear hz
      go_wp2_with (first
        | (refine wpList_store_row_g (t := 33) (old := u0) rfl 33 _ _ rfl P u0 rfl rfl HPb.out Tryz.sizeU rfl (one_u64 _ _ _ _) ?_))
      intro wx hx kx _
      have HPx := Lib.hid hx; have HQx := Lib.hid (kx.at HQb.out (fun e => HQW.out.2.1 e)); have Lx := Lib.hid (liv_uu LB.out HPb.out kx HPW.out)
      clear hx kx
      go_wp2_with (first
        | (refine wpList_store_row_g (t := 33) (old := u0) rfl 33 _ _ rfl Q u0 rfl rfl HQx.out Tryz.sizeU rfl (one_u64 _ _ _ _) ?_))
      intro wy hy ky _
      have HQy := Lib.hid hy; have HPy := Lib.hid (ky.at HPx.out (fun e => HQW.out.2.1 e.symm)); have Ly := Lib.hid (liv_uu Lx.out HQx.out ky HQW.out.1)
      clear hy ky
      go_wp2_with fail
      exact bodyPost_ret (res_three rfl _ _ P Q _ _ u0 u0 _ _ _ rfl HPy.out rfl HQy.out Tryz.underlying33 rfl Tryz.sizeU Tryz.sizeU _ rfl) rfl ⟨0, 0, 0, 0, 0, 0, 0, 0, by rw [HF0.out.1]; exact UIs.zero, by rw [HF0.out.2]; exact UIs.zero, by rw [HSH.out]; exact Ly.out.ret⟩
end
section
open Go.RowKit

/-- tallagelaw22.Cut, read. -/
structure Act22 where
  o : Int
  st : Int
  b : Int
  m : Nat
def act22E (a : Act22) : List Value := [.int .i64 a.o, .int .i64 a.st, .int .i64 a.b, .int .u64 (uw0 a.m), .int .u64 (uw1 a.m), .int .u64 (uw2 a.m), .int .u64 (uw3 a.m)]
theorem act22E_len (a : Act22) : (act22E a).length = 7 := rfl
structure Good22 (w : World) (a : Act22) : Prop where
  b_o : -9223372036854775808 ≤ a.o ∧ a.o < 9223372036854775808
  b_st : -9223372036854775808 ≤ a.st ∧ a.st < 9223372036854775808
  b_b : -9223372036854775808 ≤ a.b ∧ a.b < 9223372036854775808
  lt_m : a.m < uMax
theorem Good22.later {w w' : World} {a : Act22} (h : Good22 w a) (_hb : Below w.heap.size w w') : Good22 w' a := ⟨h.b_o, h.b_st, h.b_b, h.lt_m⟩
theorem Rd.act22 {w : World} {ad : Option Addr} {n cap : Nat} {t : List Act22} (h : Rd w act22E 7 (.slice ad n cap) t) (i : Nat) (hi : i < t.length) :
    ∃ g off, ad = some ⟨g, off, none⟩ ∧ g < w.heap.size ∧ w.cell? ⟨g, off + i * 7, none⟩ = some (.int .i64 t[i].o) ∧ w.cell? ⟨g, off + i * 7 + 1, none⟩ = some (.int .i64 t[i].st) ∧ w.cell? ⟨g, off + i * 7 + 2, none⟩ = some (.int .i64 t[i].b) ∧ w.cell? ⟨g, off + i * 7 + 3, none⟩ = some (.int .u64 (uw0 t[i].m)) ∧ w.cell? ⟨g, off + i * 7 + 4, none⟩ = some (.int .u64 (uw1 t[i].m)) ∧ w.cell? ⟨g, off + i * 7 + 5, none⟩ = some (.int .u64 (uw2 t[i].m)) ∧ w.cell? ⟨g, off + i * 7 + 6, none⟩ = some (.int .u64 (uw3 t[i].m)) := by
  have hne : t ≠ [] := by rintro rfl; simp at hi
  obtain ⟨ax, cx, e3, _, _, h3⟩ := h
  obtain ⟨b, off, e4, hb, h5⟩ := h3 hne
  exact ⟨b, off, (Value.slice.inj e3).1.trans e4, hb, h5 i hi 0 (by decide), h5 i hi 1 (by decide), h5 i hi 2 (by decide), h5 i hi 3 (by decide), h5 i hi 4 (by decide), h5 i hi 5 (by decide), h5 i hi 6 (by decide)⟩
theorem Tryz.zeroAct22 (w : World) : (zeroValue 48).run Tryz.prog w = .ok (.agg #[.int .i64 0, .int .i64 0, .int .i64 0, .int .u64 0, .int .u64 0, .int .u64 0, .int .u64 0]) w := by kernel_rfl
theorem Tryz.sizeAct22 : (Tryz.prog.info? 48).map (·.size) = some 7 := by kernel_rfl
theorem litA22 (w : World) (a : Act22) : Rd (w.alloc (.cells #[.int .i64 a.o, .int .i64 a.st, .int .i64 a.b, .int .u64 (uw0 a.m), .int .u64 (uw1 a.m), .int .u64 (uw2 a.m), .int .u64 (uw3 a.m)] 48)) act22E 7 (.slice (some ⟨w.heap.size, 0, none⟩) 1 1) [a] := by
  refine ⟨_, 1, rfl, Nat.le_refl _, (by unfold maxLen; decide), fun _ => ⟨_, 0, rfl, by rw [World.size_alloc]; omega, fun i hi j hj => ?_⟩⟩
  have h := heap_alloc_new w (.cells #[.int .i64 a.o, .int .i64 a.st, .int .i64 a.b, .int .u64 (uw0 a.m), .int .u64 (uw1 a.m), .int .u64 (uw2 a.m), .int .u64 (uw3 a.m)] 48)
  simp only [List.length_singleton] at hi
  obtain rfl : i = 0 := by omega
  match j, hj with
  | 0, _ => exact Lib.cell_of_heap h 0
  | 1, _ => exact Lib.cell_of_heap h 1
  | 2, _ => exact Lib.cell_of_heap h 2
  | 3, _ => exact Lib.cell_of_heap h 3
  | 4, _ => exact Lib.cell_of_heap h 4
  | 5, _ => exact Lib.cell_of_heap h 5
  | 6, _ => exact Lib.cell_of_heap h 6

/-- The greatest magnitudes fall. -/
structure Desc (H : List (Int × Nat)) : Prop where
  pw : H.Pairwise fun p q => q.2 ≤ p.2
  le : ∀ p ∈ H, p.2 ≤ uOne
theorem Desc.nil : Desc [] := ⟨List.Pairwise.nil, fun p h => by cases h⟩
theorem Desc.max_le {H : List (Int × Nat)} (h : Desc H) (o : Int) : maxH o H ≤ uOne := by
  unfold maxH
  split
  · exact Nat.le_refl _
  · unfold lastN
    cases hl : H.getLast? with
    | none => simp
    | some p => exact h.le p (last_mem hl)
theorem Desc.last {H : List (Int × Nat)} (h : Desc H) : ∀ p ∈ H, lastN H ≤ p.2 := by
  intro p hp
  have hne : H ≠ [] := by intro e; subst e; cases hp
  have h1 := List.dropLast_concat_getLast hne
  have h2 := List.getLast?_eq_some_getLast hne
  have hl : lastN H = (H.getLast hne).2 := by unfold lastN; rw [h2]; rfl
  rw [hl]
  have hpw := h.pw
  rw [← h1, List.pairwise_append] at hpw
  rw [← h1] at hp
  rcases List.mem_append.1 hp with hp | hp
  · exact hpw.2.2 p hp _ (by simp)
  · rw [List.mem_singleton.1 hp]; exact Nat.le_refl _
theorem Desc.push {H : List (Int × Nat)} (h : Desc H) {bk : Int} {m : Nat} (hm : m ≤ maxH 7 H) : Desc (hisS H bk m) := by
  have hm1 : m ≤ uOne := Nat.le_trans hm (h.max_le 7)
  have hml : ∀ p ∈ H, m ≤ p.2 := by
    intro p hp
    have h1 := h.last p hp
    have h2 : maxH 7 H = lastN H := by
      unfold maxH
      rw [if_neg]
      rintro (e | e)
      · cases e
      · have hne : H ≠ [] := by intro e2; subst e2; cases hp
        rw [List.getLast?_eq_some_getLast hne] at e; cases e
    omega
  unfold hisS
  split
  · split
    · exact ⟨List.pairwise_singleton _ _, fun p hp => by rw [List.mem_singleton.1 hp]; exact hm1⟩
    · rename_i q hq
      split
      · refine ⟨List.pairwise_append.2 ⟨h.pw.sublist (List.dropLast_sublist _), List.pairwise_singleton _ _, fun p hp r hr => ?_⟩, fun p hp => ?_⟩
        · rw [List.mem_singleton.1 hr]; exact hml p (List.dropLast_subset _ hp)
        · rcases List.mem_append.1 hp with hp | hp
          · exact h.le p (List.dropLast_subset _ hp)
          · rw [List.mem_singleton.1 hp]; exact hm1
      · split
        · exact h
        · refine ⟨List.pairwise_append.2 ⟨h.pw, List.pairwise_singleton _ _, fun p hp r hr => ?_⟩, fun p hp => ?_⟩
          · rw [List.mem_singleton.1 hr]; exact hml p hp
          · rcases List.mem_append.1 hp with hp | hp
            · exact h.le p hp
            · rw [List.mem_singleton.1 hp]; exact hm1
  · exact h
theorem pw_last {α : Type} {R : α → α → Prop} {l : List α} (h : l.Pairwise R) {p q : α} (hq : l.getLast? = some q) (hp : p ∈ l) : p = q ∨ R p q := by
  have hne : l ≠ [] := by intro e; subst e; cases hp
  have h1 := List.dropLast_concat_getLast hne
  have h2 := List.getLast?_eq_some_getLast hne
  rw [hq] at h2
  have h3 : q = l.getLast hne := Option.some.inj h2
  rw [← h1, List.pairwise_append] at h
  rw [← h1] at hp
  rcases List.mem_append.1 hp with hp | hp
  · right; rw [h3]; exact h.2.2 p hp _ (by simp)
  · left; rw [List.mem_singleton.1 hp, h3]
/-- Nor do they rise from block to block. -/
theorem Desc.at_le {H : List (Int × Nat)} (h : Desc H) {b b' : Int} (hb : b ≤ b') : atH 7 H b' ≤ atH 7 H b := by
  have hle : ∀ c, atH 7 H c ≤ uOne := by
    intro c
    unfold atH
    split
    · exact Nat.le_refl _
    · cases hl : lookH H c with
      | none => simp
      | some p => exact h.le p (List.mem_filter.1 (List.mem_of_getLast? hl)).1
  cases hl : lookH H b with
  | none =>
    have : atH 7 H b = uOne := by unfold atH; rw [hl]; simp
    rw [this]; exact hle b'
  | some p =>
    have hp := List.mem_filter.1 (List.mem_of_getLast? hl)
    have hp' : p ∈ H.filter fun q => decide (q.1 ≤ b') := List.mem_filter.2 ⟨hp.1, decide_eq_true (Int.le_trans (of_decide_eq_true hp.2) hb)⟩
    have hne : H.filter (fun q => decide (q.1 ≤ b')) ≠ [] := by intro e; rw [e] at hp'; cases hp'
    obtain ⟨q, hq⟩ : ∃ q, lookH H b' = some q := ⟨_, List.getLast?_eq_some_getLast hne⟩
    have h1 := pw_last (h.pw.sublist List.filter_sublist) hq hp'
    have e1 : atH 7 H b = p.2 := by unfold atH; rw [hl]; simp
    have e2 : atH 7 H b' = q.2 := by unfold atH; rw [hq]; simp
    rw [e1, e2]
    rcases h1 with h1 | h1
    · rw [← h1]; exact Nat.le_refl _
    · exact h1
/-- A store that a law made, with the magnitudes of one operator and one strategy. -/
structure MOne (w0 w : World) (g : Nat) (s : PS) (H : List (Int × Nat)) (n : Nat) : Prop where
  one : One w0 w g s
  fit : Fit s
  sz : s.sz ≤ 4 * n
  his : HisI (getP s.t) 13 [7, 1] H
  len : H.length ≤ n
  nobody : getP s.t (keyF 13 [0, 1]) = none
theorem MOne.later {w0 w w' : World} {g : Nat} {s : PS} {H : List (Int × Nat)} {n : Nat} (h : MOne w0 w g s H n) (hb : Below w.heap.size w w') : MOne w0 w' g s H n := ⟨h.one.later hb, h.fit, h.sz, h.his, h.len, h.nobody⟩
theorem KeyOk71 : KeyOk 13 [7, 1] := ⟨by decide, by decide, fun x hx => by simp only [List.mem_cons, List.not_mem_nil, or_false] at hx; rcases hx with rfl | rfl <;> decide⟩
theorem KeyOk01 : KeyOk 13 [0, 1] := ⟨by decide, by decide, fun x hx => by simp only [List.mem_cons, List.not_mem_nil, or_false] at hx; rcases hx with rfl | rfl <;> decide⟩
theorem MOne.hisNobody {w0 w : World} {g : Nat} {s : PS} {H : List (Int × Nat)} {n : Nat} (h : MOne w0 w g s H n) : HisI (getP s.t) 13 [0, 1] [] where
  cnt := by unfold getI valF; rw [h.nobody, show rowF ((Option.none : Option Txt).getD []) = [] from rowF_nil]; rfl
  pts := fun i h => by cases h
  ok := fun p h => by cases h
  rise := List.Pairwise.nil
theorem key01_ne (i : Int) : keyF 13 [0, 1] ≠ keyF 13 ([7, 1] ++ [i]) := by
  by_cases h : 0 ≤ i
  · intro e
    have h1 : (keyF 13 [0, 1]).length = 17 := by rw [KeyOk01.eq]; simp [numL_length]
    have h2 : (keyF 13 ([7, 1] ++ [i])).length = 25 := by
      rw [keyF_good (by decide) (by decide) (by intro x hx; simp only [List.cons_append, List.nil_append, List.mem_cons, List.not_mem_nil, or_false] at hx; omega)]; simp [numL_length]
    rw [e, h2] at h1; cases h1
  · have : keyF 13 ([7, 1] ++ [i]) = [] := by unfold keyF; rw [if_pos]; exact .inr (.inr ⟨i, by simp, by omega⟩)
    rw [this]; exact KeyOk01.ne
def cutH (H : List (Int × Nat)) (bk : Int) (m : Nat) : List (Int × Nat) := if ¬ m ≤ maxH 7 H then H else hisS H bk (maxH 7 H - m)
/-- What a cut tells. -/
def CutSays (w0 w : World) (g : Nat) (s' : PS) (H' : List (Int × Nat)) (n n1 n2 : Nat) (er : Int) (e : Ending) (w' : World) : Prop :=
  ∃ a b c d a' b' c' d' : Int, UIs a b c d n1 ∧ UIs a' b' c' d' n2 ∧ e = .returned (.tuple #[.agg #[.int .u64 a, .int .u64 b, .int .u64 c, .int .u64 d], .agg #[.int .u64 a', .int .u64 b', .int .u64 c', .int .u64 d'], .int .i64 er]) ∧ MOne w0 w' g s' H' n ∧ Oth w w'
theorem MOne.cut {w0 w : World} {g : Nat} {s : PS} {H : List (Int × Nat)} {n : Nat} (h : MOne w0 w g s H n) (hn : n ≤ 100000) {bk : Int} (hbk : -9223372036854775808 ≤ bk ∧ bk < 9223372036854775808) {a b c d : Int} {m : Nat} (hu : UIs a b c d m) :
    Calls Tryz.prog 21 #[.pointer (some ⟨g, 0, none⟩), .int .i64 7, .int .i64 1, .int .i64 bk, .agg #[.int .u64 a, .int .u64 b, .int .u64 c, .int .u64 d]] w
      (CutSays w0 w g (cutS s 7 1 H bk m) (cutH H bk m) (n + 1) (if cutE 7 1 H bk m = 0 then maxH 7 H else 0) (if cutE 7 1 H bk m = 0 then maxH 7 H - m else 0) (cutE 7 1 H bk m)) := by
  obtain ⟨F, h1, h3, h5⟩ := h.one
  have hsz := h.sz; have hln := h.len
  refine (mCut_any h1 (by omega) h.fit (fun _ _ => h.his) (by omega) (by decide) (by decide) hbk hu).mono ?_
  rintro e w' ⟨a1, b1, c1, d1, a2, b2, c2, d2, hu1, hu2, he, F', q1, q2, q3⟩
  have hcs := sz_hpush s 13 [7, 1] bk (maxH 7 H - m)
  have hcl := hisS_len H bk (maxH 7 H - m)
  refine ⟨a1, b1, c1, d1, a2, b2, c2, d2, hu1, hu2, he, ⟨⟨F', q1, fun x hx => ?_, h5.trans (q2.below (B := w0.heap.size) (fun q hq e => by have := h3 q e; omega) h5.size)⟩, ?_, ?_, ?_, ?_, ?_⟩, Oth.of_st h1 q2⟩
  · rcases q3 x hx with h | h
    · exact h3 x h
    · exact Nat.le_trans h5.size h
  all_goals
    try unfold cutS
    try unfold cutH
    by_cases hm : m ≤ maxH 7 H
    · first
        | (rw [if_neg (by rintro (e | e | e) <;> first | exact absurd e (by decide) | exact e hm)])
        | skip
      first
        | exact h.fit.hpush _ _ _ _
        | omega
        | (rw [if_neg (fun e => e hm)]; exact h.his.push KeyOk71 (by omega) bk (by have := maxH_lt h.his 7; omega))
        | (rw [if_neg (fun e => e hm)]; omega)
        | (rw [hpush_other (KeyOk01.apart KeyOk71 (by decide)) key01_ne (by rw [h.his.cnt]; omega)]; exact h.nobody)
    · first
        | (rw [if_pos (Or.inr (Or.inr hm))])
        | skip
      first
        | exact h.fit
        | omega
        | (rw [if_pos hm]; exact h.his)
        | (rw [if_pos hm]; omega)
        | exact h.nobody
theorem MOne.new {w0 w w' : World} {g : Nat} {F : List Nat} (h : St w' g PS.new F) (hF : ∀ x ∈ F, w.heap.size ≤ x) (hb : Below w.heap.size w w') (h0 : Below w0.heap.size w0 w) : MOne w0 w' g PS.new [] 0 :=
  ⟨⟨F, h, fun x hx => Nat.le_trans h0.size (hF x hx), h0.trans (hb.mono h0.size)⟩, Fit.new, by decide, HisI.new _ _, Nat.le_refl _, rfl⟩
theorem MOne.look {w0 w : World} {g : Nat} {s : PS} {H : List (Int × Nat)} {n : Nat} (h : MOne w0 w g s H n) : Look w (some ⟨g, 0, none⟩) true (getP s.t) := by
  obtain ⟨F, h1⟩ := h.one.get; exact Look.of_st h1

theorem mone_keep {w0 w w' : World} {g : Nat} {s : PS} {H : List (Int × Nat)} {n X : Nat} {cs : Array Value} (h : MOne w0 w g s H n) (hX : w.heap[X]? = some (.cells cs 33 (0, 0))) (hk : Keep (· = X) w w') (hw : w0.heap.size ≤ X) : MOne w0 w' g s H n := by
  obtain ⟨F, h1, h2, h3⟩ := h.one
  refine ⟨⟨F, h1.keep hk fun x hx hu => ?_, h2, h3.trans (hk.below (B := w0.heap.size) (fun y hy e => by omega) h3.size)⟩, h.fit, h.sz, h.his, h.len, h.nobody⟩
  obtain ⟨o, ho, k1⟩ := h1.kind x hx
  subst hu
  rw [hX] at ho
  cases ho
  have k2 : stoKind (.cells cs 33 (0, 0)) = false := rfl
  rw [k2] at k1; cases k1

set_option maxHeartbeats 8000000 in
set_option maxRecDepth 100000 in
theorem lives22_any (w : World) : Calls Tryz.prog 20 #[] w (Ret w (.bool true)) := by
  go_enter Tryz.func20, Tryz.ntmps20
  go_wp2_with fail
  refine (snew_any _).mono ?_
  rintro e w1 ⟨g, F, rfl, h1, hb1, hf1⟩
  have O1 := Lib.hid (MOne.new h1 hf1 hb1 (Below.refl _ _))
  clear h1 hb1 hf1
  have u25 : UIs 250000000000000000 0 0 0 250000000000000000 := by unfold UIs; omega
  have u75 : UIs 750000000000000000 0 0 0 750000000000000000 := by unfold UIs; omega
  have U25 := Lib.hid u25; have U75 := Lib.hid u75
  clear u25 u75
  go_wp2_with fail
  refine (O1.out.cut (by decide) (bk := 5) (by decide) U25.out).mono ?_
  rw [show cutE 7 1 [] 5 250000000000000000 = 0 from by decide +kernel, show cutH [] 5 250000000000000000 = [(5, 750000000000000000)] from by decide +kernel, if_pos rfl, if_pos rfl, show maxH 7 [] - 250000000000000000 = 750000000000000000 from by decide +kernel]
  rintro e w2 ⟨fa, fb, fc, fd, ta, tb, tc, td, _, hu, rfl, O2, _⟩
  have HU := Lib.hid hu; have O2 := Lib.hid O2
  clear hu O1
  go_wp2_with (refine wpList_alloc_g rfl _ rfl _ _ Tryz.zeroUz rfl ?_)
  intro A w3 h3
  have O3 := Lib.hid (O2.out.later h3.out.below); have HA3 := Lib.hid h3.out.cells; have HAW : Hid (w.heap.size ≤ A) := Lib.hid (by rw [h3.out.eq]; exact O2.out.one.below.size)
  clear h3 O2
  go_wp2_with (refine wpList_alloc_g rfl _ rfl _ _ Tryz.zeroUz rfl ?_)
  intro B w4 h4
  have O4 := Lib.hid (O3.out.later h4.out.below); have HA4 := Lib.hid (below_at' h4.out.below HA3.out); have HB4 := Lib.hid h4.out.cells; have HBW : Hid (w.heap.size ≤ B ∧ A ≠ B) := Lib.hid (by rw [h4.out.eq]; exact ⟨O3.out.one.below.size, by have := heap_lt HA3.out; omega⟩)
  clear h4 O3 HA3
  go_wp2_with (refine wpList_store_row_g (t := 33) (old := u0) rfl 33 _ _ rfl A #[.int .u64 fa, .int .u64 fb, .int .u64 fc, .int .u64 fd] rfl rfl HA4.out Tryz.sizeU rfl (one_u64 _ _ _ _) ?_)
  intro w5 hx5 k5 z5
  have O5 := Lib.hid (mone_keep O4.out HA4.out k5 HAW.out); have HB5 := Lib.hid (k5.at HB4.out (fun e => HBW.out.2 e.symm))
  clear hx5 k5 z5 O4 HA4 HB4
  go_wp2_with (refine wpList_store_row_g (t := 33) (old := u0) rfl 33 _ _ rfl B #[.int .u64 ta, .int .u64 tb, .int .u64 tc, .int .u64 td] rfl rfl HB5.out Tryz.sizeU rfl (one_u64 _ _ _ _) ?_)
  intro w6 hx6 k6 z6
  have O6 := Lib.hid (mone_keep O5.out HB5.out k6 HBW.out.1); have HB6 := Lib.hid hx6
  clear hx6 k6 z6 O5 HB5
  have q1 := Tryz.eqUn HU.out U75.out
  rw [decide_eq_true rfl] at q1
  have hS : w6.drew.heap[B]? = some (.cells #[.int .u64 ta, .int .u64 tb, .int .u64 tc, .int .u64 td] 33 (0, 0)) := HB6.out
  have OD := Lib.hid (O6.out.later (Below.drew (Below.refl w6.heap.size w6)))
  clear O6 HB6
  go_wp2_with fail
  refine wp_region_till (fun w' => w'.heap[B]? = some (.cells #[.int .u64 ta, .int .u64 tb, .int .u64 tc, .int .u64 td] 33 (0, 0))) 25 25 (by kernel_rfl) rfl ?_
  refine till_take 0 (some 13) rfl rfl (by kernel_rfl) (by kernel_rfl) (by kernel_rfl) (by kernel_rfl) (by kernel_rfl) (by kernel_rfl) (fun _ _ _ h => h) (.inl ⟨by rfl, fun w' _ => (by go_simp; rfl)⟩) hS ?_
  go_frame
  refine till_take 1 (some 14) rfl rfl (by kernel_rfl) (by kernel_rfl) (by kernel_rfl) (by kernel_rfl) (by kernel_rfl) (by kernel_rfl) (fun _ _ _ h => h) (.inl ⟨by rfl, fun w' _ => (by go_simp; rfl)⟩) hS ?_
  go_frame
  refine till_take 2 (some 15) rfl rfl (by kernel_rfl) (by kernel_rfl) (by kernel_rfl) (by kernel_rfl) (by kernel_rfl) (by kernel_rfl) (fun _ _ _ h => h) (.inl ⟨by rfl, fun w' _ => (by go_simp; rfl)⟩) hS ?_
  go_frame
  refine till_take 3 (some 16) rfl rfl (by kernel_rfl) (by kernel_rfl) (by kernel_rfl) (by kernel_rfl) (by kernel_rfl) (by kernel_rfl) (fun _ _ _ h => h) (yields_load (by rfl) 33 _ rfl (.pointer (some ⟨B, 0, none⟩)) rfl (.agg #[.int .u64 ta, .int .u64 tb, .int .u64 tc, .int .u64 td]) (fun w' hS' => load_heap hS' Tryz.underlying33 rfl Tryz.sizeU)) hS ?_
  go_frame
  refine till_take 4 (some 17) rfl rfl (by kernel_rfl) (by kernel_rfl) (by kernel_rfl) (by kernel_rfl) (by kernel_rfl) (by kernel_rfl) (fun _ _ _ h => h) (.inl ⟨by rfl, fun w' _ => (by go_simp; rfl)⟩) hS ?_
  go_frame
  refine till_take 5 (some 18) rfl rfl (by kernel_rfl) (by kernel_rfl) (by kernel_rfl) (by kernel_rfl) (by kernel_rfl) (by kernel_rfl) (fun _ _ _ h => h) (.inl ⟨by rfl, fun w' _ => (by go_simp; rfl)⟩) hS ?_
  go_frame
  refine till_take 6 (some 19) rfl rfl (by kernel_rfl) (by kernel_rfl) (by kernel_rfl) (by kernel_rfl) (by kernel_rfl) (by kernel_rfl) (fun _ _ _ h => h) (.inl ⟨by rfl, fun w' _ => (by go_simp; rfl)⟩) hS ?_
  go_frame
  refine till_take 7 (some 20) rfl rfl (by kernel_rfl) (by kernel_rfl) (by kernel_rfl) (by kernel_rfl) (by kernel_rfl) (by kernel_rfl) (fun _ _ _ h => h) (.inl ⟨by rfl, fun w' _ => (by go_simp; rfl)⟩) hS ?_
  go_frame
  refine till_take 8 (some 21) rfl rfl (by kernel_rfl) (by kernel_rfl) (by kernel_rfl) (by kernel_rfl) (by kernel_rfl) (by kernel_rfl) (fun _ _ _ h => h) (.inl ⟨by rfl, fun w' _ => (by go_simp; rfl)⟩) hS ?_
  go_frame
  refine till_one 9 rfl (by kernel_rfl) fun K hK => ?_
  simp only [List.getElem_toArray, List.getElem_cons_succ, List.getElem_cons_zero]
  rw [if_pos (by rfl)]
  go_simp
  refine (mAt_any OD.out.look OD.out.fit.f OD.out.his (by decide) (by decide) (by decide) 4).mono ?_
  rw [show atH 7 [(5, 750000000000000000)] 4 = uOne from by decide +kernel]
  rintro e wa ⟨xa, xb, xc, xd, hu1, rfl, hb⟩
  have HU1 := Lib.hid hu1
  clear hu1
  have hS2 := below_at' hb hS
  have ODn := Lib.hid (OD.out.later hb)
  refine hK _ _ (fun _ _ => hS2) ?_
  clear hK hS hb OD
  have hS := hS2
  have OD := ODn
  clear hS2 ODn
  refine till_one 10 rfl (by kernel_rfl) fun K hK => ?_
  simp only [List.getElem_toArray, List.getElem_cons_succ, List.getElem_cons_zero]
  rw [if_pos (by rfl)]
  go_simp
  refine (wone_any _).mono ?_
  rintro e wb ⟨ya, yb, yc, yd, hu1, rfl, hb⟩
  have q2 := Tryz.eqUn HU1.out hu1
  rw [decide_eq_true rfl] at q2
  clear hu1
  have hS2 := below_at' hb hS
  have ODn := Lib.hid (OD.out.later hb)
  refine hK _ _ (fun _ _ => hS2) ?_
  clear hK hS hb OD
  have hS := hS2
  have OD := ODn
  clear hS2 ODn
  refine till_take 11 (some 24) rfl rfl (by kernel_rfl) (by kernel_rfl) (by kernel_rfl) (by kernel_rfl) (by kernel_rfl) (by kernel_rfl) (fun _ _ _ h => h) (.inl ⟨by rfl, fun w' _ => (by go_simp; rfl)⟩) hS ?_
  go_frame
  refine till_take 12 (some 25) rfl rfl (by kernel_rfl) (by kernel_rfl) (by kernel_rfl) (by kernel_rfl) (by kernel_rfl) (by kernel_rfl) (fun _ _ _ h => h) (.inl ⟨by rfl, fun w' _ => (by go_simp; rfl)⟩) hS ?_
  go_frame
  refine till_take 13 (some 26) rfl rfl (by kernel_rfl) (by kernel_rfl) (by kernel_rfl) (by kernel_rfl) (by kernel_rfl) (by kernel_rfl) (fun _ _ _ h => h) (.inl ⟨by rfl, fun w' _ => (by go_simp; rfl)⟩) hS ?_
  go_frame
  refine till_take 14 (some 27) rfl rfl (by kernel_rfl) (by kernel_rfl) (by kernel_rfl) (by kernel_rfl) (by kernel_rfl) (by kernel_rfl) (fun _ _ _ h => h) (.inl ⟨by rfl, fun w' _ => (by go_simp; rfl)⟩) hS ?_
  go_frame
  refine till_take 16 (some 29) rfl rfl (by kernel_rfl) (by kernel_rfl) (by kernel_rfl) (by kernel_rfl) (by kernel_rfl) (by kernel_rfl) (fun _ _ _ h => h) (yields_load (by rfl) 33 _ rfl (.pointer (some ⟨B, 0, none⟩)) rfl (.agg #[.int .u64 ta, .int .u64 tb, .int .u64 tc, .int .u64 td]) (fun w' hS' => load_heap hS' Tryz.underlying33 rfl Tryz.sizeU)) hS ?_
  go_frame
  refine till_one 15 rfl (by kernel_rfl) fun K hK => ?_
  simp only [List.getElem_toArray, List.getElem_cons_succ, List.getElem_cons_zero]
  rw [if_pos (by rfl)]
  go_simp
  refine (mAt_any OD.out.look OD.out.fit.f OD.out.his (by decide) (by decide) (by decide) 5).mono ?_
  rw [show atH 7 [(5, 750000000000000000)] 5 = 750000000000000000 from by decide +kernel]
  rintro e wc ⟨za, zb, zc, zd, hu1, rfl, hb⟩
  have q3 := Tryz.eqUn hu1 HU.out
  rw [decide_eq_true rfl] at q3
  clear hu1
  have hS2 := below_at' hb hS
  have ODn := Lib.hid (OD.out.later hb)
  refine hK _ _ (fun _ _ => hS2) ?_
  clear hK hS hb OD
  have hS := hS2
  have OD := ODn
  clear hS2 ODn
  refine till_take 17 (some 30) rfl rfl (by kernel_rfl) (by kernel_rfl) (by kernel_rfl) (by kernel_rfl) (by kernel_rfl) (by kernel_rfl) (fun _ _ _ h => h) (.inl ⟨by rfl, fun w' _ => (by go_simp; rfl)⟩) hS ?_
  go_frame
  refine till_take 18 (some 31) rfl rfl (by kernel_rfl) (by kernel_rfl) (by kernel_rfl) (by kernel_rfl) (by kernel_rfl) (by kernel_rfl) (fun _ _ _ h => h) (.inl ⟨by rfl, fun w' _ => (by go_simp; rfl)⟩) hS ?_
  go_frame
  refine till_take 19 (some 32) rfl rfl (by kernel_rfl) (by kernel_rfl) (by kernel_rfl) (by kernel_rfl) (by kernel_rfl) (by kernel_rfl) (fun _ _ _ h => h) (.inl ⟨by rfl, fun w' _ => (by go_simp; rfl)⟩) hS ?_
  go_frame
  refine till_take 20 (some 33) rfl rfl (by kernel_rfl) (by kernel_rfl) (by kernel_rfl) (by kernel_rfl) (by kernel_rfl) (by kernel_rfl) (fun _ _ _ h => h) (.inl ⟨by rfl, fun w' _ => (by go_simp; rfl)⟩) hS ?_
  go_frame
  refine till_one 21 rfl (by kernel_rfl) fun K hK => ?_
  simp only [List.getElem_toArray, List.getElem_cons_succ, List.getElem_cons_zero]
  rw [if_pos (by rfl)]
  go_simp
  refine (mChg_any OD.out.look OD.out.fit.f OD.out.his (by decide) (by decide)).mono ?_
  rintro e we ⟨rfl, hb⟩
  have hS2 := below_at' hb hS
  have ODn := Lib.hid (OD.out.later hb)
  refine hK _ _ (fun _ _ => hS2) ?_
  clear hK hS hb OD
  have hS := hS2
  have OD := ODn
  clear hS2 ODn
  refine till_take 22 (some 35) rfl rfl (by kernel_rfl) (by kernel_rfl) (by kernel_rfl) (by kernel_rfl) (by kernel_rfl) (by kernel_rfl) (fun _ _ _ h => h) (.inl ⟨by rfl, fun w' _ => (by go_simp; rfl)⟩) hS ?_
  go_frame
  refine till_take 23 (some 36) rfl rfl (by kernel_rfl) (by kernel_rfl) (by kernel_rfl) (by kernel_rfl) (by kernel_rfl) (by kernel_rfl) (fun _ _ _ h => h) (.inl ⟨by rfl, fun w' _ => (by go_simp; rfl)⟩) hS ?_
  go_frame
  refine till_take 24 (some 0) rfl rfl (by kernel_rfl) (by kernel_rfl) (by kernel_rfl) (by kernel_rfl) (by kernel_rfl) (by kernel_rfl) (fun _ _ _ h => h) (.inl ⟨by rfl, fun w' _ => (by go_simp; rfl)⟩) hS ?_
  go_frame
  refine till_done (by kernel_rfl) ?_ _
  clear hS
  go_wp2_with fail
  go_ret
  exact ⟨rfl, OD.out.one.below⟩
end
section
open Go.RowKit

theorem hisE_iff {H : List (Int × Nat)} {bk : Int} (hok : ∀ p ∈ H, 0 ≤ p.1) : hisE H bk = 0 ↔ lastB H ≤ bk ∧ bk ≤ 1099511627776 := by
  unfold hisE lastB
  cases hl : H.getLast? with
  | none =>
    simp only [Option.map_none, Option.getD_none]
    by_cases h : bk < 0 ∨ 1099511627776 < bk
    · rw [if_pos h]; constructor
      · intro e; cases e
      · intro e; omega
    · rw [if_neg h]; exact ⟨fun _ => by omega, fun _ => rfl⟩
  | some p =>
    have hp := hok p (last_mem hl)
    simp only [Option.map_some, Option.getD_some]
    by_cases h : bk < 0 ∨ 1099511627776 < bk
    · rw [if_pos h]; constructor
      · intro e; cases e
      · intro e; omega
    · rw [if_neg h]
      by_cases h2 : bk < p.1
      · rw [if_pos h2]; constructor
        · intro e; cases e
        · intro e; omega
      · rw [if_neg h2]; exact ⟨fun _ => by omega, fun _ => rfl⟩
theorem his_last {H : List (Int × Nat)} {bk : Int} {m : Nat} (h : hisE H bk = 0) : (hisS H bk m).getLast? = some (if H.getLast?.isSome = true ∧ m = lastN H ∧ bk ≠ lastB H then lastB H else bk, m) := by
  unfold hisS lastN lastB
  rw [if_pos h]
  cases hl : H.getLast? with
  | none => simp
  | some p =>
    simp only [Option.map_some, Option.getD_some, Option.isSome_some, true_and]
    by_cases h1 : bk = p.1
    · rw [if_pos h1, if_neg (fun e => e.2 h1)]; simp
    · rw [if_neg h1]
      by_cases h2 : m = p.2
      · rw [if_pos h2, if_pos ⟨h2, h1⟩, hl, h2]
      · rw [if_neg h2, if_neg fun e => h2 e.1]; simp
/-- A row in the middle of a block is read, behind a guard that lets it by. -/
theorem wpList_load_mid_y {P : Program} {ops : Array Oper} {rest : List Oper} {op : Oper} {a : Act} {w : World} {Q : Exit → Act → World → Prop} (hw : Region.wanted op (yielded ops a.tmps) = true) (ty : TypeId) (x : Operand) (ho : op.op = .load ty x)
    (b o : Nat) (hx : a.eval x = .pointer (some ⟨b, o, none⟩)) (cs : List Value) (d : TypeDesc) (hc : w.rangeAt b o cs)
    (hu : P.underlying ty = some d) (hd : d.isRow = true) (hi : (P.info? ty).map (·.size) = some cs.length)
    (h : wpList P ops Q rest (a.put op.dst (.agg cs.toArray)) w) : wpList P ops Q (op :: rest) a w :=
  wpList_wanted hw fun _ hK => wp_load_mid ty x ho b o hx cs d hc hu hd hi (hK _ _ h)


theorem Desc.at_one {H : List (Int × Nat)} (h : Desc H) (c : Int) : atH 7 H c ≤ uOne := by
  unfold atH
  split
  · exact Nat.le_refl _
  · cases hl : lookH H c with
    | none => simp
    | some p => exact h.le p (List.mem_filter.1 (List.mem_of_getLast? hl)).1
theorem cut_ok {f : Txt → Option Txt} {H : List (Int × Nat)} {bk : Int} {m : Nat} (hH : HisI f 13 [7, 1] H) (hd : Desc H) (hb : lastB H ≤ bk) (h1 : bk ≤ 1099511627776) (hm : m ≤ maxH 7 H) :
    cutE 7 1 H bk m = 0 ∧ maxH 7 (cutH H bk m) = maxH 7 H - m ∧ lastB (cutH H bk m) ≤ bk ∧ Desc (cutH H bk m) := by
  have hE : hisE H bk = 0 := (hisE_iff fun p hp => (hH.ok p hp).1).2 ⟨hb, h1⟩
  have hC : cutH H bk m = hisS H bk (maxH 7 H - m) := by unfold cutH; rw [if_neg (fun e => e hm)]
  have hL := his_last (m := maxH 7 H - m) hE
  refine ⟨?_, ?_, ?_, ?_⟩
  · unfold cutE; rw [if_neg (by decide), if_neg (fun e => e hm)]; exact hE
  · rw [hC]
    unfold maxH lastN at hL ⊢
    rw [hL]
    rw [if_neg (by simp)]; simp
  · rw [hC]
    unfold lastB at hL hb ⊢
    rw [hL]
    simp only [Option.map_some, Option.getD_some]
    split <;> omega
  · rw [hC]; exact hd.push (Nat.sub_le _ _)
theorem cut_no {H : List (Int × Nat)} {bk : Int} {m : Nat} (hm : ¬ m ≤ maxH 7 H) : cutE 7 1 H bk m = 13 ∧ cutH H bk m = H := by
  refine ⟨?_, ?_⟩
  · unfold cutE; rw [if_neg (by decide), if_pos hm]
  · unfold cutH; rw [if_pos hm]
theorem cut_all {f : Txt → Option Txt} {H : List (Int × Nat)} {bk : Int} (m : Nat) (hH : HisI f 13 [7, 1] H) (hd : Desc H) (hb : lastB H ≤ bk) (h1 : bk ≤ 1099511627776) :
    maxH 7 (cutH H bk m) ≤ maxH 7 H ∧ lastB (cutH H bk m) ≤ bk ∧ Desc (cutH H bk m) ∧
    ((cutE 7 1 H bk m = 0 ∧ maxH 7 (cutH H bk m) = maxH 7 H - m) ∨ (cutE 7 1 H bk m ≠ 0 ∧ maxH 7 (cutH H bk m) = maxH 7 H)) := by
  by_cases hm : m ≤ maxH 7 H
  · obtain ⟨q1, q2, q3, q4⟩ := cut_ok hH hd hb h1 hm
    exact ⟨by omega, q3, q4, .inl ⟨q1, q2⟩⟩
  · obtain ⟨q1, q2⟩ := cut_no (bk := bk) hm
    rw [q2]
    exact ⟨Nat.le_refl _, hb, hd, .inr ⟨by rw [q1]; decide, rfl⟩⟩
theorem cmpV_le {n m : Nat} (h : n ≤ m) : cmpV n m ≤ 0 := by
  unfold cmpV
  split
  · decide
  · rw [if_pos (by omega)]; decide


end
end
section
open Go.RowKit

theorem results_tc {fn : Func} {p u : Tmp} {ty : TypeId} (h : fn.results = #[.tmp u, .cell p ty]) (tmps : Array Value) (P : Program) (w : World) :
    (results fn tmps).run P w =
      ((asAddr (tmps.getD p undef)).run P w).andThen fun a w₁ => ((loadVar ty a).run P w₁).andThen fun v w₂ => .ok (.tuple #[tmps.getD u undef, v]) w₂ := by
  simp only [results, h]
  simp [Sem.run_bind, Result.andThen]
theorem res_tc {P : Program} {fn : Func} {p u : Tmp} {ty : TypeId} (h : fn.results = #[.tmp u, .cell p ty]) (tmps : Array Value) (w : World) (g : Nat) (t : TypeId) (cs : Array Value) (fr : Nat × Nat) (d : TypeDesc)
    (hp : tmps.getD p undef = .pointer (some ⟨g, 0, none⟩)) (hg : w.heap[g]? = some (.cells cs t fr))
    (hu : P.underlying ty = some d) (hd : (match d with | .struct _ | .array _ _ => true | _ => false) = true) (hi : (P.info? ty).map (·.size) = some cs.size) (v : Value) (hv : tmps.getD u undef = v) :
    (results fn tmps).run P w = .ok (.tuple #[v, .agg cs]) w := by
  subst hv
  rw [results_tc h, hp]
  have h1 := run_loadVar_row (P := P) w g t ty cs fr d hg hu hd hi
  simp [asAddr, h1, Result.andThen]

set_option maxHeartbeats 4000000 in
set_option maxRecDepth 100000 in
theorem rwith_any {w : World} {vi : Value} {ids : List Int} {n : Int} (hrd : Rd w intE 1 vi ids) (hl : ids.length ≤ 1000000) :
    Calls Tryz.prog 182 #[vi, .int .i64 n] w (fun e w' => ∃ v, e = .returned v ∧ Rd w' intE 1 v (ids ++ [n]) ∧ Below w.heap.size w w') := by
  obtain ⟨adi, capi, rfl, _, _⟩ := hrd.shape
  have HR := Lib.hid hrd; have HL := Lib.hid hl
  have hm : ([] : List Int).length + ids.length ≤ maxLen := by unfold maxLen; simp; omega
  have hb : (([] : List Int).length + ids.length) * 8 ≤ 140737488355328 := by simp; omega
  have HM := Lib.hid hm; have HBY := Lib.hid hb
  clear hrd hl hm hb
  go_enter Tryz.func182, Tryz.ntmps182
  go_wp2_with (at_builtin; refine lo_apps (l2 := ids) (enc := intE) rfl _ _ 98 98 rfl Tryz.underlying98 Tryz.underlying98 Tryz.infoCI rfl (by decide) intE_len (intE_ones ids) (LO.made (enc := intE) (sz := 1) w #[] 0 0 rfl (Nat.le_refl _) (Nat.zero_le _) (by simp) (by simp)) rfl _ rfl (HR.out.alloc _) HM.out HBY.out ?_)
  intro v' w1 r1 r2 r3
  have hb1 : Below w.heap.size w (w.alloc (.cells #[] 3)) := (Below.refl _ _).alloc (Nat.le_refl _) _
  have hb2 : Below w.heap.size w w1 := hb1.trans (r2.below (B := w.heap.size) (fun q hq e => by have h3 : w.heap.size = q := Option.some.inj e; omega) (by simp))
  have hk : ∀ k, v'.ownBlock = some k → w.heap.size ≤ k := by
    intro k e
    rcases r3 with r3 | ⟨g, e2, hg⟩
    · rw [r3] at e; cases e; exact Nat.le_refl _
    · rw [e] at e2; cases e2; simp at hg; omega
  have LC : Hid (LO w1 3 intE 1 v' ids) := Lib.hid r1; have HB1 := Lib.hid hb2; have KC := Lib.hid hk
  clear r1 r2 r3 hb1 hb2 hk
  go_wp2_with (at_builtin; refine lo_apps (l := ids) (l2 := [n]) (enc := intE) rfl _ _ 98 98 rfl Tryz.underlying98 Tryz.underlying98 Tryz.infoCI rfl (by decide) intE_len (intE_ones _) (LC.out.later (below_new _ _)) rfl _ rfl (lit1 _ _) (by have := HL.out; unfold maxLen; simp; omega) (by have := HL.out; simp; omega) ?_)
  intro v2 w2 r1 r2 _
  have hb2 : Below w.heap.size w w2 := (HB1.out.trans ((below_new w1 (.cells #[.int .i64 n] 3)).mono HB1.out.size)).trans (r2.below (B := w.heap.size) (fun q hq e => by have := KC.out q e; omega) (Nat.le_trans HB1.out.size (below_new w1 (.cells #[.int .i64 n] 3)).size))
  have R1 := Lib.hid (r1.rd intE_len); have HB2 := Lib.hid hb2
  clear r1 r2 hb2
  go_wp2_with fail
  go_ret
  exact ⟨_, rfl, R1.out, HB2.out⟩

set_option maxHeartbeats 4000000 in
set_option maxRecDepth 100000 in
theorem rhlen_any {w : World} {g : Nat} {s : PS} {F : List Nat} (h : RS w g s F) (hz : s.sz < 100000000) (hf : Fit s) (t : Int) {ids : List Int} {vi : Value} (hl : ids.length ≤ 1000000) (hi : I64s ids) (hrd : Rd w intE 1 vi ids) :
    Calls Tryz.prog 78 #[.pointer (some ⟨g, 0, none⟩), .int .i64 t, vi] w (Ret w (.int .i64 (getI (getP s.t) (keyF t ids)))) := by
  obtain ⟨adi, capi, rfl, _, _⟩ := hrd.shape
  have H := Lib.hid h; have HF := Lib.hid hf; have HI := Lib.hid hi; have HR := Lib.hid hrd; have HL := Lib.hid hl; have HZ := Lib.hid hz
  clear h hf hl hi hrd hz
  go_enter Tryz.func78, Tryz.ntmps78
  go_wp2_with fail
  refine (refKey_any t ids _ _ (by have := HL.out; omega) HI.out HR.out).mono ?_
  rintro e w1 ⟨rfl, hb⟩
  have HB1 := Lib.hid hb
  clear hb
  go_wp2_with fail
  refine (rint_any (H.out.later HB1.out) (by have := HZ.out; omega) HF.out (keyF t ids)).mono ?_
  rintro e w2 ⟨rfl, hb⟩
  have HB2 := Lib.hid (HB1.out.trans (hb.mono HB1.out.size))
  clear hb
  go_wp2_with fail
  go_ret
  exact ⟨rfl, HB2.out⟩

/-- What stands there, as the reference tells it. -/
def RPt (w : World) (v : Txt) (e : Ending) (w' : World) : Prop := ∃ a b c d : Int, UIs a b c d (ptN v) ∧ e = .returned (.tuple #[.int .i64 (ptB v), .agg #[.int .u64 a, .int .u64 b, .int .u64 c, .int .u64 d]]) ∧ Below w.heap.size w w'
theorem rpt_no {w w' : World} {v : Txt} (h : ptOk v = false) (hb : Below w.heap.size w w') : RPt w v (.returned (.tuple #[.int .i64 0, .agg u0])) w' :=
  ⟨0, 0, 0, 0, by unfold ptN; rw [h]; exact UIs.zero, by unfold ptB; rw [h]; rfl, hb⟩

set_option maxHeartbeats 2000000 in
set_option maxRecDepth 100000 in
theorem rhget_any {w : World} {g : Nat} {s : PS} {F : List Nat} (h : RS w g s F) (hz : s.sz < 100000000) (hf : Fit s) (t : Int) {ids : List Int} {vi : Value} {n : Int} (hl : ids.length ≤ 1000000) (hi : I64s ids) (hrd : Rd w intE 1 vi ids) (hn : -9223372036854775808 ≤ n ∧ n < 9223372036854775808) :
    Calls Tryz.prog 137 #[.pointer (some ⟨g, 0, none⟩), .int .i64 t, vi, .int .i64 n] w (RPt w (valF (getP s.t) (keyF t (ids ++ [n])))) := by
  obtain ⟨adi, capi, rfl, _, _⟩ := hrd.shape
  have H := Lib.hid h; have HI := Lib.hid hi; have HRD := Lib.hid hrd; have HL := Lib.hid hl; have HN := Lib.hid hn; have HZ := Lib.hid hz
  have hfv := hf.f (keyF t (ids ++ [n]))
  obtain ⟨k, hk⟩ : ∃ k, k = keyF t (ids ++ [n]) := ⟨_, rfl⟩
  rw [← hk] at hfv ⊢
  have HK := Lib.hid hk
  obtain ⟨v, hv⟩ : ∃ v, v = valF (getP s.t) k := ⟨_, rfl⟩
  rw [← hv] at hfv ⊢
  obtain ⟨q, hq⟩ : ∃ q, q = (getP s.t k).isSome := ⟨_, rfl⟩
  have HV0 : Hid (q = false → v = []) := Lib.hid (by
    intro h0
    rw [hv]
    unfold valF
    rw [h0] at hq
    cases h5 : getP s.t k with
    | none => rfl
    | some x => rw [h5] at hq; cases hq)
  have HV := Lib.hid hv; have HFV := Lib.hid hfv; have HQ := Lib.hid hq
  have HB : Hid (Below w.heap.size w w) := Lib.hid (Below.refl _ _)
  clear h hf hl hi hrd hn hk hv hfv hq hz
  go_enter Tryz.func137, Tryz.ntmps137
  go_wp2_with (refine wpList_alloc_g rfl _ rfl _ _ Tryz.zeroUz rfl ?_)
  intro R a1 hR
  have WR : Hid (w.heap.size ≤ R) := Lib.hid (by rw [hR.out.eq]; exact (HB.out).size)
  have HRz := Lib.hid hR.out.cells; have hbR := hR.out.below
  clear hR
  have HBm := Lib.hid (HB.out.trans (hbR.mono HB.out.size))
  clear hbR HB
  have HB := HBm
  clear HBm
  have HR := HRz
  clear HRz
  go_wp2_with fail
  refine (rwith_any (n := n) (HRD.out.later HB.out) HL.out).mono ?_
  rintro e a2 ⟨vW, rfl, hrw, hb⟩
  have HWR := Lib.hid hrw
  clear hrw
  have HBm := Lib.hid (HB.out.trans (hb.mono HB.out.size))
  have HRm := Lib.hid (below_at' hb HR.out)
  clear hb HB HR
  have HB := HBm
  have HR := HRm
  clear HBm HRm
  go_wp2_with fail
  refine (refKey_any t (ids ++ [n]) _ _ (by have := HL.out; simp; omega) (I64s_snoc HI.out HN.out) HWR.out).mono ?_
  rw [← HK.out]
  rintro e a3 ⟨rfl, hb⟩
  have HBm := Lib.hid (HB.out.trans (hb.mono HB.out.size))
  have HRm := Lib.hid (below_at' hb HR.out)
  have HWRm := Lib.hid (HWR.out.later hb)
  clear hb HB HR HWR
  have HB := HBm
  have HR := HRm
  have HWR := HWRm
  clear HBm HRm HWRm
  clear HWR
  go_wp2_with fail
  refine (rget_any (H.out.later HB.out) (by have := HZ.out; unfold PS.sz at this; omega) k).mono ?_
  rw [show (getP s.t k).getD [] = v from HV.out.symm, ← HQ.out]
  rintro e _ ⟨rfl, rfl⟩
  cases q with
  | false =>
    have HNO : Hid (ptOk v = false) := Lib.hid (by rw [HV0.out rfl]; rfl)
    go_wp2_with (refine wpList_store_row_g (t := 33) (old := u0) rfl 33 _ _ rfl R u0 rfl rfl HR.out Tryz.sizeU rfl (one_u64 _ _ _ _) ?_)
    intro a4 hxR kR zR
    clear zR
    have HBm := Lib.hid (HB.out.trans (kR.below (B := w.heap.size) (fun y hy e => by have := WR.out; omega) HB.out.size))
    have HRm := Lib.hid hxR
    clear hxR kR HB HR
    have HB := HBm
    have HR := HRm
    clear HBm HRm
    go_wp2_with fail
    exact bodyPost_ret (res_tc rfl _ _ _ _ _ _ _ rfl HR.out Tryz.underlying33 rfl Tryz.sizeU (.int .i64 0) rfl) rfl (rpt_no HNO.out HB.out)
  | true =>
    by_cases h40 : v.length = 40
    · have H40 := Lib.hid h40
      have h4s : (bs v).size = 40 := by rw [bs_size]; exact h40
      have h4b : (((bs v).size : Int) != 40) = false := by rw [h4s]; rfl
      have h8a : 8 ≤ (bs v).size := by omega
      have e1 : (bs v).extract 0 8 = bs (v.take 8) := by rw [bs_extract]; simp
      have e2 : (bs v).extract 8 (bs v).size = bs (v.drop 8) := by
        rw [bs_extract, bs_size, List.take_of_length_le (by rw [List.length_drop]; omega)]
      clear h40 h4s
      go_wp2_with fail
      clear h4b
      refine (refNums_any (bs (v.take 8)) _ (by rw [bs_size, List.length_take]; omega)).mono ?_
      rintro e a4 ⟨hb, hs⟩
      rw [bs_toList] at hs
      have HBm := Lib.hid (HB.out.trans (hb.mono HB.out.size))
      have HRm := Lib.hid (below_at' hb HR.out)
      clear hb HB HR
      have HB := HBm
      have HR := HRm
      clear HBm HRm
      cases hq8 : numsF (v.take 8) with
      | none =>
        rw [hq8] at hs
        subst hs
        have HNO : Hid (ptOk v = false) := Lib.hid (by unfold ptOk; rw [hq8]; simp)
        clear hq8
        go_wp2_with fail
        refine (rtoAmt_any (v.drop 8) _ (by have := H40.out; rw [List.length_drop]; omega)).mono ?_
        rintro e a5 ⟨a, b, c, d, hu, rfl, hb⟩
        have HU := Lib.hid hu
        clear hu
        have HBm := Lib.hid (HB.out.trans (hb.mono HB.out.size))
        have HRm := Lib.hid (below_at' hb HR.out)
        clear hb HB HR
        have HB := HBm
        have HR := HRm
        clear HBm HRm
        go_wp2_with (refine wpList_alloc_g rfl _ rfl _ _ Tryz.zeroUz rfl ?_)
        intro X a6 hX
        go_wp2_with (refine wpList_store_row_g (t := 33) (old := u0) rfl 33 _ _ rfl X #[.int .u64 a, .int .u64 b, .int .u64 c, .int .u64 d] rfl rfl hX.out.cells Tryz.sizeU rfl (one_u64 _ _ _ _) ?_)
        intro a7 hxX kX zX
        clear zX
        have hbX : Below a5.heap.size a5 a7 := hX.out.below.trans (kX.below (B := a5.heap.size) (fun x hx e => by have := hX.out.eq; omega) hX.out.below.size)
        have WX : Hid (w.heap.size ≤ X) := Lib.hid (by rw [hX.out.eq]; exact (HB.out).size)
        have NRX : Hid (R ≠ X) := Lib.hid (by have := hX.out.eq; have := heap_lt HR.out; omega)
        have HXz := Lib.hid hxX
        clear hX hxX kX
        have HBm := Lib.hid (HB.out.trans (hbX.mono HB.out.size))
        have HRm := Lib.hid (below_at' hbX HR.out)
        clear hbX HB HR
        have HB := HBm
        have HR := HRm
        clear HBm HRm
        have HX := HXz
        clear HXz
        go_wp2_with (refine wpList_store_row_g (t := 33) (old := u0) rfl 33 _ _ rfl R u0 rfl rfl HR.out Tryz.sizeU rfl (one_u64 _ _ _ _) ?_)
        intro a8 hxR kR zR
        clear zR
        have HBm := Lib.hid (HB.out.trans (kR.below (B := w.heap.size) (fun y hy e => by have := WR.out; omega) HB.out.size))
        have HXm := Lib.hid (kR.at HX.out (fun e => NRX.out e.symm))
        have HRm := Lib.hid hxR
        clear hxR kR HB HR HX
        have HB := HBm
        have HR := HRm
        have HX := HXm
        clear HBm HRm HXm
        go_wp2_with fail
        exact bodyPost_ret (res_tc rfl _ _ _ _ _ _ _ rfl HR.out Tryz.underlying33 rfl Tryz.sizeU (.int .i64 0) rfl) rfl (rpt_no HNO.out HB.out)
      | some xs =>
        rw [hq8] at hs
        obtain ⟨vn, rfl, hown⟩ := hs
        have hrow : rowF (v.take 8) = xs := by unfold rowF; rw [hq8]; rfl
        have hxl : xs.length = 1 := by
          have hh := hq8
          unfold numsF at hh
          have h8l : (v.take 8).length = 8 := by rw [List.length_take]; have := H40.out; omega
          rw [h8l] at hh
          exact numsTo_len hh
        obtain ⟨n0, rfl⟩ := one_of hxl
        have HO := Lib.hid (RowRet.rd hown)
        obtain ⟨adn, capn, rfl, _, _⟩ := HO.out.shape
        have HOK : Hid (ptOk v = true) := Lib.hid (by unfold ptOk; rw [hq8, decide_eq_true H40.out]; rfl)
        have HRO := Lib.hid hrow
        clear hq8 hrow hxl hown
        go_wp2_with fail
        refine (rtoAmt_any (v.drop 8) _ (by have := H40.out; rw [List.length_drop]; omega)).mono ?_
        rintro e a5 ⟨a, b, c, d, hu, rfl, hb⟩
        have HU := Lib.hid hu
        clear hu
        have HBm := Lib.hid (HB.out.trans (hb.mono HB.out.size))
        have HRm := Lib.hid (below_at' hb HR.out)
        have HOm := Lib.hid (HO.out.later hb)
        clear hb HB HR HO
        have HB := HBm
        have HR := HRm
        have HO := HOm
        clear HBm HRm HOm
        go_wp2_with (refine wpList_alloc_g rfl _ rfl _ _ Tryz.zeroUz rfl ?_)
        intro X a6 hX
        go_wp2_with (refine wpList_store_row_g (t := 33) (old := u0) rfl 33 _ _ rfl X #[.int .u64 a, .int .u64 b, .int .u64 c, .int .u64 d] rfl rfl hX.out.cells Tryz.sizeU rfl (one_u64 _ _ _ _) ?_)
        intro a7 hxX kX zX
        clear zX
        have hbX : Below a5.heap.size a5 a7 := hX.out.below.trans (kX.below (B := a5.heap.size) (fun x hx e => by have := hX.out.eq; omega) hX.out.below.size)
        have WX : Hid (w.heap.size ≤ X) := Lib.hid (by rw [hX.out.eq]; exact (HB.out).size)
        have NRX : Hid (R ≠ X) := Lib.hid (by have := hX.out.eq; have := heap_lt HR.out; omega)
        have HXz := Lib.hid hxX
        clear hX hxX kX
        have HBm := Lib.hid (HB.out.trans (hbX.mono HB.out.size))
        have HRm := Lib.hid (below_at' hbX HR.out)
        have HOm := Lib.hid (HO.out.later hbX)
        clear hbX HB HR HO
        have HB := HBm
        have HR := HRm
        have HO := HOm
        clear HBm HRm HOm
        have HX := HXz
        clear HXz
        obtain ⟨qn, on, rfl, _, hc⟩ := HO.out.at 0 (by simp)
        have hS : a7.drew.cell? ⟨qn, on, none⟩ = some (.int .i64 n0) ∧ a7.drew.heap[X]? = some (.cells #[.int .u64 a, .int .u64 b, .int .u64 c, .int .u64 d] 33 (0, 0)) := ⟨hc, HX.out⟩
        have HBD := Lib.hid (HB.out.drew); have HRW : Hid (a7.drew.heap[R]? = some (.cells u0 33 (0, 0))) := Lib.hid HR.out
        clear hc
        go_wp2_with fail
        refine wp_region_till (fun w' => w'.cell? ⟨qn, on, none⟩ = some (.int .i64 n0) ∧ w'.heap[X]? = some (.cells #[.int .u64 a, .int .u64 b, .int .u64 c, .int .u64 d] 33 (0, 0))) 5 6 (by kernel_rfl) rfl ?_
        refine till_take 0 (some 50) rfl rfl (by kernel_rfl) (by kernel_rfl) (by kernel_rfl) (by kernel_rfl) (by kernel_rfl) (by kernel_rfl) (fun _ _ _ h => h) (.inl ⟨by rfl, fun w' _ => (by go_simp; rfl)⟩) hS ?_
        go_frame
        refine till_take 1 (some 51) rfl rfl (by kernel_rfl) (by kernel_rfl) (by kernel_rfl) (by kernel_rfl) (by kernel_rfl) (by kernel_rfl) (fun _ _ _ h => h) (.inl ⟨by rfl, fun w' _ => (by go_simp; rfl)⟩) hS ?_
        go_frame
        refine till_take 2 (some 52) rfl rfl (by kernel_rfl) (by kernel_rfl) (by kernel_rfl) (by kernel_rfl) (by kernel_rfl) (by kernel_rfl) (fun _ _ _ h => h) (.inl ⟨by rfl, fun w' hS' => (by obtain ⟨hc1, hc2⟩ := hS'; go_simp; rfl)⟩) hS ?_
        go_frame
        refine till_take 3 (some 53) rfl rfl (by kernel_rfl) (by kernel_rfl) (by kernel_rfl) (by kernel_rfl) (by kernel_rfl) (by kernel_rfl) (fun _ _ _ h => h) (yields_load (by rfl) 33 _ rfl (.pointer (some ⟨X, 0, none⟩)) rfl (.agg #[.int .u64 a, .int .u64 b, .int .u64 c, .int .u64 d]) (fun w' hS' => load_heap hS'.2 Tryz.underlying33 rfl Tryz.sizeU)) hS ?_
        go_frame
        refine till_take 4 (some 8) rfl rfl (by kernel_rfl) (by kernel_rfl) (by kernel_rfl) (by kernel_rfl) (by kernel_rfl) (by kernel_rfl) (fun _ _ _ h => h) (.inl ⟨by rfl, fun w' _ => (by go_simp; rfl)⟩) hS ?_
        go_frame
        refine till_one 5 rfl (by kernel_rfl) fun K hK => ?_
        simp only [List.getElem_toArray, List.getElem_cons_succ, List.getElem_cons_zero]
        rw [if_pos (by rfl)]
        refine wp_store_row_g (t := 33) (old := u0) 33 _ _ rfl R #[.int .u64 a, .int .u64 b, .int .u64 c, .int .u64 d] rfl rfl HRW.out Tryz.sizeU rfl (one_u64 _ _ _ _) ?_
        intro w8 hx8 k8 _
        have HX8 := Lib.hid hx8; have HB8 := Lib.hid (HBD.out.trans (k8.below (B := w.heap.size) (fun y hy e => by have := WR.out; omega) HBD.out.size))
        refine hK _ _ (fun hc => absurd rfl hc) ?_
        clear hK hS hx8 k8
        refine till_done (by kernel_rfl) ?_ _
        go_wp2_with fail
        exact bodyPost_ret (res_tc rfl _ _ _ _ _ _ _ rfl HX8.out Tryz.underlying33 rfl Tryz.sizeU (.int .i64 n0) rfl) rfl ⟨a, b, c, d, (by unfold ptN; rw [if_pos HOK.out]; exact HU.out), (by unfold ptB; rw [if_pos HOK.out, HRO.out]; rfl), HB8.out⟩
    · have HNO : Hid (ptOk v = false) := Lib.hid (by unfold ptOk; rw [decide_eq_false h40]; rfl)
      have h4a : (((bs v).size : Int) == 40) = false := beq_eq_false_iff_ne.2 (by rw [bs_size]; omega)
      have h4b : (((bs v).size : Int) != 40) = true := by rw [bne, h4a]; rfl
      clear h40
      go_wp2_with (refine wpList_store_row_g (t := 33) (old := u0) rfl 33 _ _ rfl R u0 rfl rfl HR.out Tryz.sizeU rfl (one_u64 _ _ _ _) ?_)
      intro a4 hxR kR zR
      clear zR
      have HBm := Lib.hid (HB.out.trans (kR.below (B := w.heap.size) (fun y hy e => by have := WR.out; omega) HB.out.size))
      have HRm := Lib.hid hxR
      clear hxR kR HB HR
      have HB := HBm
      have HR := HRm
      clear HBm HRm
      go_wp2_with fail
      exact bodyPost_ret (res_tc rfl _ _ _ _ _ _ _ rfl HR.out Tryz.underlying33 rfl Tryz.sizeU (.int .i64 0) rfl) rfl (rpt_no HNO.out HB.out)

set_option maxHeartbeats 2000000 in
set_option maxRecDepth 100000 in
theorem rhput_any {w : World} {g : Nat} {s : PS} {F : List Nat} (h : RS w g s F) (hz : s.sz < 100000000) (t : Int) {ids : List Int} {vi : Value} {n : Int} (hl : ids.length ≤ 1000000) (hi : I64s ids) (hrd : Rd w intE 1 vi ids) (hn : -9223372036854775808 ≤ n ∧ n < 9223372036854775808)
    {bk : Int} (hbk : 0 ≤ bk ∧ bk < 9223372036854775808) {a b c d : Int} {m : Nat} (hu : UIs a b c d m) :
    Calls Tryz.prog 138 #[.pointer (some ⟨g, 0, none⟩), .int .i64 t, vi, .int .i64 n, .int .i64 bk, .agg #[.int .u64 a, .int .u64 b, .int .u64 c, .int .u64 d]] w (RRet w g F (hputS s t ids bk m n) (.tuple #[])) := by
  obtain ⟨adi, capi, rfl, _, _⟩ := hrd.shape
  have L := Lib.hid (RLiv.start h); have HZ := Lib.hid hz; have HI := Lib.hid hi; have HRD := Lib.hid hrd; have HL := Lib.hid hl; have HN := Lib.hid hn; have HBK := Lib.hid hbk; have HU := Lib.hid hu
  have HP : Hid (hputS s t ids bk m n = s.set (keyF t (ids ++ [n])) (numL bk ++ amtB m)) := Lib.hid rfl
  clear h hz hl hi hrd hn hbk hu
  go_enter Tryz.func138, Tryz.ntmps138
  go_upto_region 1 with fail
  obtain ⟨w1, hw1⟩ : ∃ w1, w1 = w.alloc (.cells #[.int .u64 a, .int .u64 b, .int .u64 c, .int .u64 d] 33) := ⟨_, rfl⟩
  obtain ⟨X, hX⟩ : ∃ x, x = w.heap.size := ⟨_, rfl⟩
  rw [← hw1, ← hX]
  have HX : Hid (w1.heap[X]? = some (.cells #[.int .u64 a, .int .u64 b, .int .u64 c, .int .u64 d] 33 (0, 0))) := Lib.hid (by rw [hw1, hX]; exact heap_alloc_new _ _)
  have hb : Below w.heap.size w w1 := by rw [hw1]; exact below_new _ _
  clear hw1 hX
  have Lm := Lib.hid (L.out.later hb)
  have HRDm := Lib.hid (HRD.out.later hb)
  clear hb L HRD
  have L := Lm
  have HRD := HRDm
  clear Lm HRDm
  obtain ⟨a1, hwz⟩ : ∃ wz, wz = w1.drew := ⟨_, rfl⟩
  have hbz : Below w1.heap.size w1 a1 := by rw [hwz]; exact (Below.refl _ _).drew
  have Lm := Lib.hid (L.out.later hbz)
  have HRDm := Lib.hid (HRD.out.later hbz)
  have HXm := Lib.hid (below_at' hbz HX.out)
  clear hbz L HRD HX
  have L := Lm
  have HRD := HRDm
  have HX := HXm
  clear Lm HRDm HXm
  have hS : a1.heap[X]? = some (.cells #[.int .u64 a, .int .u64 b, .int .u64 c, .int .u64 d] 33 (0, 0)) := HX.out
  refine wp_region_till (fun w' => w'.heap[X]? = some (.cells #[.int .u64 a, .int .u64 b, .int .u64 c, .int .u64 d] 33 (0, 0))) 12 12 (by kernel_rfl) rfl ?_
  rw [← hwz]
  clear hwz
  refine till_take 0 (some 12) rfl rfl (by kernel_rfl) (by kernel_rfl) (by kernel_rfl) (by kernel_rfl) (by kernel_rfl) (by kernel_rfl) (fun _ _ _ h => h) (.inl ⟨by rfl, fun w' _ => (by go_simp; rfl)⟩) hS ?_
  go_frame
  refine till_take 1 (some 13) rfl rfl (by kernel_rfl) (by kernel_rfl) (by kernel_rfl) (by kernel_rfl) (by kernel_rfl) (by kernel_rfl) (fun _ _ _ h => h) (.inl ⟨by rfl, fun w' _ => (by go_simp; rfl)⟩) hS ?_
  go_frame
  refine till_take 2 (some 14) rfl rfl (by kernel_rfl) (by kernel_rfl) (by kernel_rfl) (by kernel_rfl) (by kernel_rfl) (by kernel_rfl) (fun _ _ _ h => h) (.inl ⟨by rfl, fun w' _ => (by go_simp; rfl)⟩) hS ?_
  go_frame
  refine till_take 3 (some 15) rfl rfl (by kernel_rfl) (by kernel_rfl) (by kernel_rfl) (by kernel_rfl) (by kernel_rfl) (by kernel_rfl) (fun _ _ _ h => h) (.inl ⟨by rfl, fun w' _ => (by go_simp; rfl)⟩) hS ?_
  go_frame
  refine till_take 6 (some 18) rfl rfl (by kernel_rfl) (by kernel_rfl) (by kernel_rfl) (by kernel_rfl) (by kernel_rfl) (by kernel_rfl) (fun _ _ _ h => h) (.inl ⟨by rfl, fun w' _ => (by go_simp; rfl)⟩) hS ?_
  go_frame
  refine till_take 8 (some 20) rfl rfl (by kernel_rfl) (by kernel_rfl) (by kernel_rfl) (by kernel_rfl) (by kernel_rfl) (by kernel_rfl) (fun _ _ _ h => h) (yields_load (by rfl) 33 _ rfl (.pointer (some ⟨X, 0, none⟩)) rfl (.agg #[.int .u64 a, .int .u64 b, .int .u64 c, .int .u64 d]) (fun w' hS' => load_heap (hS') Tryz.underlying33 rfl Tryz.sizeU)) hS ?_
  go_frame
  refine till_one 4 rfl (by kernel_rfl) fun K hK => ?_
  simp only [List.getElem_toArray, List.getElem_cons_succ, List.getElem_cons_zero]
  rw [if_pos (by rfl)]
  go_simp
  refine (rwith_any (n := n) HRD.out HL.out).mono ?_
  rintro e a2 ⟨vW, rfl, hrw, hb⟩
  have HWR := Lib.hid hrw
  clear hrw
  have Lm := Lib.hid (L.out.later hb)
  have HRDm := Lib.hid (HRD.out.later hb)
  have HXm := Lib.hid (below_at' hb HX.out)
  clear hb L HRD HX
  have L := Lm
  have HRD := HRDm
  have HX := HXm
  clear Lm HRDm HXm
  have hS2 : a2.heap[X]? = some (.cells #[.int .u64 a, .int .u64 b, .int .u64 c, .int .u64 d] 33 (0, 0)) := HX.out
  refine hK _ _ (fun _ _ => hS2) ?_
  clear hK hS
  have hS := hS2
  clear hS2
  refine till_one 5 rfl (by kernel_rfl) fun K hK => ?_
  simp only [List.getElem_toArray, List.getElem_cons_succ, List.getElem_cons_zero]
  rw [if_pos (by rfl)]
  go_simp
  refine (refKey_any t (ids ++ [n]) _ _ (by have := HL.out; simp; omega) (I64s_snoc HI.out HN.out) HWR.out).mono ?_
  rintro e a3 ⟨rfl, hb⟩
  have Lm := Lib.hid (L.out.later hb)
  have HRDm := Lib.hid (HRD.out.later hb)
  have HXm := Lib.hid (below_at' hb HX.out)
  have HWRm := Lib.hid (HWR.out.later hb)
  clear hb L HRD HX HWR
  have L := Lm
  have HRD := HRDm
  have HX := HXm
  have HWR := HWRm
  clear Lm HRDm HXm HWRm
  have hS2 : a3.heap[X]? = some (.cells #[.int .u64 a, .int .u64 b, .int .u64 c, .int .u64 d] 33 (0, 0)) := HX.out
  refine hK _ _ (fun _ _ => hS2) ?_
  clear hK hS
  have hS := hS2
  clear hS2
  refine till_one 7 rfl (by kernel_rfl) fun K hK => ?_
  simp only [List.getElem_toArray, List.getElem_cons_succ, List.getElem_cons_zero]
  rw [if_pos (by rfl)]
  go_simp
  refine (refNum_pos bk _ HBK.out.1 HBK.out.2).mono ?_
  rintro e a4 ⟨rfl, hb⟩
  have Lm := Lib.hid (L.out.later hb)
  have HRDm := Lib.hid (HRD.out.later hb)
  have HXm := Lib.hid (below_at' hb HX.out)
  have HWRm := Lib.hid (HWR.out.later hb)
  clear hb L HRD HX HWR
  have L := Lm
  have HRD := HRDm
  have HX := HXm
  have HWR := HWRm
  clear Lm HRDm HXm HWRm
  have hS2 : a4.heap[X]? = some (.cells #[.int .u64 a, .int .u64 b, .int .u64 c, .int .u64 d] 33 (0, 0)) := HX.out
  refine hK _ _ (fun _ _ => hS2) ?_
  clear hK hS
  have hS := hS2
  clear hS2
  refine till_one 9 rfl (by kernel_rfl) fun K hK => ?_
  simp only [List.getElem_toArray, List.getElem_cons_succ, List.getElem_cons_zero]
  rw [if_pos (by rfl)]
  go_simp
  refine (ramt_any HU.out _).mono ?_
  rintro e a5 ⟨rfl, hb⟩
  have Lm := Lib.hid (L.out.later hb)
  have HRDm := Lib.hid (HRD.out.later hb)
  have HXm := Lib.hid (below_at' hb HX.out)
  have HWRm := Lib.hid (HWR.out.later hb)
  clear hb L HRD HX HWR
  have L := Lm
  have HRD := HRDm
  have HX := HXm
  have HWR := HWRm
  clear Lm HRDm HXm HWRm
  have hS2 : a5.heap[X]? = some (.cells #[.int .u64 a, .int .u64 b, .int .u64 c, .int .u64 d] 33 (0, 0)) := HX.out
  refine hK _ _ (fun _ _ => hS2) ?_
  clear hK hS
  have hS := hS2
  clear hS2
  refine till_take 10 (some 22) rfl rfl (by kernel_rfl) (by kernel_rfl) (by kernel_rfl) (by kernel_rfl) (by kernel_rfl) (by kernel_rfl) (fun _ _ _ h => h) (.inl ⟨by rfl, fun w' _ => (by go_simp; rfl)⟩) hS ?_
  go_frame
  refine till_one 11 rfl (by kernel_rfl) fun K hK => ?_
  simp only [List.getElem_toArray, List.getElem_cons_succ, List.getElem_cons_zero]
  rw [if_pos (by rfl)]
  go_simp
  clear HRD HWR
  refine (L.out.call fun F hs => rset_any hs (by have := HZ.out; unfold PS.sz at this; omega) (by have := HZ.out; unfold PS.sz at this; omega) (keyF t (ids ++ [n])) (numL bk ++ amtB m)).mono ?_
  rintro e a6 ⟨rfl, o, hoth⟩
  have Lm := Lib.hid o
  have HXm := Lib.hid (hoth.2 X _ HX.out rfl rfl)
  clear o hoth L HX
  have L := Lm
  have HX := HXm
  clear Lm HXm
  have hS2 : a6.heap[X]? = some (.cells #[.int .u64 a, .int .u64 b, .int .u64 c, .int .u64 d] 33 (0, 0)) := HX.out
  refine hK _ _ (fun _ _ => hS2) ?_
  clear hK hS
  have hS := hS2
  clear hS2
  refine till_done (by kernel_rfl) ?_ _
  clear hS
  go_wp2_with fail
  go_end0
  rw [HP.out]; exact L.out.ret
end
section
open Go.RowKit

set_option maxHeartbeats 2000000 in
set_option maxRecDepth 100000 in
theorem rhLast_any {w : World} {g : Nat} {s : PS} {F : List Nat} (h : RS w g s F) (hz : s.sz < 100000000) (hf : Fit s) {t : Int} {ids : List Int} {vi : Value} {H : List (Int × Nat)} (hH : HisI (getP s.t) t ids H) (hl : ids.length ≤ 1000000) (hi : I64s ids) (hrd : Rd w intE 1 vi ids) (hn : H.length ≤ 1000000) :
    Calls Tryz.prog 73 #[.pointer (some ⟨g, 0, none⟩), .int .i64 t, vi] w (UOk w (lastN H) H.getLast?.isSome) := by
  obtain ⟨adi, capi, rfl, _, _⟩ := hrd.shape
  have HK := Lib.hid h; have HF := Lib.hid hf; have HI := Lib.hid hi; have HRD := Lib.hid hrd; have HL := Lib.hid hl; have HH := Lib.hid hH; have HZ := Lib.hid hz
  obtain ⟨N, hN⟩ : ∃ N, N = H.length := ⟨_, rfl⟩
  rw [← hN] at hn
  have HN := Lib.hid hN
  have HB : Hid (Below w.heap.size w w) := Lib.hid (Below.refl _ _)
  clear h hf hl hi hrd hH hN hz
  go_enter Tryz.func73, Tryz.ntmps73
  go_wp2_with (refine wpList_alloc_g rfl _ rfl _ _ Tryz.zeroUz rfl ?_)
  intro R e1 hR
  have WR : Hid (w.heap.size ≤ R) := Lib.hid (by rw [hR.out.eq]; exact (HB.out).size)
  have HRz := Lib.hid hR.out.cells; have hbR := hR.out.below
  clear hR
  have HBm := Lib.hid (HB.out.trans (hbR.mono HB.out.size))
  clear hbR HB
  have HB := HBm
  clear HBm
  have HR := HRz
  clear HRz
  go_wp2_with fail
  refine (rhlen_any (HK.out.later HB.out) HZ.out HF.out t HL.out HI.out (HRD.out.later HB.out)).mono ?_
  rw [HH.out.cnt, ← HN.out]
  rintro e e2 ⟨rfl, hb⟩
  have HBm := Lib.hid (HB.out.trans (hb.mono HB.out.size))
  have HRm := Lib.hid (below_at' hb HR.out)
  clear hb HB HR
  have HB := HBm
  have HR := HRm
  clear HBm HRm
  by_cases h0 : N = 0
  · have HE : Hid (H.getLast?.isSome = false ∧ lastN H = 0) := Lib.hid (by
      have : H = [] := List.length_eq_zero_iff.1 (by rw [← HN.out]; exact h0)
      subst this; exact ⟨rfl, rfl⟩)
    subst h0
    go_wp2_with (refine wpList_store_row_g (t := 33) (old := u0) rfl 33 _ _ rfl R u0 rfl rfl HR.out Tryz.sizeU rfl (one_u64 _ _ _ _) ?_)
    intro e3 hxR kR zR
    clear zR
    have HBm := Lib.hid (HB.out.trans (kR.below (B := w.heap.size) (fun y hy e => by have := WR.out; omega) HB.out.size))
    have HRm := Lib.hid hxR
    clear hxR kR HB HR
    have HB := HBm
    have HR := HRm
    clear HBm HRm
    go_wp2_with fail
    exact bodyPost_ret (res_row_val rfl _ _ R _ _ _ _ rfl HR.out Tryz.underlying33 rfl Tryz.sizeU _ rfl) rfl ⟨0, 0, 0, 0, by rw [HE.out.1]; exact UIs.zero, by rw [HE.out.1]; rfl, HB.out⟩
  · have hb0 : ((N : Int) == 0) = false := beq_eq_false_iff_ne.2 (by omega)
    have HE : Hid (H.getLast?.isSome = true ∧ lastN H = (H[N - 1]'(by rw [← HN.out]; omega)).2) := Lib.hid (by
      have h1 := last_of (H := H) (by rw [← HN.out]; omega)
      unfold lastN
      rw [h1]
      refine ⟨rfl, ?_⟩
      simp only [Option.map_some, Option.getD_some, HN.out])
    have hlt : N - 1 < H.length := by rw [← HN.out]; omega
    have hamt := HH.out.amt hlt
    rw [show ((N - 1 : Nat) : Int) = (N : Int) - 1 by omega, ← HE.out.2] at hamt
    have HAMT := Lib.hid hamt
    have hN0 := h0
    clear hamt
    go_wp2_with fail
    refine (rhget_any (HK.out.later HB.out) HZ.out HF.out t (n := (N : Int) - 1) HL.out HI.out (HRD.out.later HB.out) (by omega)).mono ?_
    rintro e e3 ⟨a, b, c, d, hu, rfl, hb⟩
    rw [HAMT.out] at hu
    have HU := Lib.hid hu
    clear hu
    have HBm := Lib.hid (HB.out.trans (hb.mono HB.out.size))
    have HRm := Lib.hid (below_at' hb HR.out)
    clear hb HB HR
    have HB := HBm
    have HR := HRm
    clear HBm HRm
    go_wp2_with (refine wpList_alloc_g rfl _ rfl _ _ Tryz.zeroUz rfl ?_)
    intro X e4 hX
    have WX : Hid (w.heap.size ≤ X) := Lib.hid (by rw [hX.out.eq]; exact (HB.out).size)
    have NRX : Hid (R ≠ X) := Lib.hid (by have := hX.out.eq; have := heap_lt HR.out; omega)
    have HXz := Lib.hid hX.out.cells; have hbX := hX.out.below
    clear hX
    have HBm := Lib.hid (HB.out.trans (hbX.mono HB.out.size))
    have HRm := Lib.hid (below_at' hbX HR.out)
    clear hbX HB HR
    have HB := HBm
    have HR := HRm
    clear HBm HRm
    have HX := HXz
    clear HXz
    go_wp2_with (refine wpList_store_row_g (t := 33) (old := u0) rfl 33 _ _ rfl X #[.int .u64 a, .int .u64 b, .int .u64 c, .int .u64 d] rfl rfl HX.out Tryz.sizeU rfl (one_u64 _ _ _ _) ?_)
    intro e5 hxX kX zX
    clear zX
    have HBm := Lib.hid (HB.out.trans (kX.below (B := w.heap.size) (fun y hy e => by have := WX.out; omega) HB.out.size))
    have HRm := Lib.hid (kX.at HR.out NRX.out)
    have HXm := Lib.hid hxX
    clear hxX kX HB HR HX
    have HB := HBm
    have HR := HRm
    have HX := HXm
    clear HBm HRm HXm
    go_wp2_with (first
      | (refine wpList_load_row rfl 33 _ rfl X rfl 33 _ _ _ HX.out Tryz.underlying33 rfl Tryz.sizeU ?_)
      | (refine wpList_store_row_g (t := 33) (old := u0) rfl 33 _ _ rfl R #[.int .u64 a, .int .u64 b, .int .u64 c, .int .u64 d] rfl rfl HR.out Tryz.sizeU rfl (one_u64 _ _ _ _) ?_))
    intro e6 hxR kR zR
    clear zR
    have HBm := Lib.hid (HB.out.trans (kR.below (B := w.heap.size) (fun y hy e => by have := WR.out; omega) HB.out.size))
    have HXm := Lib.hid (kR.at HX.out (fun e => NRX.out e.symm))
    have HRm := Lib.hid hxR
    clear hxR kR HB HR HX
    have HB := HBm
    have HR := HRm
    have HX := HXm
    clear HBm HRm HXm
    go_wp2_with fail
    exact bodyPost_ret (res_row_val rfl _ _ R _ _ _ _ rfl HR.out Tryz.underlying33 rfl Tryz.sizeU _ rfl) rfl ⟨a, b, c, d, by rw [HE.out.1]; exact HU.out, by rw [HE.out.1]; rfl, HB.out⟩

set_option maxHeartbeats 4000000 in
set_option maxRecDepth 100000 in
theorem rhAt_any {w : World} {g : Nat} {s : PS} {F : List Nat} (h : RS w g s F) (hz : s.sz < 100000000) (hf : Fit s) {t : Int} {ids : List Int} {vi : Value} {H : List (Int × Nat)} (hH : HisI (getP s.t) t ids H) (bk : Int) (hl : ids.length ≤ 1000000) (hi : I64s ids) (hrd : Rd w intE 1 vi ids) (hn : H.length ≤ 1000000) :
    Calls Tryz.prog 76 #[.pointer (some ⟨g, 0, none⟩), .int .i64 t, vi, .int .i64 bk] w (AtH w H bk) := by
  obtain ⟨adi, capi, rfl, _, _⟩ := hrd.shape
  have HK := Lib.hid h; have HF := Lib.hid hf; have HI := Lib.hid hi; have HRD := Lib.hid hrd; have HL := Lib.hid hl; have HH := Lib.hid hH; have HZ := Lib.hid hz
  obtain ⟨N, hN⟩ : ∃ N, N = H.length := ⟨_, rfl⟩
  rw [← hN] at hn
  have HN := Lib.hid hN; have HNB := Lib.hid hn
  have HB : Hid (Below w.heap.size w w) := Lib.hid (Below.refl _ _)
  clear h hf hl hi hrd hH hN hz hn
  go_enter Tryz.func76, Tryz.ntmps76
  go_wp2_with (refine wpList_alloc_g rfl _ rfl _ _ Tryz.zeroUz rfl ?_)
  intro R e1 hR
  have WR : Hid (w.heap.size ≤ R) := Lib.hid (by rw [hR.out.eq]; exact (HB.out).size)
  have HRz := Lib.hid hR.out.cells; have hbR := hR.out.below
  clear hR
  have HBm := Lib.hid (HB.out.trans (hbR.mono HB.out.size))
  clear hbR HB
  have HB := HBm
  clear HBm
  have HR := HRz
  clear HRz
  go_wp2_with (refine wpList_alloc_g rfl _ rfl _ _ Tryz.zeroUz rfl ?_)
  intro O e2 hO
  have WO : Hid (w.heap.size ≤ O) := Lib.hid (by rw [hO.out.eq]; exact (HB.out).size)
  have NRO : Hid (R ≠ O) := Lib.hid (by have := hO.out.eq; have := heap_lt HR.out; omega)
  have HOz := Lib.hid hO.out.cells; have hbO := hO.out.below
  clear hO
  have HBm := Lib.hid (HB.out.trans (hbO.mono HB.out.size))
  have HRm := Lib.hid (below_at' hbO HR.out)
  clear hbO HB HR
  have HB := HBm
  have HR := HRm
  clear HBm HRm
  have HO := HOz
  clear HOz
  go_wp2_with fail
  go_loopw [12, 11] (fun vi vk wr => ∃ (i : Nat) (a b c d : Int), vi = .int .i64 (i : Int) ∧ vk = .bool (decide (i ≠ 0)) ∧ i ≤ N ∧ (∀ j, j < i → ∀ (hj : j < H.length), H[j].1 ≤ bk) ∧ Hid (UIs a b c d (if i = 0 then 0 else ptN (valF (getP s.t) (keyF t (ids ++ [(i : Int) - 1]))))) ∧ Hid (wr.heap[O]? = some (.cells #[.int .u64 a, .int .u64 b, .int .u64 c, .int .u64 d] 33 (0, 0))) ∧ Hid (wr.heap[R]? = some (.cells u0 33 (0, 0))) ∧ Hid (Below w.heap.size w wr)) (fun vi _ _ => N - (intOf vi).toNat)
  case atStart => exact ⟨0, 0, 0, 0, 0, rfl, rfl, Nat.zero_le _, fun j hj => absurd hj (by omega), Lib.hid UIs.zero, HO, HR, HB⟩
  case round =>
    clear HO HR HB
    obtain ⟨i, a, b, c, d, rfl, rfl, hin, hle, HU, HO, HR, HB⟩ := hrel
    obtain ⟨kq, hkq⟩ : ∃ q, q = decide (i ≠ 0) := ⟨_, rfl⟩
    rw [← hkq]
    have HKQ := Lib.hid hkq; have HLE := Lib.hid hle
    clear hkq hle
    go_wp2_with fail
    refine (rhlen_any (HK.out.later HB.out) HZ.out HF.out t HL.out HI.out (HRD.out.later HB.out)).mono ?_
    rw [HH.out.cnt, ← HN.out]
    rintro e f1 ⟨rfl, hb⟩
    have HBm := Lib.hid (HB.out.trans (hb.mono HB.out.size))
    have HOm := Lib.hid (below_at' hb HO.out)
    have HRm := Lib.hid (below_at' hb HR.out)
    clear hb HB HO HR
    have HB := HBm
    have HO := HOm
    have HR := HRm
    clear HBm HOm HRm
    by_cases hlt : i < N
    · have hiN : i < H.length := by rw [← HN.out]; exact hlt
      have HBL : Hid (ptB (valF (getP s.t) (keyF t (ids ++ [(i : Int)]))) = (H[i]'hiN).1) := Lib.hid (HH.out.blk hiN)
      obtain ⟨bi, hbi⟩ : ∃ z, z = (H[i]'hiN).1 := ⟨_, rfl⟩
      rw [← hbi] at HBL
      have HBI := Lib.hid hbi
      have hi6 : i < 1000000 := by have := HNB.out; omega
      clear hbi
      go_wp2_with fail
      refine (rhget_any (HK.out.later HB.out) HZ.out HF.out t (n := (i : Int)) HL.out HI.out (HRD.out.later HB.out) (by omega)).mono ?_
      rintro e f2 ⟨a2, b2, c2, d2, hu, rfl, hb⟩
      rw [HBL.out]
      have HU2 := Lib.hid hu
      clear hu
      have HBm := Lib.hid (HB.out.trans (hb.mono HB.out.size))
      have HOm := Lib.hid (below_at' hb HO.out)
      have HRm := Lib.hid (below_at' hb HR.out)
      clear hb HB HO HR
      have HB := HBm
      have HO := HOm
      have HR := HRm
      clear HBm HOm HRm
      go_wp2_with (refine wpList_alloc_g rfl _ rfl _ _ Tryz.zeroUz rfl ?_)
      intro X f3 hX
      have WX : Hid (w.heap.size ≤ X) := Lib.hid (by rw [hX.out.eq]; exact (HB.out).size)
      have NOX : Hid (O ≠ X) := Lib.hid (by have := hX.out.eq; have := heap_lt HO.out; omega)
      have NRX : Hid (R ≠ X) := Lib.hid (by have := hX.out.eq; have := heap_lt HR.out; omega)
      have HXz := Lib.hid hX.out.cells; have hbX := hX.out.below
      clear hX
      have HBm := Lib.hid (HB.out.trans (hbX.mono HB.out.size))
      have HOm := Lib.hid (below_at' hbX HO.out)
      have HRm := Lib.hid (below_at' hbX HR.out)
      clear hbX HB HO HR
      have HB := HBm
      have HO := HOm
      have HR := HRm
      clear HBm HOm HRm
      have HX := HXz
      clear HXz
      go_wp2_with (refine wpList_store_row_g (t := 33) (old := u0) rfl 33 _ _ rfl X #[.int .u64 a2, .int .u64 b2, .int .u64 c2, .int .u64 d2] rfl rfl HX.out Tryz.sizeU rfl (one_u64 _ _ _ _) ?_)
      intro f4 hxX kX zX
      clear zX
      have HBm := Lib.hid (HB.out.trans (kX.below (B := w.heap.size) (fun y hy e => by have := WX.out; omega) HB.out.size))
      have HOm := Lib.hid (kX.at HO.out NOX.out)
      have HRm := Lib.hid (kX.at HR.out NRX.out)
      have HXm := Lib.hid hxX
      clear hxX kX HB HO HR HX
      have HB := HBm
      have HO := HOm
      have HR := HRm
      have HX := HXm
      clear HBm HOm HRm HXm
      by_cases hgt : bk < bi
      · have HGT := Lib.hid hgt; have hgt9 := hgt; clear hin
        go_wp2_with (first
          | (refine wpList_load_row rfl 33 _ rfl O rfl 33 _ _ _ HO.out Tryz.underlying33 rfl Tryz.sizeU ?_)
          | (refine wpList_store_row_g (t := 33) (old := u0) rfl 33 _ _ rfl R #[.int .u64 a, .int .u64 b, .int .u64 c, .int .u64 d] rfl rfl HR.out Tryz.sizeU rfl (one_u64 _ _ _ _) ?_))
        intro f5 hxR kR zR
        clear zR
        have HBm := Lib.hid (HB.out.trans (kR.below (B := w.heap.size) (fun y hy e => by have := WR.out; omega) HB.out.size))
        have HOm := Lib.hid (kR.at HO.out (fun e => NRO.out e.symm))
        have HXm := Lib.hid (kR.at HX.out (fun e => NRX.out e.symm))
        have HRm := Lib.hid hxR
        clear hxR kR HB HO HR HX
        have HB := HBm
        have HO := HOm
        have HR := HRm
        have HX := HXm
        clear HBm HOm HRm HXm
        have HAK : Hid (AtK (getP s.t) t ids bk (i : Int)) := Lib.hid ⟨by omega, by rw [HH.out.cnt, ← HN.out]; omega, fun j h0 h1 => by
          obtain ⟨j, rfl⟩ : ∃ z : Nat, j = z := ⟨j.toNat, by omega⟩
          rw [HH.out.blk (i := j) (by rw [← HN.out]; omega)]
          exact HLE.out j (by omega) (by rw [← HN.out]; omega), fun j h0 h1 => by
          rw [HH.out.cnt, ← HN.out] at h1
          obtain ⟨j, rfl⟩ : ∃ z : Nat, j = z := ⟨j.toNat, by omega⟩
          have h5 := HH.out.rises (i : Int) (j : Int) (by omega) h0 (by rw [HH.out.cnt, ← HN.out]; exact h1)
          rw [HBL.out] at h5
          have := HGT.out
          omega⟩
        go_wp2_with fail
        refine bodyPost_ret (res_row_val rfl _ _ R _ _ _ _ rfl HR.out Tryz.underlying33 rfl Tryz.sizeU _ rfl) rfl ?_
        obtain ⟨e1, e2⟩ := HH.out.look HAK.out
        have hz0 : (decide ((i : Int) ≠ 0)) = decide (i ≠ 0) := decide_eq_decide.2 ⟨fun h e => h (by omega), fun h e => h (by omega)⟩
        have hu : UIs a b c d (((lookH H bk).map (·.2)).getD 0) := by
          rw [← e1]
          have h9 := HU.out
          by_cases h0 : i = 0
          · subst h0; exact h9
          · rw [if_neg h0] at h9
            rw [if_neg (by omega)]
            exact h9
        exact ⟨a, b, c, d, hu, by rw [← e2, hz0, ← HKQ.out]; rfl, HB.out⟩
      · have hng : ¬ bk < bi := hgt
        clear hgt hin
        go_wp2_with (first
          | (refine wpList_load_row rfl 33 _ rfl X rfl 33 _ _ _ HX.out Tryz.underlying33 rfl Tryz.sizeU ?_)
          | (refine wpList_store_row_g (t := 33) (old := #[.int .u64 a, .int .u64 b, .int .u64 c, .int .u64 d]) rfl 33 _ _ rfl O #[.int .u64 a2, .int .u64 b2, .int .u64 c2, .int .u64 d2] rfl rfl HO.out Tryz.sizeU rfl (one_u64 _ _ _ _) ?_))
        intro f5 hxO kO zO
        clear zO
        have HBm := Lib.hid (HB.out.trans (kO.below (B := w.heap.size) (fun y hy e => by have := WO.out; omega) HB.out.size))
        have HRm := Lib.hid (kO.at HR.out NRO.out)
        have HXm := Lib.hid (kO.at HX.out (fun e => NOX.out e.symm))
        have HOm := Lib.hid hxO
        clear hxO kO HB HO HR HX
        have HB := HBm
        have HO := HOm
        have HR := HRm
        have HX := HXm
        clear HBm HOm HRm HXm
        go_wp2_with fail
        go_roundw
        case rel => exact ⟨i + 1, a2, b2, c2, d2, by go_num, by simp, hlt, fun j hj hjl => by
          rcases Nat.lt_or_ge j i with h1 | h1
          · exact HLE.out j h1 hjl
          · obtain rfl : j = i := by omega
            have := HBI.out; omega, Lib.hid (by rw [if_neg (by omega)]; rw [show ((i + 1 : Nat) : Int) - 1 = (i : Int) by omega]; exact HU2.out), HO, HR, HB⟩
        case measure => simp [intOf]; omega
    · have hi9 : i = N := by omega
      subst hi9
      clear hlt hin
      go_wp2_with (first
        | (refine wpList_load_row rfl 33 _ rfl O rfl 33 _ _ _ HO.out Tryz.underlying33 rfl Tryz.sizeU ?_)
        | (refine wpList_store_row_g (t := 33) (old := u0) rfl 33 _ _ rfl R #[.int .u64 a, .int .u64 b, .int .u64 c, .int .u64 d] rfl rfl HR.out Tryz.sizeU rfl (one_u64 _ _ _ _) ?_))
      intro f2 hxR kR zR
      clear zR
      have HBm := Lib.hid (HB.out.trans (kR.below (B := w.heap.size) (fun y hy e => by have := WR.out; omega) HB.out.size))
      have HOm := Lib.hid (kR.at HO.out (fun e => NRO.out e.symm))
      have HRm := Lib.hid hxR
      clear hxR kR HB HO HR
      have HB := HBm
      have HO := HOm
      have HR := HRm
      clear HBm HOm HRm
      have HAK : Hid (AtK (getP s.t) t ids bk (i : Int)) := Lib.hid ⟨by omega, by rw [HH.out.cnt, ← HN.out]; omega, fun j h0 h1 => by
        obtain ⟨j, rfl⟩ : ∃ z : Nat, j = z := ⟨j.toNat, by omega⟩
        rw [HH.out.blk (i := j) (by rw [← HN.out]; omega)]
        exact HLE.out j (by omega) (by rw [← HN.out]; omega), fun j h0 h1 => by
        rw [HH.out.cnt, ← HN.out] at h1
        omega⟩
      go_wp2_with fail
      refine bodyPost_ret (res_row_val rfl _ _ R _ _ _ _ rfl HR.out Tryz.underlying33 rfl Tryz.sizeU _ rfl) rfl ?_
      obtain ⟨e1, e2⟩ := HH.out.look HAK.out
      have hz0 : (decide ((i : Int) ≠ 0)) = decide (i ≠ 0) := decide_eq_decide.2 ⟨fun h e => h (by omega), fun h e => h (by omega)⟩
      have hu : UIs a b c d (((lookH H bk).map (·.2)).getD 0) := by
        rw [← e1]
        have h9 := HU.out
        by_cases h0 : i = 0
        · subst h0; exact h9
        · rw [if_neg h0] at h9
          rw [if_neg (by omega)]
          exact h9
      exact ⟨a, b, c, d, hu, by rw [← e2, hz0, ← HKQ.out]; rfl, HB.out⟩

theorem rone_any (w : World) : Calls Tryz.prog 74 #[] w (URet w uOne) := by
  have HB : Hid (Below w.heap.size w w) := Lib.hid (Below.refl _ _)
  have HU : Hid (UIs 1000000000000000000 0 0 0 uOne) := Lib.hid (by unfold UIs uOne; omega)
  go_enter Tryz.func74, Tryz.ntmps74
  go_wp2_with (refine wpList_alloc_g rfl _ rfl _ _ Tryz.zeroUz rfl ?_)
  intro R e1 hR
  have WR : Hid (w.heap.size ≤ R) := Lib.hid (by rw [hR.out.eq]; exact (HB.out).size)
  have HRz := Lib.hid hR.out.cells; have hbR := hR.out.below
  clear hR
  have HBm := Lib.hid (HB.out.trans (hbR.mono HB.out.size))
  clear hbR HB
  have HB := HBm
  clear HBm
  have HR := HRz
  clear HRz
  go_wp2_with (refine wpList_store_row_g (t := 33) (old := u0) rfl 33 _ _ rfl R #[.int .u64 1000000000000000000, .int .u64 0, .int .u64 0, .int .u64 0] rfl rfl HR.out Tryz.sizeU rfl (one_u64 _ _ _ _) ?_)
  intro e2 hxR kR zR
  clear zR
  have HBm := Lib.hid (HB.out.trans (kR.below (B := w.heap.size) (fun y hy e => by have := WR.out; omega) HB.out.size))
  have HRm := Lib.hid hxR
  clear hxR kR HB HR
  have HB := HBm
  have HR := HRm
  clear HBm HRm
  go_wp2_with fail
  exact bodyPost_ret (results_cell_row rfl _ _ _ _ _ _ _ rfl HR.out Tryz.underlying33 rfl Tryz.sizeU) rfl ⟨_, _, _, _, HU.out, rfl, HB.out⟩

set_option maxHeartbeats 2000000 in
set_option maxRecDepth 100000 in
theorem rMax_any {w : World} {g : Nat} {s : PS} {F : List Nat} (h : RS w g s F) (hz : s.sz < 100000000) (hf : Fit s) {o st : Int} {H : List (Int × Nat)} (hH : HisI (getP s.t) 13 [o, st] H) (hn : H.length ≤ 1000000) (ho : -9223372036854775808 ≤ o ∧ o < 9223372036854775808) (hst : -9223372036854775808 ≤ st ∧ st < 9223372036854775808) :
    Calls Tryz.prog 24 #[.pointer (some ⟨g, 0, none⟩), .int .i64 o, .int .i64 st] w (URet w (maxH o H)) := by
  have HK := Lib.hid h; have HF := Lib.hid hf; have HH := Lib.hid hH; have HI : Hid (I64s [o, st]) := Lib.hid (I64s.two ho hst); have HN := Lib.hid hn; have HZ := Lib.hid hz
  obtain ⟨v, hv⟩ : ∃ v, v = maxH o H := ⟨_, rfl⟩
  rw [← hv]
  have HVV := Lib.hid hv
  have HB : Hid (Below w.heap.size w w) := Lib.hid (Below.refl _ _)
  clear h hf hH hn ho hst hv hz
  go_enter Tryz.func24, Tryz.ntmps24
  go_wp2_with (refine wpList_alloc_g rfl _ rfl _ _ Tryz.zeroUz rfl ?_)
  intro R e1 hR
  have WR : Hid (w.heap.size ≤ R) := Lib.hid (by rw [hR.out.eq]; exact (HB.out).size)
  have HRz := Lib.hid hR.out.cells; have hbR := hR.out.below
  clear hR
  have HBm := Lib.hid (HB.out.trans (hbR.mono HB.out.size))
  clear hbR HB
  have HB := HBm
  clear HBm
  have HR := HRz
  clear HRz
  go_wp2_with fail
  obtain ⟨e2, hwl⟩ : ∃ wl, wl = World.alloc e1 (.cells #[.int .i64 o, .int .i64 st] 3) := ⟨_, rfl⟩
  obtain ⟨gl, hgl⟩ : ∃ gl, gl = (World.heap e1).size := ⟨_, rfl⟩
  rw [← hwl, ← hgl]
  have HOIz : Hid (Own e2 0 3 intE 1 (.slice (some ⟨gl, 0, none⟩) 2 2) [o, st]) := Lib.hid (own_lit (l := [o, st]) (by rw [hwl, hgl]; exact heap_alloc_new _ _) (Nat.zero_le _) (by unfold maxLen; simp))
  have hb : Below (World.heap e1).size e1 e2 := by rw [hwl]; exact below_new _ _
  clear hwl hgl
  have HBm := Lib.hid (HB.out.trans (hb.mono HB.out.size))
  have HRm := Lib.hid (below_at' hb HR.out)
  clear hb HB HR
  have HB := HBm
  have HR := HRm
  clear HBm HRm
  have HOI := HOIz
  clear HOIz
  refine (rhLast_any (HK.out.later HB.out) HZ.out HF.out HH.out (by simp) HI.out (HOI.out.rd fun _ => rfl) HN.out).mono ?_
  rintro e e3 ⟨a, b, c, d, hu, rfl, hb⟩
  have HU := Lib.hid hu
  clear hu
  have HBm := Lib.hid (HB.out.trans (hb.mono HB.out.size))
  have HRm := Lib.hid (below_at' hb HR.out)
  have HOIm := Lib.hid (HOI.out.later hb)
  clear hb HB HR HOI
  have HB := HBm
  have HR := HRm
  have HOI := HOIm
  clear HBm HRm HOIm
  clear HOI
  obtain ⟨q, hq⟩ : ∃ q, q = H.getLast?.isSome := ⟨_, rfl⟩
  rw [← hq]
  have HQ := Lib.hid hq
  clear hq
  go_wp2_with (refine wpList_alloc_g rfl _ rfl _ _ Tryz.zeroUz rfl ?_)
  intro X e4 hX
  go_wp2_with (refine wpList_store_row_g (t := 33) (old := u0) rfl 33 _ _ rfl X #[.int .u64 a, .int .u64 b, .int .u64 c, .int .u64 d] rfl rfl hX.out.cells Tryz.sizeU rfl (one_u64 _ _ _ _) ?_)
  intro e5 hxX kX zX
  clear zX
  have hbX : Below e3.heap.size e3 e5 := hX.out.below.trans (kX.below (B := e3.heap.size) (fun x hx e => by have := hX.out.eq; omega) hX.out.below.size)
  have WX : Hid (w.heap.size ≤ X) := Lib.hid (by rw [hX.out.eq]; exact (HB.out).size)
  have NRX : Hid (R ≠ X) := Lib.hid (by have := hX.out.eq; have := heap_lt HR.out; omega)
  have HXz := Lib.hid hxX
  clear hX hxX kX
  have HBm := Lib.hid (HB.out.trans (hbX.mono HB.out.size))
  have HRm := Lib.hid (below_at' hbX HR.out)
  clear hbX HB HR
  have HB := HBm
  have HR := HRm
  clear HBm HRm
  have HX := HXz
  clear HXz
  cases q with
  | false =>
    have HC : Hid (o = 0 ∨ H.getLast?.isSome = false) := Lib.hid (.inr HQ.out.symm)
    go_wp2_with fail
    refine (rone_any _).mono ?_
    rintro e e6 ⟨a3, b3, c3, d3, hu3, rfl, hb⟩
    have HU3 := Lib.hid hu3
    clear hu3
    have HBm := Lib.hid (HB.out.trans (hb.mono HB.out.size))
    have HRm := Lib.hid (below_at' hb HR.out)
    have HXm := Lib.hid (below_at' hb HX.out)
    clear hb HB HR HX
    have HB := HBm
    have HR := HRm
    have HX := HXm
    clear HBm HRm HXm
    go_wp2_with (refine wpList_store_row_g (t := 33) (old := u0) rfl 33 _ _ rfl R #[.int .u64 a3, .int .u64 b3, .int .u64 c3, .int .u64 d3] rfl rfl HR.out Tryz.sizeU rfl (one_u64 _ _ _ _) ?_)
    intro e7 hxR kR zR
    clear zR
    have HBm := Lib.hid (HB.out.trans (kR.below (B := w.heap.size) (fun y hy e => by have := WR.out; omega) HB.out.size))
    have HXm := Lib.hid (kR.at HX.out (fun e => NRX.out e.symm))
    have HRm := Lib.hid hxR
    clear hxR kR HB HR HX
    have HB := HBm
    have HR := HRm
    have HX := HXm
    clear HBm HRm HXm
    go_wp2_with fail
    refine bodyPost_ret (results_cell_row rfl _ _ _ _ _ _ _ rfl HR.out Tryz.underlying33 rfl Tryz.sizeU) rfl ?_
    rw [show v = uOne from by rw [HVV.out]; unfold maxH; first | rw [if_pos HC.out] | rw [if_pos (Or.inl rfl)]]
    exact ⟨_, _, _, _, HU3.out, rfl, HB.out⟩
  | true =>
    by_cases h0 : o = 0
    · have HC : Hid (o = 0 ∨ H.getLast?.isSome = false) := Lib.hid (.inl h0)
      subst h0
      go_wp2_with fail
      refine (rone_any _).mono ?_
      rintro e e6 ⟨a3, b3, c3, d3, hu3, rfl, hb⟩
      have HU3 := Lib.hid hu3
      clear hu3
      have HBm := Lib.hid (HB.out.trans (hb.mono HB.out.size))
      have HRm := Lib.hid (below_at' hb HR.out)
      have HXm := Lib.hid (below_at' hb HX.out)
      clear hb HB HR HX
      have HB := HBm
      have HR := HRm
      have HX := HXm
      clear HBm HRm HXm
      go_wp2_with (refine wpList_store_row_g (t := 33) (old := u0) rfl 33 _ _ rfl R #[.int .u64 a3, .int .u64 b3, .int .u64 c3, .int .u64 d3] rfl rfl HR.out Tryz.sizeU rfl (one_u64 _ _ _ _) ?_)
      intro e7 hxR kR zR
      clear zR
      have HBm := Lib.hid (HB.out.trans (kR.below (B := w.heap.size) (fun y hy e => by have := WR.out; omega) HB.out.size))
      have HXm := Lib.hid (kR.at HX.out (fun e => NRX.out e.symm))
      have HRm := Lib.hid hxR
      clear hxR kR HB HR HX
      have HB := HBm
      have HR := HRm
      have HX := HXm
      clear HBm HRm HXm
      go_wp2_with fail
      refine bodyPost_ret (results_cell_row rfl _ _ _ _ _ _ _ rfl HR.out Tryz.underlying33 rfl Tryz.sizeU) rfl ?_
      rw [show v = uOne from by rw [HVV.out]; unfold maxH; first | rw [if_pos HC.out] | rw [if_pos (Or.inl rfl)]]
      exact ⟨_, _, _, _, HU3.out, rfl, HB.out⟩
    · have HC : Hid (¬ (o = 0 ∨ H.getLast?.isSome = false)) := Lib.hid (fun e => e.elim h0 fun e => by rw [← HQ.out] at e; cases e)
      have h0a : (o == 0) = false := beq_eq_false_iff_ne.2 h0
      clear h0
      go_wp2_with (first
        | (refine wpList_load_row rfl 33 _ rfl X rfl 33 _ _ _ HX.out Tryz.underlying33 rfl Tryz.sizeU ?_)
        | (refine wpList_store_row_g (t := 33) (old := u0) rfl 33 _ _ rfl R #[.int .u64 a, .int .u64 b, .int .u64 c, .int .u64 d] rfl rfl HR.out Tryz.sizeU rfl (one_u64 _ _ _ _) ?_))
      intro e6 hxR kR zR
      clear zR
      have HBm := Lib.hid (HB.out.trans (kR.below (B := w.heap.size) (fun y hy e => by have := WR.out; omega) HB.out.size))
      have HXm := Lib.hid (kR.at HX.out (fun e => NRX.out e.symm))
      have HRm := Lib.hid hxR
      clear hxR kR HB HR HX
      have HB := HBm
      have HR := HRm
      have HX := HXm
      clear HBm HRm HXm
      go_wp2_with fail
      refine bodyPost_ret (results_cell_row rfl _ _ _ _ _ _ _ rfl HR.out Tryz.underlying33 rfl Tryz.sizeU) rfl ?_
      have h9 := HU.out
      rw [show v = lastN H from by rw [HVV.out]; unfold maxH; rw [if_neg HC.out]]
      rw [← HQ.out, if_pos rfl] at h9
      exact ⟨_, _, _, _, h9, rfl, HB.out⟩

set_option maxHeartbeats 2000000 in
set_option maxRecDepth 100000 in
theorem rMAt_any {w : World} {g : Nat} {s : PS} {F : List Nat} (h : RS w g s F) (hz : s.sz < 100000000) (hf : Fit s) {o st : Int} {H : List (Int × Nat)} (hH : HisI (getP s.t) 13 [o, st] H) (hn : H.length ≤ 1000000) (ho : -9223372036854775808 ≤ o ∧ o < 9223372036854775808) (hst : -9223372036854775808 ≤ st ∧ st < 9223372036854775808) (bk : Int) :
    Calls Tryz.prog 26 #[.pointer (some ⟨g, 0, none⟩), .int .i64 o, .int .i64 st, .int .i64 bk] w (URet w (atH o H bk)) := by
  have HK := Lib.hid h; have HF := Lib.hid hf; have HH := Lib.hid hH; have HI : Hid (I64s [o, st]) := Lib.hid (I64s.two ho hst); have HN := Lib.hid hn; have HZ := Lib.hid hz
  obtain ⟨v, hv⟩ : ∃ v, v = atH o H bk := ⟨_, rfl⟩
  rw [← hv]
  have HVV := Lib.hid hv
  have HB : Hid (Below w.heap.size w w) := Lib.hid (Below.refl _ _)
  clear h hf hH hn ho hst hv hz
  go_enter Tryz.func26, Tryz.ntmps26
  go_wp2_with (refine wpList_alloc_g rfl _ rfl _ _ Tryz.zeroUz rfl ?_)
  intro R e1 hR
  have WR : Hid (w.heap.size ≤ R) := Lib.hid (by rw [hR.out.eq]; exact (HB.out).size)
  have HRz := Lib.hid hR.out.cells; have hbR := hR.out.below
  clear hR
  have HBm := Lib.hid (HB.out.trans (hbR.mono HB.out.size))
  clear hbR HB
  have HB := HBm
  clear HBm
  have HR := HRz
  clear HRz
  go_wp2_with fail
  obtain ⟨e2, hwl⟩ : ∃ wl, wl = World.alloc e1 (.cells #[.int .i64 o, .int .i64 st] 3) := ⟨_, rfl⟩
  obtain ⟨gl, hgl⟩ : ∃ gl, gl = (World.heap e1).size := ⟨_, rfl⟩
  rw [← hwl, ← hgl]
  have HOIz : Hid (Own e2 0 3 intE 1 (.slice (some ⟨gl, 0, none⟩) 2 2) [o, st]) := Lib.hid (own_lit (l := [o, st]) (by rw [hwl, hgl]; exact heap_alloc_new _ _) (Nat.zero_le _) (by unfold maxLen; simp))
  have hb : Below (World.heap e1).size e1 e2 := by rw [hwl]; exact below_new _ _
  clear hwl hgl
  have HBm := Lib.hid (HB.out.trans (hb.mono HB.out.size))
  have HRm := Lib.hid (below_at' hb HR.out)
  clear hb HB HR
  have HB := HBm
  have HR := HRm
  clear HBm HRm
  have HOI := HOIz
  clear HOIz
  refine (rhAt_any (HK.out.later HB.out) HZ.out HF.out HH.out bk (by simp) HI.out (HOI.out.rd fun _ => rfl) HN.out).mono ?_
  rintro e e3 ⟨a, b, c, d, hu, rfl, hb⟩
  have HU := Lib.hid hu
  clear hu
  have HBm := Lib.hid (HB.out.trans (hb.mono HB.out.size))
  have HRm := Lib.hid (below_at' hb HR.out)
  have HOIm := Lib.hid (HOI.out.later hb)
  clear hb HB HR HOI
  have HB := HBm
  have HR := HRm
  have HOI := HOIm
  clear HBm HRm HOIm
  clear HOI
  obtain ⟨q, hq⟩ : ∃ q, q = (lookH H bk).isSome := ⟨_, rfl⟩
  rw [← hq]
  have HQ := Lib.hid hq
  clear hq
  go_wp2_with (refine wpList_alloc_g rfl _ rfl _ _ Tryz.zeroUz rfl ?_)
  intro X e4 hX
  go_wp2_with (refine wpList_store_row_g (t := 33) (old := u0) rfl 33 _ _ rfl X #[.int .u64 a, .int .u64 b, .int .u64 c, .int .u64 d] rfl rfl hX.out.cells Tryz.sizeU rfl (one_u64 _ _ _ _) ?_)
  intro e5 hxX kX zX
  clear zX
  have hbX : Below e3.heap.size e3 e5 := hX.out.below.trans (kX.below (B := e3.heap.size) (fun x hx e => by have := hX.out.eq; omega) hX.out.below.size)
  have WX : Hid (w.heap.size ≤ X) := Lib.hid (by rw [hX.out.eq]; exact (HB.out).size)
  have NRX : Hid (R ≠ X) := Lib.hid (by have := hX.out.eq; have := heap_lt HR.out; omega)
  have HXz := Lib.hid hxX
  clear hX hxX kX
  have HBm := Lib.hid (HB.out.trans (hbX.mono HB.out.size))
  have HRm := Lib.hid (below_at' hbX HR.out)
  clear hbX HB HR
  have HB := HBm
  have HR := HRm
  clear HBm HRm
  have HX := HXz
  clear HXz
  cases q with
  | false =>
    have HC : Hid (o = 0 ∨ (lookH H bk).isSome = false) := Lib.hid (.inr HQ.out.symm)
    go_wp2_with fail
    refine (rone_any _).mono ?_
    rintro e e6 ⟨a3, b3, c3, d3, hu3, rfl, hb⟩
    have HU3 := Lib.hid hu3
    clear hu3
    have HBm := Lib.hid (HB.out.trans (hb.mono HB.out.size))
    have HRm := Lib.hid (below_at' hb HR.out)
    have HXm := Lib.hid (below_at' hb HX.out)
    clear hb HB HR HX
    have HB := HBm
    have HR := HRm
    have HX := HXm
    clear HBm HRm HXm
    go_wp2_with (refine wpList_store_row_g (t := 33) (old := u0) rfl 33 _ _ rfl R #[.int .u64 a3, .int .u64 b3, .int .u64 c3, .int .u64 d3] rfl rfl HR.out Tryz.sizeU rfl (one_u64 _ _ _ _) ?_)
    intro e7 hxR kR zR
    clear zR
    have HBm := Lib.hid (HB.out.trans (kR.below (B := w.heap.size) (fun y hy e => by have := WR.out; omega) HB.out.size))
    have HXm := Lib.hid (kR.at HX.out (fun e => NRX.out e.symm))
    have HRm := Lib.hid hxR
    clear hxR kR HB HR HX
    have HB := HBm
    have HR := HRm
    have HX := HXm
    clear HBm HRm HXm
    go_wp2_with fail
    refine bodyPost_ret (results_cell_row rfl _ _ _ _ _ _ _ rfl HR.out Tryz.underlying33 rfl Tryz.sizeU) rfl ?_
    rw [show v = uOne from by rw [HVV.out]; unfold atH; first | rw [if_pos HC.out] | rw [if_pos (Or.inl rfl)]]
    exact ⟨_, _, _, _, HU3.out, rfl, HB.out⟩
  | true =>
    by_cases h0 : o = 0
    · have HC : Hid (o = 0 ∨ (lookH H bk).isSome = false) := Lib.hid (.inl h0)
      subst h0
      go_wp2_with fail
      refine (rone_any _).mono ?_
      rintro e e6 ⟨a3, b3, c3, d3, hu3, rfl, hb⟩
      have HU3 := Lib.hid hu3
      clear hu3
      have HBm := Lib.hid (HB.out.trans (hb.mono HB.out.size))
      have HRm := Lib.hid (below_at' hb HR.out)
      have HXm := Lib.hid (below_at' hb HX.out)
      clear hb HB HR HX
      have HB := HBm
      have HR := HRm
      have HX := HXm
      clear HBm HRm HXm
      go_wp2_with (refine wpList_store_row_g (t := 33) (old := u0) rfl 33 _ _ rfl R #[.int .u64 a3, .int .u64 b3, .int .u64 c3, .int .u64 d3] rfl rfl HR.out Tryz.sizeU rfl (one_u64 _ _ _ _) ?_)
      intro e7 hxR kR zR
      clear zR
      have HBm := Lib.hid (HB.out.trans (kR.below (B := w.heap.size) (fun y hy e => by have := WR.out; omega) HB.out.size))
      have HXm := Lib.hid (kR.at HX.out (fun e => NRX.out e.symm))
      have HRm := Lib.hid hxR
      clear hxR kR HB HR HX
      have HB := HBm
      have HR := HRm
      have HX := HXm
      clear HBm HRm HXm
      go_wp2_with fail
      refine bodyPost_ret (results_cell_row rfl _ _ _ _ _ _ _ rfl HR.out Tryz.underlying33 rfl Tryz.sizeU) rfl ?_
      rw [show v = uOne from by rw [HVV.out]; unfold atH; first | rw [if_pos HC.out] | rw [if_pos (Or.inl rfl)]]
      exact ⟨_, _, _, _, HU3.out, rfl, HB.out⟩
    · have HC : Hid (¬ (o = 0 ∨ (lookH H bk).isSome = false)) := Lib.hid (fun e => e.elim h0 fun e => by rw [← HQ.out] at e; cases e)
      have h0a : (o == 0) = false := beq_eq_false_iff_ne.2 h0
      clear h0
      go_wp2_with (first
        | (refine wpList_load_row rfl 33 _ rfl X rfl 33 _ _ _ HX.out Tryz.underlying33 rfl Tryz.sizeU ?_)
        | (refine wpList_store_row_g (t := 33) (old := u0) rfl 33 _ _ rfl R #[.int .u64 a, .int .u64 b, .int .u64 c, .int .u64 d] rfl rfl HR.out Tryz.sizeU rfl (one_u64 _ _ _ _) ?_))
      intro e6 hxR kR zR
      clear zR
      have HBm := Lib.hid (HB.out.trans (kR.below (B := w.heap.size) (fun y hy e => by have := WR.out; omega) HB.out.size))
      have HXm := Lib.hid (kR.at HX.out (fun e => NRX.out e.symm))
      have HRm := Lib.hid hxR
      clear hxR kR HB HR HX
      have HB := HBm
      have HR := HRm
      have HX := HXm
      clear HBm HRm HXm
      go_wp2_with fail
      refine bodyPost_ret (results_cell_row rfl _ _ _ _ _ _ _ rfl HR.out Tryz.underlying33 rfl Tryz.sizeU) rfl ?_
      have h9 := HU.out
      rw [show v = ((lookH H bk).map (·.2)).getD 0 from by rw [HVV.out]; unfold atH; rw [if_neg HC.out]]
      exact ⟨_, _, _, _, h9, rfl, HB.out⟩

set_option maxHeartbeats 2000000 in
set_option maxRecDepth 100000 in
theorem rChg_any {w : World} {g : Nat} {s : PS} {F : List Nat} (h : RS w g s F) (hz : s.sz < 100000000) (hf : Fit s) {o st : Int} {H : List (Int × Nat)} (hH : HisI (getP s.t) 13 [o, st] H) (_hn : H.length ≤ 1000000) (ho : -9223372036854775808 ≤ o ∧ o < 9223372036854775808) (hst : -9223372036854775808 ≤ st ∧ st < 9223372036854775808) :
    Calls Tryz.prog 28 #[.pointer (some ⟨g, 0, none⟩), .int .i64 o, .int .i64 st] w (Ret w (.int .i64 H.length)) := by
  have HK := Lib.hid h; have HF := Lib.hid hf; have HH := Lib.hid hH; have HI : Hid (I64s [o, st]) := Lib.hid (I64s.two ho hst); have HZ := Lib.hid hz
  have HB : Hid (Below w.heap.size w w) := Lib.hid (Below.refl _ _)
  clear h hf hH _hn ho hst hz
  go_enter Tryz.func28, Tryz.ntmps28
  go_wp2_with fail
  obtain ⟨e1, hwl⟩ : ∃ wl, wl = World.alloc w (.cells #[.int .i64 o, .int .i64 st] 3) := ⟨_, rfl⟩
  obtain ⟨gl, hgl⟩ : ∃ gl, gl = (World.heap w).size := ⟨_, rfl⟩
  rw [← hwl, ← hgl]
  have HOIz : Hid (Own e1 0 3 intE 1 (.slice (some ⟨gl, 0, none⟩) 2 2) [o, st]) := Lib.hid (own_lit (l := [o, st]) (by rw [hwl, hgl]; exact heap_alloc_new _ _) (Nat.zero_le _) (by unfold maxLen; simp))
  have hb : Below (World.heap w).size w e1 := by rw [hwl]; exact below_new _ _
  clear hwl hgl
  have HBm := Lib.hid (HB.out.trans (hb.mono HB.out.size))
  clear hb HB
  have HB := HBm
  clear HBm
  have HOI := HOIz
  clear HOIz
  refine (rhlen_any (HK.out.later HB.out) HZ.out HF.out 13 (by simp) HI.out (HOI.out.rd fun _ => rfl)).mono ?_
  rw [HH.out.cnt]
  rintro e e2 ⟨rfl, hb⟩
  have HBm := Lib.hid (HB.out.trans (hb.mono HB.out.size))
  have HOIm := Lib.hid (HOI.out.later hb)
  clear hb HB HOI
  have HB := HBm
  have HOI := HOIm
  clear HBm HOIm
  go_wp2_with fail
  go_ret
  exact ⟨rfl, HB.out⟩
end
section
open Go.RowKit

/-- As the reference lays it: the checkpoint, then the number. -/
def rnewS (s : PS) (t : Int) (ids : List Int) (bk : Int) (m : Nat) : PS := (hputS s t ids bk m (getI (getP s.t) (keyF t ids))).setInt (keyF t ids) (getI (getP s.t) (keyF t ids) + 1)
def rpushS (s : PS) (t : Int) (ids : List Int) (bk : Int) (m : Nat) : PS :=
  if hpushE (getP s.t) t ids bk = 0 then
    if 0 < getI (getP s.t) (keyF t ids) then
      if bk = ptB (valF (getP s.t) (keyF t (ids ++ [getI (getP s.t) (keyF t ids) - 1]))) then hputS s t ids bk m (getI (getP s.t) (keyF t ids) - 1)
      else if m = ptN (valF (getP s.t) (keyF t (ids ++ [getI (getP s.t) (keyF t ids) - 1]))) then s
      else rnewS s t ids bk m
    else rnewS s t ids bk m
  else s
theorem RLiv.rs {w0 w : World} {F0 : List Nat} {g : Nat} {s : PS} (L : RLiv w0 F0 w g s) : ∃ F, RS w g s F := by obtain ⟨F, h1, _, _⟩ := L; exact ⟨F, h1⟩
theorem rliv_uu {w0 w w' : World} {F0 : List Nat} {g : Nat} {s : PS} {X : Nat} {cs : Array Value} (L : RLiv w0 F0 w g s) (hX : w.heap[X]? = some (.cells cs 33 (0, 0))) (hk : Keep (· = X) w w') (hw : w0.heap.size ≤ X) : RLiv w0 F0 w' g s := by
  obtain ⟨F, h1, h2, h3⟩ := L
  refine ⟨F, h1.keep hk fun x hx hu => ?_, h2.trans (hk.mono fun y _ hy => .inr (hy ▸ hw)), h3⟩
  obtain ⟨o, ho, k1⟩ := h1.kind x hx
  subst hu
  rw [hX] at ho
  cases ho
  have k2 : rstKind (.cells cs 33 (0, 0)) = false := rfl
  rw [k2] at k1; cases k1

set_option maxHeartbeats 4000000 in
set_option maxRecDepth 100000 in
theorem rhpush_any {w : World} {g : Nat} {s : PS} {F : List Nat} (h : RS w g s F) (hz : s.sz < 10000000) (hf : Fit s) (t : Int) {ids : List Int} {vi : Value} (hl : ids.length ≤ 1000000) (hi : I64s ids) {B0 : Nat} (hrd : Own w B0 3 intE 1 vi ids)
    {bk : Int} (hbk : -9223372036854775808 ≤ bk ∧ bk < 9223372036854775808) {a b c d : Int} {m : Nat} (hu : UIs a b c d m) (hc : getI (getP s.t) (keyF t ids) < 1000000000000) :
    Calls Tryz.prog 70 #[.pointer (some ⟨g, 0, none⟩), .int .i64 t, vi, .int .i64 bk, .agg #[.int .u64 a, .int .u64 b, .int .u64 c, .int .u64 d]] w (RRet w g F (rpushS s t ids bk m) (.int .i64 (hpushE (getP s.t) t ids bk))) := by
  obtain ⟨adi, capi, rfl, _, _⟩ := (own_rd hrd).shape
  have L := Lib.hid (RLiv.start h); have HZ := Lib.hid hz; have HF := Lib.hid hf; have HI := Lib.hid hi; have HRD := Lib.hid hrd; have HL := Lib.hid hl; have HBK := Lib.hid hbk; have HU := Lib.hid hu; have HC := Lib.hid hc
  clear h hz hf hl hi hrd hbk hu hc
  obtain ⟨k, hk⟩ : ∃ k, k = keyF t ids := ⟨_, rfl⟩
  have HK := Lib.hid hk
  clear hk
  obtain ⟨n, hn⟩ : ∃ n, n = getI (getP s.t) k := ⟨_, rfl⟩
  have HN := Lib.hid hn
  have hnb := getI_bound (getP s.t) k
  rw [← hn] at hnb
  have HNB : Hid (0 ≤ n ∧ n < 1000000000000) := Lib.hid ⟨hnb.1, by rw [hn, HK.out]; exact HC.out⟩
  clear hn hnb HC
  go_enter Tryz.func70, Tryz.ntmps70
  go_wp2_with fail
  obtain ⟨w1, hw1⟩ : ∃ w1, w1 = w.alloc (.cells #[.int .u64 a, .int .u64 b, .int .u64 c, .int .u64 d] 33) := ⟨_, rfl⟩
  obtain ⟨X, hX⟩ : ∃ x, x = w.heap.size := ⟨_, rfl⟩
  rw [← hw1, ← hX]
  have HX : Hid (w1.heap[X]? = some (.cells #[.int .u64 a, .int .u64 b, .int .u64 c, .int .u64 d] 33 (0, 0))) := Lib.hid (by rw [hw1, hX]; exact heap_alloc_new _ _)
  have hb : Below w.heap.size w w1 := by rw [hw1]; exact below_new _ _
  clear hw1 hX
  have Lm := Lib.hid (L.out.later hb)
  have HRDm := Lib.hid (HRD.out.later hb)
  clear hb L HRD
  have L := Lm
  have HRD := HRDm
  clear Lm HRDm
  refine (refKey_any t ids _ _ (by have := HL.out; omega) HI.out (own_rd HRD.out)).mono ?_
  rw [← HK.out]
  rintro e x1 ⟨rfl, hb⟩
  have Lm := Lib.hid (L.out.later hb)
  have HRDm := Lib.hid (HRD.out.later hb)
  have HXm := Lib.hid (below_at' hb HX.out)
  clear hb L HRD HX
  have L := Lm
  have HRD := HRDm
  have HX := HXm
  clear Lm HRDm HXm
  by_cases hbad : k = [] ∨ bk < 0 ∨ 1099511627776 < bk
  · have hE : hpushE (getP s.t) t ids bk = 2 := by unfold hpushE; rw [← HK.out, if_pos hbad]
    have hS : rpushS s t ids bk m = s := by unfold rpushS; rw [hE]; rfl
    have HES := Lib.hid (And.intro hE hS)
    clear hE hS
    have hbad2 : k = [] ∨ (k ≠ [] ∧ bk < 0) ∨ (k ≠ [] ∧ ¬ bk < 0 ∧ 1099511627776 < bk) := by
      by_cases e1 : k = []
      · exact .inl e1
      · by_cases e2 : bk < 0
        · exact .inr (.inl ⟨e1, e2⟩)
        · exact .inr (.inr ⟨e1, e2, (hbad.resolve_left e1).resolve_left e2⟩)
    clear hbad
    rcases hbad2 with e1 | ⟨e1, e2⟩ | ⟨e1, e2, e3⟩
    · have j1 : ((bs k).toList == []) = true := by rw [toList_bs, e1]; rfl
      have j2 : (bs k).toList = [] := by rw [toList_bs, e1]
      have j3 : (bs k).toList.isEmpty = true := by rw [toList_bs, e1]; rfl
      clear e1
      go_wp2_with fail
      go_ret
      rw [HES.out.1, HES.out.2]
      exact L.out.ret
    · have j1 : ((bs k).toList == []) = false := by rw [toList_bs]; cases k <;> simp_all
      have j2 : (bs k).toList ≠ [] := by rw [toList_bs]; exact e1
      have j3 : (bs k).toList.isEmpty = false := by rw [toList_bs]; cases k <;> simp_all
      clear e1
      go_wp2_with fail
      go_ret
      rw [HES.out.1, HES.out.2]
      exact L.out.ret
    · have j1 : ((bs k).toList == []) = false := by rw [toList_bs]; cases k <;> simp_all
      have j2 : (bs k).toList ≠ [] := by rw [toList_bs]; exact e1
      have j3 : (bs k).toList.isEmpty = false := by rw [toList_bs]; cases k <;> simp_all
      clear e1
      go_wp2_with fail
      go_ret
      rw [HES.out.1, HES.out.2]
      exact L.out.ret
  · have HBAD := Lib.hid hbad
    have e1 : k ≠ [] := fun e => hbad (.inl e)
    have e2 : ¬ bk < 0 := fun e => hbad (.inr (.inl e))
    have e3 : ¬ 1099511627776 < bk := fun e => hbad (.inr (.inr e))
    have j1 : ((bs k).toList == []) = false := by rw [toList_bs]; cases k <;> simp_all
    have j2 : (bs k).toList ≠ [] := by rw [toList_bs]; exact e1
    have j3 : (bs k).toList.isEmpty = false := by rw [toList_bs]; cases k <;> simp_all
    have HB0 : Hid (0 ≤ bk ∧ bk ≤ 1099511627776) := Lib.hid ⟨by omega, by omega⟩
    clear e1 hbad
    go_wp2_with fail
    clear e2 e3 j1 j2 j3
    obtain ⟨F9, q9⟩ := L.out.rs
    refine (rhlen_any q9 (by have := HZ.out; omega) HF.out t HL.out HI.out (own_rd HRD.out)).mono ?_
    rw [← HK.out, ← HN.out]
    rintro e x2 ⟨rfl, hb⟩
    clear q9
    have Lm := Lib.hid (L.out.later hb)
    have HRDm := Lib.hid (HRD.out.later hb)
    have HXm := Lib.hid (below_at' hb HX.out)
    clear hb L HRD HX
    have L := Lm
    have HRD := HRDm
    have HX := HXm
    clear Lm HRDm HXm
    by_cases h0 : 0 < n
    · have HN0 := Lib.hid h0; have h0a : n - 1 < 1000000000000 ∧ 0 ≤ n - 1 := by have := HNB.out; omega
      go_wp2_with fail
      obtain ⟨F9, q9⟩ := L.out.rs
      refine (rhget_any q9 (by have := HZ.out; omega) HF.out t (n := n - 1) HL.out HI.out (own_rd HRD.out) (by omega)).mono ?_
      rintro e x3 ⟨a2, b2, c2, d2, hu2, rfl, hb⟩
      obtain ⟨lv, hlv⟩ : ∃ lv, lv = valF (getP s.t) (keyF t (ids ++ [n - 1])) := ⟨_, rfl⟩
      rw [← hlv] at hu2 ⊢
      obtain ⟨lb, hlb⟩ : ∃ lb, lb = ptB lv := ⟨_, rfl⟩
      obtain ⟨ln, hln⟩ : ∃ lb, lb = ptN lv := ⟨_, rfl⟩
      rw [← hln] at hu2
      rw [← hlb]
      have HLV := Lib.hid hlv; have HLB := Lib.hid hlb; have HLN := Lib.hid hln; have HU2 := Lib.hid hu2
      clear q9 hlv hlb hln hu2
      have Lm := Lib.hid (L.out.later hb)
      have HRDm := Lib.hid (HRD.out.later hb)
      have HXm := Lib.hid (below_at' hb HX.out)
      clear hb L HRD HX
      have L := Lm
      have HRD := HRDm
      have HX := HXm
      clear Lm HRDm HXm
      go_wp2_with (refine wpList_alloc_g rfl _ rfl _ _ Tryz.zeroUz rfl ?_)
      intro Y x4 hY
      go_wp2_with (refine wpList_store_row_g (t := 33) (old := u0) rfl 33 _ _ rfl Y #[.int .u64 a2, .int .u64 b2, .int .u64 c2, .int .u64 d2] rfl rfl hY.out.cells Tryz.sizeU rfl (one_u64 _ _ _ _) ?_)
      intro x5 hxY kY zY
      clear zY
      have hbY : Below x3.heap.size x3 x5 := hY.out.below.trans (kY.below (B := x3.heap.size) (fun x hx e => by have := hY.out.eq; omega) hY.out.below.size)
      have WY : Hid (w.heap.size ≤ Y) := Lib.hid (by rw [hY.out.eq]; exact (L.out.keep).size)
      have NXY : Hid (X ≠ Y) := Lib.hid (by have := hY.out.eq; have := heap_lt HX.out; omega)
      have HYz := Lib.hid hxY
      clear hY hxY kY
      have Lm := Lib.hid (L.out.later hbY)
      have HRDm := Lib.hid (HRD.out.later hbY)
      have HXm := Lib.hid (below_at' hbY HX.out)
      clear hbY L HRD HX
      have L := Lm
      have HRD := HRDm
      have HX := HXm
      clear Lm HRDm HXm
      have HY := HYz
      clear HYz
      by_cases g1 : bk < lb
      · have HES : Hid (hpushE (getP s.t) t ids bk = 10 ∧ rpushS s t ids bk m = s) := Lib.hid (by
          have hE : hpushE (getP s.t) t ids bk = 10 := by
            unfold hpushE
            rw [← HK.out, if_neg HBAD.out, ← HN.out, ← HLV.out, ← HLB.out, if_pos ⟨HN0.out, g1⟩]
          exact ⟨hE, by unfold rpushS; rw [hE]; rfl⟩)
        go_wp2_with fail
        go_ret
        rw [HES.out.1, HES.out.2]
        exact L.out.ret
      · by_cases g2 : bk = lb
        · subst g2
          have HES : Hid (hpushE (getP s.t) t ids bk = 0 ∧ rpushS s t ids bk m = hputS s t ids bk m (n - 1)) := Lib.hid (by
            have hE : hpushE (getP s.t) t ids bk = 0 := by
              unfold hpushE
              rw [← HK.out, if_neg HBAD.out, ← HN.out, ← HLV.out, ← HLB.out, if_neg (fun e => g1 e.2)]
            refine ⟨hE, ?_⟩
            unfold rpushS
            rw [hE, if_pos rfl, ← HK.out, ← HN.out, if_pos HN0.out, ← HLV.out, if_pos HLB.out])
          go_wp2_with (refine wpList_load_row rfl 33 _ rfl X rfl 33 _ _ _ HX.out Tryz.underlying33 rfl Tryz.sizeU ?_)
          refine (L.out.call fun F hs => rhput_any hs (by have := HZ.out; omega) t (n := n - 1) HL.out HI.out (own_rd HRD.out) (by have := HNB.out; omega) (by have := HB0.out; omega) HU.out).mono ?_
          rintro e x6 ⟨rfl, o, hoth⟩
          have Lm := Lib.hid o
          have HRDm := Lib.hid (HRD.out.oth hoth)
          have HXm := Lib.hid (hoth.2 X _ HX.out rfl rfl)
          have HYm := Lib.hid (hoth.2 Y _ HY.out rfl rfl)
          clear o hoth L HRD HX HY
          have L := Lm
          have HRD := HRDm
          have HX := HXm
          have HY := HYm
          clear Lm HRDm HXm HYm
          go_wp2_with fail
          go_ret
          rw [HES.out.1, HES.out.2]
          exact L.out.ret
        · have g2b : (bk == lb) = false := beq_eq_false_iff_ne.2 g2
          have e7 := Tryz.eqUn HU2.out HU.out
          obtain ⟨eq, heq⟩ : ∃ q, q = decide (ln = m) := ⟨_, rfl⟩
          rw [← heq] at e7
          have HEQ := Lib.hid heq; have HG1 := Lib.hid g1; have HG2 := Lib.hid g2
          clear heq
          cases eq with
          | true =>
            have HES : Hid (hpushE (getP s.t) t ids bk = 0 ∧ rpushS s t ids bk m = s) := Lib.hid (by
              have hE : hpushE (getP s.t) t ids bk = 0 := by
                unfold hpushE
                rw [← HK.out, if_neg HBAD.out, ← HN.out, ← HLV.out, ← HLB.out, if_neg (fun e => HG1.out e.2)]
              refine ⟨hE, ?_⟩
              unfold rpushS
              rw [hE, if_pos rfl, ← HK.out, ← HN.out, if_pos HN0.out, ← HLV.out, if_neg (by rw [← HLB.out]; exact HG2.out), if_pos (by rw [← HLN.out]; exact (of_decide_eq_true HEQ.out.symm).symm)])
            go_wp2_with (first
              | (refine wpList_load_row rfl 33 _ rfl Y rfl 33 _ _ _ HY.out Tryz.underlying33 rfl Tryz.sizeU ?_)
              | (refine wpList_load_row rfl 33 _ rfl X rfl 33 _ _ _ HX.out Tryz.underlying33 rfl Tryz.sizeU ?_))
            go_ret
            rw [HES.out.1, HES.out.2]
            exact L.out.ret
          | false =>
            have hne : ¬ m = ln := fun e => (of_decide_eq_false HEQ.out.symm) e.symm
            have HNE := Lib.hid hne
            clear hne
            have HE : Hid (hpushE (getP s.t) t ids bk = 0) := Lib.hid (by
              unfold hpushE
              rw [← HK.out, if_neg HBAD.out, ← HN.out, ← HLV.out, ← HLB.out, if_neg (fun e => HG1.out e.2)])
            have HS : Hid (rpushS s t ids bk m = (hputS s t ids bk m n).setInt k (n + 1)) := Lib.hid (by
              unfold rpushS
              rw [HE.out, if_pos rfl, ← HK.out, ← HN.out]
              rw [if_pos HN0.out, ← HLV.out, if_neg (by rw [← HLB.out]; exact HG2.out), if_neg (by rw [← HLN.out]; exact HNE.out)]
              unfold rnewS
              rw [← HK.out, ← HN.out])
            obtain ⟨s1, hs1⟩ : ∃ z, z = hputS s t ids bk m n := ⟨_, rfl⟩
            rw [← hs1] at HS
            have HZ1 : Hid (s1.sz < 20000000) := Lib.hid (by have h8 := sz_hput s t ids bk m n; have h9 := HZ.out; rw [hs1]; omega)
            have HS1 := Lib.hid hs1
            have hn9 : 0 ≤ n ∧ n < 1000000000000 := HNB.out
            clear hs1
            go_wp2_with (first
              | (refine wpList_load_row rfl 33 _ rfl Y rfl 33 _ _ _ HY.out Tryz.underlying33 rfl Tryz.sizeU ?_)
              | (refine wpList_load_row rfl 33 _ rfl X rfl 33 _ _ _ HX.out Tryz.underlying33 rfl Tryz.sizeU ?_))
            refine (L.out.call fun F hs => rhput_any hs (by have := HZ.out; omega) t (n := n) HL.out HI.out (own_rd HRD.out) (by have := HNB.out; omega) (by have := HB0.out; omega) HU.out).mono ?_
            rw [← HS1.out]
            rintro e x6 ⟨rfl, o, hoth⟩
            have Lm := Lib.hid o
            have HRDm := Lib.hid (HRD.out.oth hoth)
            have HXm := Lib.hid (hoth.2 X _ HX.out rfl rfl)
            have HYm := Lib.hid (hoth.2 Y _ HY.out rfl rfl)
            clear o hoth L HRD HX HY
            have L := Lm
            have HRD := HRDm
            have HX := HXm
            have HY := HYm
            clear Lm HRDm HXm HYm
            go_wp2_with fail
            refine (L.out.call fun F hs => rsetInt_any hs (by have := HZ1.out; omega) k (n + 1) (by have := HNB.out; omega)).mono ?_
            rintro e x7 ⟨rfl, o, hoth⟩
            have Lm := Lib.hid o
            have HRDm := Lib.hid (HRD.out.oth hoth)
            have HXm := Lib.hid (hoth.2 X _ HX.out rfl rfl)
            have HYm := Lib.hid (hoth.2 Y _ HY.out rfl rfl)
            clear o hoth L HRD HX HY
            have L := Lm
            have HRD := HRDm
            have HX := HXm
            have HY := HYm
            clear Lm HRDm HXm HYm
            go_wp2_with fail
            go_ret
            rw [HE.out, HS.out]; exact L.out.ret
    · have HN0 := Lib.hid h0
      have HE : Hid (hpushE (getP s.t) t ids bk = 0) := Lib.hid (by
        unfold hpushE
        rw [← HK.out, if_neg HBAD.out, ← HN.out, if_neg (fun e => HN0.out e.1)])
      have HS : Hid (rpushS s t ids bk m = (hputS s t ids bk m n).setInt k (n + 1)) := Lib.hid (by
        unfold rpushS
        rw [HE.out, if_pos rfl, ← HK.out, ← HN.out]
        rw [if_neg HN0.out]
        unfold rnewS
        rw [← HK.out, ← HN.out])
      obtain ⟨s1, hs1⟩ : ∃ z, z = hputS s t ids bk m n := ⟨_, rfl⟩
      rw [← hs1] at HS
      have HZ1 : Hid (s1.sz < 20000000) := Lib.hid (by have h8 := sz_hput s t ids bk m n; have h9 := HZ.out; rw [hs1]; omega)
      have HS1 := Lib.hid hs1
      have hn9 : 0 ≤ n ∧ n < 1000000000000 := HNB.out
      clear hs1
      go_wp2_with (refine wpList_load_row rfl 33 _ rfl X rfl 33 _ _ _ HX.out Tryz.underlying33 rfl Tryz.sizeU ?_)
      refine (L.out.call fun F hs => rhput_any hs (by have := HZ.out; omega) t (n := n) HL.out HI.out (own_rd HRD.out) (by have := HNB.out; omega) (by have := HB0.out; omega) HU.out).mono ?_
      rw [← HS1.out]
      rintro e x3 ⟨rfl, o, hoth⟩
      have Lm := Lib.hid o
      have HRDm := Lib.hid (HRD.out.oth hoth)
      have HXm := Lib.hid (hoth.2 X _ HX.out rfl rfl)
      clear o hoth L HRD HX
      have L := Lm
      have HRD := HRDm
      have HX := HXm
      clear Lm HRDm HXm
      go_wp2_with fail
      refine (L.out.call fun F hs => rsetInt_any hs (by have := HZ1.out; omega) k (n + 1) (by have := HNB.out; omega)).mono ?_
      rintro e x4 ⟨rfl, o, hoth⟩
      have Lm := Lib.hid o
      have HRDm := Lib.hid (HRD.out.oth hoth)
      have HXm := Lib.hid (hoth.2 X _ HX.out rfl rfl)
      clear o hoth L HRD HX
      have L := Lm
      have HRD := HRDm
      have HX := HXm
      clear Lm HRDm HXm
      go_wp2_with fail
      go_ret
      rw [HE.out, HS.out]; exact L.out.ret
def rcutS (s : PS) (o st : Int) (H : List (Int × Nat)) (bk : Int) (m : Nat) : PS := if o < 1 ∨ st < 1 ∨ ¬ m ≤ maxH o H then s else rpushS s 13 [o, st] bk (maxH o H - m)
def RCutRet (w : World) (g : Nat) (F : List Nat) (s' : PS) (n1 n2 : Nat) (er : Int) (e : Ending) (w' : World) : Prop :=
  ∃ a b c d a' b' c' d' : Int, UIs a b c d n1 ∧ UIs a' b' c' d' n2 ∧ RRet w g F s' (.tuple #[.agg #[.int .u64 a, .int .u64 b, .int .u64 c, .int .u64 d], .agg #[.int .u64 a', .int .u64 b', .int .u64 c', .int .u64 d'], .int .i64 er]) e w'

set_option maxHeartbeats 8000000 in
set_option maxRecDepth 100000 in
theorem rCut_any {w : World} {g : Nat} {s : PS} {F : List Nat} (h : RS w g s F) (hz : s.sz < 10000000) (hf : Fit s) {o st bk : Int} {H : List (Int × Nat)} (hH : 1 ≤ o → 1 ≤ st → HisI (getP s.t) 13 [o, st] H) (hn : H.length ≤ 1000000)
    (ho : -9223372036854775808 ≤ o ∧ o < 9223372036854775808) (hst : -9223372036854775808 ≤ st ∧ st < 9223372036854775808) (hbk : -9223372036854775808 ≤ bk ∧ bk < 9223372036854775808) {a b c d : Int} {m : Nat} (hu : UIs a b c d m) :
    Calls Tryz.prog 22 #[.pointer (some ⟨g, 0, none⟩), .int .i64 o, .int .i64 st, .int .i64 bk, .agg #[.int .u64 a, .int .u64 b, .int .u64 c, .int .u64 d]] w (RCutRet w g F (rcutS s o st H bk m) (if cutE o st H bk m = 0 then maxH o H else 0) (if cutE o st H bk m = 0 then maxH o H - m else 0) (cutE o st H bk m)) := by
  have L := Lib.hid (RLiv.start h); have HZ := Lib.hid hz; have HF := Lib.hid hf; have HH := Lib.hid hH; have HN := Lib.hid hn; have HO := Lib.hid ho; have HST := Lib.hid hst; have HBK := Lib.hid hbk; have HU := Lib.hid hu
  clear h hz hf hH hn ho hst hbk hu
  obtain ⟨E, hE⟩ : ∃ E, E = cutE o st H bk m := ⟨_, rfl⟩
  obtain ⟨S', hS'⟩ : ∃ S', S' = rcutS s o st H bk m := ⟨_, rfl⟩
  obtain ⟨N1, hN1⟩ : ∃ N, N = if E = 0 then maxH o H else 0 := ⟨_, rfl⟩
  obtain ⟨N2, hN2⟩ : ∃ N, N = if E = 0 then maxH o H - m else 0 := ⟨_, rfl⟩
  rw [← hE, ← hS', ← hN1, ← hN2]
  have HE := Lib.hid hE; have HS' := Lib.hid hS'; have HN1 := Lib.hid hN1; have HN2 := Lib.hid hN2
  clear hE hS' hN1 hN2
  have fail0 : E ≠ 0 → N1 = 0 ∧ N2 = 0 := fun h => ⟨by rw [HN1.out, if_neg h], by rw [HN2.out, if_neg h]⟩
  have FAIL := Lib.hid fail0
  clear fail0
  go_enter Tryz.func22, Tryz.ntmps22
  go_wp2_with (refine wpList_alloc_g rfl _ rfl _ _ Tryz.zeroUz rfl ?_)
  obtain ⟨w1, hw1⟩ : ∃ w1, w1 = w.alloc (.cells #[.int .u64 a, .int .u64 b, .int .u64 c, .int .u64 d] 33) := ⟨_, rfl⟩
  obtain ⟨X, hX⟩ : ∃ X, X = w.heap.size := ⟨_, rfl⟩
  rw [← hw1, ← hX]
  have hb1 : Below w.heap.size w w1 := by rw [hw1]; exact below_new _ _
  have HX1 : Hid (w1.heap[X]? = some (.cells #[.int .u64 a, .int .u64 b, .int .u64 c, .int .u64 d] 33 (0, 0))) := Lib.hid (by rw [hw1, hX]; exact heap_alloc_new _ _)
  have L1 := Lib.hid (L.out.later hb1); have Z1 : Hid (w.heap.size ≤ w1.heap.size) := Lib.hid hb1.size
  clear hw1 hX hb1 L
  intro P w2 h2
  have HP2 := Lib.hid h2.out.cells; have HX2 := Lib.hid (below_at' h2.out.below HX1.out); have L2 := Lib.hid (L1.out.later h2.out.below); have HPW : Hid (w.heap.size ≤ P) := Lib.hid (by have := h2.out.eq; have := Z1.out; omega)
  have HPX : Hid (P ≠ X) := Lib.hid (by have := heap_lt HX1.out; have := h2.out.eq; omega)
  have Z2 : Hid (w.heap.size ≤ w2.heap.size) := Lib.hid (Nat.le_trans Z1.out h2.out.below.size)
  clear h2 HX1 L1 Z1
  go_wp2_with (refine wpList_alloc_g rfl _ rfl _ _ Tryz.zeroUz rfl ?_)
  intro Q w3 h3
  have HQ3 := Lib.hid h3.out.cells; have HP3 := Lib.hid (below_at' h3.out.below HP2.out); have HX3 := Lib.hid (below_at' h3.out.below HX2.out); have L3 := Lib.hid (L2.out.later h3.out.below)
  have HQW : Hid (w.heap.size ≤ Q ∧ Q ≠ P ∧ Q ≠ X) := Lib.hid (by have := h3.out.eq; have := Z2.out; have := heap_lt HP2.out; have := heap_lt HX2.out; exact ⟨by omega, by omega, by omega⟩)
  have Z3 : Hid (w.heap.size ≤ w3.heap.size) := Lib.hid (Nat.le_trans Z2.out h3.out.below.size)
  clear h3 HP2 HX2 L2 Z2
  by_cases hk : o < 1 ∨ st < 1
  · have HE2 : Hid (E = 2) := Lib.hid (by rw [HE.out]; unfold cutE; rw [if_pos hk])
    have HSS : Hid (S' = s) := Lib.hid (by rw [HS'.out]; unfold rcutS; rw [if_pos (by rcases hk with h | h; exact .inl h; exact .inr (.inl h))])
    have HF0 := Lib.hid (FAIL.out (by rw [HE2.out]; decide))
    have hk2 : o < 1 ∨ (¬ o < 1 ∧ st < 1) := by omega
    clear hk
    rcases hk2 with g1 | ⟨g1, g2⟩
    · go_wp2_with (first
        | (refine wpList_store_row_g (t := 33) (old := u0) rfl 33 _ _ rfl P u0 rfl rfl HP3.out Tryz.sizeU rfl (one_u64 _ _ _ _) ?_))
      intro wx hx kx _
      have HPx := Lib.hid hx; have HQx := Lib.hid (kx.at HQ3.out (fun e => HQW.out.2.1 e)); have Lx := Lib.hid (rliv_uu L3.out HP3.out kx HPW.out)
      clear hx kx
      go_wp2_with (first
        | (refine wpList_store_row_g (t := 33) (old := u0) rfl 33 _ _ rfl Q u0 rfl rfl HQx.out Tryz.sizeU rfl (one_u64 _ _ _ _) ?_))
      intro wy hy ky _
      have HQy := Lib.hid hy; have HPy := Lib.hid (ky.at HPx.out (fun e => HQW.out.2.1 e.symm)); have Ly := Lib.hid (rliv_uu Lx.out HQx.out ky HQW.out.1)
      clear hy ky
      go_wp2_with fail
      exact bodyPost_ret (res_three rfl _ _ P Q _ _ u0 u0 _ _ _ rfl HPy.out rfl HQy.out Tryz.underlying33 rfl Tryz.sizeU Tryz.sizeU _ rfl) rfl ⟨0, 0, 0, 0, 0, 0, 0, 0, by rw [HF0.out.1]; exact UIs.zero, by rw [HF0.out.2]; exact UIs.zero, by rw [HSS.out, HE2.out]; exact Ly.out.ret⟩
    · go_wp2_with (first
        | (refine wpList_store_row_g (t := 33) (old := u0) rfl 33 _ _ rfl P u0 rfl rfl HP3.out Tryz.sizeU rfl (one_u64 _ _ _ _) ?_))
      intro wx hx kx _
      have HPx := Lib.hid hx; have HQx := Lib.hid (kx.at HQ3.out (fun e => HQW.out.2.1 e)); have Lx := Lib.hid (rliv_uu L3.out HP3.out kx HPW.out)
      clear hx kx
      go_wp2_with (first
        | (refine wpList_store_row_g (t := 33) (old := u0) rfl 33 _ _ rfl Q u0 rfl rfl HQx.out Tryz.sizeU rfl (one_u64 _ _ _ _) ?_))
      intro wy hy ky _
      have HQy := Lib.hid hy; have HPy := Lib.hid (ky.at HPx.out (fun e => HQW.out.2.1 e.symm)); have Ly := Lib.hid (rliv_uu Lx.out HQx.out ky HQW.out.1)
      clear hy ky
      go_wp2_with fail
      exact bodyPost_ret (res_three rfl _ _ P Q _ _ u0 u0 _ _ _ rfl HPy.out rfl HQy.out Tryz.underlying33 rfl Tryz.sizeU Tryz.sizeU _ rfl) rfl ⟨0, 0, 0, 0, 0, 0, 0, 0, by rw [HF0.out.1]; exact UIs.zero, by rw [HF0.out.2]; exact UIs.zero, by rw [HSS.out, HE2.out]; exact Ly.out.ret⟩
  have hk1 : ¬ o < 1 := fun h => hk (.inl h)
  have hk2 : ¬ st < 1 := fun h => hk (.inr h)
  have hH := HH.out (by omega) (by omega)
  have HK : Hid (KeyOk 13 [o, st]) := Lib.hid ⟨by decide, by decide, fun x hx => by
    simp only [List.mem_cons, List.not_mem_nil, or_false] at hx
    have h1 := HO.out; have h2 := HST.out
    rcases hx with rfl | rfl <;> omega⟩
  have HHI := Lib.hid hH
  have HNK := Lib.hid hk
  clear hk hH
  go_wp2_with fail
  clear hk1 hk2
  obtain ⟨F9, q9⟩ := L3.out.rs
  refine (rMax_any q9 (by have := HZ.out; omega) HF.out HHI.out HN.out HO.out HST.out).mono ?_
  clear q9
  obtain ⟨fv, hfv⟩ : ∃ v, v = maxH o H := ⟨_, rfl⟩
  rw [← hfv]
  have HFV := Lib.hid hfv
  clear hfv
  rintro e w4 ⟨fa, fb, fc, fd, hu1, rfl, hb⟩
  have HUF := Lib.hid hu1; have L4 := Lib.hid (L3.out.later hb); have HX4 := Lib.hid (below_at' hb HX3.out); have HP4 := Lib.hid (below_at' hb HP3.out); have HQ4 := Lib.hid (below_at' hb HQ3.out); have Z4 : Hid (w.heap.size ≤ w4.heap.size) := Lib.hid (Nat.le_trans Z3.out hb.size)
  clear hu1 hb L3 HX3 HP3 HQ3 Z3
  go_wp2_with (refine wpList_alloc_g rfl _ rfl _ _ Tryz.zeroUz rfl ?_)
  intro A w5 h5
  go_wp2_with (refine wpList_store_row_g (t := 33) (old := u0) rfl 33 _ _ rfl A #[.int .u64 fa, .int .u64 fb, .int .u64 fc, .int .u64 fd] rfl rfl h5.out.cells Tryz.sizeU rfl (one_u64 _ _ _ _) ?_)
  intro w6 hx6 k6 z6
  have hb46 : Below w4.heap.size w4 w6 := h5.out.below.trans (k6.below (B := w4.heap.size) (fun x hx e => by have := h5.out.eq; omega) h5.out.below.size)
  have HA6 := Lib.hid hx6; have L6 := Lib.hid (L4.out.later hb46); have HX6 := Lib.hid (below_at' hb46 HX4.out); have HP6 := Lib.hid (below_at' hb46 HP4.out); have HQ6 := Lib.hid (below_at' hb46 HQ4.out); have Z6 : Hid (w.heap.size ≤ w6.heap.size) := Lib.hid (Nat.le_trans Z4.out hb46.size)
  have HAD : Hid (w.heap.size ≤ A ∧ A ≠ P ∧ A ≠ Q) := Lib.hid (by have := h5.out.eq; have := Z4.out; have := heap_lt HP4.out; have := heap_lt HQ4.out; exact ⟨by omega, by omega, by omega⟩)
  clear z6 h5 hx6 k6 hb46 L4 HX4 HP4 HQ4 Z4
  go_wp2_with (first
    | (refine wpList_load_row rfl 33 _ rfl A rfl 33 _ _ _ HA6.out Tryz.underlying33 rfl Tryz.sizeU ?_)
    | (refine wpList_load_row rfl 33 _ rfl X rfl 33 _ _ _ HX6.out Tryz.underlying33 rfl Tryz.sizeU ?_))
  refine (rsub_any HUF.out HU.out _).mono ?_
  obtain ⟨ok, hok⟩ : ∃ q, q = decide (m ≤ fv) := ⟨_, rfl⟩
  rw [← hok]
  have HOK := Lib.hid hok
  clear hok
  rintro e w7 ⟨ta, tb, tc, td, hu2, rfl, hb⟩
  have HUT := Lib.hid hu2; have HA7 := Lib.hid (below_at' hb HA6.out); have L7 := Lib.hid (L6.out.later hb); have HP7 := Lib.hid (below_at' hb HP6.out); have HQ7 := Lib.hid (below_at' hb HQ6.out); have Z7 : Hid (w.heap.size ≤ w7.heap.size) := Lib.hid (Nat.le_trans Z6.out hb.size)
  clear hu2 hb HA6 L6 HX6 HP6 HQ6 Z6
  go_wp2_with (refine wpList_alloc_g rfl _ rfl _ _ Tryz.zeroUz rfl ?_)
  intro B w8 h8
  go_wp2_with (refine wpList_store_row_g (t := 33) (old := u0) rfl 33 _ _ rfl B #[.int .u64 ta, .int .u64 tb, .int .u64 tc, .int .u64 td] rfl rfl h8.out.cells Tryz.sizeU rfl (one_u64 _ _ _ _) ?_)
  intro w9 hx9 k9 z9
  have hb79 : Below w7.heap.size w7 w9 := h8.out.below.trans (k9.below (B := w7.heap.size) (fun x hx e => by have := h8.out.eq; omega) h8.out.below.size)
  have HB9 := Lib.hid hx9; have HA9 := Lib.hid (below_at' hb79 HA7.out); have L9 := Lib.hid (L7.out.later hb79); have HP9 := Lib.hid (below_at' hb79 HP7.out); have HQ9 := Lib.hid (below_at' hb79 HQ7.out)
  have HBD : Hid (w.heap.size ≤ B ∧ B ≠ P ∧ B ≠ Q) := Lib.hid (by have := h8.out.eq; have := Z7.out; have := heap_lt HP7.out; have := heap_lt HQ7.out; exact ⟨by omega, by omega, by omega⟩)
  clear z9 h8 hx9 k9 hb79 HA7 L7 HP7 HQ7 Z7
  cases ok with
  | false =>
    have hno : ¬ m ≤ fv := of_decide_eq_false HOK.out.symm
    have HE2 : Hid (E = 13) := Lib.hid (by rw [HE.out]; unfold cutE; rw [if_neg HNK.out, if_pos (by rw [← HFV.out]; exact hno)])
    have HSS : Hid (S' = s) := Lib.hid (by rw [HS'.out]; unfold rcutS; rw [if_pos (.inr (.inr (by rw [← HFV.out]; exact hno)))])
    have HF0 := Lib.hid (FAIL.out (by rw [HE2.out]; decide))
    clear hno
    go_wp2_with (first
      | (refine wpList_store_row_g (t := 33) (old := u0) rfl 33 _ _ rfl P u0 rfl rfl HP9.out Tryz.sizeU rfl (one_u64 _ _ _ _) ?_))
    intro wx hx kx _
    have HPx := Lib.hid hx; have HQx := Lib.hid (kx.at HQ9.out (fun e => HQW.out.2.1 e)); have Lx := Lib.hid (rliv_uu L9.out HP9.out kx HPW.out)
    clear hx kx
    go_wp2_with (first
      | (refine wpList_store_row_g (t := 33) (old := u0) rfl 33 _ _ rfl Q u0 rfl rfl HQx.out Tryz.sizeU rfl (one_u64 _ _ _ _) ?_))
    intro wy hy ky _
    have HQy := Lib.hid hy; have HPy := Lib.hid (ky.at HPx.out (fun e => HQW.out.2.1 e.symm)); have Ly := Lib.hid (rliv_uu Lx.out HQx.out ky HQW.out.1)
    clear hy ky
    go_wp2_with fail
    exact bodyPost_ret (res_three rfl _ _ P Q _ _ u0 u0 _ _ _ rfl HPy.out rfl HQy.out Tryz.underlying33 rfl Tryz.sizeU Tryz.sizeU _ rfl) rfl ⟨0, 0, 0, 0, 0, 0, 0, 0, by rw [HF0.out.1]; exact UIs.zero, by rw [HF0.out.2]; exact UIs.zero, by rw [HSS.out, HE2.out]; exact Ly.out.ret⟩
  | true =>
    have hyes : m ≤ fv := of_decide_eq_true HOK.out.symm
    have hE : E = hisE H bk := by rw [HE.out]; unfold cutE; rw [if_neg HNK.out, if_neg (fun h => h (by rw [← HFV.out]; exact hyes))]
    have hSS : S' = rpushS s 13 [o, st] bk (fv - m) := by
      rw [HS'.out]; unfold rcutS
      rw [if_neg, HFV.out]
      rintro (h | h | h)
      · exact HNK.out (.inl h)
      · exact HNK.out (.inr h)
      · exact h (by rw [← HFV.out]; exact hyes)
    have HEH := Lib.hid hE; have HSH := Lib.hid hSS
    have HUT2 : Hid (UIs ta tb tc td (fv - m)) := HUT
    clear hyes hE hSS
    have lb : (w9.alloc (.cells #[.int .i64 o, .int .i64 st] 3)).heap[B]? = some (.cells #[.int .u64 ta, .int .u64 tb, .int .u64 tc, .int .u64 td] 33 (0, 0)) := below_at' (below_new _ _) HB9.out
    have HLB := Lib.hid lb
    clear lb
    go_wp2_with (refine wpList_load_row rfl 33 _ rfl B rfl 33 _ _ _ HLB.out Tryz.underlying33 rfl Tryz.sizeU ?_)
    obtain ⟨wa, hwl⟩ : ∃ wa, wa = w9.alloc (.cells #[.int .i64 o, .int .i64 st] 3) := ⟨_, rfl⟩
    obtain ⟨gi, hgi⟩ : ∃ gi, gi = w9.heap.size := ⟨_, rfl⟩
    rw [← hwl, ← hgi]
    have hbl : Below w9.heap.size w9 wa := by rw [hwl]; exact below_new _ _
    have HOI : Hid (Own wa 0 3 intE 1 (.slice (some ⟨gi, 0, none⟩) 2 2) [o, st]) := Lib.hid (own_lit (l := [o, st]) (by rw [hwl, hgi]; exact heap_alloc_new _ _) (Nat.zero_le _) (by unfold maxLen; simp))
    have LA := Lib.hid (L9.out.later hbl); have HAa := Lib.hid (below_at' hbl HA9.out); have HBa := Lib.hid (below_at' hbl HB9.out); have HPa := Lib.hid (below_at' hbl HP9.out); have HQa := Lib.hid (below_at' hbl HQ9.out)
    clear hwl hgi hbl L9 HA9 HB9 HP9 HQ9 HLB
    refine (LA.out.call fun F h => rhpush_any h HZ.out HF.out 13 (by simp) (I64s.two HO.out HST.out) HOI.out HBK.out HUT2.out (by rw [HHI.out.cnt]; have := HN.out; omega)).mono ?_
    rintro e wb ⟨rfl, LB, hoth⟩
    rw [HHI.out.pushE HK.out bk, ← HEH.out]
    have LB := Lib.hid LB; have HAb := Lib.hid (hoth.2 _ _ HAa.out rfl rfl); have HBb := Lib.hid (hoth.2 _ _ HBa.out rfl rfl); have HPb := Lib.hid (hoth.2 _ _ HPa.out rfl rfl); have HQb := Lib.hid (hoth.2 _ _ HQa.out rfl rfl)
    clear hoth LA HAa HBa HPa HQa HOI
    by_cases hz : E = 0
    · have HN1E : Hid (N1 = fv ∧ N2 = fv - m) := Lib.hid (by rw [HN1.out, HN2.out, if_pos hz, if_pos hz, HFV.out]; exact ⟨rfl, rfl⟩)
      subst hz
      obtain ⟨wz, hwz⟩ : ∃ wz, wz = wb.drew := ⟨_, rfl⟩
      have hbz : Below wb.heap.size wb wz := by rw [hwz]; exact (Below.refl _ _).drew
      have L0 := Lib.hid (LB.out.later hbz); have HP0 := Lib.hid (below_at' hbz HPb.out); have HQ0 := Lib.hid (below_at' hbz HQb.out)
      have hS : wz.heap[A]? = some (.cells #[.int .u64 fa, .int .u64 fb, .int .u64 fc, .int .u64 fd] 33 (0, 0)) ∧ wz.heap[B]? = some (.cells #[.int .u64 ta, .int .u64 tb, .int .u64 tc, .int .u64 td] 33 (0, 0)) := ⟨below_at' hbz HAb.out, below_at' hbz HBb.out⟩
      clear hbz LB HAb HBb HPb HQb
      go_wp2_with fail
      refine wp_region_till (fun w' => w'.heap[A]? = some (.cells #[.int .u64 fa, .int .u64 fb, .int .u64 fc, .int .u64 fd] 33 (0, 0)) ∧ w'.heap[B]? = some (.cells #[.int .u64 ta, .int .u64 tb, .int .u64 tc, .int .u64 td] 33 (0, 0))) 5 5 (by kernel_rfl) rfl ?_
      rw [← hwz]
      clear hwz
      refine till_take 0 (some 51) rfl rfl (by kernel_rfl) (by kernel_rfl) (by kernel_rfl) (by kernel_rfl) (by kernel_rfl) (by kernel_rfl) (fun _ _ _ h => h) (yields_load (by rfl) 33 _ rfl (.pointer (some ⟨A, 0, none⟩)) rfl (.agg #[.int .u64 fa, .int .u64 fb, .int .u64 fc, .int .u64 fd]) (fun w' hS' => load_heap hS'.1 Tryz.underlying33 rfl Tryz.sizeU)) hS ?_
      go_frame
      refine till_take 1 (some 52) rfl rfl (by kernel_rfl) (by kernel_rfl) (by kernel_rfl) (by kernel_rfl) (by kernel_rfl) (by kernel_rfl) (fun _ _ _ h => h) (yields_load (by rfl) 33 _ rfl (.pointer (some ⟨B, 0, none⟩)) rfl (.agg #[.int .u64 ta, .int .u64 tb, .int .u64 tc, .int .u64 td]) (fun w' hS' => load_heap hS'.2 Tryz.underlying33 rfl Tryz.sizeU)) hS ?_
      go_frame
      refine till_one 2 rfl (by kernel_rfl) fun K hK => ?_
      simp only [List.getElem_toArray, List.getElem_cons_succ, List.getElem_cons_zero]
      rw [if_pos (by rfl)]
      refine wp_store_row_g (t := 33) (old := u0) 33 _ _ rfl P #[.int .u64 fa, .int .u64 fb, .int .u64 fc, .int .u64 fd] rfl rfl HP0.out Tryz.sizeU rfl (one_u64 _ _ _ _) ?_
      intro wt1 hx8 k8 _
      have VHP1 := Lib.hid hx8
      have hS1 := And.intro (k8.at hS.1 (fun e => HAD.out.2.1 e)) (k8.at hS.2 (fun e => HBD.out.2.1 e))
      have L1 := Lib.hid (rliv_uu L0.out HP0.out k8 HPW.out)
      have HQ1 := Lib.hid (k8.at HQ0.out (fun e => HQW.out.2.1 e))
      refine hK _ _ (fun _ _ => hS1) ?_
      clear hK hS hx8 k8 L0 HP0 HQ0
      have hS := hS1
      clear hS1
      refine till_one 3 rfl (by kernel_rfl) fun K hK => ?_
      simp only [List.getElem_toArray, List.getElem_cons_succ, List.getElem_cons_zero]
      rw [if_pos (by rfl)]
      refine wp_store_row_g (t := 33) (old := u0) 33 _ _ rfl Q #[.int .u64 ta, .int .u64 tb, .int .u64 tc, .int .u64 td] rfl rfl HQ1.out Tryz.sizeU rfl (one_u64 _ _ _ _) ?_
      intro wt2 hx8 k8 _
      have VHQ2 := Lib.hid hx8
      have hS1 := And.intro (k8.at hS.1 (fun e => HAD.out.2.2 e)) (k8.at hS.2 (fun e => HBD.out.2.2 e))
      have L2 := Lib.hid (rliv_uu L1.out HQ1.out k8 HQW.out.1)
      have VHP2 := Lib.hid (k8.at VHP1.out (fun e => HQW.out.2.1 e.symm))
      refine hK _ _ (fun _ _ => hS1) ?_
      clear hK hS hx8 k8 L1 HQ1 VHP1
      have hS := hS1
      clear hS1
      refine till_take 4 (some 12) rfl rfl (by kernel_rfl) (by kernel_rfl) (by kernel_rfl) (by kernel_rfl) (by kernel_rfl) (by kernel_rfl) (fun _ _ _ h => h) (.inl ⟨by rfl, fun w' _ => (by go_simp; rfl)⟩) hS ?_
      go_frame
      refine till_done (by kernel_rfl) ?_ _
      clear hS
      go_wp2_with fail
      exact bodyPost_ret (res_three rfl _ _ P Q _ _ #[.int .u64 fa, .int .u64 fb, .int .u64 fc, .int .u64 fd] #[.int .u64 ta, .int .u64 tb, .int .u64 tc, .int .u64 td] _ _ _ rfl VHP2.out rfl VHQ2.out Tryz.underlying33 rfl Tryz.sizeU Tryz.sizeU _ rfl) rfl ⟨fa, fb, fc, fd, ta, tb, tc, td, by rw [HN1E.out.1]; exact HUF.out, by rw [HN1E.out.2]; exact HUT2.out, by rw [HSH.out]; exact L2.out.ret⟩
    · have HF0 := Lib.hid (FAIL.out hz)
      have hzb : (E == 0) = false := beq_eq_false_iff_ne.2 hz
      clear hz
      go_wp2_with (first
        | (refine wpList_store_row_g (t := 33) (old := u0) rfl 33 _ _ rfl P u0 rfl rfl HPb.out Tryz.sizeU rfl (one_u64 _ _ _ _) ?_))
      intro wx hx kx _
      have HPx := Lib.hid hx; have HQx := Lib.hid (kx.at HQb.out (fun e => HQW.out.2.1 e)); have Lx := Lib.hid (rliv_uu LB.out HPb.out kx HPW.out)
      clear hx kx
      go_wp2_with (first
        | (refine wpList_store_row_g (t := 33) (old := u0) rfl 33 _ _ rfl Q u0 rfl rfl HQx.out Tryz.sizeU rfl (one_u64 _ _ _ _) ?_))
      intro wy hy ky _
      have HQy := Lib.hid hy; have HPy := Lib.hid (ky.at HPx.out (fun e => HQW.out.2.1 e.symm)); have Ly := Lib.hid (rliv_uu Lx.out HQx.out ky HQW.out.1)
      clear hy ky
      go_wp2_with fail
      exact bodyPost_ret (res_three rfl _ _ P Q _ _ u0 u0 _ _ _ rfl HPy.out rfl HQy.out Tryz.underlying33 rfl Tryz.sizeU Tryz.sizeU _ rfl) rfl ⟨0, 0, 0, 0, 0, 0, 0, 0, by rw [HF0.out.1]; exact UIs.zero, by rw [HF0.out.2]; exact UIs.zero, by rw [HSH.out]; exact Ly.out.ret⟩
end
section
open Go.RowKit

/-! ### plain -/
theorem key_far {t : Int} {l m : List Int} (hl : KeyOk t l) (h : m ≠ l) (hm : ∀ x ∈ m, x < 9223372036854775808) : keyF t m ≠ keyF t l := by
  by_cases hneg : ∃ k, ∃ hk : k < m.length, m[k] < 0
  · obtain ⟨k, hk, h2⟩ := hneg
    rw [keyF_neg t m k hk h2]
    exact fun e => hl.ne e.symm
  · refine KeyOk.apart ⟨hl.1, hl.2.1, fun x hx => ⟨?_, hm x hx⟩⟩ hl h
    obtain ⟨k, hk, rfl⟩ := List.getElem_of_mem hx
    exact Int.not_lt.1 fun h2 => hneg ⟨k, hk, h2⟩
theorem hpush_q {s : PS} {t : Int} {ids : List Int} {bk : Int} {m : Nat} {q : Txt} (hn : getI (getP s.t) (keyF t ids) < 1000000000) (h1 : q ≠ keyF t ids) (h2 : ∀ i : Int, 0 ≤ i → i < 1000000000 → q ≠ keyF t (ids ++ [i])) : getP (hpushS s t ids bk m).t q = getP s.t q := by
  have hb := getI_bound (getP s.t) (keyF t ids)
  have hp : ∀ (u : PS) (n : Int), 0 ≤ n → n < 1000000000 → getP (hputS u t ids bk m n).t q = getP u.t q := fun u n a b => by
    unfold hputS; rw [getP_set, if_neg fun e => h2 n a b e.1.symm]
  have hnw : getP (hnewS s t ids bk m).t q = getP s.t q := by
    unfold hnewS
    rw [hp _ _ hb.1 hn]
    unfold PS.setInt
    rw [if_neg (by omega), getP_set, if_neg fun e => h1 e.1.symm]
  unfold hpushS
  split
  · split
    · rename_i h0
      split
      · exact hp _ _ (by omega) (by omega)
      · split
        · rfl
        · exact hnw
    · exact hnw
  · rfl
theorem HisI.of_eq {f f' : Txt → Option Txt} {t : Int} {ids : List Int} {H : List (Int × Nat)} (h : HisI f t ids H) (h1 : f' (keyF t ids) = f (keyF t ids)) (h2 : ∀ i : Nat, i < H.length → f' (keyF t (ids ++ [(i : Int)])) = f (keyF t (ids ++ [(i : Int)]))) : HisI f' t ids H :=
  ⟨by have := h.cnt; unfold getI valF at *; rw [h1]; exact this, fun i hi => by have := h.pts i hi; unfold valF at *; rw [h2 i hi]; exact this, h.ok, h.rise⟩
def I6 (n : Int) : Prop := -9223372036854775808 ≤ n ∧ n < 9223372036854775808
/-- The magnitudes of all, by operator and strategy. -/
abbrev HS := Int → Int → List (Int × Nat)
structure HAll (f : Txt → Option Txt) (Hs : HS) (n : Nat) : Prop where
  his : ∀ o st, I6 o → I6 st → HisI f 13 [o, st] (Hs o st)
  len : ∀ o st, (Hs o st).length ≤ n
theorem HAll.new : HAll (getP PS.new.t) (fun _ _ => []) 0 := ⟨fun _ _ _ _ => HisI.new _ _, fun _ _ => Nat.le_refl _⟩
def cutHs (Hs : HS) (o st bk : Int) (m : Nat) : HS := fun o' st' => if (o' = o ∧ st' = st) ∧ ¬ (o < 1 ∨ st < 1 ∨ ¬ m ≤ maxH o (Hs o st)) then hisS (Hs o st) bk (maxH o (Hs o st) - m) else Hs o' st'
theorem keyOk13 {o st : Int} (ho : I6 o) (hst : I6 st) (h1 : ¬ o < 1) (h2 : ¬ st < 1) : KeyOk 13 [o, st] := ⟨by decide, by decide, fun x hx => by
  simp only [List.mem_cons, List.not_mem_nil, or_false] at hx
  unfold I6 at ho hst
  rcases hx with rfl | rfl <;> omega⟩
theorem HAll.cut {s : PS} {Hs : HS} {n : Nat} (h : HAll (getP s.t) Hs n) (hn : n ≤ 1000000) {o st bk : Int} {m : Nat} (ho : I6 o) (hst : I6 st) : HAll (getP (cutS s o st (Hs o st) bk m).t) (cutHs Hs o st bk m) (n + 1) := by
  refine ⟨fun o' st' ho' hst' => ?_, fun o' st' => ?_⟩
  · by_cases hc : o < 1 ∨ st < 1 ∨ ¬ m ≤ maxH o (Hs o st)
    · unfold cutS cutHs
      rw [if_pos hc, if_neg (fun e => e.2 hc)]
      exact h.his o' st' ho' hst'
    · have hk := keyOk13 ho hst (fun e => hc (.inl e)) (fun e => hc (.inr (.inl e)))
      have hl := h.len o st
      have hH := h.his o st ho hst
      have hcn : getI (getP s.t) (keyF 13 [o, st]) < 1000000000 := by rw [hH.cnt]; omega
      unfold cutS cutHs
      rw [if_neg hc]
      by_cases e : o' = o ∧ st' = st
      · rw [if_pos ⟨e, hc⟩]
        obtain ⟨rfl, rfl⟩ := e
        exact hH.push hk (by omega) bk (Nat.lt_of_le_of_lt (Nat.sub_le _ _) (maxH_lt hH _))
      · rw [if_neg (fun q => e q.1)]
        have hl' := h.len o' st'
        have apart : ∀ l : List Int, (∀ x ∈ l, x < 9223372036854775808) → l ≠ [o, st] → (∀ i, l ≠ [o, st] ++ [i]) → getP (hpushS s 13 [o, st] bk (maxH o (Hs o st) - m)).t (keyF 13 l) = getP s.t (keyF 13 l) := fun l h1 h2 h3 =>
          hpush_q hcn (key_far hk h2 h1) fun i a b => key_far (hk.snoc a (by omega)) (h3 i) h1
        have hb : ∀ x ∈ [o', st'], x < 9223372036854775808 := fun x hx => by
          simp only [List.mem_cons, List.not_mem_nil, or_false] at hx
          unfold I6 at ho' hst'
          rcases hx with rfl | rfl <;> omega
        refine (h.his o' st' ho' hst').of_eq (apart _ hb (fun q => ?_) fun i q => ?_) fun i hi => apart _ (fun x hx => ?_) (fun q => ?_) fun j q => ?_
        · simp only [List.cons.injEq, and_true] at q; exact e q
        · have := congrArg List.length q; simp at this
        · rcases List.mem_append.1 hx with hx | hx
          · exact hb x hx
          · simp only [List.mem_singleton] at hx; omega
        · have := congrArg List.length q; simp at this
        · simp only [List.cons_append, List.nil_append, List.cons.injEq, and_true] at q
          exact e ⟨q.1, q.2.1⟩
  · have := h.len o' st'
    have h2 := h.len o st
    unfold cutHs
    split
    · exact Nat.le_trans (hisS_len _ _ _) (by omega)
    · omega
/-! ### both stores hold the same -/
theorem set_t {s s' : PS} (h : s'.t = s.t) (k v : Txt) : (s'.set k v).t = (s.set k v).t := by
  unfold PS.set
  rw [h]
  split
  · exact h
  · show layP s'.t k v true = layP s.t k v true
    rw [h]
theorem up_set {s : PS} (h : Up s.t) (k v : Txt) : Up (s.set k v).t := by
  unfold PS.set
  split
  · exact h
  · show Up (layP s.t k v true)
    exact up_lay h _ _ _
theorem rnew_t {s s' : PS} (h : s'.t = s.t) (hu : Up s.t) {t : Int} {ids : List Int} (hk : KeyOk t ids) (hn : getI (getP s.t) (keyF t ids) < 1000000000) (bk : Int) (m : Nat) : (rnewS s' t ids bk m).t = (hnewS s t ids bk m).t := by
  have hb := getI_bound (getP s.t) (keyF t ids)
  unfold rnewS hnewS hputS PS.setInt
  rw [h, if_neg (by omega), if_neg (by omega)]
  obtain ⟨n, hn2⟩ : ∃ n, n = getI (getP s.t) (keyF t ids) := ⟨_, rfl⟩
  rw [← hn2] at hb hn ⊢
  have hk2 : KeyOk t (ids ++ [n]) := hk.snoc hb.1 (by omega)
  have hne := hk.apart hk2 (Ne.symm snoc_ne)
  refine tab_ext (up_set (up_set (h ▸ hu) _ _) _ _) (up_set (up_set hu _ _) _ _) fun q => ?_
  rw [getP_set, getP_set, getP_set, getP_set, h]
  by_cases e1 : keyF t ids = q
  · have e2 : ¬ (keyF t (ids ++ [n]) = q ∧ keyF t (ids ++ [n]) ≠ []) := fun e => hne (e1.trans e.1.symm)
    rw [if_pos ⟨e1, hk.ne⟩, if_neg e2, if_pos ⟨e1, hk.ne⟩]
  · rw [if_neg (fun e => e1 e.1)]
    by_cases e2 : keyF t (ids ++ [n]) = q
    · rw [if_pos ⟨e2, hk2.ne⟩, if_pos ⟨e2, hk2.ne⟩]
    · rw [if_neg (fun e => e2 e.1), if_neg (fun e => e2 e.1), if_neg (fun e => e1 e.1)]
theorem rcut_t {s s' : PS} (h : s'.t = s.t) (hu : Up s.t) {Hs : HS} {n : Nat} (hA : HAll (getP s.t) Hs n) (hn : n ≤ 1000000) {o st bk : Int} {m : Nat} (ho : I6 o) (hst : I6 st) : (rcutS s' o st (Hs o st) bk m).t = (cutS s o st (Hs o st) bk m).t := by
  unfold rcutS cutS
  split
  · exact h
  · rename_i hc
    have hk := keyOk13 ho hst (fun e => hc (.inl e)) (fun e => hc (.inr (.inl e)))
    have hl := hA.len o st
    have hw := rnew_t h hu hk (by rw [(hA.his o st ho hst).cnt]; omega) bk (maxH o (Hs o st) - m)
    unfold rpushS hpushS
    rw [h]
    split
    · split
      · split
        · exact set_t h _ _
        · split
          · exact h
          · exact hw
      · exact hw
    · exact h
theorem cut_sz (s : PS) (o st : Int) (H : List (Int × Nat)) (bk : Int) (m : Nat) : (cutS s o st H bk m).sz ≤ s.sz + 4 := by
  unfold cutS; split
  · omega
  · exact sz_hpush _ _ _ _ _
theorem cut_fit {s : PS} (h : Fit s) (o st : Int) (H : List (Int × Nat)) (bk : Int) (m : Nat) : Fit (cutS s o st H bk m) := by
  unfold cutS; split
  · exact h
  · exact h.hpush _ _ _ _
theorem sz_rnew (s : PS) (t : Int) (ids : List Int) (bk : Int) (m : Nat) : (rnewS s t ids bk m).sz ≤ s.sz + 4 := by
  unfold rnewS
  have h1 := sz_hput s t ids bk m (getI (getP s.t) (keyF t ids))
  have h2 := sz_setInt (hputS s t ids bk m (getI (getP s.t) (keyF t ids))) (keyF t ids) (getI (getP s.t) (keyF t ids) + 1)
  omega
theorem rcut_sz (s : PS) (o st : Int) (H : List (Int × Nat)) (bk : Int) (m : Nat) : (rcutS s o st H bk m).sz ≤ s.sz + 4 := by
  unfold rcutS rpushS
  have h1 := sz_hput s 13 [o, st] bk (maxH o H - m) (getI (getP s.t) (keyF 13 [o, st]) - 1)
  have h2 := sz_rnew s 13 [o, st] bk (maxH o H - m)
  split
  · omega
  · split
    · split
      · split
        · omega
        · split
          · omega
          · exact h2
      · exact h2
    · omega
theorem rcut_fit {s : PS} (h : Fit s) (o st : Int) (H : List (Int × Nat)) (bk : Int) (m : Nat) : Fit (rcutS s o st H bk m) := by
  unfold rcutS rpushS
  have h1 := h.hput 13 [o, st] bk (maxH o H - m) (getI (getP s.t) (keyF 13 [o, st]) - 1)
  have h2 : Fit (rnewS s 13 [o, st] bk (maxH o H - m)) := (h.hput _ _ _ _ _).setInt _ _
  split
  · exact h
  · split
    · split
      · split
        · exact h1
        · split
          · exact h
          · exact h2
      · exact h2
    · exact h
/-! ### a cut, its amounts by their words -/
theorem mCutW {w : World} {g : Nat} {s : PS} {F : List Nat} (h : St w g s F) (hz : s.sz < 1000000) (hf : Fit s) {o st bk : Int} {H : List (Int × Nat)} (hH : HisI (getP s.t) 13 [o, st] H) (hn : H.length ≤ 1000000)
    (ho : I6 o) (hst : I6 st) (hbk : I6 bk) {m : Nat} (hm : m < uMax) {n1 n2 : Nat} {er : Int} (h1 : n1 = if cutE o st H bk m = 0 then maxH o H else 0) (h2 : n2 = if cutE o st H bk m = 0 then maxH o H - m else 0) (h3 : er = cutE o st H bk m) :
    Calls Tryz.prog 21 #[.pointer (some ⟨g, 0, none⟩), .int .i64 o, .int .i64 st, .int .i64 bk, .agg #[.int .u64 (uw0 m), .int .u64 (uw1 m), .int .u64 (uw2 m), .int .u64 (uw3 m)]] w (StRet w g F (cutS s o st H bk m) (.tuple #[.agg #[.int .u64 (uw0 n1), .int .u64 (uw1 n1), .int .u64 (uw2 n1), .int .u64 (uw3 n1)], .agg #[.int .u64 (uw0 n2), .int .u64 (uw1 n2), .int .u64 (uw2 n2), .int .u64 (uw3 n2)], .int .i64 er])) := by
  subst h1 h2 h3
  refine (mCut_any h (by omega) hf (fun _ _ => hH) hn ho hst hbk (uw_is hm)).mono ?_
  rintro e w' ⟨a, b, c, d, a', b', c', d', hu1, hu2, hs⟩
  obtain ⟨rfl, rfl, rfl, rfl⟩ := hu1.uw
  obtain ⟨rfl, rfl, rfl, rfl⟩ := hu2.uw
  exact hs
theorem rCutW {w : World} {g : Nat} {s : PS} {F : List Nat} (h : RS w g s F) (hz : s.sz < 1000000) (hf : Fit s) {o st bk : Int} {H : List (Int × Nat)} (hH : HisI (getP s.t) 13 [o, st] H) (hn : H.length ≤ 1000000)
    (ho : I6 o) (hst : I6 st) (hbk : I6 bk) {m : Nat} (hm : m < uMax) {n1 n2 : Nat} {er : Int} (h1 : n1 = if cutE o st H bk m = 0 then maxH o H else 0) (h2 : n2 = if cutE o st H bk m = 0 then maxH o H - m else 0) (h3 : er = cutE o st H bk m) :
    Calls Tryz.prog 22 #[.pointer (some ⟨g, 0, none⟩), .int .i64 o, .int .i64 st, .int .i64 bk, .agg #[.int .u64 (uw0 m), .int .u64 (uw1 m), .int .u64 (uw2 m), .int .u64 (uw3 m)]] w (RRet w g F (rcutS s o st H bk m) (.tuple #[.agg #[.int .u64 (uw0 n1), .int .u64 (uw1 n1), .int .u64 (uw2 n1), .int .u64 (uw3 n1)], .agg #[.int .u64 (uw0 n2), .int .u64 (uw1 n2), .int .u64 (uw2 n2), .int .u64 (uw3 n2)], .int .i64 er])) := by
  subst h1 h2 h3
  refine (rCut_any h (by omega) hf (fun _ _ => hH) hn ho hst hbk (uw_is hm)).mono ?_
  rintro e w' ⟨a, b, c, d, a', b', c', d', hu1, hu2, hs⟩
  obtain ⟨rfl, rfl, rfl, rfl⟩ := hu1.uw
  obtain ⟨rfl, rfl, rfl, rfl⟩ := hu2.uw
  exact hs
theorem two_cells {w w' w0 : World} {g h : Nat} {s s2 : PS} {X : Nat} {cs : Array Value} {T : TypeId} (t : Two w0 w g h s s2) (hX : w.heap[X]? = some (.cells cs T (0, 0))) (hT : stoKind (.cells cs T (0, 0)) = false) (hR : rstKind (.cells cs T (0, 0)) = false) (hk : Keep (· = X) w w') (hw : w0.heap.size ≤ X) : Two w0 w' g h s s2 := by
  obtain ⟨F, G, h1, h2, h3, h4, h5⟩ := t
  refine ⟨F, G, h1.keep hk fun x hx e => ?_, h2.keep hk fun x hx e => ?_, h3, h4, h5.trans (hk.below (B := w0.heap.size) (fun y hy e => by omega) h5.size)⟩
  · obtain ⟨o, ho, hs⟩ := h1.kind x hx
    subst e
    rw [hX] at ho
    cases ho
    rw [hT] at hs
    cases hs
  · obtain ⟨o, ho, hs⟩ := h2.kind x hx
    subst e
    rw [hX] at ho
    cases ho
    rw [hR] at hs
    cases hs

set_option maxHeartbeats 16000000 in
set_option maxRecDepth 100000 in
theorem acts22_any {w : World} {v : Value} {l : List Act22} (blk : Int) (h1 : Rd w act22E 7 v l) (hgd : ∀ a ∈ l, Good22 w a) :
    Calls Tryz.prog 4 #[v, .int .i64 blk] w (Ret w (.bool true)) := by
  obtain ⟨ad, cap, e1, c1, c1'⟩ := h1.shape
  obtain ⟨n, hn⟩ : ∃ n, n = l.length := ⟨_, rfl⟩
  rw [← hn] at e1 c1
  subst e1
  have H1 := Lib.hid h1; have HN := Lib.hid hn; have HGD := Lib.hid hgd
  clear h1 hn hgd
  by_cases hbig : 100 < n
  · go_enter Tryz.func4, Tryz.ntmps4
    go_wp2_with fail
    refine (lives22_any _).mono ?_
    rintro e w2 ⟨rfl, hb⟩
    have HB := Lib.hid hb
    clear hb
    go_wp2_with fail
    go_ret
    exact ⟨rfl, HB.out⟩
  have P100 : Hid (n ≤ 100) := Lib.hid (by omega)
  have HB : Hid (Below w.heap.size w w) := Lib.hid (Below.refl _ _)
  go_enter Tryz.func4, Tryz.ntmps4
  go_wp2_with fail
  clear hbig
  refine (snew_any _).mono ?_
  rintro e w3 ⟨g, F, rfl, q1, hb3, q3⟩
  have Q1 := Lib.hid q1; have HB3 := Lib.hid (HB.out.trans (hb3.mono HB.out.size)); have Q3 : Hid (∀ x ∈ F, w.heap.size ≤ x) := Lib.hid fun x hx => Nat.le_trans HB.out.size (q3 x hx)
  clear q1 hb3 q3
  go_wp2_with fail
  obtain ⟨w4, hw4⟩ : ∃ w4, w4 = w3.alloc (.cells #[.slice none 0 0, .slice none 0 0] 30) := ⟨_, rfl⟩
  obtain ⟨h, hh⟩ : ∃ h, h = w3.heap.size := ⟨_, rfl⟩
  rw [← hw4, ← hh]
  have TW : Hid (Two w w4 g h PS.new PS.new) := Lib.hid (by
    have hb4 : Below w3.heap.size w3 w4 := by rw [hw4]; exact (Below.refl _ _).alloc (Nat.le_refl _) _
    have hx4 : w4.heap[h]? = some (.cells #[.slice none 0 0, .slice none 0 0] 30 (0, 0)) := by rw [hw4, hh]; exact heap_alloc_new _ _
    have hrs : RS w4 h PS.new (rfoot h (.slice none 0 0) (.slice none 0 0)) := ⟨_, _, ⟨hx4, LO.nil _ _ _ _, LO.nil _ _ _ _, List.Pairwise.nil⟩, rfl⟩
    refine ⟨F, _, Q1.out.later hb4, hrs, Q3.out, fun x hx => ?_, HB3.out.trans (hb4.mono HB3.out.size)⟩
    rw [rfoot_eq] at hx
    rcases hx with e | e | e
    · rw [e, hh]; exact HB3.out.size
    · cases e
    · cases e)
  clear hw4 hh Q1 Q3 HB3
  go_wp2_with fail
  go_loopw [24] (fun vi wr => ∃ (i : Nat) (s1 s2 : PS) (Hs : HS), vi = .int .i64 i ∧ i ≤ n ∧ Hid (s2.t = s1.t) ∧ Hid (s1.sz ≤ 4 * i ∧ s2.sz ≤ 4 * i) ∧ Hid (Fit s1 ∧ Fit s2) ∧ Hid (HAll (getP s1.t) Hs i) ∧ Hid (Two w wr g h s1 s2)) (fun vi _ => n - (intOf vi).toNat)
  case atStart => exact ⟨0, _, _, _, rfl, Nat.zero_le _, Lib.hid rfl, Lib.hid ⟨Nat.le_refl _, Nat.le_refl _⟩, Lib.hid ⟨Fit.new, Fit.new⟩, Lib.hid HAll.new, TW⟩
  case round =>
    clear TW
    obtain ⟨i, s1, s2, Hs, rfl, hin, HT, HZ, HF, HA, TF⟩ := hrel
    by_cases hlt : i < n
    · have hj : i < l.length := by rw [← HN.out]; exact hlt
      obtain ⟨gL, off, rfl, hgL, q0, q1, q2, q3, q4, q5, q6⟩ := Rd.act22 H1.out i hj
      have hbw := TF.out.below
      have q0' := (hbw.cell (p := ⟨gL, off + i * 7, none⟩) hgL).trans q0
      have q1' := (hbw.cell (p := ⟨gL, off + i * 7 + 1, none⟩) hgL).trans q1
      have q2' := (hbw.cell (p := ⟨gL, off + i * 7 + 2, none⟩) hgL).trans q2
      have q3' := (hbw.cell (p := ⟨gL, off + i * 7 + 3, none⟩) hgL).trans q3
      have q4' := (hbw.cell (p := ⟨gL, off + i * 7 + 4, none⟩) hgL).trans q4
      have q5' := (hbw.cell (p := ⟨gL, off + i * 7 + 5, none⟩) hgL).trans q5
      have q6' := (hbw.cell (p := ⟨gL, off + i * 7 + 6, none⟩) hgL).trans q6
      have hmem : l[i] ∈ l := List.getElem_mem hj
      obtain ⟨a, ha⟩ : ∃ a, a = l[i] := ⟨_, rfl⟩
      rw [← ha] at hmem q0' q1' q2' q3' q4' q5' q6'
      have HJL := Lib.hid hlt; have HGX := Lib.hid (HGD.out a hmem)
      have HI : Hid (i ≤ 100) := Lib.hid (by have := P100.out; omega)
      obtain ⟨H, hH⟩ : ∃ z, z = Hs a.o a.st := ⟨_, rfl⟩
      have HUP : Hid (Up s1.t) := Lib.hid (by obtain ⟨F9, h9⟩ := TF.out.get1; exact h9.up)
      obtain ⟨z1, hz1⟩ : ∃ z, z = cutS s1 a.o a.st H a.b a.m := ⟨_, rfl⟩
      obtain ⟨z2, hz2⟩ : ∃ z, z = rcutS s2 a.o a.st H a.b a.m := ⟨_, rfl⟩
      obtain ⟨er, her⟩ : ∃ z, z = cutE a.o a.st H a.b a.m := ⟨_, rfl⟩
      obtain ⟨n1, hn1⟩ : ∃ z, z = if cutE a.o a.st H a.b a.m = 0 then maxH a.o H else 0 := ⟨_, rfl⟩
      obtain ⟨n2, hn2⟩ : ∃ z, z = if cutE a.o a.st H a.b a.m = 0 then maxH a.o H - a.m else 0 := ⟨_, rfl⟩
      obtain ⟨Gs, hGs⟩ : ∃ z, z = cutHs Hs a.o a.st a.b a.m := ⟨_, rfl⟩
      have HIS : Hid (HisI (getP s1.t) 13 [a.o, a.st] H) := Lib.hid (by rw [hH]; exact HA.out.his _ _ HGX.out.b_o HGX.out.b_st)
      have HIS2 : Hid (HisI (getP s2.t) 13 [a.o, a.st] H) := Lib.hid (by rw [HT.out]; exact HIS.out)
      have HLN : Hid (H.length ≤ 1000000) := Lib.hid (by rw [hH]; have := HA.out.len a.o a.st; have := HI.out; omega)
      have HNU : Hid (n1 < uMax ∧ n2 < uMax) := Lib.hid (by
        have h9 := maxH_lt HIS.out a.o
        have h8 : 0 < uMax := by unfold uMax; omega
        constructor
        · rw [hn1]; split
          · exact h9
          · exact h8
        · rw [hn2]; split
          · exact Nat.lt_of_le_of_lt (Nat.sub_le _ _) h9
          · exact h8)
      have HTN : Hid (z2.t = z1.t) := Lib.hid (by rw [hz1, hz2, hH]; exact rcut_t HT.out HUP.out HA.out (by have := HI.out; omega) HGX.out.b_o HGX.out.b_st)
      have HAN : Hid (HAll (getP z1.t) Gs (i + 1)) := Lib.hid (by rw [hz1, hH, hGs]; exact HA.out.cut (by have := HI.out; omega) HGX.out.b_o HGX.out.b_st)
      have HZN : Hid (z1.sz ≤ 4 * (i + 1) ∧ z2.sz ≤ 4 * (i + 1)) := Lib.hid ⟨by have h7 := cut_sz s1 a.o a.st H a.b a.m; have h8 := HZ.out.1; rw [hz1]; omega, by have h7 := rcut_sz s2 a.o a.st H a.b a.m; have h8 := HZ.out.2; rw [hz2]; omega⟩
      have HFN : Hid (Fit z1 ∧ Fit z2) := Lib.hid ⟨by rw [hz1]; exact cut_fit HF.out.1 _ _ _ _ _, by rw [hz2]; exact rcut_fit HF.out.2 _ _ _ _ _⟩
      obtain ⟨J, hJ⟩ : ∃ z, z = Gs a.o a.st := ⟨_, rfl⟩
      have HJS : Hid (HisI (getP z1.t) 13 [a.o, a.st] J) := Lib.hid (by rw [hJ]; exact HAN.out.his _ _ HGX.out.b_o HGX.out.b_st)
      have HJS2 : Hid (HisI (getP z2.t) 13 [a.o, a.st] J) := Lib.hid (by rw [HTN.out]; exact HJS.out)
      have HJN : Hid (J.length ≤ 1000000) := Lib.hid (by rw [hJ]; have := HAN.out.len a.o a.st; have := HI.out; omega)
      have HZ1 := Lib.hid hz1; have HZ2 := Lib.hid hz2; have HN1 := Lib.hid hn1; have HN2 := Lib.hid hn2; have HER := Lib.hid her
      clear ha q0 q1 q2 q3 q4 q5 q6 hgL hj hmem hbw hin hH hz1 hz2 her hn1 hn2 hGs hJ HA HT HUP
      go_wp2_with (refine wpList_alloc_g rfl _ rfl _ _ Tryz.zeroAct22 rfl ?_)
      intro R d1 hR
      have WR : Hid (w.heap.size ≤ R) := Lib.hid (by rw [hR.out.eq]; exact (TF.out.below).size)
      have HRz := Lib.hid hR.out.cells; have hbR := hR.out.below
      clear hR
      have TFm := Lib.hid (TF.out.later hbR)
      clear hbR TF
      have TF := TFm
      clear TFm
      have HR := HRz
      clear HRz
      go_wp2_with (refine wpList_store_row_g (t := 48) (old := #[.int .i64 0, .int .i64 0, .int .i64 0, .int .u64 0, .int .u64 0, .int .u64 0, .int .u64 0]) rfl 48 _ _ rfl R #[.int .i64 a.o, .int .i64 a.st, .int .i64 a.b, .int .u64 (uw0 a.m), .int .u64 (uw1 a.m), .int .u64 (uw2 a.m), .int .u64 (uw3 a.m)] rfl rfl HR.out Tryz.sizeAct22 rfl (by simp [Value.oneCell']) ?_)
      intro d2 hxR kR zR
      clear zR
      have TFm := Lib.hid (two_cells TF.out HR.out rfl rfl kR WR.out)
      have HRm := Lib.hid hxR
      clear hxR kR TF HR
      have TF := TFm
      have HR := HRm
      clear TFm HRm
      clear q0' q1' q2' q3' q4' q5' q6' hlt
      have c0 : d2.cell? ⟨R, 0, none⟩ = some (.int .i64 a.o) := Lib.cell_of_heap HR.out 0
      have c1 : d2.cell? ⟨R, 1, none⟩ = some (.int .i64 a.st) := Lib.cell_of_heap HR.out 1
      have c2 : d2.cell? ⟨R, 2, none⟩ = some (.int .i64 a.b) := Lib.cell_of_heap HR.out 2
      go_wp2_with (refine wpList_load_mid rfl 33 _ rfl R 3 rfl [.int .u64 (uw0 a.m), .int .u64 (uw1 a.m), .int .u64 (uw2 a.m), .int .u64 (uw3 a.m)] _ (range_of_heap HR.out 3 _ rfl) Tryz.underlying33 rfl Tryz.sizeU ?_)
      clear c0 c1 c2
      refine (TF.out.st fun F hs => mCutW hs (by have := HZ.out.1; have := HI.out; omega) HF.out.1 HIS.out HLN.out HGX.out.b_o HGX.out.b_st HGX.out.b_b HGX.out.lt_m HN1.out HN2.out HER.out).mono ?_
      rw [← HZ1.out]
      rintro e d3 ⟨rfl, o, hoth⟩
      have TFm := Lib.hid o
      have HRm := Lib.hid (hoth.2 R _ HR.out rfl rfl)
      clear o hoth TF HR
      have TF := TFm
      have HR := HRm
      clear TFm HRm
      go_wp2_with (refine wpList_alloc_g rfl _ rfl _ _ Tryz.zeroUz rfl ?_)
      intro P1 d4 hP1
      have WP1 : Hid (w.heap.size ≤ P1) := Lib.hid (by rw [hP1.out.eq]; exact (TF.out.below).size)
      have NRP1 : Hid (R ≠ P1) := Lib.hid (by have := hP1.out.eq; have := heap_lt HR.out; omega)
      have HP1z := Lib.hid hP1.out.cells; have hbP1 := hP1.out.below
      clear hP1
      have TFm := Lib.hid (TF.out.later hbP1)
      have HRm := Lib.hid (below_at' hbP1 HR.out)
      clear hbP1 TF HR
      have TF := TFm
      have HR := HRm
      clear TFm HRm
      have HP1 := HP1z
      clear HP1z
      go_wp2_with (refine wpList_alloc_g rfl _ rfl _ _ Tryz.zeroUz rfl ?_)
      intro P2 d5 hP2
      have WP2 : Hid (w.heap.size ≤ P2) := Lib.hid (by rw [hP2.out.eq]; exact (TF.out.below).size)
      have NRP2 : Hid (R ≠ P2) := Lib.hid (by have := hP2.out.eq; have := heap_lt HR.out; omega)
      have NP1P2 : Hid (P1 ≠ P2) := Lib.hid (by have := hP2.out.eq; have := heap_lt HP1.out; omega)
      have HP2z := Lib.hid hP2.out.cells; have hbP2 := hP2.out.below
      clear hP2
      have TFm := Lib.hid (TF.out.later hbP2)
      have HRm := Lib.hid (below_at' hbP2 HR.out)
      have HP1m := Lib.hid (below_at' hbP2 HP1.out)
      clear hbP2 TF HR HP1
      have TF := TFm
      have HR := HRm
      have HP1 := HP1m
      clear TFm HRm HP1m
      have HP2 := HP2z
      clear HP2z
      go_wp2_with (refine wpList_store_row_g (t := 33) (old := u0) rfl 33 _ _ rfl P1 #[.int .u64 (uw0 n1), .int .u64 (uw1 n1), .int .u64 (uw2 n1), .int .u64 (uw3 n1)] rfl rfl HP1.out Tryz.sizeU rfl (one_u64 _ _ _ _) ?_)
      intro d6 hxP1 kP1 zP1
      clear zP1
      have TFm := Lib.hid (two_cells TF.out HP1.out rfl rfl kP1 WP1.out)
      have HRm := Lib.hid (kP1.at HR.out NRP1.out)
      have HP2m := Lib.hid (kP1.at HP2.out (fun e => NP1P2.out e.symm))
      have HP1m := Lib.hid hxP1
      clear hxP1 kP1 TF HR HP1 HP2
      have TF := TFm
      have HR := HRm
      have HP1 := HP1m
      have HP2 := HP2m
      clear TFm HRm HP1m HP2m
      go_wp2_with (refine wpList_store_row_g (t := 33) (old := u0) rfl 33 _ _ rfl P2 #[.int .u64 (uw0 n2), .int .u64 (uw1 n2), .int .u64 (uw2 n2), .int .u64 (uw3 n2)] rfl rfl HP2.out Tryz.sizeU rfl (one_u64 _ _ _ _) ?_)
      intro d7 hxP2 kP2 zP2
      clear zP2
      have TFm := Lib.hid (two_cells TF.out HP2.out rfl rfl kP2 WP2.out)
      have HRm := Lib.hid (kP2.at HR.out NRP2.out)
      have HP1m := Lib.hid (kP2.at HP1.out NP1P2.out)
      have HP2m := Lib.hid hxP2
      clear hxP2 kP2 TF HR HP1 HP2
      have TF := TFm
      have HR := HRm
      have HP1 := HP1m
      have HP2 := HP2m
      clear TFm HRm HP1m HP2m
      have c0 : d7.cell? ⟨R, 0, none⟩ = some (.int .i64 a.o) := Lib.cell_of_heap HR.out 0
      have c1 : d7.cell? ⟨R, 1, none⟩ = some (.int .i64 a.st) := Lib.cell_of_heap HR.out 1
      have c2 : d7.cell? ⟨R, 2, none⟩ = some (.int .i64 a.b) := Lib.cell_of_heap HR.out 2
      go_wp2_with (refine wpList_load_mid rfl 33 _ rfl R 3 rfl [.int .u64 (uw0 a.m), .int .u64 (uw1 a.m), .int .u64 (uw2 a.m), .int .u64 (uw3 a.m)] _ (range_of_heap HR.out 3 _ rfl) Tryz.underlying33 rfl Tryz.sizeU ?_)
      clear c0 c1 c2
      refine (TF.out.rs fun F hs => rCutW hs (by have := HZ.out.2; have := HI.out; omega) HF.out.2 HIS2.out HLN.out HGX.out.b_o HGX.out.b_st HGX.out.b_b HGX.out.lt_m HN1.out HN2.out HER.out).mono ?_
      rw [← HZ2.out]
      rintro e d8 ⟨rfl, o, hoth⟩
      have TFm := Lib.hid o
      have HRm := Lib.hid (hoth.2 R _ HR.out rfl rfl)
      have HP1m := Lib.hid (hoth.2 P1 _ HP1.out rfl rfl)
      have HP2m := Lib.hid (hoth.2 P2 _ HP2.out rfl rfl)
      clear o hoth TF HR HP1 HP2
      have TF := TFm
      have HR := HRm
      have HP1 := HP1m
      have HP2 := HP2m
      clear TFm HRm HP1m HP2m
      go_wp2_with (refine wpList_alloc_g rfl _ rfl _ _ Tryz.zeroUz rfl ?_)
      intro Q1 d9 hQ1
      have WQ1 : Hid (w.heap.size ≤ Q1) := Lib.hid (by rw [hQ1.out.eq]; exact (TF.out.below).size)
      have NRQ1 : Hid (R ≠ Q1) := Lib.hid (by have := hQ1.out.eq; have := heap_lt HR.out; omega)
      have NP1Q1 : Hid (P1 ≠ Q1) := Lib.hid (by have := hQ1.out.eq; have := heap_lt HP1.out; omega)
      have NP2Q1 : Hid (P2 ≠ Q1) := Lib.hid (by have := hQ1.out.eq; have := heap_lt HP2.out; omega)
      have HQ1z := Lib.hid hQ1.out.cells; have hbQ1 := hQ1.out.below
      clear hQ1
      have TFm := Lib.hid (TF.out.later hbQ1)
      have HRm := Lib.hid (below_at' hbQ1 HR.out)
      have HP1m := Lib.hid (below_at' hbQ1 HP1.out)
      have HP2m := Lib.hid (below_at' hbQ1 HP2.out)
      clear hbQ1 TF HR HP1 HP2
      have TF := TFm
      have HR := HRm
      have HP1 := HP1m
      have HP2 := HP2m
      clear TFm HRm HP1m HP2m
      have HQ1 := HQ1z
      clear HQ1z
      go_wp2_with (refine wpList_alloc_g rfl _ rfl _ _ Tryz.zeroUz rfl ?_)
      intro Q2 d10 hQ2
      have WQ2 : Hid (w.heap.size ≤ Q2) := Lib.hid (by rw [hQ2.out.eq]; exact (TF.out.below).size)
      have NRQ2 : Hid (R ≠ Q2) := Lib.hid (by have := hQ2.out.eq; have := heap_lt HR.out; omega)
      have NP1Q2 : Hid (P1 ≠ Q2) := Lib.hid (by have := hQ2.out.eq; have := heap_lt HP1.out; omega)
      have NP2Q2 : Hid (P2 ≠ Q2) := Lib.hid (by have := hQ2.out.eq; have := heap_lt HP2.out; omega)
      have NQ1Q2 : Hid (Q1 ≠ Q2) := Lib.hid (by have := hQ2.out.eq; have := heap_lt HQ1.out; omega)
      have HQ2z := Lib.hid hQ2.out.cells; have hbQ2 := hQ2.out.below
      clear hQ2
      have TFm := Lib.hid (TF.out.later hbQ2)
      have HRm := Lib.hid (below_at' hbQ2 HR.out)
      have HP1m := Lib.hid (below_at' hbQ2 HP1.out)
      have HP2m := Lib.hid (below_at' hbQ2 HP2.out)
      have HQ1m := Lib.hid (below_at' hbQ2 HQ1.out)
      clear hbQ2 TF HR HP1 HP2 HQ1
      have TF := TFm
      have HR := HRm
      have HP1 := HP1m
      have HP2 := HP2m
      have HQ1 := HQ1m
      clear TFm HRm HP1m HP2m HQ1m
      have HQ2 := HQ2z
      clear HQ2z
      go_wp2_with (refine wpList_store_row_g (t := 33) (old := u0) rfl 33 _ _ rfl Q1 #[.int .u64 (uw0 n1), .int .u64 (uw1 n1), .int .u64 (uw2 n1), .int .u64 (uw3 n1)] rfl rfl HQ1.out Tryz.sizeU rfl (one_u64 _ _ _ _) ?_)
      intro d11 hxQ1 kQ1 zQ1
      clear zQ1
      have TFm := Lib.hid (two_cells TF.out HQ1.out rfl rfl kQ1 WQ1.out)
      have HRm := Lib.hid (kQ1.at HR.out NRQ1.out)
      have HP1m := Lib.hid (kQ1.at HP1.out NP1Q1.out)
      have HP2m := Lib.hid (kQ1.at HP2.out NP2Q1.out)
      have HQ2m := Lib.hid (kQ1.at HQ2.out (fun e => NQ1Q2.out e.symm))
      have HQ1m := Lib.hid hxQ1
      clear hxQ1 kQ1 TF HR HP1 HP2 HQ1 HQ2
      have TF := TFm
      have HR := HRm
      have HP1 := HP1m
      have HP2 := HP2m
      have HQ1 := HQ1m
      have HQ2 := HQ2m
      clear TFm HRm HP1m HP2m HQ1m HQ2m
      go_wp2_with (refine wpList_store_row_g (t := 33) (old := u0) rfl 33 _ _ rfl Q2 #[.int .u64 (uw0 n2), .int .u64 (uw1 n2), .int .u64 (uw2 n2), .int .u64 (uw3 n2)] rfl rfl HQ2.out Tryz.sizeU rfl (one_u64 _ _ _ _) ?_)
      intro d12 hxQ2 kQ2 zQ2
      clear zQ2
      have TFm := Lib.hid (two_cells TF.out HQ2.out rfl rfl kQ2 WQ2.out)
      have HRm := Lib.hid (kQ2.at HR.out NRQ2.out)
      have HP1m := Lib.hid (kQ2.at HP1.out NP1Q2.out)
      have HP2m := Lib.hid (kQ2.at HP2.out NP2Q2.out)
      have HQ1m := Lib.hid (kQ2.at HQ1.out NQ1Q2.out)
      have HQ2m := Lib.hid hxQ2
      clear hxQ2 kQ2 TF HR HP1 HP2 HQ1 HQ2
      have TF := TFm
      have HR := HRm
      have HP1 := HP1m
      have HP2 := HP2m
      have HQ1 := HQ1m
      have HQ2 := HQ2m
      clear TFm HRm HP1m HP2m HQ1m HQ2m
      have e7 := Tryz.eqUn (uw_is HNU.out.1) (uw_is HNU.out.1)
      rw [decide_eq_true rfl] at e7
      have e8 := Tryz.eqUn (uw_is HNU.out.2) (uw_is HNU.out.2)
      rw [decide_eq_true rfl] at e8
      have hi100 : i ≤ 100 := HI.out
      go_wp2_with fail
      obtain ⟨d13, hwz⟩ : ∃ wz, wz = d12.drew := ⟨_, rfl⟩
      have hbz : Below d12.heap.size d12 d13 := by rw [hwz]; exact (Below.refl _ _).drew
      have TFm := Lib.hid (TF.out.later hbz)
      have HRm := Lib.hid (below_at' hbz HR.out)
      have HP1m := Lib.hid (below_at' hbz HP1.out)
      have HP2m := Lib.hid (below_at' hbz HP2.out)
      have HQ1m := Lib.hid (below_at' hbz HQ1.out)
      have HQ2m := Lib.hid (below_at' hbz HQ2.out)
      clear hbz TF HR HP1 HP2 HQ1 HQ2
      have TF := TFm
      have HR := HRm
      have HP1 := HP1m
      have HP2 := HP2m
      have HQ1 := HQ1m
      have HQ2 := HQ2m
      clear TFm HRm HP1m HP2m HQ1m HQ2m
      have hS : d13.heap[R]? = some (.cells #[.int .i64 a.o, .int .i64 a.st, .int .i64 a.b, .int .u64 (uw0 a.m), .int .u64 (uw1 a.m), .int .u64 (uw2 a.m), .int .u64 (uw3 a.m)] 48 (0, 0)) ∧ d13.heap[P1]? = some (.cells #[.int .u64 (uw0 n1), .int .u64 (uw1 n1), .int .u64 (uw2 n1), .int .u64 (uw3 n1)] 33 (0, 0)) ∧ d13.heap[P2]? = some (.cells #[.int .u64 (uw0 n2), .int .u64 (uw1 n2), .int .u64 (uw2 n2), .int .u64 (uw3 n2)] 33 (0, 0)) ∧ d13.heap[Q1]? = some (.cells #[.int .u64 (uw0 n1), .int .u64 (uw1 n1), .int .u64 (uw2 n1), .int .u64 (uw3 n1)] 33 (0, 0)) ∧ d13.heap[Q2]? = some (.cells #[.int .u64 (uw0 n2), .int .u64 (uw1 n2), .int .u64 (uw2 n2), .int .u64 (uw3 n2)] 33 (0, 0)) := ⟨HR.out, HP1.out, HP2.out, HQ1.out, HQ2.out⟩
      refine wp_region_till (fun w' => w'.heap[R]? = some (.cells #[.int .i64 a.o, .int .i64 a.st, .int .i64 a.b, .int .u64 (uw0 a.m), .int .u64 (uw1 a.m), .int .u64 (uw2 a.m), .int .u64 (uw3 a.m)] 48 (0, 0)) ∧ w'.heap[P1]? = some (.cells #[.int .u64 (uw0 n1), .int .u64 (uw1 n1), .int .u64 (uw2 n1), .int .u64 (uw3 n1)] 33 (0, 0)) ∧ w'.heap[P2]? = some (.cells #[.int .u64 (uw0 n2), .int .u64 (uw1 n2), .int .u64 (uw2 n2), .int .u64 (uw3 n2)] 33 (0, 0)) ∧ w'.heap[Q1]? = some (.cells #[.int .u64 (uw0 n1), .int .u64 (uw1 n1), .int .u64 (uw2 n1), .int .u64 (uw3 n1)] 33 (0, 0)) ∧ w'.heap[Q2]? = some (.cells #[.int .u64 (uw0 n2), .int .u64 (uw1 n2), .int .u64 (uw2 n2), .int .u64 (uw3 n2)] 33 (0, 0))) 60 60 (by kernel_rfl) rfl ?_
      rw [← hwz]
      clear hwz
      refine till_take 0 (some 56) rfl rfl (by kernel_rfl) (by kernel_rfl) (by kernel_rfl) (by kernel_rfl) (by kernel_rfl) (by kernel_rfl) (fun _ _ _ h => h) (yields_load (by rfl) 33 _ rfl (.pointer (some ⟨P1, 0, none⟩)) rfl (.agg #[.int .u64 (uw0 n1), .int .u64 (uw1 n1), .int .u64 (uw2 n1), .int .u64 (uw3 n1)]) (fun w' hS' => load_heap (hS'.2.1) Tryz.underlying33 rfl Tryz.sizeU)) hS ?_
      go_frame
      refine till_take 1 (some 57) rfl rfl (by kernel_rfl) (by kernel_rfl) (by kernel_rfl) (by kernel_rfl) (by kernel_rfl) (by kernel_rfl) (fun _ _ _ h => h) (yields_load (by rfl) 33 _ rfl (.pointer (some ⟨Q1, 0, none⟩)) rfl (.agg #[.int .u64 (uw0 n1), .int .u64 (uw1 n1), .int .u64 (uw2 n1), .int .u64 (uw3 n1)]) (fun w' hS' => load_heap (hS'.2.2.2.1) Tryz.underlying33 rfl Tryz.sizeU)) hS ?_
      go_frame
      refine till_take 2 (some 58) rfl rfl (by kernel_rfl) (by kernel_rfl) (by kernel_rfl) (by kernel_rfl) (by kernel_rfl) (by kernel_rfl) (fun _ _ _ h => h) (.inl ⟨by rfl, fun w' _ => (by go_simp; rfl)⟩) hS ?_
      go_frame
      refine till_take 3 (some 59) rfl rfl (by kernel_rfl) (by kernel_rfl) (by kernel_rfl) (by kernel_rfl) (by kernel_rfl) (by kernel_rfl) (fun _ _ _ h => h) (.inl ⟨by rfl, fun w' _ => (by go_simp; rfl)⟩) hS ?_
      go_frame
      refine till_take 4 (some 60) rfl rfl (by kernel_rfl) (by kernel_rfl) (by kernel_rfl) (by kernel_rfl) (by kernel_rfl) (by kernel_rfl) (fun _ _ _ h => h) (yields_load (by rfl) 33 _ rfl (.pointer (some ⟨P2, 0, none⟩)) rfl (.agg #[.int .u64 (uw0 n2), .int .u64 (uw1 n2), .int .u64 (uw2 n2), .int .u64 (uw3 n2)]) (fun w' hS' => load_heap (hS'.2.2.1) Tryz.underlying33 rfl Tryz.sizeU)) hS ?_
      go_frame
      refine till_take 5 (some 61) rfl rfl (by kernel_rfl) (by kernel_rfl) (by kernel_rfl) (by kernel_rfl) (by kernel_rfl) (by kernel_rfl) (fun _ _ _ h => h) (yields_load (by rfl) 33 _ rfl (.pointer (some ⟨Q2, 0, none⟩)) rfl (.agg #[.int .u64 (uw0 n2), .int .u64 (uw1 n2), .int .u64 (uw2 n2), .int .u64 (uw3 n2)]) (fun w' hS' => load_heap (hS'.2.2.2.2) Tryz.underlying33 rfl Tryz.sizeU)) hS ?_
      go_frame
      refine till_take 6 (some 62) rfl rfl (by kernel_rfl) (by kernel_rfl) (by kernel_rfl) (by kernel_rfl) (by kernel_rfl) (by kernel_rfl) (fun _ _ _ h => h) (.inl ⟨by rfl, fun w' _ => (by go_simp; rfl)⟩) hS ?_
      go_frame
      refine till_take 7 (some 63) rfl rfl (by kernel_rfl) (by kernel_rfl) (by kernel_rfl) (by kernel_rfl) (by kernel_rfl) (by kernel_rfl) (fun _ _ _ h => h) (.inl ⟨by rfl, fun w' _ => (by go_simp; rfl)⟩) hS ?_
      go_frame
      refine till_take 8 (some 64) rfl rfl (by kernel_rfl) (by kernel_rfl) (by kernel_rfl) (by kernel_rfl) (by kernel_rfl) (by kernel_rfl) (fun _ _ _ h => h) (.inl ⟨by rfl, fun w' _ => (by go_simp; rfl)⟩) hS ?_
      go_frame
      refine till_take 9 (some 65) rfl rfl (by kernel_rfl) (by kernel_rfl) (by kernel_rfl) (by kernel_rfl) (by kernel_rfl) (by kernel_rfl) (fun _ _ _ h => h) (.inl ⟨by rfl, fun w' _ => (by go_simp; rfl)⟩) hS ?_
      go_frame
      refine till_take 10 (some 66) rfl rfl (by kernel_rfl) (by kernel_rfl) (by kernel_rfl) (by kernel_rfl) (by kernel_rfl) (by kernel_rfl) (fun _ _ _ h => h) (.inl ⟨by rfl, fun w' _ => (by go_simp; rfl)⟩) hS ?_
      go_frame
      refine till_take 11 (some 67) rfl rfl (by kernel_rfl) (by kernel_rfl) (by kernel_rfl) (by kernel_rfl) (by kernel_rfl) (by kernel_rfl) (fun _ _ _ h => h) (.inl ⟨by rfl, fun w' _ => (by go_simp; rfl)⟩) hS ?_
      go_frame
      refine till_take 12 (some 68) rfl rfl (by kernel_rfl) (by kernel_rfl) (by kernel_rfl) (by kernel_rfl) (by kernel_rfl) (by kernel_rfl) (fun _ _ _ h => h) (.inl ⟨by rfl, fun w' _ => (by go_simp; rfl)⟩) hS ?_
      go_frame
      refine till_take 13 (some 69) rfl rfl (by kernel_rfl) (by kernel_rfl) (by kernel_rfl) (by kernel_rfl) (by kernel_rfl) (by kernel_rfl) (fun _ _ _ h => h) (.inl ⟨by rfl, fun w' _ => (by go_simp; rfl)⟩) hS ?_
      go_frame
      refine till_take 14 (some 70) rfl rfl (by kernel_rfl) (by kernel_rfl) (by kernel_rfl) (by kernel_rfl) (by kernel_rfl) (by kernel_rfl) (fun _ _ _ h => h) (.inl ⟨by rfl, fun w' _ => (by go_simp; rfl)⟩) hS ?_
      go_frame
      refine till_take 15 (some 71) rfl rfl (by kernel_rfl) (by kernel_rfl) (by kernel_rfl) (by kernel_rfl) (by kernel_rfl) (by kernel_rfl) (fun _ _ _ h => h) (.inl ⟨by rfl, fun w' _ => (by go_simp; rfl)⟩) hS ?_
      go_frame
      refine till_take 16 (some 72) rfl rfl (by kernel_rfl) (by kernel_rfl) (by kernel_rfl) (by kernel_rfl) (by kernel_rfl) (by kernel_rfl) (fun _ _ _ h => h) (.inl ⟨by rfl, fun w' hS' => (by have hc : w'.cell? ⟨R, 0, none⟩ = some (.int .i64 a.o) := Lib.cell_of_heap (hS'.1) 0; go_simp; rfl)⟩) hS ?_
      go_frame
      refine till_take 17 (some 73) rfl rfl (by kernel_rfl) (by kernel_rfl) (by kernel_rfl) (by kernel_rfl) (by kernel_rfl) (by kernel_rfl) (fun _ _ _ h => h) (.inl ⟨by rfl, fun w' _ => (by go_simp; rfl)⟩) hS ?_
      go_frame
      refine till_take 18 (some 74) rfl rfl (by kernel_rfl) (by kernel_rfl) (by kernel_rfl) (by kernel_rfl) (by kernel_rfl) (by kernel_rfl) (fun _ _ _ h => h) (.inl ⟨by rfl, fun w' hS' => (by have hc : w'.cell? ⟨R, 1, none⟩ = some (.int .i64 a.st) := Lib.cell_of_heap (hS'.1) 1; go_simp; rfl)⟩) hS ?_
      go_frame
      refine till_take 20 (some 76) rfl rfl (by kernel_rfl) (by kernel_rfl) (by kernel_rfl) (by kernel_rfl) (by kernel_rfl) (by kernel_rfl) (fun _ _ _ h => h) (.inl ⟨by rfl, fun w' _ => (by go_simp; rfl)⟩) hS ?_
      go_frame
      refine till_take 21 (some 77) rfl rfl (by kernel_rfl) (by kernel_rfl) (by kernel_rfl) (by kernel_rfl) (by kernel_rfl) (by kernel_rfl) (fun _ _ _ h => h) (.inl ⟨by rfl, fun w' _ => (by go_simp; rfl)⟩) hS ?_
      go_frame
      refine till_take 22 (some 78) rfl rfl (by kernel_rfl) (by kernel_rfl) (by kernel_rfl) (by kernel_rfl) (by kernel_rfl) (by kernel_rfl) (fun _ _ _ h => h) (.inl ⟨by rfl, fun w' hS' => (by have hc : w'.cell? ⟨R, 0, none⟩ = some (.int .i64 a.o) := Lib.cell_of_heap (hS'.1) 0; go_simp; rfl)⟩) hS ?_
      go_frame
      refine till_take 23 (some 79) rfl rfl (by kernel_rfl) (by kernel_rfl) (by kernel_rfl) (by kernel_rfl) (by kernel_rfl) (by kernel_rfl) (fun _ _ _ h => h) (.inl ⟨by rfl, fun w' _ => (by go_simp; rfl)⟩) hS ?_
      go_frame
      refine till_take 24 (some 80) rfl rfl (by kernel_rfl) (by kernel_rfl) (by kernel_rfl) (by kernel_rfl) (by kernel_rfl) (by kernel_rfl) (fun _ _ _ h => h) (.inl ⟨by rfl, fun w' hS' => (by have hc : w'.cell? ⟨R, 1, none⟩ = some (.int .i64 a.st) := Lib.cell_of_heap (hS'.1) 1; go_simp; rfl)⟩) hS ?_
      go_frame
      refine till_one 19 rfl (by kernel_rfl) fun K hK => ?_
      simp only [List.getElem_toArray, List.getElem_cons_succ, List.getElem_cons_zero]
      rw [if_pos (by rfl)]
      go_simp
      obtain ⟨F9, h9⟩ := TF.out.get1
      refine (mMax_any (Look.of_st h9) HFN.out.1.f HJS.out HJN.out HGX.out.b_o HGX.out.b_st).mono ?_
      rintro e d14 ⟨xaa, xab, xac, xad, hu, rfl, hb⟩
      have HxaU := Lib.hid hu
      clear hu h9
      have TFm := Lib.hid (TF.out.later hb)
      have HRm := Lib.hid (below_at' hb HR.out)
      have HP1m := Lib.hid (below_at' hb HP1.out)
      have HP2m := Lib.hid (below_at' hb HP2.out)
      have HQ1m := Lib.hid (below_at' hb HQ1.out)
      have HQ2m := Lib.hid (below_at' hb HQ2.out)
      clear hb TF HR HP1 HP2 HQ1 HQ2
      have TF := TFm
      have HR := HRm
      have HP1 := HP1m
      have HP2 := HP2m
      have HQ1 := HQ1m
      have HQ2 := HQ2m
      clear TFm HRm HP1m HP2m HQ1m HQ2m
      have hS2 : d14.heap[R]? = some (.cells #[.int .i64 a.o, .int .i64 a.st, .int .i64 a.b, .int .u64 (uw0 a.m), .int .u64 (uw1 a.m), .int .u64 (uw2 a.m), .int .u64 (uw3 a.m)] 48 (0, 0)) ∧ d14.heap[P1]? = some (.cells #[.int .u64 (uw0 n1), .int .u64 (uw1 n1), .int .u64 (uw2 n1), .int .u64 (uw3 n1)] 33 (0, 0)) ∧ d14.heap[P2]? = some (.cells #[.int .u64 (uw0 n2), .int .u64 (uw1 n2), .int .u64 (uw2 n2), .int .u64 (uw3 n2)] 33 (0, 0)) ∧ d14.heap[Q1]? = some (.cells #[.int .u64 (uw0 n1), .int .u64 (uw1 n1), .int .u64 (uw2 n1), .int .u64 (uw3 n1)] 33 (0, 0)) ∧ d14.heap[Q2]? = some (.cells #[.int .u64 (uw0 n2), .int .u64 (uw1 n2), .int .u64 (uw2 n2), .int .u64 (uw3 n2)] 33 (0, 0)) := ⟨HR.out, HP1.out, HP2.out, HQ1.out, HQ2.out⟩
      refine hK _ _ (fun _ _ => hS2) ?_
      clear hK hS
      have hS := hS2
      clear hS2
      refine till_one 25 rfl (by kernel_rfl) fun K hK => ?_
      simp only [List.getElem_toArray, List.getElem_cons_succ, List.getElem_cons_zero]
      rw [if_pos (by rfl)]
      go_simp
      obtain ⟨F9, h9⟩ := TF.out.get2
      refine (rMax_any h9 (by have := HZN.out.2; have := HI.out; omega) HFN.out.2 HJS2.out HJN.out HGX.out.b_o HGX.out.b_st).mono ?_
      rintro e d15 ⟨yaa, yab, yac, yad, hu, rfl, hb⟩
      have HyaU := Lib.hid hu
      clear hu h9
      have e9 := Tryz.eqUn HxaU.out HyaU.out
      rw [decide_eq_true rfl] at e9
      have TFm := Lib.hid (TF.out.later hb)
      have HRm := Lib.hid (below_at' hb HR.out)
      have HP1m := Lib.hid (below_at' hb HP1.out)
      have HP2m := Lib.hid (below_at' hb HP2.out)
      have HQ1m := Lib.hid (below_at' hb HQ1.out)
      have HQ2m := Lib.hid (below_at' hb HQ2.out)
      clear hb TF HR HP1 HP2 HQ1 HQ2
      have TF := TFm
      have HR := HRm
      have HP1 := HP1m
      have HP2 := HP2m
      have HQ1 := HQ1m
      have HQ2 := HQ2m
      clear TFm HRm HP1m HP2m HQ1m HQ2m
      have hS2 : d15.heap[R]? = some (.cells #[.int .i64 a.o, .int .i64 a.st, .int .i64 a.b, .int .u64 (uw0 a.m), .int .u64 (uw1 a.m), .int .u64 (uw2 a.m), .int .u64 (uw3 a.m)] 48 (0, 0)) ∧ d15.heap[P1]? = some (.cells #[.int .u64 (uw0 n1), .int .u64 (uw1 n1), .int .u64 (uw2 n1), .int .u64 (uw3 n1)] 33 (0, 0)) ∧ d15.heap[P2]? = some (.cells #[.int .u64 (uw0 n2), .int .u64 (uw1 n2), .int .u64 (uw2 n2), .int .u64 (uw3 n2)] 33 (0, 0)) ∧ d15.heap[Q1]? = some (.cells #[.int .u64 (uw0 n1), .int .u64 (uw1 n1), .int .u64 (uw2 n1), .int .u64 (uw3 n1)] 33 (0, 0)) ∧ d15.heap[Q2]? = some (.cells #[.int .u64 (uw0 n2), .int .u64 (uw1 n2), .int .u64 (uw2 n2), .int .u64 (uw3 n2)] 33 (0, 0)) := ⟨HR.out, HP1.out, HP2.out, HQ1.out, HQ2.out⟩
      refine hK _ _ (fun _ _ => hS2) ?_
      clear hK hS
      have hS := hS2
      clear hS2
      refine till_take 26 (some 82) rfl rfl (by kernel_rfl) (by kernel_rfl) (by kernel_rfl) (by kernel_rfl) (by kernel_rfl) (by kernel_rfl) (fun _ _ _ h => h) (.inl ⟨by rfl, fun w' _ => (by go_simp; rfl)⟩) hS ?_
      go_frame
      refine till_take 27 (some 83) rfl rfl (by kernel_rfl) (by kernel_rfl) (by kernel_rfl) (by kernel_rfl) (by kernel_rfl) (by kernel_rfl) (fun _ _ _ h => h) (.inl ⟨by rfl, fun w' _ => (by go_simp; rfl)⟩) hS ?_
      go_frame
      refine till_take 28 (some 84) rfl rfl (by kernel_rfl) (by kernel_rfl) (by kernel_rfl) (by kernel_rfl) (by kernel_rfl) (by kernel_rfl) (fun _ _ _ h => h) (.inl ⟨by rfl, fun w' _ => (by go_simp; rfl)⟩) hS ?_
      go_frame
      refine till_take 29 (some 85) rfl rfl (by kernel_rfl) (by kernel_rfl) (by kernel_rfl) (by kernel_rfl) (by kernel_rfl) (by kernel_rfl) (fun _ _ _ h => h) (.inl ⟨by rfl, fun w' _ => (by go_simp; rfl)⟩) hS ?_
      go_frame
      refine till_take 30 (some 86) rfl rfl (by kernel_rfl) (by kernel_rfl) (by kernel_rfl) (by kernel_rfl) (by kernel_rfl) (by kernel_rfl) (fun _ _ _ h => h) (.inl ⟨by rfl, fun w' _ => (by go_simp; rfl)⟩) hS ?_
      go_frame
      refine till_take 31 (some 87) rfl rfl (by kernel_rfl) (by kernel_rfl) (by kernel_rfl) (by kernel_rfl) (by kernel_rfl) (by kernel_rfl) (fun _ _ _ h => h) (.inl ⟨by rfl, fun w' hS' => (by have hc : w'.cell? ⟨R, 0, none⟩ = some (.int .i64 a.o) := Lib.cell_of_heap (hS'.1) 0; go_simp; rfl)⟩) hS ?_
      go_frame
      refine till_take 32 (some 88) rfl rfl (by kernel_rfl) (by kernel_rfl) (by kernel_rfl) (by kernel_rfl) (by kernel_rfl) (by kernel_rfl) (fun _ _ _ h => h) (.inl ⟨by rfl, fun w' _ => (by go_simp; rfl)⟩) hS ?_
      go_frame
      refine till_take 33 (some 89) rfl rfl (by kernel_rfl) (by kernel_rfl) (by kernel_rfl) (by kernel_rfl) (by kernel_rfl) (by kernel_rfl) (fun _ _ _ h => h) (.inl ⟨by rfl, fun w' hS' => (by have hc : w'.cell? ⟨R, 1, none⟩ = some (.int .i64 a.st) := Lib.cell_of_heap (hS'.1) 1; go_simp; rfl)⟩) hS ?_
      go_frame
      refine till_take 34 (some 90) rfl rfl (by kernel_rfl) (by kernel_rfl) (by kernel_rfl) (by kernel_rfl) (by kernel_rfl) (by kernel_rfl) (fun _ _ _ h => h) (.inl ⟨by rfl, fun w' _ => (by go_simp; rfl)⟩) hS ?_
      go_frame
      refine till_take 36 (some 92) rfl rfl (by kernel_rfl) (by kernel_rfl) (by kernel_rfl) (by kernel_rfl) (by kernel_rfl) (by kernel_rfl) (fun _ _ _ h => h) (.inl ⟨by rfl, fun w' _ => (by go_simp; rfl)⟩) hS ?_
      go_frame
      refine till_take 37 (some 93) rfl rfl (by kernel_rfl) (by kernel_rfl) (by kernel_rfl) (by kernel_rfl) (by kernel_rfl) (by kernel_rfl) (fun _ _ _ h => h) (.inl ⟨by rfl, fun w' _ => (by go_simp; rfl)⟩) hS ?_
      go_frame
      refine till_take 38 (some 94) rfl rfl (by kernel_rfl) (by kernel_rfl) (by kernel_rfl) (by kernel_rfl) (by kernel_rfl) (by kernel_rfl) (fun _ _ _ h => h) (.inl ⟨by rfl, fun w' hS' => (by have hc : w'.cell? ⟨R, 0, none⟩ = some (.int .i64 a.o) := Lib.cell_of_heap (hS'.1) 0; go_simp; rfl)⟩) hS ?_
      go_frame
      refine till_take 39 (some 95) rfl rfl (by kernel_rfl) (by kernel_rfl) (by kernel_rfl) (by kernel_rfl) (by kernel_rfl) (by kernel_rfl) (fun _ _ _ h => h) (.inl ⟨by rfl, fun w' _ => (by go_simp; rfl)⟩) hS ?_
      go_frame
      refine till_take 40 (some 96) rfl rfl (by kernel_rfl) (by kernel_rfl) (by kernel_rfl) (by kernel_rfl) (by kernel_rfl) (by kernel_rfl) (fun _ _ _ h => h) (.inl ⟨by rfl, fun w' hS' => (by have hc : w'.cell? ⟨R, 1, none⟩ = some (.int .i64 a.st) := Lib.cell_of_heap (hS'.1) 1; go_simp; rfl)⟩) hS ?_
      go_frame
      refine till_take 41 (some 97) rfl rfl (by kernel_rfl) (by kernel_rfl) (by kernel_rfl) (by kernel_rfl) (by kernel_rfl) (by kernel_rfl) (fun _ _ _ h => h) (.inl ⟨by rfl, fun w' _ => (by go_simp; rfl)⟩) hS ?_
      go_frame
      refine till_one 35 rfl (by kernel_rfl) fun K hK => ?_
      simp only [List.getElem_toArray, List.getElem_cons_succ, List.getElem_cons_zero]
      rw [if_pos (by rfl)]
      go_simp
      obtain ⟨F9, h9⟩ := TF.out.get1
      refine (mAt_any (Look.of_st h9) HFN.out.1.f HJS.out HJN.out HGX.out.b_o HGX.out.b_st blk).mono ?_
      rintro e d16 ⟨xba, xbb, xbc, xbd, hu, rfl, hb⟩
      have HxbU := Lib.hid hu
      clear hu h9
      have TFm := Lib.hid (TF.out.later hb)
      have HRm := Lib.hid (below_at' hb HR.out)
      have HP1m := Lib.hid (below_at' hb HP1.out)
      have HP2m := Lib.hid (below_at' hb HP2.out)
      have HQ1m := Lib.hid (below_at' hb HQ1.out)
      have HQ2m := Lib.hid (below_at' hb HQ2.out)
      clear hb TF HR HP1 HP2 HQ1 HQ2
      have TF := TFm
      have HR := HRm
      have HP1 := HP1m
      have HP2 := HP2m
      have HQ1 := HQ1m
      have HQ2 := HQ2m
      clear TFm HRm HP1m HP2m HQ1m HQ2m
      have hS2 : d16.heap[R]? = some (.cells #[.int .i64 a.o, .int .i64 a.st, .int .i64 a.b, .int .u64 (uw0 a.m), .int .u64 (uw1 a.m), .int .u64 (uw2 a.m), .int .u64 (uw3 a.m)] 48 (0, 0)) ∧ d16.heap[P1]? = some (.cells #[.int .u64 (uw0 n1), .int .u64 (uw1 n1), .int .u64 (uw2 n1), .int .u64 (uw3 n1)] 33 (0, 0)) ∧ d16.heap[P2]? = some (.cells #[.int .u64 (uw0 n2), .int .u64 (uw1 n2), .int .u64 (uw2 n2), .int .u64 (uw3 n2)] 33 (0, 0)) ∧ d16.heap[Q1]? = some (.cells #[.int .u64 (uw0 n1), .int .u64 (uw1 n1), .int .u64 (uw2 n1), .int .u64 (uw3 n1)] 33 (0, 0)) ∧ d16.heap[Q2]? = some (.cells #[.int .u64 (uw0 n2), .int .u64 (uw1 n2), .int .u64 (uw2 n2), .int .u64 (uw3 n2)] 33 (0, 0)) := ⟨HR.out, HP1.out, HP2.out, HQ1.out, HQ2.out⟩
      refine hK _ _ (fun _ _ => hS2) ?_
      clear hK hS
      have hS := hS2
      clear hS2
      refine till_one 42 rfl (by kernel_rfl) fun K hK => ?_
      simp only [List.getElem_toArray, List.getElem_cons_succ, List.getElem_cons_zero]
      rw [if_pos (by rfl)]
      go_simp
      obtain ⟨F9, h9⟩ := TF.out.get2
      refine (rMAt_any h9 (by have := HZN.out.2; have := HI.out; omega) HFN.out.2 HJS2.out HJN.out HGX.out.b_o HGX.out.b_st blk).mono ?_
      rintro e d17 ⟨yba, ybb, ybc, ybd, hu, rfl, hb⟩
      have HybU := Lib.hid hu
      clear hu h9
      have e10 := Tryz.eqUn HxbU.out HybU.out
      rw [decide_eq_true rfl] at e10
      have TFm := Lib.hid (TF.out.later hb)
      have HRm := Lib.hid (below_at' hb HR.out)
      have HP1m := Lib.hid (below_at' hb HP1.out)
      have HP2m := Lib.hid (below_at' hb HP2.out)
      have HQ1m := Lib.hid (below_at' hb HQ1.out)
      have HQ2m := Lib.hid (below_at' hb HQ2.out)
      clear hb TF HR HP1 HP2 HQ1 HQ2
      have TF := TFm
      have HR := HRm
      have HP1 := HP1m
      have HP2 := HP2m
      have HQ1 := HQ1m
      have HQ2 := HQ2m
      clear TFm HRm HP1m HP2m HQ1m HQ2m
      have hS2 : d17.heap[R]? = some (.cells #[.int .i64 a.o, .int .i64 a.st, .int .i64 a.b, .int .u64 (uw0 a.m), .int .u64 (uw1 a.m), .int .u64 (uw2 a.m), .int .u64 (uw3 a.m)] 48 (0, 0)) ∧ d17.heap[P1]? = some (.cells #[.int .u64 (uw0 n1), .int .u64 (uw1 n1), .int .u64 (uw2 n1), .int .u64 (uw3 n1)] 33 (0, 0)) ∧ d17.heap[P2]? = some (.cells #[.int .u64 (uw0 n2), .int .u64 (uw1 n2), .int .u64 (uw2 n2), .int .u64 (uw3 n2)] 33 (0, 0)) ∧ d17.heap[Q1]? = some (.cells #[.int .u64 (uw0 n1), .int .u64 (uw1 n1), .int .u64 (uw2 n1), .int .u64 (uw3 n1)] 33 (0, 0)) ∧ d17.heap[Q2]? = some (.cells #[.int .u64 (uw0 n2), .int .u64 (uw1 n2), .int .u64 (uw2 n2), .int .u64 (uw3 n2)] 33 (0, 0)) := ⟨HR.out, HP1.out, HP2.out, HQ1.out, HQ2.out⟩
      refine hK _ _ (fun _ _ => hS2) ?_
      clear hK hS
      have hS := hS2
      clear hS2
      refine till_take 43 (some 99) rfl rfl (by kernel_rfl) (by kernel_rfl) (by kernel_rfl) (by kernel_rfl) (by kernel_rfl) (by kernel_rfl) (fun _ _ _ h => h) (.inl ⟨by rfl, fun w' _ => (by go_simp; rfl)⟩) hS ?_
      go_frame
      refine till_take 44 (some 100) rfl rfl (by kernel_rfl) (by kernel_rfl) (by kernel_rfl) (by kernel_rfl) (by kernel_rfl) (by kernel_rfl) (fun _ _ _ h => h) (.inl ⟨by rfl, fun w' _ => (by go_simp; rfl)⟩) hS ?_
      go_frame
      refine till_take 45 (some 101) rfl rfl (by kernel_rfl) (by kernel_rfl) (by kernel_rfl) (by kernel_rfl) (by kernel_rfl) (by kernel_rfl) (fun _ _ _ h => h) (.inl ⟨by rfl, fun w' _ => (by go_simp; rfl)⟩) hS ?_
      go_frame
      refine till_take 46 (some 102) rfl rfl (by kernel_rfl) (by kernel_rfl) (by kernel_rfl) (by kernel_rfl) (by kernel_rfl) (by kernel_rfl) (fun _ _ _ h => h) (.inl ⟨by rfl, fun w' _ => (by go_simp; rfl)⟩) hS ?_
      go_frame
      refine till_take 47 (some 103) rfl rfl (by kernel_rfl) (by kernel_rfl) (by kernel_rfl) (by kernel_rfl) (by kernel_rfl) (by kernel_rfl) (fun _ _ _ h => h) (.inl ⟨by rfl, fun w' _ => (by go_simp; rfl)⟩) hS ?_
      go_frame
      refine till_take 48 (some 104) rfl rfl (by kernel_rfl) (by kernel_rfl) (by kernel_rfl) (by kernel_rfl) (by kernel_rfl) (by kernel_rfl) (fun _ _ _ h => h) (.inl ⟨by rfl, fun w' hS' => (by have hc : w'.cell? ⟨R, 0, none⟩ = some (.int .i64 a.o) := Lib.cell_of_heap (hS'.1) 0; go_simp; rfl)⟩) hS ?_
      go_frame
      refine till_take 49 (some 105) rfl rfl (by kernel_rfl) (by kernel_rfl) (by kernel_rfl) (by kernel_rfl) (by kernel_rfl) (by kernel_rfl) (fun _ _ _ h => h) (.inl ⟨by rfl, fun w' _ => (by go_simp; rfl)⟩) hS ?_
      go_frame
      refine till_take 50 (some 106) rfl rfl (by kernel_rfl) (by kernel_rfl) (by kernel_rfl) (by kernel_rfl) (by kernel_rfl) (by kernel_rfl) (fun _ _ _ h => h) (.inl ⟨by rfl, fun w' hS' => (by have hc : w'.cell? ⟨R, 1, none⟩ = some (.int .i64 a.st) := Lib.cell_of_heap (hS'.1) 1; go_simp; rfl)⟩) hS ?_
      go_frame
      refine till_take 52 (some 108) rfl rfl (by kernel_rfl) (by kernel_rfl) (by kernel_rfl) (by kernel_rfl) (by kernel_rfl) (by kernel_rfl) (fun _ _ _ h => h) (.inl ⟨by rfl, fun w' _ => (by go_simp; rfl)⟩) hS ?_
      go_frame
      refine till_take 53 (some 109) rfl rfl (by kernel_rfl) (by kernel_rfl) (by kernel_rfl) (by kernel_rfl) (by kernel_rfl) (by kernel_rfl) (fun _ _ _ h => h) (.inl ⟨by rfl, fun w' _ => (by go_simp; rfl)⟩) hS ?_
      go_frame
      refine till_take 54 (some 110) rfl rfl (by kernel_rfl) (by kernel_rfl) (by kernel_rfl) (by kernel_rfl) (by kernel_rfl) (by kernel_rfl) (fun _ _ _ h => h) (.inl ⟨by rfl, fun w' hS' => (by have hc : w'.cell? ⟨R, 0, none⟩ = some (.int .i64 a.o) := Lib.cell_of_heap (hS'.1) 0; go_simp; rfl)⟩) hS ?_
      go_frame
      refine till_take 55 (some 111) rfl rfl (by kernel_rfl) (by kernel_rfl) (by kernel_rfl) (by kernel_rfl) (by kernel_rfl) (by kernel_rfl) (fun _ _ _ h => h) (.inl ⟨by rfl, fun w' _ => (by go_simp; rfl)⟩) hS ?_
      go_frame
      refine till_take 56 (some 112) rfl rfl (by kernel_rfl) (by kernel_rfl) (by kernel_rfl) (by kernel_rfl) (by kernel_rfl) (by kernel_rfl) (fun _ _ _ h => h) (.inl ⟨by rfl, fun w' hS' => (by have hc : w'.cell? ⟨R, 1, none⟩ = some (.int .i64 a.st) := Lib.cell_of_heap (hS'.1) 1; go_simp; rfl)⟩) hS ?_
      go_frame
      refine till_one 51 rfl (by kernel_rfl) fun K hK => ?_
      simp only [List.getElem_toArray, List.getElem_cons_succ, List.getElem_cons_zero]
      rw [if_pos (by rfl)]
      go_simp
      obtain ⟨F9, h9⟩ := TF.out.get1
      refine (mChg_any (Look.of_st h9) HFN.out.1.f HJS.out HGX.out.b_o HGX.out.b_st).mono ?_
      rintro e d18 ⟨rfl, hb⟩
      clear h9
      have TFm := Lib.hid (TF.out.later hb)
      have HRm := Lib.hid (below_at' hb HR.out)
      have HP1m := Lib.hid (below_at' hb HP1.out)
      have HP2m := Lib.hid (below_at' hb HP2.out)
      have HQ1m := Lib.hid (below_at' hb HQ1.out)
      have HQ2m := Lib.hid (below_at' hb HQ2.out)
      clear hb TF HR HP1 HP2 HQ1 HQ2
      have TF := TFm
      have HR := HRm
      have HP1 := HP1m
      have HP2 := HP2m
      have HQ1 := HQ1m
      have HQ2 := HQ2m
      clear TFm HRm HP1m HP2m HQ1m HQ2m
      have hS2 : d18.heap[R]? = some (.cells #[.int .i64 a.o, .int .i64 a.st, .int .i64 a.b, .int .u64 (uw0 a.m), .int .u64 (uw1 a.m), .int .u64 (uw2 a.m), .int .u64 (uw3 a.m)] 48 (0, 0)) ∧ d18.heap[P1]? = some (.cells #[.int .u64 (uw0 n1), .int .u64 (uw1 n1), .int .u64 (uw2 n1), .int .u64 (uw3 n1)] 33 (0, 0)) ∧ d18.heap[P2]? = some (.cells #[.int .u64 (uw0 n2), .int .u64 (uw1 n2), .int .u64 (uw2 n2), .int .u64 (uw3 n2)] 33 (0, 0)) ∧ d18.heap[Q1]? = some (.cells #[.int .u64 (uw0 n1), .int .u64 (uw1 n1), .int .u64 (uw2 n1), .int .u64 (uw3 n1)] 33 (0, 0)) ∧ d18.heap[Q2]? = some (.cells #[.int .u64 (uw0 n2), .int .u64 (uw1 n2), .int .u64 (uw2 n2), .int .u64 (uw3 n2)] 33 (0, 0)) := ⟨HR.out, HP1.out, HP2.out, HQ1.out, HQ2.out⟩
      refine hK _ _ (fun _ _ => hS2) ?_
      clear hK hS
      have hS := hS2
      clear hS2
      refine till_one 57 rfl (by kernel_rfl) fun K hK => ?_
      simp only [List.getElem_toArray, List.getElem_cons_succ, List.getElem_cons_zero]
      rw [if_pos (by rfl)]
      go_simp
      obtain ⟨F9, h9⟩ := TF.out.get2
      refine (rChg_any h9 (by have := HZN.out.2; have := HI.out; omega) HFN.out.2 HJS2.out HJN.out HGX.out.b_o HGX.out.b_st).mono ?_
      rintro e d19 ⟨rfl, hb⟩
      clear h9
      have TFm := Lib.hid (TF.out.later hb)
      have HRm := Lib.hid (below_at' hb HR.out)
      have HP1m := Lib.hid (below_at' hb HP1.out)
      have HP2m := Lib.hid (below_at' hb HP2.out)
      have HQ1m := Lib.hid (below_at' hb HQ1.out)
      have HQ2m := Lib.hid (below_at' hb HQ2.out)
      clear hb TF HR HP1 HP2 HQ1 HQ2
      have TF := TFm
      have HR := HRm
      have HP1 := HP1m
      have HP2 := HP2m
      have HQ1 := HQ1m
      have HQ2 := HQ2m
      clear TFm HRm HP1m HP2m HQ1m HQ2m
      have hS2 : d19.heap[R]? = some (.cells #[.int .i64 a.o, .int .i64 a.st, .int .i64 a.b, .int .u64 (uw0 a.m), .int .u64 (uw1 a.m), .int .u64 (uw2 a.m), .int .u64 (uw3 a.m)] 48 (0, 0)) ∧ d19.heap[P1]? = some (.cells #[.int .u64 (uw0 n1), .int .u64 (uw1 n1), .int .u64 (uw2 n1), .int .u64 (uw3 n1)] 33 (0, 0)) ∧ d19.heap[P2]? = some (.cells #[.int .u64 (uw0 n2), .int .u64 (uw1 n2), .int .u64 (uw2 n2), .int .u64 (uw3 n2)] 33 (0, 0)) ∧ d19.heap[Q1]? = some (.cells #[.int .u64 (uw0 n1), .int .u64 (uw1 n1), .int .u64 (uw2 n1), .int .u64 (uw3 n1)] 33 (0, 0)) ∧ d19.heap[Q2]? = some (.cells #[.int .u64 (uw0 n2), .int .u64 (uw1 n2), .int .u64 (uw2 n2), .int .u64 (uw3 n2)] 33 (0, 0)) := ⟨HR.out, HP1.out, HP2.out, HQ1.out, HQ2.out⟩
      refine hK _ _ (fun _ _ => hS2) ?_
      clear hK hS
      have hS := hS2
      clear hS2
      refine till_take 58 (some 114) rfl rfl (by kernel_rfl) (by kernel_rfl) (by kernel_rfl) (by kernel_rfl) (by kernel_rfl) (by kernel_rfl) (fun _ _ _ h => h) (.inl ⟨by rfl, fun w' _ => (by go_simp; rfl)⟩) hS ?_
      go_frame
      refine till_take 59 (some 115) rfl rfl (by kernel_rfl) (by kernel_rfl) (by kernel_rfl) (by kernel_rfl) (by kernel_rfl) (by kernel_rfl) (fun _ _ _ h => h) (.inl ⟨by rfl, fun w' _ => (by go_simp; rfl)⟩) hS ?_
      go_frame
      refine till_done (by kernel_rfl) ?_ _
      clear hS
      clear e7 e8 e9 e10
      go_wp2_with fail
      go_roundw
      case rel => exact ⟨i + 1, z1, z2, Gs, by go_num, HJL.out, HTN, HZN, HFN, HAN, TF⟩
      case measure => have := HJL.out; simp [intOf]; omega
    · obtain rfl : i = n := by omega
      have HSZ : Hid (s1.t.length < 1099511627776) := Lib.hid (by
        have h9 := HZ.out.1; have h8 := P100.out
        unfold PS.sz at h9
        omega)
      have HSZ2 : Hid (s2.t.length < 1099511627776) := Lib.hid (by rw [HT.out]; exact HSZ.out)
      obtain ⟨_, _, p1, p2, _, _, _⟩ := TF.out
      obtain ⟨vL, vP, hra, _⟩ := p2
      have P1 := Lib.hid p1; have HRA := Lib.hid hra
      have hS : wr.drew.cell? ⟨h, 0, none⟩ = some vL := Lib.cell_of_heap hra.head 0
      have hbd : Below wr.heap.size wr wr.drew := Below.drew (Below.refl _ _)
      clear p1 hra
      go_wp2_with fail
      clear hlt
      refine wp_region_till (fun w' => w'.cell? ⟨h, 0, none⟩ = some vL) 11 11 (by kernel_rfl) rfl ?_
      refine till_take 0 (some 117) rfl rfl (by kernel_rfl) (by kernel_rfl) (by kernel_rfl) (by kernel_rfl) (by kernel_rfl) (by kernel_rfl) (fun _ _ _ h => h) (.inl ⟨by rfl, fun w' _ => (by go_simp; rfl)⟩) hS ?_
      go_frame
      refine till_take 2 (some 119) rfl rfl (by kernel_rfl) (by kernel_rfl) (by kernel_rfl) (by kernel_rfl) (by kernel_rfl) (by kernel_rfl) (fun _ _ _ h => h) (.inl ⟨by rfl, fun w' _ => (by go_simp; rfl)⟩) hS ?_
      go_frame
      refine till_take 3 (some 120) rfl rfl (by kernel_rfl) (by kernel_rfl) (by kernel_rfl) (by kernel_rfl) (by kernel_rfl) (by kernel_rfl) (fun _ _ _ h => h) (.inl ⟨by rfl, fun w' _ => (by go_simp; rfl)⟩) hS ?_
      go_frame
      refine till_take 4 (some 121) rfl rfl (by kernel_rfl) (by kernel_rfl) (by kernel_rfl) (by kernel_rfl) (by kernel_rfl) (by kernel_rfl) (fun _ _ _ h => h) (.inl ⟨by rfl, fun w' _ => (by go_simp; rfl)⟩) hS ?_
      go_frame
      refine till_take 5 (some 122) rfl rfl (by kernel_rfl) (by kernel_rfl) (by kernel_rfl) (by kernel_rfl) (by kernel_rfl) (by kernel_rfl) (fun _ _ _ h => h) (.inl ⟨by rfl, fun w' hS' => (by have hc1 := hS'; go_simp; rfl)⟩) hS ?_
      go_frame
      refine till_one 1 rfl (by kernel_rfl) fun K hK => ?_
      simp only [List.getElem_toArray, List.getElem_cons_succ, List.getElem_cons_zero]
      rw [if_pos (by rfl)]
      go_simp
      refine (sall_any (P1.out.later hbd) HSZ.out).mono ?_
      rintro e wC ⟨vC, rfl, hlC, hbC, _⟩
      have hbx : Below wr.heap.size wr wC := hbd.trans (hbC.mono hbd.size)
      have hS2 : wC.cell? ⟨h, 0, none⟩ = some vL := Lib.cell_of_heap (below_at' hbx HRA.out.head) 0
      refine hK _ _ (fun _ _ => hS2) ?_
      clear hK hS hbd hbC
      have hS := hS2
      have hbd := hbx
      clear hS2 hbx
      refine till_one 6 rfl (by kernel_rfl) fun K hK => ?_
      simp only [List.getElem_toArray, List.getElem_cons_succ, List.getElem_cons_zero]
      rw [if_pos (by rfl)]
      go_simp
      have hsm := rsame_any (hlC.rd pairE_len) ((HRA.out.list.later hbd).rd pairE_len) HSZ.out HSZ2.out
      rw [decide_eq_true HT.out.symm] at hsm
      refine hsm.mono ?_
      rintro e wD ⟨rfl, hbD⟩
      clear hsm hlC
      have hbx : Below wr.heap.size wr wD := hbd.trans (hbD.mono hbd.size)
      have hS2 : wD.cell? ⟨h, 0, none⟩ = some vL := Lib.cell_of_heap (below_at' hbx HRA.out.head) 0
      refine hK _ _ (fun _ _ => hS2) ?_
      clear hK hS hbd hbD
      have hS := hS2
      have hbd := hbx
      clear hS2 hbx
      refine till_take 7 (some 124) rfl rfl (by kernel_rfl) (by kernel_rfl) (by kernel_rfl) (by kernel_rfl) (by kernel_rfl) (by kernel_rfl) (fun _ _ _ h => h) (.inl ⟨by rfl, fun w' _ => (by go_simp; rfl)⟩) hS ?_
      go_frame
      refine till_one 8 rfl (by kernel_rfl) fun K hK => ?_
      simp only [List.getElem_toArray, List.getElem_cons_succ, List.getElem_cons_zero]
      rw [if_pos (by rfl)]
      go_simp
      refine (lives22_any _).mono ?_
      rintro e wE ⟨rfl, hbE⟩
      have hbx : Below wr.heap.size wr wE := hbd.trans (hbE.mono hbd.size)
      have hS2 : wE.cell? ⟨h, 0, none⟩ = some vL := Lib.cell_of_heap (below_at' hbx HRA.out.head) 0
      refine hK _ _ (fun _ _ => hS2) ?_
      clear hK hS hbd hbE
      have hS := hS2
      have hbd := hbx
      clear hS2 hbx
      refine till_take 9 (some 126) rfl rfl (by kernel_rfl) (by kernel_rfl) (by kernel_rfl) (by kernel_rfl) (by kernel_rfl) (by kernel_rfl) (fun _ _ _ h => h) (.inl ⟨by rfl, fun w' _ => (by go_simp; rfl)⟩) hS ?_
      go_frame
      refine till_take 10 (some 4) rfl rfl (by kernel_rfl) (by kernel_rfl) (by kernel_rfl) (by kernel_rfl) (by kernel_rfl) (by kernel_rfl) (fun _ _ _ h => h) (.inl ⟨by rfl, fun w' _ => (by go_simp; rfl)⟩) hS ?_
      go_frame
      refine till_done (by kernel_rfl) ?_ _
      have BWA := Lib.hid (TF.out.below.trans (hbd.mono TF.out.below.size))
      clear hS hbd
      go_wp2_with fail
      go_ret
      exact ⟨rfl, BWA.out⟩
end
end Go.Proofs.YthnjakomkdlglaaGreat
