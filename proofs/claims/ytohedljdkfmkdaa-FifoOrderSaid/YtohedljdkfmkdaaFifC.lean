/- Queues: Peek, Len, Pop and Push (code). -/
import Derived.Test.YtohedljdkfmkdaaFifB
namespace Go.Proofs.Ytohedljdkfmkdaa
open Go.RowKit

theorem own_base {w : World} {B B' : Nat} {v : Value} {l : List Int} (h : Own w B 3 intE 1 v l) (hB : B' ≤ B) : Own w B' 3 intE 1 v l := by
  obtain ⟨h1, h2⟩ := h
  refine ⟨h1, ?_⟩
  rcases h2 with h2 | ⟨g, cap, cur, e, h3, h4⟩
  · exact .inl h2
  · exact .inr ⟨g, cap, cur, e, Nat.le_trans hB h3, h4⟩
theorem own_rd {w : World} {B : Nat} {v : Value} {l : List Int} (h : Own w B 3 intE 1 v l) : Rd w intE 1 v l := h.rd fun _ => rfl
def PeekRet (w : World) (l : List Int) (b : Bool) (e : Ending) (w' : World) : Prop := ∃ v, e = .returned (.tuple #[v, .bool b]) ∧ Own w' w.heap.size 3 intE 1 v l ∧ Below w.heap.size w w'
def PopRet (w : World) (g : Nat) (F : List Nat) (s : PS) (l : List Int) (b : Bool) (e : Ending) (w' : World) : Prop := ∃ v, StRet w g F s (.tuple #[v, .bool b]) e w' ∧ Own w' w.heap.size 3 intE 1 v l

set_option maxHeartbeats 4000000 in
theorem qLen_any {w : World} {x : Option Addr} {m : Bool} {f : Txt → Option Txt} (h : Look w x m f) (hf : FitF f) (t : Int) {ids : List Int} {vi : Value} (hl : ids.length ≤ 1000000) (hi : I64s ids) (hrd : Rd w intE 1 vi ids) :
    Calls Try.prog 42 #[.pointer x, .int .i64 t, vi] w (Ret w (.int .i64 ((endsF f t ids).2 - (endsF f t ids).1))) := by
  have H := Lib.hid h; have HF := Lib.hid hf; have HID := Lib.hid (And.intro hl (And.intro hi hrd))
  clear h hf hl hi hrd
  go_enter Try.func42, Try.ntmps42
  go_wp2_with fail
  refine (qof_any H.out HF.out t (by have := HID.out.1; omega) HID.out.2.1 HID.out.2.2).mono ?_
  rintro e w2 ⟨rfl, hb⟩
  have HB2 := Lib.hid hb
  clear hb
  go_wp2_with fail
  refine (qlen_any _ _ _ _ _ (endsF_bound f t ids) _).mono ?_
  rintro e w3 ⟨rfl, hb⟩
  have HB3 := Lib.hid (HB2.out.trans (hb.mono HB2.out.size))
  clear hb HB2
  go_wp2_with fail
  go_ret
  exact ⟨rfl, HB3.out⟩

set_option maxHeartbeats 4000000 in
set_option maxRecDepth 100000 in
theorem peek_any {w : World} {x : Option Addr} {m : Bool} {f : Txt → Option Txt} (h : Look w x m f) (hf : FitF f) (t : Int) {ids : List Int} {vi : Value} (hl : ids.length ≤ 1000000) (hi : I64s ids) (hrd : Rd w intE 1 vi ids) :
    Calls Try.prog 39 #[.pointer x, .int .i64 t, vi] w (PeekRet w (peekF f t ids) (peekB f t ids)) := by
  have H := Lib.hid h; have HF := Lib.hid hf; have HL := Lib.hid hl; have HI := Lib.hid hi; have HRD := Lib.hid hrd
  obtain ⟨adi, capi, rfl, _, _⟩ := hrd.shape
  clear h hf hl hi hrd
  go_enter Try.func39, Try.ntmps39
  go_wp2_with fail
  refine (qof_any H.out HF.out t (by have := HL.out; omega) HI.out HRD.out).mono ?_
  rintro e w2 ⟨rfl, hb⟩
  have HBD := Lib.hid (endsF_bound f t ids)
  have HPF : Hid (peekF f t ids = (if (endsF f t ids).1 = (endsF f t ids).2 then [] else rowF (valF f (keyF t (ids ++ [(endsF f t ids).1])))) ∧ peekB f t ids = (!((endsF f t ids).1 == (endsF f t ids).2))) := Lib.hid (And.intro rfl rfl)
  obtain ⟨a, b, hab⟩ : ∃ a b, endsF f t ids = (a, b) := ⟨_, _, rfl⟩
  rw [hab] at HBD HPF ⊢
  have HB2 := Lib.hid hb
  clear hb hab
  go_wp2_with (refine wpList_alloc_g rfl _ rfl _ _ Try.zeroQ rfl ?_)
  intro X w3 h3
  have HX3 := Lib.hid h3.out.cells; have HB3 := Lib.hid (HB2.out.trans (h3.out.below.mono HB2.out.size)); have HXW : Hid (w.heap.size ≤ X) := Lib.hid (by rw [h3.out.eq]; exact HB2.out.size)
  clear h3 HB2
  go_wp2_with (refine wpList_store_row_g (t := 147) (old := #[.pointer none, .int .i64 0, .slice none 0 0, .int .i64 0, .int .i64 0]) rfl 147 _ _ rfl X (qC x t (.slice adi ids.length capi) a b) rfl rfl HX3.out Try.sizeQ rfl (by simp [qC, Value.oneCell']) ?_)
  intro w4 hx4 k34 z34
  have HX4 := Lib.hid hx4; have HB4 := Lib.hid (HB3.out.trans (k34.below (B := w.heap.size) (fun y hy e => by have := HXW.out; omega) HB3.out.size))
  clear hx4 k34 z34 HX3 HB3
  go_wp2_with (refine wpList_load_row rfl 147 _ rfl X rfl 147 (qC x t (.slice adi ids.length capi) a b) _ _ HX4.out Try.underlying147 rfl Try.sizeQ ?_)
  refine (qlen_any _ _ _ _ _ HBD.out _).mono ?_
  rintro e w5 ⟨rfl, hb⟩
  have HX5 := Lib.hid (below_at' hb HX4.out); have HB5 := Lib.hid (HB4.out.trans (hb.mono HB4.out.size))
  clear hb HX4 HB4
  by_cases hab : a = b
  · have he : (b - a == 0) = true := beq_iff_eq.2 (by omega)
    have HP1 : Hid (peekF f t ids = [] ∧ peekB f t ids = false) := Lib.hid ⟨by rw [HPF.out.1]; exact if_pos hab, by rw [HPF.out.2]; simp only [beq_iff_eq.2 hab]; rfl⟩
    clear hab
    go_wp2_with fail
    go_ret2
    exact ⟨.slice none 0 0, by rw [HP1.out.2]; rfl, by rw [HP1.out.1]; exact Own.nil _ _ _ _ _, HB5.out⟩
  · have he : (b - a == 0) = false := beq_eq_false_iff_ne.2 (by omega)
    have HP1 : Hid (peekF f t ids = rowF (valF f (keyF t (ids ++ [a]))) ∧ peekB f t ids = true) := Lib.hid ⟨by rw [HPF.out.1]; exact if_neg hab, by rw [HPF.out.2]; simp only [beq_eq_false_iff_ne.2 hab]; rfl⟩
    clear hab
    have q3 : w5.cell? ⟨X, 3, none⟩ = some (.int .i64 a) := Lib.cell_of_heap HX5.out 3
    go_wp2_with (refine wpList_load_row rfl 147 _ rfl X rfl 147 (qC x t (.slice adi ids.length capi) a b) _ _ HX5.out Try.underlying147 rfl Try.sizeQ ?_)
    clear q3 he
    refine (qat_any a b HL.out HI.out (HRD.out.later HB5.out) ⟨by have := HBD.out; omega, by have := HBD.out; omega⟩).mono ?_
    rintro e w6 ⟨rfl, hb⟩
    have HB6 := Lib.hid (HB5.out.trans (hb.mono HB5.out.size))
    clear hb HB5 HX5
    go_wp2_with fail
    refine (row_any (H.out.later HB6.out) HF.out (keyF t (ids ++ [a]))).mono ?_
    rintro e w7 ⟨v, rfl, ho, hb⟩
    have HO := Lib.hid (own_base ho HB6.out.size); have HB7 := Lib.hid (HB6.out.trans (hb.mono HB6.out.size))
    clear ho hb HB6
    go_wp2_with fail
    go_ret2
    exact ⟨v, by rw [HP1.out.2]; rfl, by rw [HP1.out.1]; exact HO.out, HB7.out⟩
theorem ends_none (t : Int) (ids : List Int) : endsF (fun _ => none) t ids = (0, 0) := by
  unfold endsF
  rw [show valF (fun _ => none) (keyF t ids) = [] from rfl, rowF_nil]; rfl

set_option maxHeartbeats 4000000 in
theorem pop_not {w : World} {x : Option Addr} (h : NotMade w x) (t : Int) {ids : List Int} {vi : Value} (hl : ids.length ≤ 1000000) (hi : I64s ids) (hrd : Rd w intE 1 vi ids) :
    Calls Try.prog 40 #[.pointer x, .int .i64 t, vi] w (Ret w (.tuple #[.slice none 0 0, .bool false])) := by
  have H := Lib.hid h; have HL := Lib.hid hl; have HI := Lib.hid hi; have HRD := Lib.hid hrd
  clear h hl hi hrd
  go_enter Try.func40, Try.ntmps40
  go_wp2_with fail
  refine (peek_any (Look.of_not H.out) FitF.none t HL.out HI.out HRD.out).mono ?_
  rw [show peekB (fun _ => none) t ids = false by unfold peekB; rw [ends_none]; rfl]
  rintro e w2 ⟨v, rfl, _, hb⟩
  have HB2 := Lib.hid hb
  clear hb
  go_wp2_with fail
  go_ret2
  exact ⟨rfl, HB2.out⟩
set_option maxHeartbeats 4000000 in
theorem all_not {w : World} {x : Option Addr} (h : NotMade w x) (t : Int) {ids : List Int} {vi : Value} (hl : ids.length ≤ 1000000) (hi : I64s ids) (hrd : Rd w intE 1 vi ids) :
    Calls Try.prog 43 #[.pointer x, .int .i64 t, vi] w (Ret w (.slice none 0 0)) := by
  have H := Lib.hid h; have HL := Lib.hid hl; have HI := Lib.hid hi; have HRD := Lib.hid hrd
  obtain ⟨adi, capi, rfl, _, _⟩ := hrd.shape
  clear h hl hi hrd
  go_enter Try.func43, Try.ntmps43
  go_wp2_with fail
  refine (qof_any (Look.of_not H.out) FitF.none t (by have := HL.out; omega) HI.out HRD.out).mono ?_
  rw [ends_none]
  rintro e w2 ⟨rfl, hb⟩
  have HB2 := Lib.hid hb
  clear hb
  go_wp2_with (refine wpList_alloc_g rfl _ rfl _ _ Try.zeroQ rfl ?_)
  intro X w3 h3
  have HX3 := Lib.hid h3.out.cells; have HB3 := Lib.hid (HB2.out.trans (h3.out.below.mono HB2.out.size)); have HXW : Hid (w.heap.size ≤ X) := Lib.hid (by rw [h3.out.eq]; exact HB2.out.size)
  clear h3 HB2
  go_wp2_with (refine wpList_store_row_g (t := 147) (old := #[.pointer none, .int .i64 0, .slice none 0 0, .int .i64 0, .int .i64 0]) rfl 147 _ _ rfl X (qC x t (.slice adi ids.length capi) 0 0) rfl rfl HX3.out Try.sizeQ rfl (by simp [qC, Value.oneCell']) ?_)
  intro w4 hx4 k34 z34
  have HB4 := Lib.hid (HB3.out.trans (k34.below (B := w.heap.size) (fun y hy e => by have := HXW.out; omega) HB3.out.size))
  have q3 : w4.cell? ⟨X, 3, none⟩ = some (.int .i64 0) := Lib.cell_of_heap hx4 3
  have q4 : w4.cell? ⟨X, 4, none⟩ = some (.int .i64 0) := Lib.cell_of_heap hx4 4
  clear hx4 k34 z34 HX3 HB3
  go_wp2_with fail
  go_loopw [7, 9] (fun vo vi wr => vo = .slice none 0 0 ∧ vi = .int .i64 0 ∧ wr = w4) (fun _ _ _ => 0)
  case atStart => exact ⟨rfl, rfl, rfl⟩
  case round =>
    obtain ⟨rfl, rfl, rfl⟩ := hrel
    go_wp2_with fail
    go_ret
    exact ⟨rfl, HB4.out⟩
set_option maxHeartbeats 4000000 in
theorem push_not {w : World} {x : Option Addr} (h : NotMade w x) (t : Int) {ids : List Int} {vi : Value} (hl : ids.length ≤ 1000000) (hi : I64s ids) (hrd : Rd w intE 1 vi ids) (most : Int) (vl : Value) :
    Calls Try.prog 41 #[.pointer x, .int .i64 t, vi, .int .i64 most, vl] w (Ret w (.int .i64 1)) := by
  have H := Lib.hid h; have HL := Lib.hid hl; have HI := Lib.hid hi; have HRD := Lib.hid hrd
  obtain ⟨adi, capi, rfl, _, _⟩ := hrd.shape
  clear h hl hi hrd
  go_enter Try.func41, Try.ntmps41
  go_wp2_with fail
  refine (qof_any (Look.of_not H.out) FitF.none t (by have := HL.out; omega) HI.out HRD.out).mono ?_
  rw [ends_none]
  rintro e w2 ⟨rfl, hb⟩
  have HB2 := Lib.hid hb
  clear hb
  go_wp2_with (refine wpList_alloc_g rfl _ rfl _ _ Try.zeroQ rfl ?_)
  intro X w3 h3
  have HX3 := Lib.hid h3.out.cells; have HB3 := Lib.hid (HB2.out.trans (h3.out.below.mono HB2.out.size)); have HXW : Hid (w.heap.size ≤ X) := Lib.hid (by rw [h3.out.eq]; exact HB2.out.size)
  clear h3 HB2
  go_wp2_with (refine wpList_store_row_g (t := 147) (old := #[.pointer none, .int .i64 0, .slice none 0 0, .int .i64 0, .int .i64 0]) rfl 147 _ _ rfl X (qC x t (.slice adi ids.length capi) 0 0) rfl rfl HX3.out Try.sizeQ rfl (by simp [qC, Value.oneCell']) ?_)
  intro w4 hx4 k34 z34
  have HB4 := Lib.hid (HB3.out.trans (k34.below (B := w.heap.size) (fun y hy e => by have := HXW.out; omega) HB3.out.size))
  clear hx4 k34 z34 HX3 HB3
  go_wp2_with fail
  refine (smade_not (H.out.later HB4.out)).mono ?_
  rintro e w5 ⟨rfl, rfl⟩
  go_wp2_with fail
  go_ret
  exact ⟨rfl, HB4.out⟩

set_option maxHeartbeats 4000000 in
set_option maxRecDepth 100000 in
theorem pop_any {w : World} {g : Nat} {s : PS} {F : List Nat} (h : St w g s F) (hz : s.sz < 1099511627770) (hf : Fit s) (t : Int) {ids : List Int} {vi : Value} (hl : ids.length ≤ 1000000) (hi : I64s ids) {B0 : Nat} (hrd : Own w B0 3 intE 1 vi ids) :
    Calls Try.prog 40 #[.pointer (some ⟨g, 0, none⟩), .int .i64 t, vi] w (PopRet w g F (popS s t ids) (peekF (getP s.t) t ids) (peekB (getP s.t) t ids)) := by
  have L := Lib.hid (Liv.start h); have HZ := Lib.hid hz; have HF := Lib.hid hf; have HL := Lib.hid hl; have HI := Lib.hid hi; have HRD := Lib.hid hrd
  obtain ⟨adi, capi, rfl, _, _⟩ := (own_rd hrd).shape
  have hpk := peek_any (Look.of_st h) hf.f t hl hi (own_rd hrd)
  clear h hz hf hl hi hrd
  go_enter Try.func40, Try.ntmps40
  go_wp2_with fail
  refine hpk.mono ?_
  clear hpk
  rintro e w1 ⟨v, rfl, ho, hb⟩
  have HBD := Lib.hid (endsF_bound (getP s.t) t ids)
  have HPB : Hid (peekB (getP s.t) t ids = !((endsF (getP s.t) t ids).1 == (endsF (getP s.t) t ids).2)) := Lib.hid rfl
  have HPS : Hid (popS s t ids = if (endsF (getP s.t) t ids).1 = (endsF (getP s.t) t ids).2 then s else turnS (s.del (keyF t (ids ++ [(endsF (getP s.t) t ids).1]))) t ids ((endsF (getP s.t) t ids).1 + 1) (endsF (getP s.t) t ids).2) := Lib.hid rfl
  obtain ⟨a, b, hab⟩ : ∃ a b, endsF (getP s.t) t ids = (a, b) := ⟨_, _, rfl⟩
  have HE := Lib.hid hab
  rw [hab] at HBD HPB HPS
  have L1 := Lib.hid (L.out.later hb); have HO1 := Lib.hid ho; have R1 := Lib.hid (HRD.out.oth (Oth.of_below hb))
  clear ho hb hab L HRD
  by_cases hab : a = b
  · have HP1 : Hid (peekB (getP s.t) t ids = false ∧ popS s t ids = s ∧ peekF (getP s.t) t ids = []) := Lib.hid ⟨by rw [HPB.out]; simp only [beq_iff_eq.2 hab]; rfl, by rw [HPS.out]; exact if_pos hab, by unfold peekF; rw [HE.out]; exact if_pos hab⟩
    rw [HP1.out.1]
    clear hab
    go_wp2_with fail
    go_ret2
    exact ⟨.slice none 0 0, by rw [HP1.out.1, HP1.out.2.1]; exact L1.out.ret, by rw [HP1.out.2.2]; exact Own.nil _ _ _ _ _⟩
  have HP1 : Hid (peekB (getP s.t) t ids = true ∧ popS s t ids = turnS (s.del (keyF t (ids ++ [a]))) t ids (a + 1) b) := Lib.hid ⟨by rw [HPB.out]; simp only [beq_eq_false_iff_ne.2 hab]; rfl, by rw [HPS.out]; exact if_neg hab⟩
  have HAB : Hid (0 ≤ a ∧ a < b ∧ b < 9223372036854775808) := Lib.hid (by have h9 := HBD.out; simp only at h9; omega)
  rw [HP1.out.1]
  clear hab HPB HPS HBD
  go_wp2_with fail
  obtain ⟨F1, p1, _⟩ := L1.out
  refine (qof_any (Look.of_st p1) HF.out.f t (by have := HL.out; omega) HI.out (own_rd R1.out)).mono ?_
  rw [HE.out]
  rintro e w2 ⟨rfl, hb⟩
  have L2 := Lib.hid (L1.out.later hb); have HO2 := Lib.hid (HO1.out.oth (Oth.of_below hb)); have R2 := Lib.hid (R1.out.oth (Oth.of_below hb))
  clear hb p1 L1 HO1 R1
  go_wp2_with (refine wpList_alloc_g rfl _ rfl _ _ Try.zeroQ rfl ?_)
  intro X w3 h3
  have HX3 := Lib.hid h3.out.cells; have L3 := Lib.hid (L2.out.later h3.out.below); have HO3 := Lib.hid (HO2.out.oth (Oth.of_below h3.out.below)); have R3 := Lib.hid (R2.out.oth (Oth.of_below h3.out.below)); have HXW : Hid (w2.heap.size ≤ X) := Lib.hid (Nat.le_of_eq h3.out.eq.symm)
  have hbM := h3.out.below
  clear h3
  go_wp2_with (refine wpList_store_row_g (t := 147) (old := #[.pointer none, .int .i64 0, .slice none 0 0, .int .i64 0, .int .i64 0]) rfl 147 _ _ rfl X (qC (some ⟨g, 0, none⟩) t (.slice adi ids.length capi) a b) rfl rfl HX3.out Try.sizeQ rfl (by simp [qC, Value.oneCell']) ?_)
  intro w4 hx4 k34 z34
  have hb24 : Below w2.heap.size w2 w4 := hbM.trans (k34.below (B := w2.heap.size) (fun y hy e => by have := HXW.out; omega) hbM.size)
  obtain ⟨wz, hwz⟩ : ∃ wz, wz = w4.drew := ⟨_, rfl⟩
  have hb4z : Below w4.heap.size w4 wz := by rw [hwz]; exact Below.drew (Below.refl _ _)
  have hb2z : Below w2.heap.size w2 wz := hb24.trans (hb4z.mono hb24.size)
  have LZ := Lib.hid (L2.out.later hb2z); have OZ := Lib.hid (HO2.out.oth (Oth.of_below hb2z)); have RZ := Lib.hid (R2.out.oth (Oth.of_below hb2z)); have HX := Lib.hid (below_at' hb4z hx4)
  have hS : wz.heap[X]? = some (.cells (qC (some ⟨g, 0, none⟩) t (.slice adi ids.length capi) a b) 147 (0, 0)) := HX.out
  clear hbM hx4 k34 z34 hb24 hb4z hb2z HX3 L3 HO3 R3 L2 HO2 R2
  go_wp2_with fail
  refine wp_region_till (fun w' => w'.heap[X]? = some (.cells (qC (some ⟨g, 0, none⟩) t (.slice adi ids.length capi) a b) 147 (0, 0))) 8 8 (by kernel_rfl) rfl ?_
  rw [← hwz]
  clear hwz
  refine till_take 0 (some 24) rfl rfl (by kernel_rfl) (by kernel_rfl) (by kernel_rfl) (by kernel_rfl) (by kernel_rfl) (by kernel_rfl) (fun _ _ _ h => h) (.inl ⟨by rfl, fun w' _ => (by go_simp; rfl)⟩) hS ?_
  go_frame
  refine till_take 1 (some 25) rfl rfl (by kernel_rfl) (by kernel_rfl) (by kernel_rfl) (by kernel_rfl) (by kernel_rfl) (by kernel_rfl) (fun _ _ _ h => h) (.inl ⟨by rfl, fun w' hS' => (by have hc1 : w'.cell? ⟨X, 0, none⟩ = some (.pointer (some ⟨g, 0, none⟩)) := Lib.cell_of_heap hS' 0; go_simp; rfl)⟩) hS ?_
  go_frame
  refine till_take 2 (some 26) rfl rfl (by kernel_rfl) (by kernel_rfl) (by kernel_rfl) (by kernel_rfl) (by kernel_rfl) (by kernel_rfl) (fun _ _ _ h => h) (yields_load (by rfl) 147 _ rfl (.pointer (some ⟨X, 0, none⟩)) rfl (.agg (qC (some ⟨g, 0, none⟩) t (.slice adi ids.length capi) a b)) (fun w' hS' => load_heap hS' Try.underlying147 rfl Try.sizeQ)) hS ?_
  go_frame
  refine till_take 3 (some 27) rfl rfl (by kernel_rfl) (by kernel_rfl) (by kernel_rfl) (by kernel_rfl) (by kernel_rfl) (by kernel_rfl) (fun _ _ _ h => h) (.inl ⟨by rfl, fun w' _ => (by go_simp; rfl)⟩) hS ?_
  go_frame
  refine till_take 4 (some 28) rfl rfl (by kernel_rfl) (by kernel_rfl) (by kernel_rfl) (by kernel_rfl) (by kernel_rfl) (by kernel_rfl) (fun _ _ _ h => h) (.inl ⟨by rfl, fun w' _ => (by go_simp; rfl)⟩) hS ?_
  go_frame
  refine till_take 5 (some 29) rfl rfl (by kernel_rfl) (by kernel_rfl) (by kernel_rfl) (by kernel_rfl) (by kernel_rfl) (by kernel_rfl) (fun _ _ _ h => h) (.inl ⟨by rfl, fun w' hS' => (by have hc1 : w'.cell? ⟨X, 3, none⟩ = some (.int .i64 a) := Lib.cell_of_heap hS' 3; go_simp; rfl)⟩) hS ?_
  go_frame
  refine till_one 6 rfl (by kernel_rfl) fun K hK => ?_
  simp only [List.getElem_toArray, List.getElem_cons_succ, List.getElem_cons_zero]
  rw [if_pos (by rfl)]
  go_simp
  refine (qat_any a b HL.out HI.out (own_rd RZ.out) ⟨by have := HAB.out; omega, by have := HAB.out; omega⟩).mono ?_
  rintro e wa ⟨rfl, hb⟩
  have LA := Lib.hid (LZ.out.later hb); have OA := Lib.hid (OZ.out.oth (Oth.of_below hb)); have RA := Lib.hid (RZ.out.oth (Oth.of_below hb))
  have hS1 := below_at' hb hS
  refine hK _ _ (fun _ _ => hS1) ?_
  clear hK hS hb LZ OZ RZ
  have hS := hS1
  clear hS1
  refine till_one 7 rfl (by kernel_rfl) fun K hK => ?_
  simp only [List.getElem_toArray, List.getElem_cons_succ, List.getElem_cons_zero]
  rw [if_pos (by rfl)]
  go_simp
  refine (LA.out.call fun F h => sdel_any h (by have := HZ.out; unfold PS.sz at this; omega) (by have := HZ.out; unfold PS.sz at this; omega) (keyF t (ids ++ [a]))).mono ?_
  rintro e we ⟨rfl, LE, oe⟩
  have LE := Lib.hid LE; have OE := Lib.hid (OA.out.oth oe); have RE := Lib.hid (RA.out.oth oe)
  have hS1 := oe.2 X _ hS rfl rfl
  refine hK _ _ (fun _ _ => hS1) ?_
  clear hK hS oe LA OA RA
  have hS := hS1
  clear hS1
  refine till_done (by kernel_rfl) ?_ _
  obtain ⟨s1, hs1⟩ : ∃ s1, s1 = s.del (keyF t (ids ++ [a])) := ⟨_, rfl⟩
  have hz1 := sz_del s (keyF t (ids ++ [a]))
  rw [← hs1] at LE HP1 hz1
  have HZ1 : Hid (s1.sz < 1099511627776) := Lib.hid (by have := HZ.out; omega)
  have q3 : we.cell? ⟨X, 3, none⟩ = some (.int .i64 a) := Lib.cell_of_heap hS 3
  have q4 : we.cell? ⟨X, 4, none⟩ = some (.int .i64 b) := Lib.cell_of_heap hS 4
  have i1 := HAB.out.1; have i2 := HAB.out.2.1; have i3 := HAB.out.2.2
  have HXE := Lib.hid hS
  clear hs1 hz1 hS
  go_wp2_with (refine wpList_load_row rfl 147 _ rfl X rfl 147 (qC (some ⟨g, 0, none⟩) t (.slice adi ids.length capi) a b) _ _ HXE.out Try.underlying147 rfl Try.sizeQ ?_)
  clear q3 q4
  refine (LE.out.call fun F h => turn_any h HZ1.out t HL.out HI.out (own_rd RE.out) a b ⟨by omega, by omega⟩ ⟨by omega, i3⟩).mono ?_
  rintro e wf ⟨rfl, LF, of⟩
  have LF := Lib.hid LF; have OF := Lib.hid (OE.out.oth of)
  clear of LE OE RE
  go_wp2_with fail
  go_ret2
  exact ⟨v, by rw [HP1.out.1, HP1.out.2]; exact LF.out.ret, OF.out⟩
end Go.Proofs.Ytohedljdkfmkdaa
