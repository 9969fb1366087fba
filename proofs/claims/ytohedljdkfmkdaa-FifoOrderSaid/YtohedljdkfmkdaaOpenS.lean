/- From the frame's reading of a struct of one-cell fields to its cells and its fields' readings. No condition. -/
import Derived.Test.YtohedljdkfmkdaaOpen
namespace Go.Proofs.Ytohedljdkfmkdaa
open Go.RowKit

/-- Each field takes one cell. -/
def flatB (P : Program) (t : TypeId) (fs : Array Field) : Bool := P.cellsOf t == fs.size && (List.range fs.size).all fun j => match fs[j]? with
  | some f => f.offset == j && P.cellsOf f.type == 1
  | none => true
section
variable {H : Type} {enc : TypeId × Value → H} {P : Program} {w : World} {base : Nat} {spare : Nat → Bool} {held : Bool}
/-- A field's reading. -/
def FieldRd (enc : TypeId × Value → H) (P : Program) (w : World) (base : Nat) (spare : Nat → Bool) (held : Bool) (t : TypeId) (v : Value) : Prop :=
  ∃ (n : Nat) (y : DataW H × List MemPlace), DataW.trod enc P w base spare held n t [v] = some y ∧ Sized P t y.1
theorem open_flat {t : TypeId} {fs : Array Field} (ht : P.underlying t = some (.struct fs)) (hb : flatB P t fs = true) {fuel : Nat} {cs : List Value} {x : DataW H × List MemPlace}
    (h : DataW.trod enc P w base spare held fuel t cs = some x) (hw : Sized P t x.1) :
    cs.length = fs.size ∧ ∀ (j : Nat) (f : Field), fs[j]? = some f → ∃ v, cs[j]? = some v ∧ FieldRd enc P w base spare held f.type v := by
  unfold flatB at hb
  simp only [Bool.and_eq_true, beq_iff_eq, List.all_eq_true, List.mem_range] at hb
  obtain ⟨hC, hone⟩ := hb
  obtain ⟨xs, n, _, rfl, hl, hlen, hf⟩ := DataW.trod_struct ht h
  rw [hC] at hl
  refine ⟨hl, fun j f hj => ?_⟩
  have hjl : j < fs.size := (Array.getElem?_eq_some_iff.1 hj).1
  have h1 := hone j hjl
  rw [hj] at h1
  simp only [Bool.and_eq_true, beq_iff_eq] at h1
  have h2 := hf j f hj
  rw [h1.1, h1.2] at h2
  have h3 : (cs.drop j).take 1 = [cs[j]'(by omega)] := by rw [List.drop_eq_getElem_cons (by omega)]; rfl
  rw [h3] at h2
  have hys : xs[j]? = some (xs[j]'(by omega)) := List.getElem?_eq_getElem (by omega)
  rw [hys] at h2
  refine ⟨_, List.getElem?_eq_getElem (by omega), n, _, h2, ?_⟩
  exact Sized.field ht hw hj (by rw [List.getElem?_map, hys]; rfl)
theorem FieldRd.int {t : TypeId} {v : Value} (h : FieldRd enc P w base spare held t v) (ht : P.underlying t = some (.int .i64)) : ∃ n : Int, v = .int .i64 n ∧ -9223372036854775808 ≤ n ∧ n < 9223372036854775808 := by
  obtain ⟨n, y, hy, _⟩ := h
  obtain ⟨k, hk, _, hw⟩ := DataW.trod_int ht hy
  exact ⟨k, by simpa using hk, wf_i64 hw⟩
theorem FieldRd.str {t : TypeId} {v : Value} (h : FieldRd enc P w base spare held t v) (ht : P.underlying t = some .string) : ∃ l : List UInt8, v = .string (bs l) ∧ l.length ≤ maxLen := by
  obtain ⟨n, y, hy, _⟩ := h
  obtain ⟨s, hs, _, hw⟩ := DataW.trod_string ht hy
  refine ⟨s.data.toList, ?_, hw⟩
  rw [bs_of]
  simpa using hs
theorem FieldRd.bool {t : TypeId} {v : Value} (h : FieldRd enc P w base spare held t v) (ht : P.underlying t = some .bool) : ∃ b : Bool, v = .bool b := by
  obtain ⟨n, y, hy, _⟩ := h
  obtain ⟨b, hs, _⟩ := DataW.trod_bool ht hy
  exact ⟨b, by simpa using hs⟩
theorem FieldRd.ints {t e : TypeId} {v : Value} (h : FieldRd enc P w base spare held t v) (ht : P.underlying t = some (.slice e)) (he : P.underlying e = some (.int .i64)) (hc : P.cellsOf e = 1) (hb : P.bytesOf e = 8) :
    ∃ l : List Int, Rd w intE 1 v l ∧ l.length ≤ 17592186044032 ∧ ∀ n ∈ l, -9223372036854775808 ≤ n ∧ n < 9223372036854775808 := by
  obtain ⟨n, y, hy, hw⟩ := h
  obtain ⟨u, l, h1, h2, h3, h4⟩ := open_slice_rd intE (fun n => -9223372036854775808 ≤ n ∧ n < 9223372036854775808) ht hc (by omega) (fun _ => rfl) (fun fuel cs x h1 _ => open_i64 he h1) hy hw
  have e : v = u := by simpa using h1
  subst e
  exact ⟨l, h2, by rw [hb] at h3; omega, h4⟩
end
end Go.Proofs.Ytohedljdkfmkdaa
