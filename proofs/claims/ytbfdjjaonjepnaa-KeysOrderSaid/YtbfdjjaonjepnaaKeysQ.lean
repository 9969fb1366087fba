/- Plain facts for the laws on keys: what was laid comes back. No condition. -/
import Derived.Test.YtbfdjjaonjepnaaKeysE
namespace Go.Proofs.Ytbfdjjaonjepnaa
open Go.RowKit

theorem be_numL (n : Int) (h0 : 0 ≤ n) (h1 : n < 18446744073709551616) : (be (numL n) : Int) = n := by
  have e : ∀ i : Nat, ((UInt8.ofNat (n / 256 ^ i % 256).toNat).toNat : Int) = n / 256 ^ i % 256 := fun i => u8_of _ (Int.emod_nonneg _ (by decide)) (Int.emod_lt_of_pos _ (by decide))
  have e0 := e 0; have e1 := e 1; have e2 := e 2; have e3 := e 3; have e4 := e 4; have e5 := e 5; have e6 := e 6; have e7 := e 7
  have hb : be (numL n) = ((((((((0 * 256 + (UInt8.ofNat (n / 256 ^ 7 % 256).toNat).toNat) * 256 + (UInt8.ofNat (n / 256 ^ 6 % 256).toNat).toNat) * 256 + (UInt8.ofNat (n / 256 ^ 5 % 256).toNat).toNat) * 256 + (UInt8.ofNat (n / 256 ^ 4 % 256).toNat).toNat) * 256 + (UInt8.ofNat (n / 256 ^ 3 % 256).toNat).toNat) * 256 + (UInt8.ofNat (n / 256 ^ 2 % 256).toNat).toNat) * 256 + (UInt8.ofNat (n / 256 ^ 1 % 256).toNat).toNat) * 256 + (UInt8.ofNat (n / 256 ^ 0 % 256).toNat).toNat) := rfl
  rw [hb]
  generalize (UInt8.ofNat (n / 256 ^ 0 % 256).toNat).toNat = c0 at *
  generalize (UInt8.ofNat (n / 256 ^ 1 % 256).toNat).toNat = c1 at *
  generalize (UInt8.ofNat (n / 256 ^ 2 % 256).toNat).toNat = c2 at *
  generalize (UInt8.ofNat (n / 256 ^ 3 % 256).toNat).toNat = c3 at *
  generalize (UInt8.ofNat (n / 256 ^ 4 % 256).toNat).toNat = c4 at *
  generalize (UInt8.ofNat (n / 256 ^ 5 % 256).toNat).toNat = c5 at *
  generalize (UInt8.ofNat (n / 256 ^ 6 % 256).toNat).toNat = c6 at *
  generalize (UInt8.ofNat (n / 256 ^ 7 % 256).toNat).toNat = c7 at *
  omega

theorem flat_length (l : List Int) : (l.flatMap numL).length = 8 * l.length := by
  induction l with
  | nil => rfl
  | cons x l ih => rw [List.flatMap_cons, List.length_append, ih, numL_length, List.length_cons]; omega
theorem flat_drop (l : List Int) : ∀ k, (l.flatMap numL).drop (8 * k) = (l.drop k).flatMap numL := by
  induction l with
  | nil => intro k; simp
  | cons x l ih =>
    intro k
    cases k with
    | zero => simp
    | succ k =>
      rw [List.flatMap_cons, List.drop_append, numL_length, List.drop_of_length_le (by rw [numL_length]; omega), show 8 * (k + 1) - 8 = 8 * k by omega, ih k]
      simp
theorem flat_chunk (l : List Int) (k : Nat) (hk : k < l.length) : chunk (l.flatMap numL) k = numL l[k] := by
  unfold chunk
  rw [flat_drop, List.drop_eq_getElem_cons hk, List.flatMap_cons, List.take_append, numL_length]
  simp [List.take_of_length_le, numL_length]
theorem numsTo_flat (l : List Int) (h : ∀ x ∈ l, 0 ≤ x ∧ x < 9223372036854775808) : ∀ k, k ≤ l.length → numsTo (l.flatMap numL) k = some (l.take k) := by
  intro k
  induction k with
  | zero => intro _; rfl
  | succ k ih =>
    intro hk
    have hk2 : k < l.length := by omega
    have hb := h l[k] (List.getElem_mem hk2)
    have e := be_numL l[k] hb.1 (by omega)
    rw [numsTo, ih (by omega)]
    simp only [flat_chunk l k hk2, e]
    rw [if_pos (by omega), List.take_succ_eq_append_getElem hk2]
theorem numsF_flat (l : List Int) (h : ∀ x ∈ l, 0 ≤ x ∧ x < 9223372036854775808) : numsF (l.flatMap numL) = some l := by
  refine numsF_yes (k := l.length) (by rw [flat_length]; omega) (by rw [flat_length]) ?_
  rw [numsTo_flat l h _ (Nat.le_refl _), List.take_length]
theorem parseF_key (t : Int) (l : List Int) (h1 : 1 ≤ t) (h2 : t ≤ 255) (h : ∀ x ∈ l, 0 ≤ x ∧ x < 9223372036854775808) : parseF (keyF t l) = some (t, l) := by
  have hk : keyF t l = UInt8.ofNat t.toNat :: l.flatMap numL := by
    unfold keyF; rw [if_neg]
    rintro (h3 | h3 | ⟨x, hx, h3⟩)
    · omega
    · omega
    · have := h x hx; omega
  have e := u8_of t (by omega) (by omega)
  rw [hk, parseF, if_neg (by omega), numsF_flat l h, e]

theorem part_ub (a : Nat → Int) (j : Nat) (hj : j < 4) (h0 : 0 ≤ a j) (h1 : a j < 18446744073709551616) : (wd (ubytes a) j : Int) = a j := by
  have hc : chunk (ubytes a) (3 - j) = numL (a j) := by
    unfold chunk ubytes numL
    apply List.ext_getElem
    · simp; omega
    · intro i h2 h3
      simp at h3
      simp only [List.getElem_take, List.getElem_drop, List.getElem_map, List.getElem_range, ub]
      rw [show 3 - (8 * (3 - j) + i) / 8 = j by omega, show 7 - (8 * (3 - j) + i) % 8 = 7 - i by omega]
  rw [wd, hc, be_numL _ h0 h1]

/-- May these not be a key's numbers? -/
def badTo (t : Int) (l : List Int) (k : Nat) : Bool := decide (t < 1) || decide (255 < t) || (l.take k).any (fun x => decide (x < 0))
theorem badTo_zero (t : Int) (l : List Int) : badTo t l 0 = (decide (t < 1) || decide (255 < t)) := by simp [badTo]
theorem badTo_succ (t : Int) (l : List Int) (k : Nat) (hk : k < l.length) : badTo t l (k + 1) = (badTo t l k || decide (l[k] < 0)) := by
  unfold badTo; rw [List.take_succ_eq_append_getElem hk, List.any_append]; simp [Bool.or_assoc]
theorem badTo_yes {t : Int} {l : List Int} {k : Nat} (hk : l.length ≤ k) (h : badTo t l k = true) : keyF t l = [] := by
  unfold badTo at h
  rw [List.take_of_length_le hk] at h
  unfold keyF; rw [if_pos]
  simp only [Bool.or_eq_true, decide_eq_true_eq, List.any_eq_true] at h
  rcases h with (h | h) | ⟨x, hx, h⟩
  · exact .inl h
  · exact .inr (.inl h)
  · exact .inr (.inr ⟨x, hx, h⟩)
theorem badTo_no {t : Int} {l : List Int} {k : Nat} (hk : l.length ≤ k) (h : badTo t l k = false) : 1 ≤ t ∧ t ≤ 255 ∧ ∀ x ∈ l, 0 ≤ x := by
  unfold badTo at h
  rw [List.take_of_length_le hk] at h
  simp only [Bool.or_eq_false_iff, decide_eq_false_iff_not, List.any_eq_false, decide_eq_true_eq] at h
  exact ⟨by omega, by omega, fun x hx => by have := h.2 x hx; omega⟩
end Go.Proofs.Ytbfdjjaonjepnaa
