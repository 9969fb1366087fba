/- Plain facts for the law KeysOrder: keys of as many numbers stand as their numbers do. No condition. -/
import Derived.Test.YtbfdjjaonjepnaaKeysQ
namespace Go.Proofs.Ytbfdjjaonjepnaa
open Go.RowKit

theorem bytesLess_lex : ∀ (x y : List UInt8), Op.bytesLess x y = lexLt x y
  | [], [] => rfl
  | [], _ :: _ => rfl
  | _ :: _, [] => rfl
  | a :: x, b :: y => by
    simp only [Op.bytesLess, lexLt]
    by_cases h : a = b
    · subst h; simp [bytesLess_lex x y]
    · have : (a == b) = false := by simpa using h
      rw [if_neg h, this]; simp

theorem foldl_be (l : List UInt8) : ∀ a : Nat, l.foldl (fun a c => a * 256 + c.toNat) a = a * 256 ^ l.length + be l := by
  induction l with
  | nil => intro a; simp [be]
  | cons c l ih =>
    intro a
    rw [List.foldl_cons, ih, List.length_cons]
    have : be (c :: l) = (0 * 256 + c.toNat) * 256 ^ l.length + be l := by rw [be, List.foldl_cons, ih]
    rw [this, Nat.pow_succ, Nat.add_mul]
    simp only [Nat.zero_mul, Nat.zero_add]
    rw [Nat.mul_assoc, Nat.mul_comm 256, ← Nat.add_assoc]
theorem be_cons (c : UInt8) (l : List UInt8) : be (c :: l) = c.toNat * 256 ^ l.length + be l := by
  rw [be, List.foldl_cons, foldl_be]; simp

/-- Texts of one length stand as their numbers do. -/
theorem lexLt_be : ∀ (u v s t : List UInt8), u.length = v.length → lexLt (u ++ s) (v ++ t) = if u = v then lexLt s t else decide (be u < be v)
  | [], [], s, t, _ => by simp
  | [], _ :: _, _, _, h => by simp at h
  | _ :: _, [], _, _, h => by simp at h
  | a :: u, b :: v, s, t, h => by
    have hl : u.length = v.length := by simpa using h
    have h1 := be_lt u
    have h2 := be_lt v
    rw [← hl] at h2
    rw [List.cons_append, List.cons_append, lexLt, be_cons, be_cons, ← hl]
    by_cases hab : a = b
    · subst hab
      rw [if_pos rfl, lexLt_be u v s t hl]
      by_cases huv : u = v
      · rw [if_pos huv, if_pos (by rw [huv])]
      · rw [if_neg huv, if_neg (by simpa using huv)]
        simp
    · rw [if_neg hab, if_neg (by simp [hab])]
      have hne : a.toNat ≠ b.toNat := fun e => hab (UInt8.toNat_inj.1 e)
      by_cases hlt : a.toNat < b.toNat
      · have h3 : (a.toNat + 1) * 256 ^ u.length ≤ b.toNat * 256 ^ u.length := Nat.mul_le_mul_right _ hlt
        rw [Nat.add_mul, Nat.one_mul] at h3
        have ha : a < b := UInt8.lt_iff_toNat_lt.2 hlt
        rw [decide_eq_true ha, decide_eq_true (by omega)]
      · have h3 : (b.toNat + 1) * 256 ^ u.length ≤ a.toNat * 256 ^ u.length := Nat.mul_le_mul_right _ (by omega)
        rw [Nat.add_mul, Nat.one_mul] at h3
        have ha : ¬ a < b := fun h => hlt (UInt8.lt_iff_toNat_lt.1 h)
        rw [decide_eq_false ha, decide_eq_false (by omega)]

/-- Which numbers stand ahead. -/
def lexI : List Int → List Int → Bool
  | a :: l, b :: m => if a = b then lexI l m else decide (a < b)
  | _, _ => false
theorem lexI_flat : ∀ (l m : List Int), l.length = m.length → (∀ x ∈ l, 0 ≤ x ∧ x < 9223372036854775808) → (∀ x ∈ m, 0 ≤ x ∧ x < 9223372036854775808) → lexLt (l.flatMap numL) (m.flatMap numL) = lexI l m
  | [], [], _, _, _ => rfl
  | [], _ :: _, h, _, _ => by simp at h
  | _ :: _, [], h, _, _ => by simp at h
  | a :: l, b :: m, h, hl, hm => by
    have ha := hl a (by simp)
    have hb := hm b (by simp)
    have ea := be_numL a ha.1 (by omega)
    have eb := be_numL b hb.1 (by omega)
    rw [List.flatMap_cons, List.flatMap_cons, lexLt_be _ _ _ _ (by rw [numL_length, numL_length]), lexI]
    by_cases hab : a = b
    · subst hab
      rw [if_pos rfl, if_pos rfl]
      exact lexI_flat l m (by simpa using h) (fun x hx => hl x (by simp [hx])) (fun x hx => hm x (by simp [hx]))
    · have hn : ¬ numL a = numL b := fun e => hab (by rw [e] at ea; omega)
      rw [if_neg hn, if_neg hab]
      congr 1
      apply propext
      constructor
      · intro h; omega
      · intro h; omega
theorem keyF_good (t : Int) (l : List Int) (h1 : 1 ≤ t) (h2 : t ≤ 255) (h : ∀ x ∈ l, 0 ≤ x) : keyF t l = UInt8.ofNat t.toNat :: l.flatMap numL := by
  unfold keyF; rw [if_neg]
  rintro (h3 | h3 | ⟨x, hx, h3⟩)
  · omega
  · omega
  · have := h x hx; omega
theorem lexLt_key (t : Int) (l m : List Int) (h1 : 1 ≤ t) (h2 : t ≤ 255) (hlm : l.length = m.length) (hl : ∀ x ∈ l, 0 ≤ x ∧ x < 9223372036854775808) (hm : ∀ x ∈ m, 0 ≤ x ∧ x < 9223372036854775808) : lexLt (keyF t l) (keyF t m) = lexI l m := by
  rw [keyF_good t l h1 h2 (fun x hx => (hl x hx).1), keyF_good t m h1 h2 (fun x hx => (hm x hx).1), lexLt, if_pos rfl, lexI_flat l m hlm hl hm]

/-- What the law lays beside the numbers l. -/
def mix (l m : List Int) (k : Nat) : List Int := (List.range k).map fun i => if i < m.length then m.getD i 0 else l.getD i 0
theorem mix_length (l m : List Int) (k : Nat) : (mix l m k).length = k := by simp [mix]
theorem mix_in (l m : List Int) (k : Nat) (h : k < m.length) : mix l m (k + 1) = mix l m k ++ [m[k]] := by simp [mix, List.range_succ, h]
theorem mix_out (l m : List Int) (k : Nat) (h : ¬ k < m.length) (hk : k < l.length) : mix l m (k + 1) = mix l m k ++ [l[k]] := by simp [mix, List.range_succ, h, hk]
theorem lexI_eq {l m : List Int} {j : Nat} (h1 : j < l.length) (h2 : j < m.length) (h : l[j] = m[j]) : lexI (l.drop j) (m.drop j) = lexI (l.drop (j + 1)) (m.drop (j + 1)) := by
  rw [List.drop_eq_getElem_cons h1, List.drop_eq_getElem_cons h2, lexI, if_pos h]
theorem lexI_ne {l m : List Int} {j : Nat} (h1 : j < l.length) (h2 : j < m.length) (h : ¬ l[j] = m[j]) : lexI (l.drop j) (m.drop j) = decide (l[j] < m[j]) := by
  rw [List.drop_eq_getElem_cons h1, List.drop_eq_getElem_cons h2, lexI, if_neg h]
theorem lexI_none (l m : List Int) : lexI (l.drop l.length) (m.drop l.length) = false := by rw [List.drop_length]; rfl
end Go.Proofs.Ytbfdjjaonjepnaa
