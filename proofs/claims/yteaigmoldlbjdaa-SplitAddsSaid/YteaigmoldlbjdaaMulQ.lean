/- Plain: products of numbers as words of 2^64. No condition. -/
import Derived.Test.YteaigmoldlbjdaaUm
namespace Go.Proofs.Yteaigmoldlbjdaa

def wv : List Nat → Nat
  | [] => 0
  | d :: l => d + 18446744073709551616 * wv l
def D64 (l : List Nat) : Prop := ∀ d ∈ l, d < 18446744073709551616
theorem D64.cons {d : Nat} {l : List Nat} : D64 (d :: l) ↔ d < 18446744073709551616 ∧ D64 l := by
  constructor
  · intro h; exact ⟨h d (by simp), fun x hx => h x (by simp [hx])⟩
  · rintro ⟨h1, h2⟩ x hx
    rcases List.mem_cons.1 hx with rfl | hx
    · exact h1
    · exact h2 x hx
theorem D64.take {l : List Nat} (h : D64 l) (k : Nat) : D64 (l.take k) := fun d hd => h d (List.take_subset k l hd)
theorem wv_app (l m : List Nat) : wv (l ++ m) = wv l + 18446744073709551616 ^ l.length * wv m := by
  induction l with
  | nil => simp [wv]
  | cons d l ih =>
    show d + 18446744073709551616 * wv (l ++ m) = d + 18446744073709551616 * wv l + _
    rw [ih, List.length_cons, Nat.pow_succ, Nat.mul_add, ← Nat.mul_assoc, Nat.mul_comm 18446744073709551616 (18446744073709551616 ^ l.length), Nat.add_assoc]
theorem wv_lt {l : List Nat} (h : D64 l) : wv l < 18446744073709551616 ^ l.length := by
  induction l with
  | nil => simp [wv]
  | cons d l ih =>
    obtain ⟨h1, h2⟩ := D64.cons.1 h
    have := ih h2
    show d + 18446744073709551616 * wv l < _
    rw [List.length_cons, Nat.pow_succ, Nat.mul_comm (18446744073709551616 ^ l.length)]
    omega
theorem wv_take_succ {l : List Nat} {i : Nat} (hi : i < l.length) : wv (l.take (i + 1)) = wv (l.take i) + 18446744073709551616 ^ i * l[i] := by
  rw [List.take_succ_eq_append_getElem hi, wv_app, List.length_take, Nat.min_eq_left (by omega)]
  have : wv [l[i]] = l[i] := by show l[i] + 18446744073709551616 * 0 = _; omega
  rw [this]
theorem wgetD_lt {l : List Nat} (h : D64 l) (k : Nat) : l.getD k 0 < 18446744073709551616 := by
  by_cases hk : k < l.length
  · rw [List.getD_eq_getElem?_getD, List.getElem?_eq_getElem hk]; exact h _ (List.getElem_mem hk)
  · rw [List.getD_eq_getElem?_getD, List.getElem?_eq_none (by omega)]; decide
theorem wgetD_zero {l : List Nat} {k : Nat} (h : l.length ≤ k) : l.getD k 0 = 0 := by
  rw [List.getD_eq_getElem?_getD, List.getElem?_eq_none h]; rfl
theorem wgetD_at {l : List Nat} {k : Nat} (h : k < l.length) : l.getD k 0 = l[k] := by
  rw [List.getD_eq_getElem?_getD, List.getElem?_eq_getElem h]; rfl
/-- The digit of a list, or nought. -/
def wig (l : List Nat) (i : Nat) : Nat := l.getD i 0
theorem wv_take_wig (l : List Nat) (i : Nat) : wv (l.take (i + 1)) = wv (l.take i) + 18446744073709551616 ^ i * wig l i := by
  by_cases h : i < l.length
  · rw [wv_take_succ h]; unfold wig; rw [wgetD_at h]
  · unfold wig
    rw [wgetD_zero (by omega), List.take_of_length_le (by omega), List.take_of_length_le (by omega)]; simp
theorem wv_set {l : List Nat} {k d : Nat} (h : k < l.length) : wv (l.set k d) + 18446744073709551616 ^ k * l[k] = wv l + 18446744073709551616 ^ k * d := by
  have e1 : l = l.take k ++ l[k] :: l.drop (k + 1) := by rw [← List.drop_eq_getElem_cons h, List.take_append_drop]
  have e2 : l.set k d = l.take k ++ d :: l.drop (k + 1) := List.set_eq_take_append_cons_drop ▸ (by rw [if_pos h])
  have f1 := congrArg wv e1
  have f2 := congrArg wv e2
  rw [wv_app, List.length_take, Nat.min_eq_left (by omega)] at f1 f2
  have g1 : wv (l[k] :: l.drop (k + 1)) = l[k] + 18446744073709551616 * wv (l.drop (k + 1)) := rfl
  have g2 : wv (d :: l.drop (k + 1)) = d + 18446744073709551616 * wv (l.drop (k + 1)) := rfl
  rw [g1, Nat.mul_add] at f1
  rw [g2, Nat.mul_add] at f2
  omega
theorem D64.set {l : List Nat} (h : D64 l) (k : Nat) {d : Nat} (hd : d < 18446744073709551616) : D64 (l.set k d) := fun x hx => by
  rcases List.mem_or_eq_of_mem_set hx with h1 | h1
  · exact h x h1
  · rw [h1]; exact hd
theorem D64.at {l : List Nat} (h : D64 l) {k : Nat} (hk : k < l.length) : l[k] < 18446744073709551616 := h _ (List.getElem_mem hk)
theorem D64.zeros (n : Nat) : D64 (List.replicate n 0) := fun d hd => by rw [(List.mem_replicate.1 hd).2]; omega
theorem wv_zeros (n : Nat) : wv (List.replicate n 0) = 0 := by
  induction n with
  | zero => rfl
  | succ n ih => rw [List.replicate_succ]; show 0 + 18446744073709551616 * wv _ = 0; rw [ih]
/-- A number's digit. -/
theorem wv_at {l : List Nat} (h : D64 l) {k : Nat} (hk : k < l.length) : l[k] = wv l / 18446744073709551616 ^ k % 18446744073709551616 := by
  have e1 : l = l.take k ++ l[k] :: l.drop (k + 1) := by rw [← List.drop_eq_getElem_cons hk, List.take_append_drop]
  have f1 := congrArg wv e1
  rw [wv_app, List.length_take, Nat.min_eq_left (by omega)] at f1
  have g1 : wv (l[k] :: l.drop (k + 1)) = l[k] + 18446744073709551616 * wv (l.drop (k + 1)) := rfl
  have h1 := wv_lt (h.take k)
  rw [List.length_take, Nat.min_eq_left (by omega)] at h1
  have h2 := h.at hk
  rw [f1, Nat.add_mul_div_left _ _ (Nat.pow_pos (by omega)), Nat.div_eq_of_lt h1, Nat.zero_add, g1]
  omega
/-- The inner loop of a product: o0 the row ahead of it, x the outer digit at place i, j how far, c what is carried. -/
structure WordsI (o0 b : List Nat) (x i j : Nat) (o : List Nat) (c : Nat) : Prop where
  len : o.length = o0.length
  d64 : D64 o
  c64 : c < 18446744073709551616
  eq : wv o + 18446744073709551616 ^ (i + j) * c = wv o0 + 18446744073709551616 ^ i * (x * wv (b.take j))
theorem WordsI.zero {o0 b : List Nat} (x i : Nat) (h : D64 o0) : WordsI o0 b x i 0 o0 0 := ⟨rfl, h, by omega, by simp [wv]⟩
theorem WordsI.next {o0 b : List Nat} {x i j : Nat} {o : List Nat} {c : Nat} (h : WordsI o0 b x i j o c) (hj : i + j < o.length) {y : Nat} (hy : y = o[i + j] + c + x * wig b j) (hx : x < 18446744073709551616) (hb : D64 b) :
    y < 340282366920938463463374607431768211456 ∧ WordsI o0 b x i (j + 1) (o.set (i + j) (y % 18446744073709551616)) (y / 18446744073709551616) := by
  have h1 := h.d64.at hj
  have h2 := h.c64
  have h3 : wig b j < 18446744073709551616 := wgetD_lt hb j
  have h4 : x * wig b j ≤ 18446744073709551615 * 18446744073709551615 := Nat.mul_le_mul (by omega) (by omega)
  have hlt : y < 340282366920938463463374607431768211456 := by omega
  refine ⟨hlt, by rw [List.length_set, h.len], h.d64.set _ (Nat.mod_lt _ (by omega)), by omega, ?_⟩
  have e := h.eq
  have s := wv_set (l := o) (k := i + j) (d := y % 18446744073709551616) hj
  have e2 : 18446744073709551616 ^ (i + (j + 1)) = 18446744073709551616 ^ (i + j) * 18446744073709551616 := by rw [← Nat.add_assoc, Nat.pow_succ]
  have e3 : 18446744073709551616 ^ (i + j) * 18446744073709551616 * (y / 18446744073709551616) + 18446744073709551616 ^ (i + j) * (y % 18446744073709551616) = 18446744073709551616 ^ (i + j) * y := by
    rw [Nat.mul_assoc, ← Nat.mul_add]; congr 1; omega
  have e4 : 18446744073709551616 ^ (i + j) * y = 18446744073709551616 ^ (i + j) * o[i + j] + 18446744073709551616 ^ (i + j) * c + 18446744073709551616 ^ (i + j) * (x * wig b j) := by
    rw [hy, Nat.mul_add, Nat.mul_add]
  have e5 : 18446744073709551616 ^ i * (x * wv (b.take (j + 1))) = 18446744073709551616 ^ i * (x * wv (b.take j)) + 18446744073709551616 ^ (i + j) * (x * wig b j) := by
    rw [wv_take_wig, Nat.mul_add, Nat.mul_add, Nat.pow_add, Nat.mul_assoc (18446744073709551616 ^ i) (18446744073709551616 ^ j), Nat.mul_left_comm x (18446744073709551616 ^ j)]
  rw [e2, e5]
  omega
/-- The row ahead of the outer digit i. -/
structure WordsO (a b : List Nat) (i : Nat) (o : List Nat) : Prop where
  len : o.length = a.length + b.length
  d64 : D64 o
  eq : wv o = wv (a.take i) * wv b
theorem WordsO.zero (a b : List Nat) {n : Nat} (hn : n = a.length + b.length) : WordsO a b 0 (List.replicate n 0) := ⟨by rw [List.length_replicate, hn], D64.zeros _, by rw [wv_zeros]; simp [wv]⟩
theorem WordsI.done {a b : List Nat} {i j : Nat} {o0 o : List Nat} {x : Nat} (h : WordsI o0 b x i j o 0) (ho : WordsO a b i o0) (hi : i < a.length) (hx : x = a[i]) (hj : b.length ≤ j) : WordsO a b (i + 1) o := by
  refine ⟨by rw [h.len, ho.len], h.d64, ?_⟩
  have e := h.eq
  rw [List.take_of_length_le hj, ho.eq, Nat.mul_zero, Nat.add_zero] at e
  rw [e, wv_take_succ hi, Nat.add_mul, hx, Nat.mul_assoc]
theorem WordsO.done {a b : List Nat} {i : Nat} {o : List Nat} (h : WordsO a b i o) (hi : a.length ≤ i) : wv o = wv a * wv b := by
  rw [h.eq, List.take_of_length_le hi]
/-- Beyond what a row is worth stand noughts. -/
theorem WordsO.nought {a b : List Nat} {i : Nat} {o : List Nat} (h : WordsO a b i o) (ha : D64 a) (hb : D64 b) (hi : i ≤ a.length) {k : Nat} (hk : k < o.length) (hik : i + b.length ≤ k) : o[k] = 0 := by
  rw [wv_at h.d64 hk, h.eq]
  have k1 := wv_lt (ha.take i)
  rw [List.length_take, Nat.min_eq_left hi] at k1
  have k2 := wv_lt hb
  have k3 : wv (a.take i) * wv b < 18446744073709551616 ^ i * 18446744073709551616 ^ b.length := by
    by_cases h0 : wv b = 0
    · rw [h0, Nat.mul_zero]; exact Nat.mul_pos (Nat.pow_pos (by omega)) (Nat.pow_pos (by omega))
    · exact Nat.mul_lt_mul_of_lt_of_le k1 (Nat.le_of_lt k2) (Nat.pow_pos (by omega))
  rw [← Nat.pow_add] at k3
  have k4 : 18446744073709551616 ^ (i + b.length) ≤ 18446744073709551616 ^ k := Nat.pow_le_pow_right (by omega) hik
  rw [Nat.div_eq_of_lt (Nat.lt_of_lt_of_le k3 k4), Nat.zero_mod]
end Go.Proofs.Yteaigmoldlbjdaa
