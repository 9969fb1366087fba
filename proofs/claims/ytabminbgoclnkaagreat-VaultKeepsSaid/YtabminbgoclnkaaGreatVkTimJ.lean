/- Plain: products and quotients of numbers as digits of 2^32. No condition. Rows of digits of 2^32 that a call makes and writes. No condition. The reference's product of numbers as digits (code). No condition. The reference's quotient and rest of numbers as digits (code). No condition. -/
import Derived.Test.YtabminbgoclnkaaGreatVkAriJ
import Derived.Test.YtabminbgoclnkaaGreatVk13
namespace Go.Proofs.YtabminbgoclnkaaGreat
section

theorem dv_set {l : List Nat} {k d : Nat} (h : k < l.length) : dv (l.set k d) + 4294967296 ^ k * l[k] = dv l + 4294967296 ^ k * d := by
 have e1 : l = l.take k ++ l[k] :: l.drop (k + 1) := by rw [← List.drop_eq_getElem_cons h, List.take_append_drop]
 have e2 : l.set k d = l.take k ++ d :: l.drop (k + 1) := List.set_eq_take_append_cons_drop ▸ (by rw [if_pos h]); have f1 := congrArg dv e1; have f2 := congrArg dv e2; rw [dv_app, List.length_take, Nat.min_eq_left (by omega)] at f1 f2; have g1 : dv (l[k] :: l.drop (k + 1)) = l[k] + 4294967296 * dv (l.drop (k + 1)) := rfl; have g2 : dv (d :: l.drop (k + 1)) = d + 4294967296 * dv (l.drop (k + 1)) := rfl; rw [g1, Nat.mul_add] at f1; rw [g2, Nat.mul_add] at f2
 omega
theorem D32.set {l : List Nat} (h : D32 l) (k : Nat) {d : Nat} (hd : d < 4294967296) : D32 (l.set k d) := fun x hx => by
 rcases List.mem_or_eq_of_mem_set hx with h1 | h1
 ·exact h x h1
 ·rw [h1]; exact hd
theorem D32.at {l : List Nat} (h : D32 l) {k : Nat} (hk : k < l.length) : l[k] < 4294967296 := h _ (List.getElem_mem hk)
theorem D32.zeros (n : Nat) : D32 (List.replicate n 0) := fun d hd => by rw [(List.mem_replicate.1 hd).2]; omega
theorem dv_zeros (n : Nat) : dv (List.replicate n 0) = 0 := by
 induction n with
 | zero => rfl
 | succ n ih => rw [List.replicate_succ]; show 0 + 4294967296 * dv _ = 0; rw [ih]
theorem dv_at {l : List Nat} (h : D32 l) {k : Nat} (hk : k < l.length) : l[k] = dv l / 4294967296 ^ k % 4294967296 := by
 have e1 : l = l.take k ++ l[k] :: l.drop (k + 1) := by rw [← List.drop_eq_getElem_cons hk, List.take_append_drop]
 have f1 := congrArg dv e1; rw [dv_app, List.length_take, Nat.min_eq_left (by omega)] at f1; have g1 : dv (l[k] :: l.drop (k + 1)) = l[k] + 4294967296 * dv (l.drop (k + 1)) := rfl; have h1 := dv_lt (h.take k); rw [List.length_take, Nat.min_eq_left (by omega)] at h1; have h2 := h.at hk; rw [f1, Nat.add_mul_div_left _ _ (Nat.pow_pos (by omega)), Nat.div_eq_of_lt h1, Nat.zero_add, g1]
 omega

structure TimesI (o0 b : List Nat) (x i j : Nat) (o : List Nat) (c : Nat) : Prop where
 len : o.length = o0.length
 d32 : D32 o
 c32 : c < 4294967296
 eq : dv o + 4294967296 ^ (i + j) * c = dv o0 + 4294967296 ^ i * (x * dv (b.take j))
theorem TimesI.zero {o0 b : List Nat} (x i : Nat) (h : D32 o0) : TimesI o0 b x i 0 o0 0 := ⟨rfl, h, by omega, by simp [dv]⟩
theorem TimesI.next {o0 b : List Nat} {x i j : Nat} {o : List Nat} {c : Nat} (h : TimesI o0 b x i j o c) (hj : i + j < o.length) {y : Nat} (hy : y = o[i + j] + c + x * dig b j) (hx : x < 4294967296) (hb : D32 b) :
  y < 18446744073709551616 ∧ TimesI o0 b x i (j + 1) (o.set (i + j) (y % 4294967296)) (y / 4294967296) := by
 have h1 := h.d32.at hj; have h2 := h.c32; have h3 : dig b j < 4294967296 := getD_lt hb j; have h4 : x * dig b j ≤ 4294967295 * 4294967295 := Nat.mul_le_mul (by omega) (by omega); have hlt : y < 18446744073709551616 := by omega
 refine ⟨hlt, by rw [List.length_set, h.len], h.d32.set _ (Nat.mod_lt _ (by omega)), by omega, ?_⟩; have e := h.eq; have s := dv_set (l := o) (k := i + j) (d := y % 4294967296) hj; have e2 : 4294967296 ^ (i + (j + 1)) = 4294967296 ^ (i + j) * 4294967296 := by rw [← Nat.add_assoc, Nat.pow_succ]
 have e3 : 4294967296 ^ (i + j) * 4294967296 * (y / 4294967296) + 4294967296 ^ (i + j) * (y % 4294967296) = 4294967296 ^ (i + j) * y := by
  rw [Nat.mul_assoc, ← Nat.mul_add]; congr 1; omega
 have e4 : 4294967296 ^ (i + j) * y = 4294967296 ^ (i + j) * o[i + j] + 4294967296 ^ (i + j) * c + 4294967296 ^ (i + j) * (x * dig b j) := by
  rw [hy, Nat.mul_add, Nat.mul_add]
 have e5 : 4294967296 ^ i * (x * dv (b.take (j + 1))) = 4294967296 ^ i * (x * dv (b.take j)) + 4294967296 ^ (i + j) * (x * dig b j) := by
  rw [dv_take_dig, Nat.mul_add, Nat.mul_add, Nat.pow_add, Nat.mul_assoc (4294967296 ^ i) (4294967296 ^ j), Nat.mul_left_comm x (4294967296 ^ j)]
 rw [e2, e5]
 omega
structure TimesO (a b : List Nat) (i : Nat) (o : List Nat) : Prop where
 len : o.length = a.length + b.length
 d32 : D32 o
 eq : dv o = dv (a.take i) * dv b
theorem TimesO.zero (a b : List Nat) {n : Nat} (hn : n = a.length + b.length) : TimesO a b 0 (List.replicate n 0) := ⟨by rw [List.length_replicate, hn], D32.zeros _, by rw [dv_zeros]; simp [dv]⟩
theorem TimesI.small {a b : List Nat} {i j : Nat} {o0 o : List Nat} {c x : Nat} (h : TimesI o0 b x i j o c) (ho : TimesO a b i o0) (hi : i < a.length) (hx : x = a[i]) (ha : D32 a) (hb : D32 b) (hj : b.length ≤ j) (hc : 0 < c) : j = b.length := by
 apply Classical.byContradiction
 intro hne; have e := h.eq; rw [List.take_of_length_le hj, ho.eq] at e; have e1 : dv (a.take i) * dv b + 4294967296 ^ i * (x * dv b) = dv (a.take (i + 1)) * dv b := by
  rw [dv_take_succ hi, Nat.add_mul, hx, Nat.mul_assoc]
 have k1 := dv_lt (ha.take (i + 1)); rw [List.length_take, Nat.min_eq_left (by omega)] at k1; have k2 := dv_lt hb; have k3 : dv (a.take (i + 1)) * dv b < 4294967296 ^ (i + 1) * 4294967296 ^ b.length := by
  by_cases h0 : dv b = 0
  ·rw [h0, Nat.mul_zero]; exact Nat.mul_pos (Nat.pow_pos (by omega)) (Nat.pow_pos (by omega))
  ·exact Nat.mul_lt_mul_of_lt_of_le k1 (Nat.le_of_lt k2) (Nat.pow_pos (by omega))
 rw [← Nat.pow_add] at k3; have k4 : 4294967296 ^ (i + 1 + b.length) ≤ 4294967296 ^ (i + j) := Nat.pow_le_pow_right (by omega) (by omega); have k5 : 4294967296 ^ (i + j) * 1 ≤ 4294967296 ^ (i + j) * c := Nat.mul_le_mul_left _ hc
 omega
theorem TimesI.done {a b : List Nat} {i j : Nat} {o0 o : List Nat} {x : Nat} (h : TimesI o0 b x i j o 0) (ho : TimesO a b i o0) (hi : i < a.length) (hx : x = a[i]) (hj : b.length ≤ j) : TimesO a b (i + 1) o := by
 refine ⟨by rw [h.len, ho.len], h.d32, ?_⟩; have e := h.eq; rw [List.take_of_length_le hj, ho.eq, Nat.mul_zero, Nat.add_zero] at e; rw [e, dv_take_succ hi, Nat.add_mul, hx, Nat.mul_assoc]
theorem TimesO.done {a b : List Nat} {i : Nat} {o : List Nat} (h : TimesO a b i o) (hi : a.length ≤ i) : dv o = dv a * dv b := by
 rw [h.eq, List.take_of_length_le hi]

structure QuoI (n d : Nat) (i : Nat) (q r : List Nat) (lq lr : Nat) : Prop where
 lenq : q.length = lq
 lenr : r.length = lr
 q32 : D32 q
 r32 : D32 r
 rest : dv r = n / 2 ^ i % d
 quo : dv q = n / 2 ^ i / d * 2 ^ i
theorem QuoI.start {n d i lq lr : Nat} (h : n < 2 ^ i) : QuoI n d i (List.replicate lq 0) (List.replicate lr 0) lq lr := by
 have e : n / 2 ^ i = 0 := Nat.div_eq_of_lt h
 exact ⟨List.length_replicate, List.length_replicate, D32.zeros _, D32.zeros _, by rw [dv_zeros, e, Nat.zero_mod], by rw [dv_zeros, e, Nat.zero_div, Nat.zero_mul]⟩
theorem QuoI.done {n d lq lr : Nat} {q r : List Nat} (h : QuoI n d 0 q r lq lr) : dv q = n / d ∧ dv r = n % d := by
 have h1 := h.rest; have h2 := h.quo; rw [Nat.pow_zero, Nat.div_one] at h1; rw [Nat.pow_zero, Nat.div_one, Nat.mul_one] at h2
 exact ⟨h2, h1⟩
def bitN (n i : Nat) : Nat := n / 2 ^ i % 2
theorem bitN_step (n i : Nat) : n / 2 ^ i = 2 * (n / 2 ^ (i + 1)) + bitN n i := by
 unfold bitN
 rw [Nat.pow_succ, ← Nat.div_div_eq_div_mul]
 omega
theorem pow32 (k : Nat) : (4294967296 : Nat) ^ k = 2 ^ (32 * k) := by rw [show (4294967296 : Nat) = 2 ^ 32 from rfl, ← Nat.pow_mul]
theorem quo_digit {q : List Nat} (h : D32 q) {k e m : Nat} (hk : k < q.length) (he : e < 32) (hq : dv q = m * 2 ^ (32 * k + e + 1)) : q[k] % 2 ^ (e + 1) = 0 := by
 rw [dv_at h hk, hq, pow32, show 32 * k + e + 1 = 32 * k + (e + 1) by omega, Nat.pow_add, Nat.mul_left_comm, Nat.mul_div_cancel_left _ (Nat.pow_pos (by omega))]; have h1 : (4294967296 : Nat) = 2 ^ (e + 1) * 2 ^ (32 - (e + 1)) := by rw [← Nat.pow_add, show e + 1 + (32 - (e + 1)) = 32 by omega]
 rw [h1, Nat.mod_mul_right_mod, Nat.mul_mod_left]
theorem quo_room {x e : Nat} (hx : x < 4294967296) (he : e < 32) (h : x % 2 ^ (e + 1) = 0) : x + 2 ^ e < 4294967296 ∧ x / 2 ^ e % 2 = 0 := by
 have hp : 0 < 2 ^ e := Nat.pow_pos (by omega); have h1 : (4294967296 : Nat) = 2 ^ (e + 1) * 2 ^ (32 - (e + 1)) := by rw [← Nat.pow_add, show e + 1 + (32 - (e + 1)) = 32 by omega]
 obtain ⟨t, ht⟩ := Nat.dvd_of_mod_eq_zero h; rw [ht] at hx ⊢
 constructor
 ·have h2 : t < 2 ^ (32 - (e + 1)) := Nat.lt_of_mul_lt_mul_left (a := 2 ^ (e + 1)) (by rw [← h1]; exact hx); have h3 : 2 ^ (e + 1) * (t + 1) ≤ 2 ^ (e + 1) * 2 ^ (32 - (e + 1)) := Nat.mul_le_mul_left _ h2; rw [← h1, Nat.mul_succ] at h3; have h4 : 2 ^ (e + 1) = 2 * 2 ^ e := by rw [Nat.pow_succ']
  omega
 ·rw [Nat.pow_succ, Nat.mul_assoc, Nat.mul_div_cancel_left _ hp]; omega
theorem quo_less {n d i : Nat} (hd : 0 < d) (h : 2 * (n / 2 ^ (i + 1) % d) + bitN n i < d) : n / 2 ^ i % d = 2 * (n / 2 ^ (i + 1) % d) + bitN n i ∧ n / 2 ^ i / d = 2 * (n / 2 ^ (i + 1) / d) := by
 have e := bitN_step n i; have e2 := Nat.div_add_mod (n / 2 ^ (i + 1)) d
 generalize n / 2 ^ (i + 1) / d = Q at *
 generalize n / 2 ^ (i + 1) % d = R at *
 have e3 : n / 2 ^ i = (2 * R + bitN n i) + d * (2 * Q) := by
  rw [e, ← e2, Nat.mul_left_comm d 2 Q]; omega
 rw [e3]
 exact ⟨by rw [Nat.add_mul_mod_self_left, Nat.mod_eq_of_lt h], by rw [Nat.add_mul_div_left _ _ hd, Nat.div_eq_of_lt h, Nat.zero_add]⟩
theorem quo_more {n d i : Nat} (hd : 0 < d) (h : d ≤ 2 * (n / 2 ^ (i + 1) % d) + bitN n i) : n / 2 ^ i % d = 2 * (n / 2 ^ (i + 1) % d) + bitN n i - d ∧ n / 2 ^ i / d = 2 * (n / 2 ^ (i + 1) / d) + 1 := by
 have e := bitN_step n i; have e2 := Nat.div_add_mod (n / 2 ^ (i + 1)) d; have e4 := Nat.mod_lt (n / 2 ^ (i + 1)) hd; have e5 : bitN n i < 2 := Nat.mod_lt _ (by omega)
 generalize n / 2 ^ (i + 1) / d = Q at *
 generalize n / 2 ^ (i + 1) % d = R at *
 have e3 : n / 2 ^ i = (2 * R + bitN n i - d) + d * (2 * Q + 1) := by
  have e6 : d * (2 * Q + 1) = 2 * (d * Q) + d := by rw [Nat.mul_add, Nat.mul_one, Nat.mul_left_comm]
  rw [e, ← e2, e6]; omega
 have hl : 2 * R + bitN n i - d < d := by omega
 rw [e3]
 exact ⟨by rw [Nat.add_mul_mod_self_left, Nat.mod_eq_of_lt hl], by rw [Nat.add_mul_div_left _ _ hd, Nat.div_eq_of_lt hl, Nat.zero_add]⟩
theorem QuoI.less {n d i lq lr : Nat} {q r r' : List Nat} (h : QuoI n d (i + 1) q r lq lr) (hd : 0 < d) (hl : r'.length = lr) (h32 : D32 r') (hr : dv r' = 2 * dv r + bitN n i) (hlt : dv r' < d) : QuoI n d i q r' lq lr := by
 have e := h.rest; rw [hr, e] at hlt; have k := quo_less hd hlt; refine ⟨h.lenq, hl, h.q32, h32, by rw [hr, e, k.1], ?_⟩; rw [h.quo, k.2, Nat.pow_succ, Nat.mul_comm 2, Nat.mul_assoc, Nat.mul_comm 2]
theorem QuoI.more {n d i lq lr : Nat} {q r r' r'' : List Nat} (h : QuoI n d (i + 1) q r lq lr) (hd : 0 < d) (hr : dv r' = 2 * dv r + bitN n i) (hge : d ≤ dv r') (hl : r''.length = lr) (h32 : D32 r'') (hr2 : dv r'' = dv r' - d)
  {k e : Nat} (hi : i = 32 * k + e) (he : e < 32) (hk : k < q.length) : q[k] + 2 ^ e < 4294967296 ∧ q[k] / 2 ^ e % 2 = 0 ∧ QuoI n d i (q.set k (q[k] + 2 ^ e)) r'' lq lr := by
 have e1 := h.rest; rw [hr, e1] at hge; have kk := quo_more hd hge; have hq := h.quo; rw [hi] at hq; have hz := quo_digit h.q32 hk he hq; have hrm := quo_room (h.q32.at hk) he hz; refine ⟨hrm.1, hrm.2, by rw [List.length_set, h.lenq], hl, h.q32.set _ hrm.1, h32, by rw [hr2, hr, e1, kk.1], ?_⟩; have s := dv_set (l := q) (k := k) (d := q[k] + 2 ^ e) hk; rw [Nat.mul_add] at s; have e3 : 4294967296 ^ k * 2 ^ e = 2 ^ i := by rw [pow32, ← Nat.pow_add, hi]
 rw [e3] at s; have e4 := h.quo; have e5 : n / 2 ^ (i + 1) / d * 2 ^ (i + 1) = 2 * (n / 2 ^ (i + 1) / d) * 2 ^ i := by rw [Nat.pow_succ, Nat.mul_comm (2 ^ i) 2, ← Nat.mul_assoc, Nat.mul_comm _ 2]
 rw [e5] at e4; rw [kk.2, Nat.add_mul, Nat.one_mul]
 generalize 2 * (n / 2 ^ (i + 1) / d) * 2 ^ i = Z at *
 generalize 2 ^ i = Y at *
 generalize 4294967296 ^ k * q[k] = X at *
 omega
structure ShlI (r : List Nat) (c0 j : Nat) (o : List Nat) (c : Nat) : Prop where
 len : o.length = r.length
 d32 : D32 o
 c2 : c < 2
 tail : o.drop j = r.drop j
 eq : dv (o.take j) + 4294967296 ^ j * c = 2 * dv (r.take j) + c0
theorem ShlI.zero {r : List Nat} {c0 : Nat} (h : D32 r) (hc : c0 < 2) : ShlI r c0 0 r c0 := ⟨rfl, h, hc, rfl, by simp [dv]⟩
theorem ShlI.at {r o : List Nat} {c0 j c : Nat} (h : ShlI r c0 j o c) (hj : j < r.length) (hj' : j < o.length) : o[j] = r[j] := by
 have e := h.tail; rw [List.drop_eq_getElem_cons hj', List.drop_eq_getElem_cons hj] at e
 exact (List.cons.inj e).1
theorem ShlI.next {r o : List Nat} {c0 j c : Nat} (h : ShlI r c0 j o c) (hj : j < o.length) {y : Nat} (hy : y = 2 * o[j] + c) : y < 8589934592 ∧ ShlI r c0 (j + 1) (o.set j (y % 4294967296)) (y / 4294967296) := by
 have h1 := h.d32.at hj; have h2 := h.c2; have hjr : j < r.length := by rw [← h.len]; exact hj
 have hat := h.at hjr hj; refine ⟨by omega, by rw [List.length_set, h.len], h.d32.set _ (Nat.mod_lt _ (by omega)), by omega, ?_, ?_⟩
 ·rw [List.drop_set_of_lt (by omega)]; have e := h.tail; rw [List.drop_eq_getElem_cons hj, List.drop_eq_getElem_cons hjr] at e
  exact (List.cons.inj e).2
 ·have hj2 : j < (o.set j (y % 4294967296)).length := by rw [List.length_set]; exact hj
  rw [dv_take_succ hj2, dv_take_succ hjr, List.take_set_of_le (Nat.le_refl _), List.getElem_set_self, ← hat]; have e := h.eq; have e3 : 4294967296 ^ (j + 1) * (y / 4294967296) + 4294967296 ^ j * (y % 4294967296) = 4294967296 ^ j * y := by
   rw [Nat.pow_succ, Nat.mul_assoc, ← Nat.mul_add]; congr 1; omega
  have e4 : 4294967296 ^ j * y = 2 * (4294967296 ^ j * o[j]) + 4294967296 ^ j * c := by rw [hy, Nat.mul_add, Nat.mul_left_comm]
  omega
theorem ShlI.done {r o : List Nat} {c0 j c : Nat} (h : ShlI r c0 j o c) (hj : r.length ≤ j) (hfit : 2 * dv r + c0 < 4294967296 ^ r.length) (hj2 : j = r.length) : dv o = 2 * dv r + c0 ∧ c = 0 := by
 have e := h.eq; rw [List.take_of_length_le (by rw [h.len]; exact hj), List.take_of_length_le hj] at e; subst hj2
 rcases Nat.eq_zero_or_pos c with h0 | h0
 ·subst h0; exact ⟨by omega, rfl⟩
 ·have := Nat.mul_le_mul_left (4294967296 ^ r.length) h0
  omega
end
section
open Go.RowKit

def dC (l : List Nat) : Array Value := (l.map (fun d : Nat => Value.int .u32 (d : Int))).toArray
end
section
open Go.RowKit

end
section
open Go.RowKit

theorem nat_or_bit {x e : Nat} (h : x / 2 ^ e % 2 = 0) : x ||| 2 ^ e = x + 2 ^ e := by
 have hp : 0 < 2 ^ e := Nat.pow_pos (by omega); obtain ⟨a, ha⟩ : ∃ a, x / 2 ^ e = 2 * a := ⟨x / 2 ^ e / 2, by omega⟩; have h1 := Nat.div_add_mod x (2 ^ e); have h2 := Nat.mod_lt x hp; obtain ⟨b, hb⟩ := nm (x % 2 ^ e); rw [ha, ← hb] at h1; rw [← hb] at h2; have h3 : x = 2 ^ (e + 1) * a + b := by rw [← h1, Nat.pow_succ, Nat.mul_assoc]
 have h4 : b ||| 2 ^ e = 2 ^ e + b := by
  have := Nat.two_pow_add_eq_or_of_lt h2 1; rw [Nat.mul_one] at this; rw [Nat.or_comm, ← this]
 have h5 : 2 ^ e + b < 2 ^ (e + 1) := by rw [Nat.pow_succ]; omega
 rw [h3, Nat.two_pow_add_eq_or_of_lt (by omega : b < 2 ^ (e + 1)), Nat.or_assoc, h4, ← Nat.two_pow_add_eq_or_of_lt h5, ← Nat.two_pow_add_eq_or_of_lt (by omega : b < 2 ^ (e + 1))]
 omega
def padT (z : List Nat) (j : Nat) : List Nat := (List.range j).map (dig z)
def QRRet (w : World) (q r : Nat) (e : Ending) (w' : World) : Prop := ∃ v1 v2, e = .returned (.tuple #[v1, v2]) ∧ Rd w' u32E 1 v1 (digs q) ∧ Rd w' u32E 1 v2 (digs r) ∧ Below w.heap.size w w'

end
end Go.Proofs.YtabminbgoclnkaaGreat
