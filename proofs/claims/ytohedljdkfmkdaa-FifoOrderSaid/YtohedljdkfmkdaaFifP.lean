/- Plain law of FifoOrder: a queue's entries in a store. No condition. -/
import Derived.Test.YtohedljdkfmkdaaFifD
namespace Go.Proofs.Ytohedljdkfmkdaa
open Go.RowKit

def qK : Txt := keyF 3 [1]
def qA (i : Int) : Txt := keyF 3 ([1] ++ [i])
theorem qK_eq : qK = UInt8.ofNat 3 :: numL 1 := keyF_one (t := 3) (by decide) (by decide) (by decide)
theorem qA_eq {i : Int} (h : 0 ≤ i) : qA i = UInt8.ofNat 3 :: (numL 1 ++ numL i) := by
  unfold qA
  rw [keyF_good (by decide) (by decide) (by intro x hx; simp only [List.cons_append, List.nil_append, List.mem_cons, List.not_mem_nil, or_false] at hx; omega)]
  simp
theorem qK_ne : qK ≠ [] := by rw [qK_eq]; simp
theorem qA_ne {i : Int} (h : 0 ≤ i) : qA i ≠ [] := by rw [qA_eq h]; simp
theorem qA_K {i : Int} (h : 0 ≤ i) : qA i ≠ qK := by
  rw [qA_eq h, qK_eq]
  intro e
  have e2 := congrArg List.length e
  simp only [List.length_cons, List.length_append, numL_length] at e2
  omega
theorem qA_inj {i j : Int} (hi : 0 ≤ i) (hi2 : i < 18446744073709551616) (hj : 0 ≤ j) (hj2 : j < 18446744073709551616) (h : qA i = qA j) : i = j := by
  rw [qA_eq hi, qA_eq hj] at h
  have h3 := List.append_cancel_left (List.cons.inj h).2
  rw [← cbe_numL i hi hi2, ← cbe_numL j hj hj2, h3]
def flatQ (l : List Int) : Txt := l.flatMap numL
theorem flatQ_ne {l : List Int} (h : l ≠ []) : flatQ l ≠ [] := by
  intro e
  have h1 := cflat_length l
  unfold flatQ at e
  rw [e] at h1
  have : l.length ≠ 0 := fun h2 => h (List.length_eq_zero_iff.1 h2)
  simp at h1; omega
def goodR (l : List Int) : Prop := goodL l = true ∧ ∀ x ∈ l, x < 9223372036854775808
theorem goodR.ne {l : List Int} (h : goodR l) : l ≠ [] := (of_decide_eq_true h.1).1
theorem goodR.pos {l : List Int} (h : goodR l) : ∀ x ∈ l, 0 ≤ x := (of_decide_eq_true h.1).2
theorem goodR.row {l : List Int} (h : goodR l) : rowF (flatQ l) = l := rowF_flat fun x hx => ⟨h.pos x hx, h.2 x hx⟩
theorem getP_setRow {s : PS} {k : Txt} {l : List Int} (hk : k ≠ []) (hl : l ≠ []) (hp : ∀ x ∈ l, 0 ≤ x) (q : Txt) : getP (s.setRow k l).t q = if k = q then some (flatQ l) else getP s.t q := by
  rw [setRow_ok hp]
  unfold PS.putv
  rw [if_neg (show ¬ l.flatMap numL = [] from flatQ_ne hl), getP_set]
  by_cases h : k = q
  · rw [if_pos ⟨h, hk⟩, if_pos h]; rfl
  · rw [if_neg fun e => h e.1, if_neg h]
theorem getP_setRow_nil {s : PS} {k : Txt} (q : Txt) : getP (s.setRow k []).t q = if k = q then none else getP s.t q := by
  rw [setRow_ok (by intro x hx; cases hx)]
  unfold PS.putv
  rw [if_pos (by rfl), getP_sdel]
/-- The store holds the rows q, from number a on, and nothing else. -/
structure QF (s : PS) (q : List (List Int)) (a : Int) : Prop where
  a0 : 0 ≤ a
  k : getP s.t qK = some (flatQ [a, a + q.length])
  rows : ∀ i (h : i < q.length), getP s.t (qA (a + i)) = some (flatQ q[i])
  only : ∀ x, getP s.t x ≠ none → x = qK ∨ ∃ i : Nat, i < q.length ∧ x = qA (a + i)
  good : ∀ l ∈ q, goodR l
def QI (s : PS) (q : List (List Int)) (N : Int) : Prop := (q = [] ∧ ∀ x, getP s.t x = none) ∨ (q ≠ [] ∧ ∃ a, QF s q a ∧ a + q.length ≤ N)
theorem QI.new : QI PS.new [] 0 := .inl ⟨rfl, fun _ => rfl⟩
theorem QI.more {s : PS} {q : List (List Int)} {N M : Int} (h : QI s q N) (hm : N ≤ M) : QI s q M := by
  rcases h with h | ⟨h1, a, h2, h3⟩
  · exact .inl h
  · exact .inr ⟨h1, a, h2, by omega⟩
theorem QF.ends {s : PS} {q : List (List Int)} {a : Int} (h : QF s q a) (hb : a + q.length < 9223372036854775808) : endsF (getP s.t) 3 [1] = (a, a + q.length) := by
  have h0 := h.a0
  have e : valF (getP s.t) (keyF 3 [1]) = flatQ [a, a + q.length] := by unfold valF; rw [show getP s.t (keyF 3 [1]) = _ from h.k]; rfl
  unfold endsF
  rw [e, show rowF (flatQ [a, a + q.length]) = [a, a + q.length] from rowF_flat (by intro x hx; simp only [List.mem_cons, List.not_mem_nil, or_false] at hx; omega)]
  exact if_pos (by omega)
theorem ends_no {s : PS} (h : ∀ x, getP s.t x = none) : endsF (getP s.t) 3 [1] = (0, 0) := by
  have e : valF (getP s.t) (keyF 3 [1]) = [] := by unfold valF; rw [h]; rfl
  unfold endsF
  rw [e, rowF_nil]; rfl
/-- The ends tell how many rows there are. -/
theorem QI.ends {s : PS} {q : List (List Int)} {N : Int} (h : QI s q N) (hN : N < 9223372036854775000) : ∃ a : Int, 0 ≤ a ∧ endsF (getP s.t) 3 [1] = (a, a + q.length) ∧ a + q.length ≤ max N 0 := by
  rcases h with ⟨rfl, h⟩ | ⟨_, a, h2, h3⟩
  · exact ⟨0, by omega, by rw [ends_no h]; rfl, by simp; omega⟩
  · exact ⟨a, h2.a0, h2.ends (by omega), by omega⟩
theorem QI.push {s : PS} {q : List (List Int)} {N : Int} (h : QI s q N) (hN0 : 0 ≤ N) (hN : N < 1099511627776) {l : List Int} (hl : goodR l) {n : Int} (hn : 1 ≤ n) (hlen : (q.length : Int) < n) :
    pushE (getP s.t) 3 [1] n l = 0 ∧ QI (pushS s 3 [1] n l) (q ++ [l]) (N + 1) := by
  obtain ⟨a, ha, he, hle⟩ := h.ends (by omega)
  have hle2 : a + q.length ≤ N := by omega
  have hE : pushE (getP s.t) 3 [1] n l = 0 := by
    unfold pushE
    have hc : ¬ (keyF 3 [1] = [] ∨ n < 1 ∨ goodL l = false) := by
      rintro (h | h | h)
      · exact qK_ne h
      · omega
      · rw [hl.1] at h; cases h
    rw [if_neg hc, he]
    exact if_neg (by show ¬ n ≤ a + (q.length : Int) - a; omega)
  refine ⟨hE, ?_⟩
  have hS : pushS s 3 [1] n l = (s.setRow (qA (a + q.length)) l).setRow qK [a, a + q.length + 1] := by
    unfold pushS
    rw [if_pos hE, he]
    unfold turnS
    rw [if_neg (by simp only; omega)]; rfl
  rw [hS]
  have hb0 : 0 ≤ a + (q.length : Int) := by omega
  have g2 := fun x => getP_setRow (s := s.setRow (qA (a + q.length)) l) (k := qK) (l := [a, a + q.length + 1]) qK_ne (by simp) (by intro y hy; simp only [List.mem_cons, List.not_mem_nil, or_false] at hy; omega) x
  have g1 := fun x => getP_setRow (s := s) (k := qA (a + q.length)) (qA_ne hb0) hl.ne hl.pos x
  have hlq : ((q ++ [l]).length : Int) = q.length + 1 := by simp
  refine .inr ⟨by simp, a, ⟨ha, ?_, ?_, ?_, ?_⟩, by omega⟩
  · rw [g2, if_pos rfl, hlq, show a + ((q.length : Int) + 1) = a + (q.length : Int) + 1 by omega]
  · intro i hi
    have hi2 : i < q.length + 1 := by simpa using hi
    rw [g2, if_neg (fun e => qA_K (i := a + i) (by omega) e.symm), g1]
    by_cases hiq : i = q.length
    · subst hiq
      rw [if_pos rfl]; simp
    · rw [if_neg (fun e => by have := qA_inj hb0 (by omega) (by omega) (by omega) e; omega)]
      have hi3 : i < q.length := by omega
      rw [List.getElem_append_left hi3]
      rcases h with ⟨rfl, _⟩ | ⟨_, a', h2, _⟩
      · simp at hi3
      · have : a' = a := by
          have h5 := h2.ends (by omega)
          rw [he] at h5
          exact (Prod.mk.inj h5).1.symm
        subst this
        exact h2.rows i hi3
  · intro x hx
    rw [g2] at hx
    by_cases h1 : qK = x
    · exact .inl h1.symm
    rw [if_neg h1, g1] at hx
    by_cases h2 : qA (a + q.length) = x
    · exact .inr ⟨q.length, by simp, h2.symm⟩
    rw [if_neg h2] at hx
    rcases h with ⟨_, h⟩ | ⟨_, a', h3, _⟩
    · exact absurd (h x) hx
    · have : a' = a := by
        have h5 := h3.ends (by omega)
        rw [he] at h5
        exact (Prod.mk.inj h5).1.symm
      subst this
      rcases h3.only x hx with h4 | ⟨i, h4, h5⟩
      · exact .inl h4
      · exact .inr ⟨i, by simp; omega, h5⟩
  · intro m hm
    rcases List.mem_append.1 hm with h1 | h1
    · rcases h with ⟨rfl, _⟩ | ⟨_, a', h3, _⟩
      · cases h1
      · exact h3.good m h1
    · simp only [List.mem_singleton] at h1; rw [h1]; exact hl
theorem QI.push_not {s : PS} {q : List (List Int)} {N : Int} (h : QI s q N) (hN : N < 1099511627776) {l : List Int} {n : Int} (hlen : n ≤ (q.length : Int)) : ¬ pushE (getP s.t) 3 [1] n l = 0 := by
  obtain ⟨a, ha, he, hle⟩ := h.ends (by omega)
  unfold pushE
  split
  · decide
  · rw [he, if_pos (by simp only; omega)]; decide
theorem push_bad {f : Txt → Option Txt} {n : Int} {l : List Int} (hl : goodL l = false) : pushE f 3 [1] n l = 2 := push_e2 (.inr (.inr hl))
theorem QI.pop_no {s : PS} {N : Int} (h : QI s [] N) : peekB (getP s.t) 3 [1] = false ∧ popS s 3 [1] = s := by
  rcases h with ⟨_, h⟩ | ⟨h, _⟩
  · unfold peekB popS; rw [ends_no h]; exact ⟨rfl, if_pos rfl⟩
  · exact absurd rfl h
theorem QI.pop {s : PS} {l : List Int} {q : List (List Int)} {N : Int} (h : QI s (l :: q) N) (hN : N < 1099511627776) :
    peekB (getP s.t) 3 [1] = true ∧ peekF (getP s.t) 3 [1] = l ∧ QI (popS s 3 [1]) q N := by
  rcases h with ⟨h, _⟩ | ⟨_, a, h, hle⟩
  · cases h
  have ha := h.a0
  have hlq : ((l :: q).length : Int) = q.length + 1 := by simp
  have he := h.ends (by omega)
  have hne : ¬ a = a + ((l :: q).length : Int) := by omega
  have hrow : getP s.t (qA a) = some (flatQ l) := by have := h.rows 0 (by simp); simpa using this
  refine ⟨?_, ?_, ?_⟩
  · unfold peekB; rw [he]; simp only [beq_eq_false_iff_ne.2 hne]; rfl
  · unfold peekF
    rw [he, if_neg hne]
    show rowF (valF (getP s.t) (qA a)) = l
    unfold valF
    rw [hrow]
    exact (h.good l (by simp)).row
  · have hP : popS s 3 [1] = turnS (s.del (qA a)) 3 [1] (a + 1) (a + ((l :: q).length : Int)) := by
      unfold popS; rw [he, if_neg hne]; rfl
    rw [hP]
    have d1 := fun x => getP_sdel s (qA a) x
    unfold turnS
    by_cases hlast : a + 1 = a + ((l :: q).length : Int)
    · rw [if_pos hlast]
      have hq : q = [] := List.length_eq_zero_iff.1 (by omega)
      subst hq
      refine .inl ⟨rfl, fun x => ?_⟩
      show getP ((s.del (qA a)).setRow qK []).t x = none
      rw [getP_setRow_nil, d1]
      by_cases h1 : qK = x
      · rw [if_pos h1]
      rw [if_neg h1]
      by_cases h2 : qA a = x
      · rw [if_pos h2]
      rw [if_neg h2]
      by_cases h3 : getP s.t x = none
      · exact h3
      · rcases h.only x h3 with h4 | ⟨i, h4, h5⟩
        · exact absurd h4.symm h1
        · have : i = 0 := by simp at h4; exact h4
          subst this
          exact absurd (by simpa using h5.symm) h2
    · rw [if_neg hlast]
      have hb : ∀ y ∈ [a + 1, a + ((l :: q).length : Int)], 0 ≤ y := by intro y hy; simp only [List.mem_cons, List.not_mem_nil, or_false] at hy; omega
      have g2 := fun x => getP_setRow (s := s.del (qA a)) (k := qK) (l := [a + 1, a + ((l :: q).length : Int)]) qK_ne (by simp) hb x
      refine .inr ⟨by intro e; subst e; simp at hlast, a + 1, ⟨by omega, ?_, ?_, ?_, ?_⟩, by omega⟩
      · show getP ((s.del (qA a)).setRow qK _).t qK = _
        rw [g2, if_pos rfl, show a + ((l :: q).length : Int) = a + 1 + q.length by omega]
      · intro i hi
        show getP ((s.del (qA a)).setRow qK _).t (qA (a + 1 + i)) = _
        rw [g2, if_neg (fun e => qA_K (i := a + 1 + i) (by omega) e.symm), d1, if_neg (fun e => by have := qA_inj ha (by omega) (by omega) (by omega) e; omega)]
        have := h.rows (i + 1) (by simp; omega)
        rw [show a + ((i + 1 : Nat) : Int) = a + 1 + i by omega] at this
        simpa using this
      · intro x hx
        have hx2 : getP ((s.del (qA a)).setRow qK [a + 1, a + ((l :: q).length : Int)]).t x ≠ none := hx
        rw [g2] at hx2
        by_cases h1 : qK = x
        · exact .inl h1.symm
        rw [if_neg h1, d1] at hx2
        by_cases h2 : qA a = x
        · rw [if_pos h2] at hx2; exact absurd rfl hx2
        rw [if_neg h2] at hx2
        rcases h.only x hx2 with h4 | ⟨i, h4, h5⟩
        · exact .inl h4
        · cases i with
          | zero => exact absurd (by simpa using h5.symm) h2
          | succ i => exact .inr ⟨i, by simp at h4; omega, by rw [h5]; congr 1; omega⟩
      · exact fun m hm => h.good m (by simp [hm])
/-- All rows. -/
def allF (f : Txt → Option Txt) (a : Int) (k : Nat) : List (List Int) := (List.range k).map fun (i : Nat) => rowF (valF f (qA (a + (i : Int))))
theorem allF_succ (f : Txt → Option Txt) (a : Int) (k : Nat) : allF f a (k + 1) = allF f a k ++ [rowF (valF f (qA (a + k)))] := by
  unfold allF; rw [List.range_succ, List.map_append]; rfl
theorem allF_len (f : Txt → Option Txt) (a : Int) (k : Nat) : (allF f a k).length = k := by unfold allF; simp
theorem QI.all {s : PS} {q : List (List Int)} {N : Int} (h : QI s q N) (hN : N < 1099511627776) : ∃ a : Int, 0 ≤ a ∧ endsF (getP s.t) 3 [1] = (a, a + q.length) ∧ allF (getP s.t) a q.length = q := by
  rcases h with ⟨rfl, h⟩ | ⟨_, a, h, hle⟩
  · exact ⟨0, by omega, by rw [ends_no h]; rfl, rfl⟩
  · refine ⟨a, h.a0, h.ends (by omega), ?_⟩
    refine List.ext_getElem (allF_len _ _ _) fun i h1 h2 => ?_
    have e : (allF (getP s.t) a q.length)[i] = rowF (valF (getP s.t) (qA (a + (i : Int)))) := by simp [allF]
    rw [e]
    unfold valF
    rw [h.rows i h2]
    exact (h.good _ (List.getElem_mem h2)).row
theorem empty_of {s : PS} (h : ∀ x, getP s.t x = none) : s.t = [] := by
  cases ht : s.t with
  | nil => rfl
  | cons p l =>
    have := h p.1
    rw [ht] at this
    simp [getP] at this
end Go.Proofs.Ytohedljdkfmkdaa
