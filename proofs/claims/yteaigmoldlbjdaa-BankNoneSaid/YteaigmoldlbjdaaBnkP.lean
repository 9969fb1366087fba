/- Sums of the amounts under a beginning of keys: plain. No condition. -/
import Derived.Test.YteaigmoldlbjdaaCelD
namespace Go.Proofs.Yteaigmoldlbjdaa
open Go.RowKit

/-- The sum of all amounts of a table. -/
def sumL : Tab → Nat
  | [] => 0
  | p :: t => amtF p.2 + sumL t
/-- The sum of the amounts whose keys begin so. -/
def sumU (b : Txt) : Tab → Nat
  | [] => 0
  | p :: t => (if b.isPrefixOf p.1 then amtF p.2 else 0) + sumU b t
theorem sumL_append : ∀ (s t : Tab), sumL (s ++ t) = sumL s + sumL t
  | [], t => by show sumL t = 0 + _; omega
  | p :: s, t => by show amtF p.2 + sumL (s ++ t) = amtF p.2 + sumL s + sumL t; rw [sumL_append s t]; omega
theorem sumL_under (b : Txt) : ∀ t : Tab, sumL (underP t b) = sumU b t
  | [] => rfl
  | p :: t => by
    have ih := sumL_under b t
    unfold underP at ih ⊢
    rw [List.filter_cons]
    unfold sumU
    by_cases h : b.isPrefixOf p.1 = true
    · rw [if_pos h, if_pos h]; show amtF p.2 + sumL _ = _; rw [ih]
    · rw [if_neg h, if_neg h, ih]; omega
theorem sumL_take {t : Tab} {i : Nat} (h : i < t.length) : sumL (t.take (i + 1)) = sumL (t.take i) + amtF t[i].2 := by
  rw [List.take_succ_eq_append_getElem h, sumL_append]; rfl
theorem sumL_take_le (t : Tab) (i : Nat) : sumL (t.take i) ≤ sumL t := by
  have h := congrArg sumL (List.take_append_drop i t)
  rw [sumL_append] at h
  omega
theorem sumU_none {k : Txt} {t : Tab} : ∀ (_ : ∀ p ∈ t, p.1 ≠ k), delP t k = t := fun h => List.filter_eq_self.2 fun p hp => by simpa using h p hp
theorem sumU_del (b : Txt) : ∀ {t : Tab} (_ : Up t) (k : Txt), sumU b (delP t k) + (if b.isPrefixOf k then amtF (valF (getP t) k) else 0) = sumU b t
  | [], _, k => by
    have : valF (getP []) k = [] := rfl
    rw [this, amtF_nil]
    split <;> rfl
  | p :: t, hu, k => by
    have hp := List.pairwise_cons.1 hu
    have ih := sumU_del b (t := t) hp.2 k
    by_cases e : p.1 = k
    · have hd : delP (p :: t) k = t := by
        unfold delP
        rw [List.filter_cons, if_neg (by simpa using e)]
        exact sumU_none fun q hq h => by
          have := hp.1 q hq
          rw [e, h, less_irrefl] at this
          cases this
      have hv : valF (getP (p :: t)) k = p.2 := by unfold valF; rw [getP_cons, if_pos e]; rfl
      rw [hd, hv]
      show sumU b t + (if b.isPrefixOf k = true then amtF p.2 else 0) = (if b.isPrefixOf p.1 = true then amtF p.2 else 0) + sumU b t
      rw [e]
      omega
    · have hd : delP (p :: t) k = p :: delP t k := by
        unfold delP
        rw [List.filter_cons, if_pos (by simpa using e)]
      have hv : valF (getP (p :: t)) k = valF (getP t) k := by unfold valF; rw [getP_cons, if_neg e]
      rw [hd, hv]
      show (if b.isPrefixOf p.1 = true then amtF p.2 else 0) + sumU b (delP t k) + _ = (if b.isPrefixOf p.1 = true then amtF p.2 else 0) + sumU b t
      omega
theorem sumU_ins (b : Txt) : ∀ {t : Tab} (_ : Up t) (k v : Txt), sumU b (insP t k v) + (if b.isPrefixOf k then amtF (valF (getP t) k) else 0) = sumU b t + (if b.isPrefixOf k then amtF v else 0)
  | [], _, k, v => by
    have : valF (getP []) k = [] := rfl
    rw [this, amtF_nil]
    show (if b.isPrefixOf k = true then amtF v else 0) + 0 + _ = 0 + _
    split <;> omega
  | p :: t, hu, k, v => by
    have hp := List.pairwise_cons.1 hu
    have ih := sumU_ins b (t := t) hp.2 k v
    by_cases e : p.1 = k
    · have hv : valF (getP (p :: t)) k = p.2 := by unfold valF; rw [getP_cons, if_pos e]; rfl
      have hi : insP (p :: t) k v = (k, v) :: t := by show (if p.1 = k then _ else _) = _; rw [if_pos e]
      rw [hi, hv]
      show (if b.isPrefixOf k = true then amtF v else 0) + sumU b t + (if b.isPrefixOf k = true then amtF p.2 else 0) = (if b.isPrefixOf p.1 = true then amtF p.2 else 0) + sumU b t + (if b.isPrefixOf k = true then amtF v else 0)
      rw [e]
      omega
    · by_cases h2 : less p.1 k = true
      · have hv : valF (getP (p :: t)) k = valF (getP t) k := by unfold valF; rw [getP_cons, if_neg e]
        have hi : insP (p :: t) k v = p :: insP t k v := by show (if p.1 = k then _ else if less p.1 k = true then _ else _) = _; rw [if_neg e, if_pos h2]
        rw [hi, hv]
        show (if b.isPrefixOf p.1 = true then amtF p.2 else 0) + sumU b (insP t k v) + _ = (if b.isPrefixOf p.1 = true then amtF p.2 else 0) + sumU b t + _
        omega
      · have hn : getP (p :: t) k = none := by
          rw [getP_none]
          intro q hq hqk
          rcases List.mem_cons.1 hq with rfl | hq
          · exact e hqk
          · have h3 := hp.1 q hq
            rw [hqk] at h3
            exact h2 h3
        have hv : valF (getP (p :: t)) k = [] := by unfold valF; rw [hn]; rfl
        have hi : insP (p :: t) k v = (k, v) :: p :: t := by show (if p.1 = k then _ else if less p.1 k = true then _ else _) = _; rw [if_neg e, if_neg h2]
        rw [hi, hv, amtF_nil]
        show (if b.isPrefixOf k = true then amtF v else 0) + sumU b (p :: t) + _ = _
        split <;> omega
/-- An amount is set: the sum under a beginning of its key turns by it, each other one stays. -/
theorem sumU_setAmt (b : Txt) {s : PS} (hu : Up s.t) (k : Txt) {n : Nat} (hk : k ≠ []) (hn : n < uMax) :
    sumU b (s.setAmt k n).t + (if b.isPrefixOf k then amtV (getP s.t) k else 0) = sumU b s.t + (if b.isPrefixOf k then n else 0) := by
  unfold PS.setAmt amtV
  by_cases h0 : n = 0
  · rw [if_pos h0]
    unfold PS.del
    by_cases hg : getP s.t k = none
    · rw [if_pos hg]
      have : valF (getP s.t) k = [] := by unfold valF; rw [hg]; rfl
      rw [this, amtF_nil, h0]
    · rw [if_neg hg]
      have := sumU_del b hu k
      show sumU b (delP s.t k) + _ = _
      rw [this, h0]
      split <;> rfl
  · rw [if_neg h0]
    unfold PS.set
    by_cases hg : getP s.t k = some (amtB n)
    · rw [if_pos (.inr hg)]
      have : valF (getP s.t) k = amtB n := by unfold valF; rw [hg]; rfl
      rw [this, amtF_B hn]
    · rw [if_neg (by rintro (e | e); exact hk e; exact hg e)]
      have := sumU_ins b hu k (amtB n)
      rw [amtF_B hn] at this
      exact this
theorem sumU_ge {t : Tab} {b k : Txt} (hu : Up t) (hb : b.isPrefixOf k = true) : amtV (getP t) k ≤ sumU b t := by
  have := sumU_del b hu k
  rw [if_pos hb] at this
  unfold amtV
  omega
theorem up_setAmt {s : PS} (hu : Up s.t) (k : Txt) (n : Nat) : Up (s.setAmt k n).t := by
  unfold PS.setAmt PS.del PS.set
  split
  · split
    · exact hu
    · exact (up_lay hu k [] false : Up (layP s.t k [] false))
  · split
    · exact hu
    · exact (up_lay hu k (amtB n) true : Up (layP s.t k (amtB n) true))
/-- What stands at a key that an amount was set at. -/
theorem valF_setAmt (s : PS) (k q : Txt) {n : Nat} (hk : k ≠ []) : valF (getP (s.setAmt k n).t) q = if k = q then (if n = 0 then [] else amtB n) else valF (getP s.t) q := by
  unfold PS.setAmt
  by_cases h0 : n = 0
  · rw [if_pos h0, if_pos h0, valF_del]
  · rw [if_neg h0, if_neg h0, valF_set]
    by_cases h : k = q
    · rw [if_pos ⟨h, hk⟩, if_pos h]
    · rw [if_neg (fun e => h e.1), if_neg h]
/-- Keys of a table whose first number is another do not begin so. -/
theorem key_begins {t : Int} {i : Int} {l : List Int} (h1 : 1 ≤ t) (h2 : t ≤ 255) (hi : 0 ≤ i) (hl : ∀ x ∈ l, 0 ≤ x) : (keyF t [i]).isPrefixOf (keyF t (i :: l)) = true := by
  rw [keyF_good h1 h2 (fun x hx => by rw [List.mem_singleton.1 hx]; exact hi), keyF_good h1 h2 (fun x hx => by rcases List.mem_cons.1 hx with rfl | hx; exact hi; exact hl x hx), List.isPrefixOf_iff_prefix]
  rw [List.flatMap_cons, List.flatMap_cons, List.flatMap_nil, List.append_nil]
  exact ⟨l.flatMap numL, by simp⟩
theorem key_other {t u : Int} {i j : Int} {l : List Int} (h1 : 1 ≤ t) (h2 : t ≤ 255) (h3 : 1 ≤ u) (h4 : u ≤ 255) (hi : 0 ≤ i ∧ i < 9223372036854775808) (hj : 0 ≤ j ∧ j < 9223372036854775808) (hl : ∀ x ∈ l, 0 ≤ x) (h : t ≠ u ∨ i ≠ j) : (keyF t [i]).isPrefixOf (keyF u (j :: l)) = false := by
  rw [Bool.eq_false_iff]
  intro e
  rw [keyF_good h1 h2 (fun x hx => by rw [List.mem_singleton.1 hx]; exact hi.1), keyF_good h3 h4 (fun x hx => by rcases List.mem_cons.1 hx with rfl | hx; exact hj.1; exact hl x hx), List.isPrefixOf_iff_prefix, List.flatMap_cons, List.flatMap_cons, List.flatMap_nil, List.append_nil] at e
  obtain ⟨r, hr⟩ := e
  rw [List.cons_append] at hr
  obtain ⟨e1, e2⟩ := List.cons.inj hr
  rcases h with h | h
  · apply h
    have := congrArg UInt8.toNat e1
    rw [UInt8.toNat_ofNat', UInt8.toNat_ofNat'] at this
    omega
  · apply h
    have e3 := congrArg (List.take 8) e2
    rw [List.take_append_of_le_length (by rw [numL_length]; omega), List.take_append_of_le_length (by rw [numL_length]; omega), List.take_of_length_le (by rw [numL_length]; omega), List.take_of_length_le (by rw [numL_length]; omega)] at e3
    have k1 := rowF_numL hi.1 hi.2
    have k2 := rowF_numL hj.1 hj.2
    rw [e3, k2] at k1
    exact (List.cons.inj k1).1.symm
end Go.Proofs.Yteaigmoldlbjdaa
