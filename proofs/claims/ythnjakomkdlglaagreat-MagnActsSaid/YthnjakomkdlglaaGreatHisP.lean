/- Plain law of histories: the checkpoints that a store holds. No condition. -/
import Derived.Test.YthnjakomkdlglaaGreatHisA
namespace Go.Proofs.YthnjakomkdlglaaGreat
open Go.RowKit

/-- How many checkpoints there are up to a block. -/
structure AtK (f : Txt → Option Txt) (t : Int) (ids : List Int) (bk : Int) (k : Int) : Prop where
  lo : 0 ≤ k
  hi : k ≤ getI f (keyF t ids)
  below : ∀ i, 0 ≤ i → i < k → ptB (valF f (keyF t (ids ++ [i]))) ≤ bk
  above : ∀ i, k ≤ i → i < getI f (keyF t ids) → bk < ptB (valF f (keyF t (ids ++ [i])))
def Rises (f : Txt → Option Txt) (t : Int) (ids : List Int) : Prop := ∀ i j, 0 ≤ i → i ≤ j → j < getI f (keyF t ids) → ptB (valF f (keyF t (ids ++ [i]))) ≤ ptB (valF f (keyF t (ids ++ [j])))
def hpushE (f : Txt → Option Txt) (t : Int) (ids : List Int) (bk : Int) : Int :=
  if keyF t ids = [] ∨ bk < 0 ∨ 1099511627776 < bk then 2
  else if 0 < getI f (keyF t ids) ∧ bk < ptB (valF f (keyF t (ids ++ [getI f (keyF t ids) - 1]))) then 10 else 0
def hputS (s : PS) (t : Int) (ids : List Int) (bk : Int) (m : Nat) (n : Int) : PS := s.set (keyF t (ids ++ [n])) (ptTxt bk m)
def hnewS (s : PS) (t : Int) (ids : List Int) (bk : Int) (m : Nat) : PS := hputS (s.setInt (keyF t ids) (getI (getP s.t) (keyF t ids) + 1)) t ids bk m (getI (getP s.t) (keyF t ids))
def hpushS (s : PS) (t : Int) (ids : List Int) (bk : Int) (m : Nat) : PS :=
  if hpushE (getP s.t) t ids bk = 0 then
    if 0 < getI (getP s.t) (keyF t ids) then
      if bk = ptB (valF (getP s.t) (keyF t (ids ++ [getI (getP s.t) (keyF t ids) - 1]))) then hputS s t ids bk m (getI (getP s.t) (keyF t ids) - 1)
      else if m = ptN (valF (getP s.t) (keyF t (ids ++ [getI (getP s.t) (keyF t ids) - 1]))) then s
      else hnewS s t ids bk m
    else hnewS s t ids bk m
  else s
theorem sz_hput (s : PS) (t : Int) (ids : List Int) (bk : Int) (m : Nat) (n : Int) : (hputS s t ids bk m n).sz ≤ s.sz + 2 := sz_set _ _ _
theorem sz_hnew (s : PS) (t : Int) (ids : List Int) (bk : Int) (m : Nat) : (hnewS s t ids bk m).sz ≤ s.sz + 4 := by
  unfold hnewS
  have h1 := sz_hput (s.setInt (keyF t ids) (getI (getP s.t) (keyF t ids) + 1)) t ids bk m (getI (getP s.t) (keyF t ids))
  have h2 := sz_setInt s (keyF t ids) (getI (getP s.t) (keyF t ids) + 1)
  omega
theorem sz_hpush (s : PS) (t : Int) (ids : List Int) (bk : Int) (m : Nat) : (hpushS s t ids bk m).sz ≤ s.sz + 4 := by
  unfold hpushS
  have h1 := sz_hput s t ids bk m (getI (getP s.t) (keyF t ids) - 1)
  have h2 := sz_hnew s t ids bk m
  split
  · split
    · split
      · omega
      · split <;> omega
    · omega
  · omega
theorem Fit.hput {s : PS} (h : Fit s) (t : Int) (ids : List Int) (bk : Int) (m : Nat) (n : Int) : Fit (hputS s t ids bk m n) := h.set _ (by rw [ptTxt_length]; omega)
theorem Fit.hpush {s : PS} (h : Fit s) (t : Int) (ids : List Int) (bk : Int) (m : Nat) : Fit (hpushS s t ids bk m) := by
  have h1 := h.hput t ids bk m (getI (getP s.t) (keyF t ids) - 1)
  have h2 : Fit (hnewS s t ids bk m) := (h.setInt _ _).hput _ _ _ _ _
  unfold hpushS
  split
  · split
    · split
      · exact h1
      · split
        · exact h
        · exact h2
    · exact h2
  · exact h

/-! ### keys -/
/-- A table and numbers that make a key. -/
def KeyOk (t : Int) (ids : List Int) : Prop := 1 ≤ t ∧ t ≤ 255 ∧ ∀ x ∈ ids, 0 ≤ x ∧ x < 9223372036854775808
theorem KeyOk.eq {t : Int} {ids : List Int} (h : KeyOk t ids) : keyF t ids = UInt8.ofNat t.toNat :: ids.flatMap numL := keyF_good h.1 h.2.1 fun x hx => (h.2.2 x hx).1
theorem KeyOk.ne {t : Int} {ids : List Int} (h : KeyOk t ids) : keyF t ids ≠ [] := by rw [h.eq]; simp
theorem KeyOk.snoc {t : Int} {ids : List Int} (h : KeyOk t ids) {n : Int} (h0 : 0 ≤ n) (h1 : n < 9223372036854775808) : KeyOk t (ids ++ [n]) := by
  refine ⟨h.1, h.2.1, fun x hx => ?_⟩
  rcases List.mem_append.1 hx with h2 | h2
  · exact h.2.2 x h2
  · rw [List.mem_singleton.1 h2]; exact ⟨h0, h1⟩
theorem KeyOk.inj {t : Int} {l m : List Int} (hl : KeyOk t l) (hm : KeyOk t m) (h : keyF t l = keyF t m) : l = m := by
  rw [hl.eq, hm.eq] at h
  have h2 := (List.cons.inj h).2
  have h3 := cnumsF_flat l hl.2.2
  rw [h2, cnumsF_flat m hm.2.2] at h3
  exact (Option.some.inj h3).symm
theorem KeyOk.apart {t : Int} {l m : List Int} (hl : KeyOk t l) (hm : KeyOk t m) (h : l ≠ m) : keyF t l ≠ keyF t m := fun e => h (hl.inj hm e)
theorem snoc_ne {l : List Int} {n : Int} : l ++ [n] ≠ l := by
  intro e; have := congrArg List.length e; simp at this
theorem snoc_inj {l : List Int} {n m : Int} (h : n ≠ m) : l ++ [n] ≠ l ++ [m] := by
  intro e; exact h (by simpa using List.append_cancel_left e)

/-! ### what a store holds -/
theorem getI_set {s : PS} {k v q : Txt} (h : k ≠ q) : getI (getP (s.set k v).t) q = getI (getP s.t) q := by
  unfold getI; rw [valF_set, if_neg fun e => h e.1]
theorem getI_setInt {s : PS} {k q : Txt} {n : Int} (hk : k ≠ []) (hn : 1 ≤ n) (hn2 : n < 9223372036854775808) : getI (getP (s.setInt k n).t) q = if k = q then n else getI (getP s.t) q := by
  unfold getI
  rw [valF_setInt s k q hk hn]
  by_cases h : k = q
  · rw [if_pos h, if_pos h, rowF_numL (by omega) hn2]; rfl
  · rw [if_neg h, if_neg h]

/-- Under (t, ids) stand the checkpoints H. -/
structure HisI (f : Txt → Option Txt) (t : Int) (ids : List Int) (H : List (Int × Nat)) : Prop where
  cnt : getI f (keyF t ids) = H.length
  pts : ∀ i (h : i < H.length), valF f (keyF t (ids ++ [(i : Int)])) = ptTxt H[i].1 H[i].2
  ok : ∀ p ∈ H, 0 ≤ p.1 ∧ p.1 ≤ 1099511627776 ∧ p.2 < uMax
  rise : H.Pairwise fun p q => p.1 < q.1
theorem HisI.none (t : Int) (ids : List Int) : HisI (fun _ => none) t ids [] where
  cnt := by unfold getI valF; rw [show rowF ((Option.none : Option Txt).getD []) = [] from rowF_nil]; rfl
  pts := fun i h => by cases h
  ok := fun p h => by cases h
  rise := List.Pairwise.nil
theorem HisI.new (t : Int) (ids : List Int) : HisI (getP PS.new.t) t ids [] := HisI.none t ids
theorem HisI.blk {f : Txt → Option Txt} {t : Int} {ids : List Int} {H : List (Int × Nat)} (h : HisI f t ids H) {i : Nat} (hi : i < H.length) : ptB (valF f (keyF t (ids ++ [(i : Int)]))) = H[i].1 := by
  have := h.ok H[i] (List.getElem_mem hi)
  rw [h.pts i hi, ptB_txt _ this.1 (by omega)]
theorem HisI.amt {f : Txt → Option Txt} {t : Int} {ids : List Int} {H : List (Int × Nat)} (h : HisI f t ids H) {i : Nat} (hi : i < H.length) : ptN (valF f (keyF t (ids ++ [(i : Int)]))) = H[i].2 := by
  have := h.ok H[i] (List.getElem_mem hi)
  rw [h.pts i hi, ptN_txt this.1 (by omega) this.2.2]
theorem HisI.le {f : Txt → Option Txt} {t : Int} {ids : List Int} {H : List (Int × Nat)} (h : HisI f t ids H) {i j : Nat} (hij : i ≤ j) (hj : j < H.length) : (H[i]'(by omega)).1 ≤ H[j].1 := by
  by_cases e : i = j
  · subst e; exact Int.le_refl _
  · exact Int.le_of_lt (List.pairwise_iff_getElem.1 h.rise i j (by omega) hj (by omega))
theorem HisI.rises {f : Txt → Option Txt} {t : Int} {ids : List Int} {H : List (Int × Nat)} (h : HisI f t ids H) : Rises f t ids := by
  intro i j h0 hij hj
  rw [h.cnt] at hj
  obtain ⟨i, rfl⟩ : ∃ k : Nat, i = k := ⟨i.toNat, by omega⟩
  obtain ⟨j, rfl⟩ : ∃ k : Nat, j = k := ⟨j.toNat, by omega⟩
  rw [h.blk (by omega), h.blk (by omega)]
  exact h.le (by omega) (by omega)
/-- The last checkpoint up to a block. -/
def lookH (H : List (Int × Nat)) (bk : Int) : Option (Int × Nat) := (H.filter fun p => decide (p.1 ≤ bk)).getLast?
theorem HisI.look {f : Txt → Option Txt} {t : Int} {ids : List Int} {H : List (Int × Nat)} (h : HisI f t ids H) {bk k : Int} (hk : AtK f t ids bk k) :
    (if k = 0 then 0 else ptN (valF f (keyF t (ids ++ [k - 1])))) = ((lookH H bk).map (·.2)).getD 0 ∧ decide (k ≠ 0) = (lookH H bk).isSome := by
  have hlo := hk.lo
  obtain ⟨k, rfl⟩ : ∃ n : Nat, k = n := ⟨k.toNat, by omega⟩
  have hkl : k ≤ H.length := by have := hk.hi; rw [h.cnt] at this; omega
  have e1 : (H.take k).filter (fun p => decide (p.1 ≤ bk)) = H.take k := by
    rw [List.filter_eq_self]
    intro p hp
    obtain ⟨i, hi, rfl⟩ := List.getElem_of_mem hp
    rw [List.length_take] at hi
    have := hk.below i (by omega) (by omega)
    rw [h.blk (by omega)] at this
    rw [List.getElem_take]
    exact decide_eq_true this
  have e2 : (H.drop k).filter (fun p => decide (p.1 ≤ bk)) = [] := by
    rw [List.filter_eq_nil_iff]
    intro p hp
    obtain ⟨i, hi, rfl⟩ := List.getElem_of_mem hp
    rw [List.length_drop] at hi
    have := hk.above ((k + i : Nat) : Int) (by omega) (by rw [h.cnt]; omega)
    rw [h.blk (by omega)] at this
    rw [List.getElem_drop]
    simp only [decide_eq_true_eq]
    omega
  have e3 : lookH H bk = (H.take k).getLast? := by
    unfold lookH
    rw [show H.filter (fun p => decide (p.1 ≤ bk)) = (H.take k ++ H.drop k).filter (fun p => decide (p.1 ≤ bk)) by rw [List.take_append_drop], List.filter_append, e1, e2, List.append_nil]
  rw [e3]
  by_cases h0 : k = 0
  · subst h0; simp
  · have h1 : (H.take k).getLast? = some (H[k - 1]'(by omega)) := by
      rw [List.getLast?_eq_getElem?, List.length_take, Nat.min_eq_left hkl, List.getElem?_take, if_pos (by omega), List.getElem?_eq_getElem]
    rw [h1, if_neg (by omega)]
    have h2 := h.amt (i := k - 1) (by omega)
    rw [show ((k - 1 : Nat) : Int) = (k : Int) - 1 by omega] at h2
    rw [h2]
    exact ⟨rfl, by rw [decide_eq_true (by omega)]; rfl⟩

/-! ### one more -/
def hisE (H : List (Int × Nat)) (bk : Int) : Int := if bk < 0 ∨ 1099511627776 < bk then 2 else match H.getLast? with
  | some p => if bk < p.1 then 10 else 0
  | none => 0
def hisS (H : List (Int × Nat)) (bk : Int) (m : Nat) : List (Int × Nat) := if hisE H bk = 0 then match H.getLast? with
  | none => [(bk, m)]
  | some p => if bk = p.1 then H.dropLast ++ [(bk, m)] else if m = p.2 then H else H ++ [(bk, m)]
  else H
theorem last_of {α : Type} {H : List α} (h : 0 < H.length) : H.getLast? = some (H[H.length - 1]'(by omega)) := by
  rw [List.getLast?_eq_getElem?, List.getElem?_eq_getElem]
theorem HisI.pushE {f : Txt → Option Txt} {t : Int} {ids : List Int} {H : List (Int × Nat)} (h : HisI f t ids H) (hk : KeyOk t ids) (bk : Int) : hpushE f t ids bk = hisE H bk := by
  unfold hpushE hisE
  by_cases hb : bk < 0 ∨ 1099511627776 < bk
  · rw [if_pos (.inr hb), if_pos hb]
  · rw [if_neg (by rintro (e | e); exact hk.ne e; exact hb e), if_neg hb, h.cnt]
    by_cases h0 : 0 < H.length
    · rw [last_of h0]
      have h2 := h.blk (i := H.length - 1) (by omega)
      rw [show ((H.length - 1 : Nat) : Int) = (H.length : Int) - 1 by omega] at h2
      rw [h2]
      simp only
      by_cases h3 : bk < H[H.length - 1].1
      · rw [if_pos ⟨by omega, h3⟩, if_pos h3]
      · rw [if_neg fun e => h3 e.2, if_neg h3]
    · have : H = [] := List.length_eq_zero_iff.1 (by omega)
      subst this
      rw [if_neg (by simp)]; rfl
/-- A checkpoint more. -/
theorem HisI.put_new {s : PS} {t : Int} {ids : List Int} {H : List (Int × Nat)} (h : HisI (getP s.t) t ids H) (hk : KeyOk t ids) (hn : H.length < 1000000000) {bk : Int} {m : Nat} (hb : 0 ≤ bk ∧ bk ≤ 1099511627776) (hm : m < uMax) (hl : ∀ p ∈ H, p.1 < bk) :
    HisI (getP (hnewS s t ids bk m).t) t ids (H ++ [(bk, m)]) := by
  unfold hnewS hputS
  rw [h.cnt]
  have hkA := fun i : Nat => fun h1 : i ≤ H.length => hk.snoc (n := (i : Int)) (by omega) (by omega)
  refine ⟨?_, ?_, ?_, ?_⟩
  · rw [getI_set ((hkA H.length (Nat.le_refl _)).apart hk snoc_ne), getI_setInt hk.ne (by omega) (by omega), if_pos rfl]; simp
  · intro i hi
    rw [List.length_append, List.length_singleton] at hi
    rw [valF_set]
    by_cases e : i = H.length
    · subst e
      rw [if_pos ⟨rfl, (hkA _ (Nat.le_refl _)).ne⟩]; simp
    · rw [if_neg fun e2 => (hkA H.length (Nat.le_refl _)).apart (hkA i (by omega)) (snoc_inj (by omega)) e2.1, valF_setInt _ _ _ hk.ne (by omega), if_neg (hk.apart (hkA i (by omega)) (fun e3 => snoc_ne e3.symm)), h.pts i (by omega), List.getElem_append_left (by omega)]
  · intro p hp
    rcases List.mem_append.1 hp with hp | hp
    · exact h.ok p hp
    · rw [List.mem_singleton.1 hp]; exact ⟨hb.1, hb.2, hm⟩
  · rw [List.pairwise_append]
    refine ⟨h.rise, List.pairwise_singleton _ _, fun p hp q hq => ?_⟩
    rw [List.mem_singleton.1 hq]; exact hl p hp
/-- The last checkpoint is another one. -/
theorem HisI.put_last {s : PS} {t : Int} {ids : List Int} {H : List (Int × Nat)} (h : HisI (getP s.t) t ids H) (hk : KeyOk t ids) (hn : H.length < 1000000000) (h0 : 0 < H.length) {bk : Int} {m : Nat} (hb : bk = (H[H.length - 1]'(by omega)).1) (hm : m < uMax) :
    HisI (getP (hputS s t ids bk m (H.length - 1)).t) t ids (H.dropLast ++ [(bk, m)]) := by
  unfold hputS
  have hkA := fun i : Nat => fun h1 : i ≤ H.length => hk.snoc (n := (i : Int)) (by omega) (by omega)
  have ec : (H.length : Int) - 1 = ((H.length - 1 : Nat) : Int) := by omega
  rw [ec]
  have hdl : H.dropLast.length = H.length - 1 := List.length_dropLast
  refine ⟨?_, ?_, ?_, ?_⟩
  · rw [getI_set ((hkA (H.length - 1) (by omega)).apart hk snoc_ne), h.cnt, List.length_append, hdl, List.length_singleton]; omega
  · intro i hi
    rw [List.length_append, List.length_singleton, hdl] at hi
    rw [valF_set]
    by_cases e : i = H.length - 1
    · subst e
      rw [if_pos ⟨rfl, (hkA _ (by omega)).ne⟩, List.getElem_append_right (by omega)]; simp
    · rw [if_neg fun e2 => (hkA (H.length - 1) (by omega)).apart (hkA i (by omega)) (snoc_inj (by omega)) e2.1, h.pts i (by omega), List.getElem_append_left (by omega), List.getElem_dropLast]
  · intro p hp
    rcases List.mem_append.1 hp with hp | hp
    · exact h.ok p (List.dropLast_subset _ hp)
    · rw [List.mem_singleton.1 hp]
      have := h.ok _ (List.getElem_mem (show H.length - 1 < H.length by omega))
      exact ⟨by rw [hb]; exact this.1, by rw [hb]; exact this.2.1, hm⟩
  · rw [List.pairwise_append]
    refine ⟨h.rise.sublist (List.dropLast_sublist _), List.pairwise_singleton _ _, fun p hp q hq => ?_⟩
    rw [List.mem_singleton.1 hq]
    obtain ⟨i, hi, rfl⟩ := List.getElem_of_mem hp
    rw [hdl] at hi
    rw [List.getElem_dropLast]
    show H[i].1 < bk
    rw [hb]
    exact List.pairwise_iff_getElem.1 h.rise i (H.length - 1) (by omega) (by omega) (by omega)
theorem HisI.push {s : PS} {t : Int} {ids : List Int} {H : List (Int × Nat)} (h : HisI (getP s.t) t ids H) (hk : KeyOk t ids) (hn : H.length < 1000000000) (bk : Int) {m : Nat} (hm : m < uMax) :
    HisI (getP (hpushS s t ids bk m).t) t ids (hisS H bk m) := by
  have hE := h.pushE hk bk
  unfold hpushS hisS
  rw [hE]
  by_cases h0 : hisE H bk = 0
  · have hb : 0 ≤ bk ∧ bk ≤ 1099511627776 := by
      unfold hisE at h0
      split at h0
      · cases h0
      · omega
    rw [if_pos h0, if_pos h0]
    by_cases hl : 0 < H.length
    · have h2 := h.blk (i := H.length - 1) (by omega)
      have h3 := h.amt (i := H.length - 1) (by omega)
      rw [show ((H.length - 1 : Nat) : Int) = (H.length : Int) - 1 by omega] at h2 h3
      rw [h.cnt, h2, h3, if_pos (by omega), last_of hl]
      simp only
      by_cases h4 : bk = H[H.length - 1].1
      · rw [if_pos h4, if_pos h4]
        exact h.put_last hk hn hl h4 hm
      · rw [if_neg h4, if_neg h4]
        by_cases h5 : m = H[H.length - 1].2
        · rw [if_pos h5, if_pos h5]; exact h
        · rw [if_neg h5, if_neg h5]
          refine h.put_new hk hn hb hm fun p hp => ?_
          obtain ⟨i, hi, rfl⟩ := List.getElem_of_mem hp
          have h6 := h.le (i := i) (j := H.length - 1) (by omega) (by omega)
          have h7 : ¬ bk < H[H.length - 1].1 := by
            intro h8
            unfold hisE at h0
            rw [if_neg (by omega), last_of hl] at h0
            simp only at h0
            rw [if_pos h8] at h0
            cases h0
          omega
    · have : H = [] := List.length_eq_zero_iff.1 (by omega)
      subst this
      rw [h.cnt, if_neg (by simp)]
      exact h.put_new hk hn hb hm fun p hp => by cases hp
  · rw [if_neg h0, if_neg h0]; exact h
theorem hisS_len (H : List (Int × Nat)) (bk : Int) (m : Nat) : (hisS H bk m).length ≤ H.length + 1 := by
  unfold hisS
  split
  · split
    · simp
    · split
      · rw [List.length_append, List.length_dropLast, List.length_singleton]; omega
      · split
        · omega
        · simp
  · omega
/-- What stands elsewhere stays. -/
theorem hpush_other {s : PS} {t : Int} {ids : List Int} {bk : Int} {m : Nat} {q : Txt} (h1 : q ≠ keyF t ids) (h2 : ∀ i, q ≠ keyF t (ids ++ [i])) (hn : getI (getP s.t) (keyF t ids) < 9223372036854775000) : getP (hpushS s t ids bk m).t q = getP s.t q := by
  have hp : ∀ (u : PS) n, getP (hputS u t ids bk m n).t q = getP u.t q := fun u n => by
    unfold hputS; rw [getP_set, if_neg fun e => h2 n e.1.symm]
  have hnw : getP (hnewS s t ids bk m).t q = getP s.t q := by
    unfold hnewS
    rw [hp]
    unfold PS.setInt
    have hb := getI_bound (getP s.t) (keyF t ids)
    rw [if_neg (by omega), getP_set, if_neg fun e => h1 e.1.symm]
  unfold hpushS
  split
  · split
    · split
      · exact hp _ _
      · split
        · rfl
        · exact hnw
    · exact hnw
  · rfl
end Go.Proofs.YthnjakomkdlglaaGreat
