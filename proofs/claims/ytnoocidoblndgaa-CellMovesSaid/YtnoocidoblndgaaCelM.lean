/- Chapter 10: CellMoves: the plain law (moves leave the sum of all). No condition. -/
import Derived.Test.YtnoocidoblndgaaCelF
namespace Go.Proofs.Ytnoocidoblndgaa
open Go.RowKit

/-- The sum of the amounts under the law's first keys. -/
def sumK (f : Txt → Option Txt) : Nat → Nat
  | 0 => 0
  | j + 1 => sumK f j + amtV f (ckey (j : Int))
theorem sumK_set {f f' : Txt → Option Txt} {k m : Nat} (hk : k < 10) (h : ∀ q : Nat, q < 10 → amtV f' (ckey q) = if k = q then m else amtV f (ckey q)) :
    ∀ j : Nat, j ≤ 10 → sumK f' j + (if k < j then amtV f (ckey k) else 0) = sumK f j + (if k < j then m else 0)
  | 0, _ => rfl
  | j + 1, hj => by
    have ih := sumK_set hk h j (by omega)
    have hq := h j (by omega)
    unfold sumK
    rw [hq]
    by_cases e : k = j
    · subst e
      rw [if_neg (by omega), if_neg (by omega)] at ih
      rw [if_pos rfl, if_pos (Nat.lt_succ_self _), if_pos (Nat.lt_succ_self _)]
      omega
    · rw [if_neg e]
      by_cases hl : k < j
      · rw [if_pos hl, if_pos hl] at ih
        rw [if_pos (by omega), if_pos (by omega)]
        omega
      · rw [if_neg hl, if_neg hl] at ih
        rw [if_neg (by omega), if_neg (by omega)]
        omega
theorem sumK_le {f : Txt → Option Txt} (h : ∀ q : Nat, q < 10 → amtV f (ckey q) < uHalf) : ∀ j : Nat, j ≤ 10 → sumK f j ≤ j * 340282366920938463463374607431768211456
  | 0, _ => Nat.le_refl _
  | j + 1, hj => by
    have ih := sumK_le h j (by omega)
    have := h j (by omega)
    unfold sumK
    unfold uHalf at this
    omega
theorem ckeyN_ne {k : Nat} (h : k < 10) : ckey (k : Int) ≠ [] := ckey_ne (by omega) (by omega)
theorem ckeyN_inj {k q : Nat} (h : k < 10) (h' : q < 10) : ckey (k : Int) = ckey (q : Int) ↔ k = q :=
  ⟨fun e => by have := ckey_inj (by omega) (by omega) (by omega) (by omega) e; omega, fun e => by rw [e]⟩
theorem amtV_setN (s : PS) {k m : Nat} (hk : k < 10) (hm : m < uMax) (q : Nat) (hq : q < 10) : amtV (getP (s.setAmt (ckey k) m).t) (ckey q) = if k = q then m else amtV (getP s.t) (ckey q) := by
  rw [amtV_setAmt _ _ _ (ckeyN_ne hk) hm]
  by_cases e : k = q
  · rw [if_pos e, if_pos (by rw [e])]
  · rw [if_neg e, if_neg fun h => e ((ckeyN_inj hk hq).1 h)]
/-- What the store is like while it is filled. -/
structure Fill (s : PS) (i : Nat) (acc : Nat) : Prop where
  fit : Fit s
  sz : s.sz ≤ 2 * i
  lt : ∀ q : Nat, q < 10 → amtV (getP s.t) (ckey q) < uHalf
  none : ∀ q : Nat, q < 10 → i ≤ q → amtV (getP s.t) (ckey q) = 0
  sum : sumK (getP s.t) 10 = acc
theorem sumK_new : ∀ j, sumK (getP PS.new.t) j = 0
  | 0 => rfl
  | j + 1 => by unfold sumK; rw [sumK_new j]; rfl
theorem Fill.new : Fill PS.new 0 0 := ⟨Fit.new, Nat.le_refl _, fun _ _ => by show amtF [] < uHalf; decide, fun _ _ _ => rfl, sumK_new 10⟩
theorem Fill.le {s : PS} {i acc : Nat} (h : Fill s i acc) : acc < uMax - uHalf := by
  have := sumK_le h.lt 10 (by omega)
  rw [h.sum] at this
  unfold uMax uHalf
  omega
theorem Fill.next {s : PS} {i acc m : Nat} (h : Fill s i acc) (hi : i < 10) (hm : m < uHalf) : Fill (s.setAmt (ckey i) m) (i + 1) (acc + m) := by
  have hm' : m < uMax := by unfold uMax; unfold uHalf at hm; omega
  refine ⟨h.fit.setAmt _ _, ?_, ?_, ?_, ?_⟩
  · have := sz_setAmt s (ckey i) m; have := h.sz; omega
  · intro q hq
    rw [amtV_setN s hi hm' q hq]
    split
    · exact hm
    · exact h.lt q hq
  · intro q hq hiq
    rw [amtV_setN s hi hm' q hq, if_neg (by omega)]
    exact h.none q hq (by omega)
  · have := sumK_set (f := getP s.t) (f' := getP (s.setAmt (ckey i) m).t) hi (fun q hq => amtV_setN s hi hm' q hq) 10 (Nat.le_refl _)
    rw [if_pos hi, if_pos hi, h.none i hi (Nat.le_refl _), h.sum] at this
    omega
/-- What the store is like while amounts are moved. -/
structure Hold (s : PS) (i : Nat) (acc : Nat) : Prop where
  fit : Fit s
  sz : s.sz ≤ 20 + 4 * i
  lt : ∀ q : Nat, q < 10 → amtV (getP s.t) (ckey q) < uHalf
  sum : sumK (getP s.t) 10 = acc
theorem Fill.hold {s : PS} {i acc : Nat} (h : Fill s i acc) (hi : i ≤ 10) : Hold s 0 acc := ⟨h.fit, by have := h.sz; omega, h.lt, h.sum⟩
theorem Hold.skip {s : PS} {i acc : Nat} (h : Hold s i acc) : Hold s (i + 1) acc := ⟨h.fit, by have := h.sz; omega, h.lt, h.sum⟩
theorem Hold.le {s : PS} {i acc : Nat} (h : Hold s i acc) (j : Nat) (hj : j ≤ 10) : sumK (getP s.t) j < uMax - uHalf := by
  have := sumK_le h.lt j hj
  unfold uMax uHalf
  omega
theorem move_stay {s : PS} {k q : Txt} {m : Nat} (h : moveE (getP s.t) k q m ≠ 0) : s.moveA k q m = s := by
  unfold PS.moveA; rw [if_neg fun e => h e.1]
theorem Hold.move {s : PS} {i acc m : Nat} (h : Hold s i acc) {a b : Int} (a0 : 0 ≤ a) (a9 : a ≤ 9) (b0 : 0 ≤ b) (b9 : b ≤ 9) : Hold (s.moveA (ckey a) (ckey b) m) (i + 1) acc := by
  obtain ⟨k, rfl⟩ : ∃ k : Nat, a = k := ⟨a.toNat, by omega⟩
  obtain ⟨q, rfl⟩ : ∃ k : Nat, b = k := ⟨b.toNat, by omega⟩
  have hk : k < 10 := by omega
  have hq : q < 10 := by omega
  by_cases hE : moveE (getP s.t) (ckey k) (ckey q) m = 0 ∧ ckey (k : Int) ≠ ckey (q : Int)
  · have hne : k ≠ q := fun e => hE.2 (by rw [e])
    have hm := hE.1
    unfold moveE at hm
    by_cases h1 : m ≤ amtV (getP s.t) (ckey k)
    · rw [if_neg (fun e => e h1), if_neg hE.2] at hm
      by_cases h2 : amtV (getP s.t) (ckey q) + m < uHalf
      · have h1' := h.lt k hk
        have hx : amtV (getP s.t) (ckey k) - m < uMax := by unfold uMax; unfold uHalf at h1'; omega
        have hy : amtV (getP s.t) (ckey q) + m < uMax := by unfold uMax; unfold uHalf at h2; omega
        have e1 := fun z hz => amtV_setN s (m := amtV (getP s.t) (ckey k) - m) hk hx z hz
        have e2 := fun z hz => amtV_setN (s.setAmt (ckey k) (amtV (getP s.t) (ckey k) - m)) (m := amtV (getP s.t) (ckey q) + m) hq hy z hz
        have s1 := sumK_set hk e1 10 (Nat.le_refl _)
        have s2 := sumK_set hq e2 10 (Nat.le_refl _)
        have e3 := e1 q hq
        rw [if_neg hne] at e3
        rw [if_pos hk, if_pos hk, h.sum] at s1
        rw [if_pos hq, if_pos hq, e3] at s2
        have hmv : s.moveA (ckey k) (ckey q) m = (s.setAmt (ckey k) (amtV (getP s.t) (ckey k) - m)).setAmt (ckey q) (amtV (getP s.t) (ckey q) + m) := by unfold PS.moveA; rw [if_pos hE]
        rw [hmv]
        refine ⟨(h.fit.setAmt _ _).setAmt _ _, ?_, ?_, by omega⟩
        · have z1 := sz_setAmt s (ckey k) (amtV (getP s.t) (ckey k) - m)
          have z2 := sz_setAmt (s.setAmt (ckey k) (amtV (getP s.t) (ckey k) - m)) (ckey q) (amtV (getP s.t) (ckey q) + m)
          have := h.sz
          omega
        · intro z hz
          rw [e2 z hz]
          split
          · exact h2
          · rw [e1 z hz]
            split
            · omega
            · exact h.lt z hz
      · rw [if_neg h2] at hm; cases hm
    · rw [if_pos h1] at hm; cases hm
  · have : s.moveA (ckey k) (ckey q) m = s := by unfold PS.moveA; rw [if_neg hE]
    rw [this]
    exact h.skip
end Go.Proofs.Ytnoocidoblndgaa
