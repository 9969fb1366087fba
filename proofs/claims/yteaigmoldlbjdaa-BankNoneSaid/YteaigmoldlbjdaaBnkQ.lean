/- Banks: what is minted and paid: plain. No condition. -/
import Derived.Test.YteaigmoldlbjdaaBnkP
namespace Go.Proofs.Yteaigmoldlbjdaa
open Go.RowKit

/-- The tables' keys. -/
def kAcc (t n : Int) : Txt := keyF 1 [t, n]
def kSup (t : Int) : Txt := keyF 2 [t]
def goodB (t n : Int) : Bool := decide ((1 ≤ t ∧ t ≤ 1000) ∧ (1 ≤ n ∧ n ≤ 4294967295))
theorem undo_same (s : PS) : s.undo s.past.length = s := by
  unfold PS.undo undoE
  rw [if_pos (by simp)]
  have : s.past.length - ((s.past.length : Int)).toNat = 0 := by omega
  rw [this]; rfl
/-- Mint: the store and the error behind it. -/
def mintE (s : PS) (t n : Int) (m : Nat) : Int :=
  if goodB t n = false ∨ ¬ m < uHalf then 2 else if addE (getP s.t) (kSup t) m ≠ 0 then addE (getP s.t) (kSup t) m else addE (getP (s.addA (kSup t) m).t) (kAcc t n) m
def PS.mint (s : PS) (t n : Int) (m : Nat) : PS :=
  if goodB t n = false ∨ ¬ m < uHalf then s else if addE (getP s.t) (kSup t) m ≠ 0 then s
  else if addE (getP (s.addA (kSup t) m).t) (kAcc t n) m ≠ 0 then ((s.addA (kSup t) m).addA (kAcc t n) m).undo s.past.length else (s.addA (kSup t) m).addA (kAcc t n) m
def payE (s : PS) (t a b : Int) (m : Nat) : Int := if goodB t a = false ∨ goodB t b = false then 2 else moveE (getP s.t) (kAcc t a) (kAcc t b) m
def PS.pay (s : PS) (t a b : Int) (m : Nat) : PS := if goodB t a = false ∨ goodB t b = false then s else s.moveA (kAcc t a) (kAcc t b) m
theorem addA_no {s : PS} {k : Txt} {m : Nat} (h : addE (getP s.t) k m ≠ 0) : s.addA k m = s := by
  unfold PS.addA
  by_cases hc : amtV (getP s.t) k + m < uHalf
  · exact absurd (by unfold addE; rw [if_pos hc]) h
  · rw [if_neg hc]
theorem addA_yes {s : PS} {k : Txt} {m : Nat} (h : addE (getP s.t) k m = 0) : amtV (getP s.t) k + m < uHalf ∧ s.addA k m = s.setAmt k (amtV (getP s.t) k + m) := by
  unfold addE at h
  by_cases hc : amtV (getP s.t) k + m < uHalf
  · exact ⟨hc, by unfold PS.addA; rw [if_pos hc]⟩
  · rw [if_neg hc] at h; cases h
theorem addE_of {f : Txt → Option Txt} {k : Txt} {m : Nat} (h : amtV f k + m < uHalf) : addE f k m = 0 := by unfold addE; rw [if_pos h]
theorem uHalf_max {n : Nat} (h : n < uHalf) : n < uMax := by unfold uHalf at h; unfold uMax; omega
theorem kAcc_ne {t n : Int} (ht : 0 ≤ t) (hn : 0 ≤ n) : kAcc t n ≠ [] := keyF_ne (by decide) (by decide) fun x hx => by
  simp only [List.mem_cons, List.not_mem_nil, or_false] at hx
  rcases hx with rfl | rfl
  · exact ht
  · exact hn
theorem kSup_ne {t : Int} (ht : 0 ≤ t) : kSup t ≠ [] := keyF_ne (by decide) (by decide) fun x hx => by rw [List.mem_singleton.1 hx]; exact ht
theorem acc_begins {t n : Int} (ht : 0 ≤ t) (hn : 0 ≤ n) : (keyF 1 [t]).isPrefixOf (kAcc t n) = true := key_begins (by decide) (by decide) ht fun x hx => by rw [List.mem_singleton.1 hx]; exact hn
theorem acc_other {u t t' n : Int} (h1 : 1 ≤ u) (h2 : u ≤ 255) (ht : 0 ≤ t ∧ t < 9223372036854775808) (ht' : 0 ≤ t' ∧ t' < 9223372036854775808) (hn : 0 ≤ n) (h : u ≠ 1 ∨ t ≠ t') : (keyF u [t]).isPrefixOf (kAcc t' n) = false :=
  key_other h1 h2 (by decide) (by decide) ht ht' (fun x hx => by rw [List.mem_singleton.1 hx]; exact hn) h
theorem sup_other {u t t' : Int} (h1 : 1 ≤ u) (h2 : u ≤ 255) (ht : 0 ≤ t ∧ t < 9223372036854775808) (ht' : 0 ≤ t' ∧ t' < 9223372036854775808) (h : u ≠ 2) : (keyF u [t]).isPrefixOf (kSup t') = false :=
  key_other h1 h2 (by decide) (by decide) ht ht' (fun x hx => by cases hx) (.inl h)
theorem sup_acc {t t' n : Int} (ht : 0 ≤ t) : kSup t ≠ kAcc t' n := keyF_apart (by decide) (by decide) (by decide) (by decide) (by decide) (kSup_ne ht)
theorem sup_inj {t t' : Int} (ht : 0 ≤ t ∧ t < 18446744073709551616) (ht' : 0 ≤ t' ∧ t' < 18446744073709551616) (h : kSup t = kSup t') : t = t' := keyF_inj (by decide) (by decide) ht.1 ht.2 ht'.1 ht'.2 h
/-- What the law keeps: m tells what was minted of the tokens 1 to 3. -/
structure Keeps (s : PS) (m : Int → Nat) (i : Nat) : Prop where
  fit : Fit s
  up : Up s.t
  sz : s.sz ≤ 8 * i
  sup : ∀ t, 1 ≤ t → t ≤ 3 → valF (getP s.t) (kSup t) = if m t = 0 then [] else amtB (m t)
  lt : ∀ t, 1 ≤ t → t ≤ 3 → m t < uHalf
  acc : ∀ t, 1 ≤ t → t ≤ 3 → sumU (keyF 1 [t]) s.t = m t
  oth : ∀ u t, 1 ≤ t → t ≤ 3 → u = 3 ∨ u = 4 ∨ u = 6 → sumU (keyF u [t]) s.t = 0
theorem sumU_nil (b : Txt) : sumU b [] = 0 := rfl
theorem Keeps.new : Keeps PS.new (fun _ => 0) 0 := ⟨Fit.new, List.Pairwise.nil, Nat.le_refl _, fun _ _ _ => rfl, fun _ _ _ => by show 0 < uHalf; decide, fun _ _ _ => rfl, fun _ _ _ _ _ => rfl⟩
theorem Keeps.skip {s : PS} {m : Int → Nat} {i : Nat} (h : Keeps s m i) : Keeps s m (i + 1) := ⟨h.fit, h.up, by have := h.sz; omega, h.sup, h.lt, h.acc, h.oth⟩
theorem Keeps.supply {s : PS} {m : Int → Nat} {i : Nat} (h : Keeps s m i) {t : Int} (h1 : 1 ≤ t) (h3 : t ≤ 3) : amtV (getP s.t) (kSup t) = m t := by
  unfold amtV
  rw [h.sup t h1 h3]
  by_cases h0 : m t = 0
  · rw [if_pos h0, amtF_nil, h0]
  · rw [if_neg h0, amtF_B (uHalf_max (h.lt t h1 h3))]
/-- An amount of an account is set. -/
theorem sumU_acc {s : PS} (hu : Up s.t) {t n : Int} (ht : 0 ≤ t ∧ t < 9223372036854775808) (hn : 0 ≤ n) {x : Nat} (hx : x < uMax) {u t' : Int} (h1 : 1 ≤ u) (h2 : u ≤ 255) (ht' : 0 ≤ t' ∧ t' < 9223372036854775808) :
    sumU (keyF u [t']) (s.setAmt (kAcc t n) x).t + (if u = 1 ∧ t' = t then amtV (getP s.t) (kAcc t n) else 0) = sumU (keyF u [t']) s.t + (if u = 1 ∧ t' = t then x else 0) := by
  have := sumU_setAmt (keyF u [t']) hu (kAcc t n) (kAcc_ne ht.1 hn) hx
  by_cases h : u = 1 ∧ t' = t
  · obtain ⟨rfl, rfl⟩ := h
    rw [acc_begins ht.1 hn] at this
    simpa using this
  · rw [acc_other h1 h2 ht' ht hn (by by_cases e : u = 1; exact .inr fun e2 => h ⟨e, e2⟩; exact .inl e)] at this
    rw [if_neg h, if_neg h]
    simpa using this
theorem sumU_sup {s : PS} (hu : Up s.t) {t : Int} (ht : 0 ≤ t ∧ t < 9223372036854775808) {x : Nat} (hx : x < uMax) {u t' : Int} (h1 : 1 ≤ u) (h2 : u ≤ 255) (ht' : 0 ≤ t' ∧ t' < 9223372036854775808) (h : u ≠ 2) :
    sumU (keyF u [t']) (s.setAmt (kSup t) x).t = sumU (keyF u [t']) s.t := by
  have := sumU_setAmt (keyF u [t']) hu (kSup t) (kSup_ne ht.1) hx
  rw [sup_other h1 h2 ht' ht h] at this
  simpa using this
theorem goodB_of {t n : Int} (h : ¬ (goodB t n = false)) : (1 ≤ t ∧ t ≤ 1000) ∧ (1 ≤ n ∧ n ≤ 4294967295) := by
  have : goodB t n = true := by cases hb : goodB t n; exact absurd hb h; rfl
  exact of_decide_eq_true this
theorem sz_mint (s : PS) (t n : Int) (m : Nat) (h : mintE s t n m = 0 ∨ s.mint t n m = s) : (s.mint t n m).sz ≤ s.sz + 4 := by
  rcases h with h | h
  · unfold PS.mint
    unfold mintE at h
    split
    · omega
    · rename_i h0
      rw [if_neg h0] at h
      split
      · omega
      · rename_i h1
        rw [if_neg h1] at h
        rw [if_neg (fun e => e h)]
        have a1 := sz_addA s (kSup t) m
        have a2 := sz_addA (s.addA (kSup t) m) (kAcc t n) m
        omega
  · rw [h]; omega
/-- What is minted is counted, or nothing changes. -/
theorem Keeps.mint {s : PS} {m : Int → Nat} {i : Nat} (h : Keeps s m i) {t n : Int} (h1 : 1 ≤ t) (h3 : t ≤ 3) {x : Nat} :
    (mintE s t n x = 0 ∧ m t + x < uHalf ∧ Keeps (s.mint t n x) (fun u => if u = t then m t + x else m u) (i + 1)) ∨ (mintE s t n x ≠ 0 ∧ s.mint t n x = s) := by
  by_cases hg : goodB t n = false ∨ ¬ x < uHalf
  · right
    refine ⟨by unfold mintE; rw [if_pos hg]; decide, by unfold PS.mint; rw [if_pos hg]⟩
  by_cases he : addE (getP s.t) (kSup t) x ≠ 0
  · right
    refine ⟨by unfold mintE; rw [if_neg hg, if_pos he]; exact he, by unfold PS.mint; rw [if_neg hg, if_pos he]⟩
  left
  have hgd := goodB_of (t := t) (n := n) fun e => hg (.inl e)
  have he0 : addE (getP s.t) (kSup t) x = 0 := Classical.not_not.1 he
  obtain ⟨hlt, hs1⟩ := addA_yes he0
  rw [h.supply h1 h3] at hlt hs1
  have ht : 0 ≤ t ∧ t < 9223372036854775808 := by omega
  have hn : 0 ≤ n := by omega
  have hu1 : Up (s.setAmt (kSup t) (m t + x)).t := up_setAmt h.up _ _
  have hmx := uHalf_max hlt
  have hle : amtV (getP (s.setAmt (kSup t) (m t + x)).t) (kAcc t n) ≤ m t := by
    have h8 := sumU_ge hu1 (acc_begins ht.1 hn)
    rw [sumU_sup h.up ht hmx (by decide) (by decide) ht (by decide), h.acc t h1 h3] at h8
    exact h8
  have hacc : amtV (getP (s.setAmt (kSup t) (m t + x)).t) (kAcc t n) + x < uHalf := by omega
  have he2 := addE_of hacc
  have hs2 : (s.setAmt (kSup t) (m t + x)).addA (kAcc t n) x = (s.setAmt (kSup t) (m t + x)).setAmt (kAcc t n) (amtV (getP (s.setAmt (kSup t) (m t + x)).t) (kAcc t n) + x) := (addA_yes he2).2
  have hE : mintE s t n x = 0 := by unfold mintE; rw [if_neg hg, if_neg he, hs1]; exact he2
  have hS : s.mint t n x = (s.setAmt (kSup t) (m t + x)).setAmt (kAcc t n) (amtV (getP (s.setAmt (kSup t) (m t + x)).t) (kAcc t n) + x) := by
    unfold PS.mint
    rw [if_neg hg, if_neg he, hs1, if_neg (fun e => e he2), hs2]
  have hax := uHalf_max hacc
  refine ⟨hE, hlt, ?_⟩
  rw [hS]
  refine ⟨(h.fit.setAmt _ _).setAmt _ _, up_setAmt hu1 _ _, ?_, ?_, ?_, ?_, ?_⟩
  · have a1 := sz_setAmt s (kSup t) (m t + x)
    have a2 := sz_setAmt (s.setAmt (kSup t) (m t + x)) (kAcc t n) (amtV (getP (s.setAmt (kSup t) (m t + x)).t) (kAcc t n) + x)
    have := h.sz
    omega
  · intro u u1 u3
    rw [valF_setAmt _ _ _ (kAcc_ne ht.1 hn), if_neg (fun e => sup_acc (by omega : 0 ≤ u) e.symm), valF_setAmt _ _ _ (kSup_ne ht.1)]
    by_cases e : u = t
    · subst e
      rw [if_pos rfl, if_pos rfl]
    · rw [if_neg (fun e2 => e (sup_inj (by omega) (by omega) e2).symm), if_neg e]
      exact h.sup u u1 u3
  · intro u u1 u3
    show (if u = t then m t + x else m u) < uHalf
    split
    · exact hlt
    · exact h.lt u u1 u3
  · intro u u1 u3
    have h8 := sumU_acc hu1 ht hn hax (u := 1) (t' := u) (by decide) (by decide) (by omega)
    rw [sumU_sup h.up ht hmx (by decide) (by decide) (by omega) (by decide), h.acc u u1 u3] at h8
    show _ = if u = t then m t + x else m u
    by_cases e : u = t
    · subst e
      rw [if_pos ⟨rfl, rfl⟩, if_pos ⟨rfl, rfl⟩] at h8
      rw [if_pos rfl]
      omega
    · rw [if_neg (fun e2 => e e2.2), if_neg (fun e2 => e e2.2)] at h8
      rw [if_neg e]
      omega
  · intro u u' u1 u3 hu
    have h8 := sumU_acc hu1 ht hn hax (u := u) (t' := u') (by omega) (by omega) (by omega)
    rw [if_neg (by omega), if_neg (by omega), sumU_sup h.up ht hmx (by omega) (by omega) (by omega) (by omega), h.oth u u' u1 u3 hu] at h8
    omega
/-- A payment leaves all sums. -/
theorem Keeps.pay {s : PS} {m : Int → Nat} {i : Nat} (h : Keeps s m i) {t a b : Int} (h1 : 1 ≤ t) (h3 : t ≤ 3) {x : Nat} : Keeps (s.pay t a b x) m (i + 1) := by
  by_cases hg : goodB t a = false ∨ goodB t b = false
  · have : s.pay t a b x = s := by unfold PS.pay; rw [if_pos hg]
    rw [this]; exact h.skip
  have ga := goodB_of (t := t) (n := a) fun e => hg (.inl e)
  have gb := goodB_of (t := t) (n := b) fun e => hg (.inr e)
  have hS : s.pay t a b x = s.moveA (kAcc t a) (kAcc t b) x := by unfold PS.pay; rw [if_neg hg]
  rw [hS]
  by_cases hE : moveE (getP s.t) (kAcc t a) (kAcc t b) x = 0 ∧ kAcc t a ≠ kAcc t b
  · have hm := hE.1
    unfold moveE at hm
    by_cases c1 : x ≤ amtV (getP s.t) (kAcc t a)
    · rw [if_neg (fun e => e c1), if_neg hE.2] at hm
      by_cases c2 : amtV (getP s.t) (kAcc t b) + x < uHalf
      · have ht : 0 ≤ t ∧ t < 9223372036854775808 := by omega
        have hla := sumU_ge h.up (acc_begins (t := t) (n := a) ht.1 (by omega))
        rw [h.acc t h1 h3] at hla
        have hx1 : amtV (getP s.t) (kAcc t a) - x < uMax := uHalf_max (by have := h.lt t h1 h3; omega)
        have hx2 := uHalf_max c2
        have hu1 : Up (s.setAmt (kAcc t a) (amtV (getP s.t) (kAcc t a) - x)).t := up_setAmt h.up _ _
        have hmv : s.moveA (kAcc t a) (kAcc t b) x = (s.setAmt (kAcc t a) (amtV (getP s.t) (kAcc t a) - x)).setAmt (kAcc t b) (amtV (getP s.t) (kAcc t b) + x) := by unfold PS.moveA; rw [if_pos hE]
        have hsame : amtV (getP (s.setAmt (kAcc t a) (amtV (getP s.t) (kAcc t a) - x)).t) (kAcc t b) = amtV (getP s.t) (kAcc t b) := by rw [amtV_setAmt _ _ _ (kAcc_ne ht.1 (by omega)) hx1, if_neg hE.2]
        rw [hmv]
        refine ⟨(h.fit.setAmt _ _).setAmt _ _, up_setAmt hu1 _ _, ?_, ?_, h.lt, ?_, ?_⟩
        · have a1 := sz_setAmt s (kAcc t a) (amtV (getP s.t) (kAcc t a) - x)
          have a2 := sz_setAmt (s.setAmt (kAcc t a) (amtV (getP s.t) (kAcc t a) - x)) (kAcc t b) (amtV (getP s.t) (kAcc t b) + x)
          have := h.sz
          omega
        · intro u u1 u3
          rw [valF_setAmt _ _ _ (kAcc_ne ht.1 (by omega)), if_neg (fun e => sup_acc (by omega : 0 ≤ u) e.symm), valF_setAmt _ _ _ (kAcc_ne ht.1 (by omega)), if_neg (fun e => sup_acc (by omega : 0 ≤ u) e.symm)]
          exact h.sup u u1 u3
        · intro u u1 u3
          have e1 := sumU_acc h.up ht (n := a) (by omega) hx1 (u := 1) (t' := u) (by decide) (by decide) (by omega)
          have e2 := sumU_acc hu1 ht (n := b) (by omega) hx2 (u := 1) (t' := u) (by decide) (by decide) (by omega)
          rw [hsame] at e2
          rw [h.acc u u1 u3] at e1
          by_cases e : u = t
          · rw [if_pos ⟨rfl, e⟩, if_pos ⟨rfl, e⟩] at e1 e2
            omega
          · rw [if_neg (fun e2 => e e2.2), if_neg (fun e2 => e e2.2)] at e1 e2
            omega
        · intro u u' u1 u3 hu
          have e1 := sumU_acc h.up ht (n := a) (by omega) hx1 (u := u) (t' := u') (by omega) (by omega) (by omega)
          have e2 := sumU_acc hu1 ht (n := b) (by omega) hx2 (u := u) (t' := u') (by omega) (by omega) (by omega)
          rw [if_neg (by omega), if_neg (by omega)] at e1 e2
          have := h.oth u u' u1 u3 hu
          omega
      · rw [if_neg c2] at hm; cases hm
    · rw [if_pos c1] at hm; cases hm
  · have : s.moveA (kAcc t a) (kAcc t b) x = s := by unfold PS.moveA; rw [if_neg hE]
    rw [this]
    exact h.skip
end Go.Proofs.Yteaigmoldlbjdaa
