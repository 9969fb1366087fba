/- Chapter 10: CellBack: the plain law (what was set is there, and how many entries). No condition. -/
import Derived.Test.YtnoocidoblndgaaCelE
namespace Go.Proofs.Ytnoocidoblndgaa
open Go.RowKit

/-- A value is put where none was. -/
theorem len_putv {s : PS} {k : Txt} (v : Txt) (hu : Up s.t) (hk : k ≠ []) (hn : getP s.t k = none) : (s.putv k v).t.length = s.t.length + (if v = [] then 0 else 1) ∧ Up (s.putv k v).t := by
  unfold PS.putv
  by_cases h : v = []
  · rw [if_pos h, if_pos h]
    unfold PS.del
    rw [if_pos hn]
    exact ⟨rfl, hu⟩
  · rw [if_neg h, if_neg h]
    unfold PS.set
    rw [if_neg (by rintro (e | e); exact hk e; rw [hn] at e; cases e)]
    refine ⟨?_, (up_lay hu k v true : Up (layP s.t k v true))⟩
    show (insP s.t k v).length = _
    rw [length_ins _ _ hu, if_pos hn]
theorem setInt_putv (s : PS) (k : Txt) (n : Int) : s.setInt k n = s.putv k (if n < 1 then [] else numL n) := by
  unfold PS.setInt PS.putv
  by_cases h : n < 1
  · rw [if_pos h, if_pos (by rw [if_pos h])]
  · rw [if_neg h, if_neg h, if_neg]
    intro e; have := numL_length n; rw [e] at this; cases this
theorem setAmt_putv (s : PS) (k : Txt) (n : Nat) : s.setAmt k n = s.putv k (if n = 0 then [] else amtB n) := by
  unfold PS.setAmt PS.putv
  by_cases h : n = 0
  · rw [if_pos h, if_pos (by rw [if_pos h])]
  · rw [if_neg h, if_neg h, if_neg (amtB_ne n)]
theorem getP_putv (s : PS) (k v q : Txt) (h : k ≠ q) : getP (s.putv k v).t q = getP s.t q := by
  unfold PS.putv
  split
  · rw [getP_sdel, if_neg h]
  · rw [getP_set, if_neg fun e => h e.1]
theorem ckey_ne {n : Int} (h0 : 0 ≤ n) (h9 : n ≤ 9) : ckey n ≠ [] := by rw [ckey_good h0 h9]; exact keyF_ne (by decide) (by decide) fun x hx => by rw [List.mem_singleton.1 hx]; exact h0
theorem ckey_inj {n m : Int} (h0 : 0 ≤ n) (h9 : n ≤ 9) (m0 : 0 ≤ m) (m9 : m ≤ 9) (h : ckey n = ckey m) : n = m := by
  rw [ckey_good h0 h9, ckey_good m0 m9] at h
  exact keyF_inj (by decide) (by decide) h0 (by omega) m0 (by omega) h
/-- The store behind the three settings. -/
def back3 (n : Int) (m : Nat) (l : List Int) : PS := ((PS.new.setInt (ckey 1) n).setAmt (ckey 2) m).setRow (ckey 3) l
def backV (l : List Int) : Txt := if ∃ x ∈ l, x < 0 then [] else l.flatMap numL
theorem backV_nil (l : List Int) : backV l = [] ↔ l = [] ∨ ∃ x ∈ l, x < 0 := by
  unfold backV
  by_cases h : ∃ x ∈ l, x < 0
  · rw [if_pos h]; exact ⟨fun _ => .inr h, fun _ => rfl⟩
  · rw [if_neg h]
    constructor
    · intro e
      left
      have := cflat_length l
      rw [e] at this
      exact List.eq_nil_of_length_eq_zero (by simp at this; omega)
    · rintro (e | e)
      · rw [e]; rfl
      · exact absurd e h
theorem setRow_putv (s : PS) (k : Txt) (l : List Int) (hn : getP s.t k = none) : s.setRow k l = s.putv k (backV l) := by
  unfold PS.setRow backV
  by_cases h : ∃ x ∈ l, x < 0
  · rw [if_pos h, if_pos h]
    unfold PS.putv PS.del
    rw [if_pos rfl, if_pos hn]
  · rw [if_neg h, if_neg h]
theorem back_all (n : Int) (hn : n < 9223372036854775808) (m : Nat) (hm : m < uMax) (l : List Int) (hl : I64s l) :
    (back3 n m l).t.length = (if 0 < n then 1 else 0) + (if m = 0 then 0 else 1) + (if l = [] ∨ (∃ x ∈ l, x < 0) then 0 else 1) ∧
    getI (getP (back3 n m l).t) (ckey 1) = (if 0 < n then n else 0) ∧
    amtV (getP (back3 n m l).t) (ckey 2) = m ∧
    rowF (valF (getP (back3 n m l).t) (ckey 3)) = (if ∃ x ∈ l, x < 0 then [] else l) ∧
    amtV (getP (back3 n m l).t) (ckey 4) = 0 := by
  have k1 := ckey_ne (n := 1) (by decide) (by decide)
  have k2 := ckey_ne (n := 2) (by decide) (by decide)
  have k3 := ckey_ne (n := 3) (by decide) (by decide)
  have d (i j : Int) (hi : 0 ≤ i) (hi9 : i ≤ 9) (hj : 0 ≤ j) (hj9 : j ≤ 9) (h : i ≠ j) : ckey i ≠ ckey j := fun e => h (ckey_inj hi hi9 hj hj9 e)
  have d12 := d 1 2 (by decide) (by decide) (by decide) (by decide) (by decide)
  have d13 := d 1 3 (by decide) (by decide) (by decide) (by decide) (by decide)
  have d14 := d 1 4 (by decide) (by decide) (by decide) (by decide) (by decide)
  have d23 := d 2 3 (by decide) (by decide) (by decide) (by decide) (by decide)
  have d24 := d 2 4 (by decide) (by decide) (by decide) (by decide) (by decide)
  have d34 := d 3 4 (by decide) (by decide) (by decide) (by decide) (by decide)
  have e0 : ∀ q, getP PS.new.t q = none := fun q => rfl
  have e3 : getP ((PS.new.setInt (ckey 1) n).setAmt (ckey 2) m).t (ckey 3) = none := by
    rw [setAmt_putv, getP_putv _ _ _ _ d23, setInt_putv, getP_putv _ _ _ _ d13]; rfl
  have hB : back3 n m l = ((PS.new.putv (ckey 1) (if n < 1 then [] else numL n)).putv (ckey 2) (if m = 0 then [] else amtB m)).putv (ckey 3) (backV l) := by
    unfold back3
    rw [setRow_putv _ _ _ e3, setAmt_putv, setInt_putv]
  rw [setAmt_putv, setInt_putv] at e3
  have u0 : Up PS.new.t := List.Pairwise.nil
  have l1 := len_putv (if n < 1 then [] else numL n) u0 k1 (e0 _)
  have e2 : getP (PS.new.putv (ckey 1) (if n < 1 then [] else numL n)).t (ckey 2) = none := by rw [getP_putv _ _ _ _ d12]; rfl
  have l2 := len_putv (if m = 0 then [] else amtB m) l1.2 k2 e2
  have l3 := len_putv (backV l) l2.2 k3 e3
  have v0 : ∀ q, valF (getP PS.new.t) q = [] := fun q => rfl
  refine ⟨?_, ?_, ?_, ?_, ?_⟩
  · rw [hB, l3.1, l2.1, l1.1]
    have a1 : (if (if n < 1 then [] else numL n) = [] then 0 else 1) = (if 0 < n then 1 else 0) := by
      by_cases h : n < 1
      · rw [if_pos h, if_pos rfl, if_neg (by omega)]
      · rw [if_neg h, if_pos (by omega : 0 < n), if_neg]
        intro e; have := numL_length n; rw [e] at this; cases this
    have a2 : (if (if m = 0 then [] else amtB m) = [] then 0 else 1) = (if m = 0 then 0 else 1) := by
      by_cases h : m = 0
      · rw [if_pos h, if_pos rfl, if_pos h]
      · rw [if_neg h, if_neg (amtB_ne m), if_neg h]
    have a3 : (if backV l = [] then 0 else 1) = (if l = [] ∨ (∃ x ∈ l, x < 0) then 0 else 1) := by
      by_cases h : backV l = []
      · rw [if_pos h, if_pos ((backV_nil l).1 h)]
      · rw [if_neg h, if_neg fun e => h ((backV_nil l).2 e)]
    rw [a1, a2, a3]
    show 0 + _ + _ + _ = _
    omega
  · rw [hB]
    unfold getI
    rw [valF_putv _ _ _ _ k3, if_neg d13.symm, valF_putv _ _ _ _ k2, if_neg d12.symm, valF_putv _ _ _ _ k1, if_pos rfl]
    by_cases h : n < 1
    · rw [if_pos h, rowF_nil, if_neg (by omega)]; rfl
    · rw [if_neg h, if_pos (by omega : 0 < n)]
      have := rowF_flat (l := [n]) (fun x hx => by rw [List.mem_singleton.1 hx]; omega)
      rw [List.flatMap_cons, List.flatMap_nil, List.append_nil] at this
      rw [this]; rfl
  · rw [hB]
    unfold amtV
    rw [valF_putv _ _ _ _ k3, if_neg d23.symm, valF_putv _ _ _ _ k2, if_pos rfl]
    by_cases h : m = 0
    · rw [if_pos h, amtF_nil, h]
    · rw [if_neg h, amtF_B hm]
  · rw [hB, valF_putv _ _ _ _ k3, if_pos rfl]
    unfold backV
    by_cases h : ∃ x ∈ l, x < 0
    · rw [if_pos h, if_pos h, rowF_nil]
    · rw [if_neg h, if_neg h]
      exact rowF_flat fun x hx => ⟨by have h2 : ¬ x < 0 := fun e => h ⟨x, hx, e⟩; omega, (hl x hx).2⟩
  · rw [hB]
    unfold amtV
    rw [valF_putv _ _ _ _ k3, if_neg d34, valF_putv _ _ _ _ k2, if_neg d24, valF_putv _ _ _ _ k1, if_neg d14, v0, amtF_nil]
end Go.Proofs.Ytnoocidoblndgaa
