/- The reference's numbers: differences, bytes, and whether a number is an amount (code). No condition. The reference's cells: amounts (code). No condition. The reference's banks (code). No condition. -/
import Derived.Test.YtabminbgoclnkaaGreatVkAriJ
import Derived.Test.YtabminbgoclnkaaGreatVk10
import Derived.Test.YtabminbgoclnkaaGreatVk12
import Derived.Test.YtabminbgoclnkaaGreatVkCelD
import Derived.Test.YtabminbgoclnkaaGreatVkBnkJ
import Derived.Deep.Cut
namespace Go.Proofs.YtabminbgoclnkaaGreat
section
open Go.RowKit

structure MinusI (l1 l2 : List Nat) (i : Nat) (o : List Nat) (b : Nat) : Prop where
 len : o.length = i
 d32 : D32 o
 b1 : b ≤ 1
 eq : dv o + dv (l2.take i) = dv (l1.take i) + 4294967296 ^ i * b
theorem MinusI.zero (l1 l2 : List Nat) : MinusI l1 l2 0 [] 0 := ⟨rfl, D32.nil, by omega, by simp [dv]⟩
theorem MinusI.next {l1 l2 : List Nat} {i : Nat} {o : List Nat} {b : Nat} (h : MinusI l1 l2 i o b) {x y z c : Nat} (hx : x = dig l1 i) (hy : y = b + dig l2 i) (hz : z + y = x + 4294967296 * c) (hc : c ≤ 1) (hzl : z < 4294967296) : MinusI l1 l2 (i + 1) (o ++ [z]) c := by
 refine ⟨by rw [List.length_append, h.len]; rfl, h.d32.app (D32.one hzl), hc, ?_⟩; rw [dv_snoc, h.len, dv_take_dig, dv_take_dig, Nat.pow_succ, ← hx]; have e := h.eq; have e2 : 4294967296 ^ i * z + 4294967296 ^ i * b + 4294967296 ^ i * dig l2 i = 4294967296 ^ i * x + 4294967296 ^ i * 4294967296 * c := by
  rw [Nat.mul_assoc, ← Nat.mul_add, ← Nat.mul_add, ← Nat.mul_add]
  congr 1
  omega
 omega
theorem MinusI.done {l1 l2 : List Nat} {o : List Nat} {b : Nat} (h : MinusI l1 l2 l1.length o b) (d1 : D32 l1) (hle : dv l2 ≤ dv l1) : dv o = dv l1 - dv l2 := by
 have e := h.eq; rw [List.take_of_length_le (Nat.le_refl l1.length)] at e; have k1 := dv_lt d1; have k2 := dv_lt h.d32; rw [h.len] at k2; have e2 : dv (l2.take l1.length) = dv l2 := by
  by_cases hl : l2.length ≤ l1.length
  ·rw [List.take_of_length_le hl]
  ·have f := congrArg dv (List.take_append_drop l1.length l2); rw [dv_app, List.length_take, Nat.min_eq_left (by omega)] at f
   rcases Nat.eq_zero_or_pos (dv (l2.drop l1.length)) with h0 | h0
   ·rw [h0] at f; omega
   ·have := Nat.mul_le_mul_left (4294967296 ^ l1.length) h0
    omega
 rw [e2] at e; have hb := h.b1
 rcases Nat.eq_zero_or_pos b with h0 | h0
 ·rw [h0] at e; omega
 ·obtain rfl : b = 1 := by omega
  omega
def MinRetO (w : World) (n m : Nat) (e : Ending) (w' : World) : Prop := ∃ v, e = .returned (.tuple #[v, .bool (decide (m ≤ n))]) ∧ Rd w' u32E 1 v (digs (if m ≤ n then n - m else 0)) ∧ (∀ k, v.ownBlock = some k → w.heap.size ≤ k) ∧ Below w.heap.size w w'
def MinRet (w : World) (n m : Nat) (e : Ending) (w' : World) : Prop := ∃ v, e = .returned (.tuple #[v, .bool (decide (m ≤ n))]) ∧ Rd w' u32E 1 v (digs (if m ≤ n then n - m else 0)) ∧ Below w.heap.size w w'
end
section
open Go.RowKit

theorem RLiv.get {w0 w : World} {F0 : List Nat} {g : Nat} {s : PS} (L : RLiv w0 F0 w g s) : ∃ F, RS w g s F := by obtain ⟨F, h1, _, _⟩ := L; exact ⟨F, h1⟩

theorem move_no {s : PS} {k l : Txt} {m : Nat} (h : moveE (getP s.t) k l m ≠ 0) : s.moveA k l m = s := by
 unfold PS.moveA; rw [if_neg fun e => h e.1]
end
section
open Go.RowKit

def Ext (s z : PS) : Prop := Up z.t ∧ ∃ n, z.past.length = s.past.length + n ∧ PS.backs n z = s
theorem back_put {s : PS} (hu : Up s.t) (k v : Txt) (b : Bool) : (s.put k v b).back = s := by
 unfold PS.back PS.put
 simp only [List.getLast?_append, List.getLast?_singleton, Option.some_or, List.dropLast_concat]; obtain ⟨t, past⟩ := s
 congr 1
 refine tab_ext (up_lay (up_lay hu _ _ _) _ _ _) hu fun q => ?_
 rw [getP_lay, getP_lay]
 by_cases h : k = q
 ·subst h; simp only [if_true]
  cases hg : getP t k <;> simp
 ·simp [h]
theorem Ext.refl {s : PS} (hu : Up s.t) : Ext s s := ⟨hu, 0, rfl, rfl⟩
theorem Ext.put {s z : PS} (h : Ext s z) (k v : Txt) (b : Bool) : Ext s (z.put k v b) := by
 obtain ⟨hu, n, h1, h2⟩ := h; refine ⟨up_lay hu _ _ _, n + 1, ?_, ?_⟩
 ·unfold PS.put; simp [h1]; omega
 ·show PS.backs n (z.put k v b).back = s
  rw [back_put hu, h2]
theorem Ext.set {s z : PS} (h : Ext s z) (k v : Txt) : Ext s (z.set k v) := by
 unfold PS.set; split
 ·exact h
 ·exact h.put _ _ _
theorem Ext.del {s z : PS} (h : Ext s z) (k : Txt) : Ext s (z.del k) := by
 unfold PS.del; split
 ·exact h
 ·exact h.put _ _ _
theorem Ext.undo {s z : PS} (h : Ext s z) : z.undo s.past.length = s ∧ undoE z s.past.length = true := by
 obtain ⟨hu, n, h1, h2⟩ := h; have hE : undoE z s.past.length = true := by unfold undoE; rw [decide_eq_true_iff]; omega
 refine ⟨?_, hE⟩
 unfold PS.undo
 rw [if_pos hE, Int.toNat_natCast, h1, Nat.add_sub_cancel_left, h2]

theorem Ext.setAmt {s z : PS} (h : Ext s z) (k : Txt) (n : Nat) : Ext s (z.setAmt k n) := by
 unfold PS.setAmt; split
 ·exact h.del _
 ·exact h.set _ _
theorem Ext.addA {s z : PS} (h : Ext s z) (k : Txt) (n : Nat) : Ext s (z.addA k n) := by
 unfold PS.addA; split
 ·exact h.setAmt _ _
 ·exact h
theorem Ext.moveA {s z : PS} (h : Ext s z) (k l : Txt) (n : Nat) : Ext s (z.moveA k l n) := by
 unfold PS.moveA; split
 ·exact (h.setAmt _ _).setAmt _ _
 ·exact h
theorem mint_no {s : PS} (hu : Up s.t) {t n : Int} {m : Nat} (h : mintE s t n m ≠ 0) : s.mint t n m = s := by
 unfold mintE at h
 unfold PS.mint
 split
 ·rfl
 ·rename_i h0
  rw [if_neg h0] at h
  split
  ·rfl
  ·rename_i h1
   rw [if_neg h1] at h; rw [if_pos h]
   exact (((Ext.refl hu).addA _ _).addA _ _).undo.1
theorem mint_sz {s : PS} (hu : Up s.t) (t n : Int) (m : Nat) : (s.mint t n m).sz ≤ s.sz + 4 := by
 refine sz_mint s t n m ?_
 by_cases h : mintE s t n m = 0
 ·exact .inl h
 ·exact .inr (mint_no hu h)
theorem mint_fit {s : PS} (hf : Fit s) (hu : Up s.t) (t n : Int) (m : Nat) : Fit (s.mint t n m) := by
 by_cases h : mintE s t n m = 0
 ·unfold mintE at h
  unfold PS.mint
  split
  ·exact hf
  ·rename_i h0
   rw [if_neg h0] at h
   split
   ·exact hf
   ·rename_i h1
    rw [if_neg h1] at h; rw [if_neg (fun e => e h)]
    exact (hf.addA _ _).addA _ _
 ·rw [mint_no hu h]; exact hf
end
end Go.Proofs.YtabminbgoclnkaaGreat
