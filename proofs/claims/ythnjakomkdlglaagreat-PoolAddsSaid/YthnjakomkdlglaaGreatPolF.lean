/- Law 31: PoolAdds. No condition. -/
import Derived.Test.YthnjakomkdlglaaGreatPolJ
import Derived.Deep.Cut
namespace Go.Proofs.YthnjakomkdlglaaGreat
open Go.RowKit

/-! ### plain: what was submitted is what was paid, and what is left -/
theorem amtV_none {f : Txt → Option Txt} {k : Txt} (h : f k = none) : amtV f k = 0 := by
  unfold amtV valF; rw [h]; exact amtF_nil
theorem past_set (s : PS) (k v : Txt) : s.past.length ≤ (s.set k v).past.length := by
  unfold PS.set; split
  · exact Nat.le_refl _
  · unfold PS.put; simp
theorem past_del (s : PS) (k : Txt) : s.past.length ≤ (s.del k).past.length := by
  unfold PS.del; split
  · exact Nat.le_refl _
  · unfold PS.put; simp
theorem past_setAmt (s : PS) (k : Txt) (n : Nat) : s.past.length ≤ (s.setAmt k n).past.length := by
  unfold PS.setAmt; split
  · exact past_del _ _
  · exact past_set _ _ _
theorem past_addA' (s : PS) (k : Txt) (n : Nat) : s.past.length ≤ (s.addA k n).past.length := by
  unfold PS.addA; split
  · exact past_setAmt _ _ _
  · exact Nat.le_refl _
theorem past_more {s : PS} {k : Txt} {n : Nat} (hk : k ≠ []) (hn : n < uMax) (h : amtV (getP s.t) k ≠ n) : s.past.length < (s.setAmt k n).past.length := by
  unfold PS.setAmt
  by_cases h0 : n = 0
  · rw [if_pos h0]
    unfold PS.del
    rw [if_neg]
    · unfold PS.put; simp
    · intro e
      exact h (by rw [amtV_none e, h0])
  · rw [if_neg h0]
    unfold PS.set
    rw [if_neg]
    · unfold PS.put; simp
    · rintro (e | e)
      · exact hk e
      · refine h ?_
        unfold amtV valF
        rw [e]
        exact amtF_B hn
/-- What a way does to the amounts. -/
theorem send_ok {s : PS} {x y z : Txt} {m : Nat} (h : sendE s x y z m = 0) (hm : m ≠ 0) (he : getP s.t [] = none) (hxy : x ≠ y) (hxz : x ≠ z) (hyz : y ≠ z) (hy : y ≠ []) (hz : z ≠ []) :
    x ≠ [] ∧ m ≤ amtV (getP s.t) x ∧ (s.past.length < (s.send x y z m).past.length) ∧ ∀ q, amtV (getP (s.send x y z m).t) q = if z = q then amtV (getP s.t) z + m else if y = q then amtV (getP s.t) y + m else if x = q then amtV (getP s.t) x - m else amtV (getP s.t) q := by
  have hS : s.send x y z m = (s.moveA x y m).addA z m := by unfold PS.send; rw [if_pos h]
  unfold sendE at h
  by_cases h1 : moveE (getP s.t) x y m = 0
  · rw [if_neg (fun e => e h1)] at h
    have hM : s.moveA x y m = (s.setAmt x (amtV (getP s.t) x - m)).setAmt y (amtV (getP s.t) y + m) := by unfold PS.moveA; rw [if_pos ⟨h1, hxy⟩]
    unfold moveE at h1
    by_cases c1 : m ≤ amtV (getP s.t) x
    · rw [if_neg (fun e => e c1), if_neg hxy] at h1
      by_cases c2 : amtV (getP s.t) y + m < uHalf
      · have hx : x ≠ [] := fun e => by rw [e, amtV_none he] at c1; omega
        have lx : amtV (getP s.t) x - m < uMax := by have := amtV_lt (getP s.t) x; omega
        have ly := uHalf_max c2
        have a1 : ∀ q, amtV (getP (s.setAmt x (amtV (getP s.t) x - m)).t) q = if x = q then amtV (getP s.t) x - m else amtV (getP s.t) q := fun q => amtV_setAmt s x q hx lx
        have a2 : ∀ q, amtV (getP (s.moveA x y m).t) q = if y = q then amtV (getP s.t) y + m else if x = q then amtV (getP s.t) x - m else amtV (getP s.t) q := fun q => by rw [hM, amtV_setAmt _ y q hy ly, a1]
        have hz1 : amtV (getP (s.moveA x y m).t) z = amtV (getP s.t) z := by rw [a2, if_neg hyz, if_neg hxz]
        have hadd := addA_yes h
        rw [hz1] at hadd
        refine ⟨hx, c1, ?_, fun q => ?_⟩
        · rw [hS]
          refine Nat.lt_of_lt_of_le ?_ (past_addA' _ _ _)
          rw [hM]
          refine Nat.lt_of_lt_of_le ?_ (past_setAmt _ _ _)
          exact past_more hx lx (by omega)
        · rw [hS, hadd.2, amtV_setAmt _ z q hz (uHalf_max hadd.1), a2]
      · rw [if_neg c2] at h1; cases h1
    · rw [if_pos c1] at h1; cases h1
  · rw [if_pos h1] at h; exact absurd h h1
theorem getP_nil_setAmt {s : PS} (h : getP s.t [] = none) (k : Txt) (n : Nat) : getP (s.setAmt k n).t [] = none := by
  unfold PS.setAmt; split
  · rw [getP_sdel]; split
    · rfl
    · exact h
  · rw [getP_set]; rw [if_neg (fun e => e.2 e.1)]; exact h
theorem getP_nil_addA {s : PS} (h : getP s.t [] = none) (k : Txt) (n : Nat) : getP (s.addA k n).t [] = none := by
  unfold PS.addA; split
  · exact getP_nil_setAmt h _ _
  · exact h
theorem getP_nil_moveA {s : PS} (h : getP s.t [] = none) (k l : Txt) (n : Nat) : getP (s.moveA k l n).t [] = none := by
  unfold PS.moveA; split
  · exact getP_nil_setAmt (getP_nil_setAmt h _ _) _ _
  · exact h
theorem getP_nil_send {s : PS} (h : getP s.t [] = none) (x y z : Txt) (m : Nat) : getP (s.send x y z m).t [] = none := by
  unfold PS.send; split
  · exact getP_nil_addA (getP_nil_moveA h _ _ _) _ _
  · exact h
/-- What the law keeps. -/
structure PI (s : PS) : Prop where
  nil : getP s.t [] = none
  sum : ∀ t : Int, t = 1 ∨ t = 2 → amtV (getP s.t) (keyF 35 [t]) + amtV (getP s.t) (keyF 4 [t]) = amtV (getP s.t) (keyF 34 [t])
theorem PI.start : PI (wSq 2) := ⟨by decide +kernel, fun t ht => by
  rcases ht with rfl | rfl <;> decide +kernel⟩
theorem k1_ne {u t : Int} (h1 : 1 ≤ u) (h2 : u ≤ 255) (ht : 0 ≤ t) : keyF u [t] ≠ [] := keyF_ne h1 h2 fun x hx => by rw [List.mem_singleton.1 hx]; exact ht
theorem goodP_of {t n : Int} {m : Nat} (h : goodP t n m = true) : (1 ≤ t ∧ t ≤ 1000) ∧ (1 ≤ n ∧ n ≤ 4294967295) ∧ m ≠ 0 := by
  unfold goodP at h
  rw [Bool.and_eq_true, Bool.and_eq_true] at h
  have hg := of_decide_eq_true h.1.1
  refine ⟨hg.1, hg.2, ?_⟩
  intro e
  rw [e] at h
  exact absurd h.1.2 (by decide)
theorem PI.psub {s : PS} (h : PI s) {v t : Int} {m : Nat} (he : psubE s v t m = 0) : PI (s.psub v t m) ∧ s.past.length < (s.psub v t m).past.length := by
  unfold psubE at he
  by_cases h1 : isK (getP s.t) 21 v = false
  · rw [if_pos h1] at he; cases he
  · rw [if_neg h1] at he
    by_cases h2 : goodP t 1 m = false
    · rw [if_pos h2] at he; cases he
    · rw [if_neg h2] at he
      have hg := goodP_of (by cases hb : goodP _ _ _ with | false => exact absurd hb h2 | true => rfl)
      have hS : s.psub v t m = s.send (kAcc t v) (kPool t) (keyF 34 [t]) m := by unfold PS.psub; rw [if_neg h1, if_neg h2]
      have n4 : kPool t ≠ [] := k1_ne (by decide) (by decide) (by omega)
      have n34 : keyF 34 [t] ≠ [] := k1_ne (by decide) (by decide) (by omega)
      have a1 : kAcc t v ≠ kPool t := fun e => keyF_apart (by decide) (by decide) (by decide) (by decide) (by decide) n4 e.symm
      have a2 : kAcc t v ≠ keyF 34 [t] := fun e => keyF_apart (by decide) (by decide) (by decide) (by decide) (by decide) n34 e.symm
      have a3 : kPool t ≠ keyF 34 [t] := keyF_apart (by decide) (by decide) (by decide) (by decide) (by decide) n4
      obtain ⟨hx, hle, hp, hq⟩ := send_ok he hg.2.2 h.nil a1 a2 a3 n4 n34
      rw [hS]
      refine ⟨⟨getP_nil_send h.nil _ _ _ _, fun u hu => ?_⟩, hp⟩
      have hu0 : 0 ≤ u ∧ u < 18446744073709551616 := by omega
      have ht0 : 0 ≤ t ∧ t < 18446744073709551616 := by omega
      have m35 : keyF 35 [u] ≠ [] := k1_ne (by decide) (by decide) hu0.1
      have m4 : keyF 4 [u] ≠ [] := k1_ne (by decide) (by decide) hu0.1
      have m34 : keyF 34 [u] ≠ [] := k1_ne (by decide) (by decide) hu0.1
      have e35 : amtV (getP (s.send (kAcc t v) (kPool t) (keyF 34 [t]) m).t) (keyF 35 [u]) = amtV (getP s.t) (keyF 35 [u]) := by
        rw [hq, if_neg (fun e => keyF_apart (by decide) (by decide) (by decide) (by decide) (by decide) m35 e.symm), if_neg (fun e => keyF_apart (by decide) (by decide) (by decide) (by decide) (by decide) m35 e.symm), if_neg (fun e => keyF_apart (by decide) (by decide) (by decide) (by decide) (by decide) m35 e.symm)]
      have c4 : keyF 34 [t] ≠ keyF 4 [u] := fun e => keyF_apart (by decide) (by decide) (by decide) (by decide) (by decide) m4 e.symm
      have b4 : kAcc t v ≠ keyF 4 [u] := fun e => keyF_apart (by decide) (by decide) (by decide) (by decide) (by decide) m4 e.symm
      have b34 : kAcc t v ≠ keyF 34 [u] := fun e => keyF_apart (by decide) (by decide) (by decide) (by decide) (by decide) m34 e.symm
      have d34 : kPool t ≠ keyF 34 [u] := fun e => keyF_apart (by decide) (by decide) (by decide) (by decide) (by decide) m34 e.symm
      have hsum := h.sum u hu
      rw [e35]
      by_cases htu : t = u
      · subst htu
        rw [hq (keyF 4 [t]), if_neg c4, if_pos (show kPool t = keyF 4 [t] from rfl), hq (keyF 34 [t]), if_pos rfl]
        unfold kPool
        omega
      · have i4 : kPool t ≠ keyF 4 [u] := fun e => htu (keyF_inj (by decide) (by decide) ht0.1 ht0.2 hu0.1 hu0.2 e)
        have i34 : keyF 34 [t] ≠ keyF 34 [u] := fun e => htu (keyF_inj (by decide) (by decide) ht0.1 ht0.2 hu0.1 hu0.2 e)
        rw [hq (keyF 4 [u]), if_neg c4, if_neg i4, if_neg b4, hq (keyF 34 [u]), if_neg i34, if_neg d34, if_neg b34]
        exact hsum
theorem PI.py {s : PS} (h : PI s) {t n : Int} {m : Nat} (he : pyE s t n m = 0) : PI (s.py t n m) ∧ s.past.length < (s.py t n m).past.length := by
  unfold pyE at he
  by_cases h2 : goodP t n m = false
  · rw [if_pos h2] at he; cases he
  · rw [if_neg h2] at he
    have hg := goodP_of (by cases hb : goodP _ _ _ with | false => exact absurd hb h2 | true => rfl)
    have hS : s.py t n m = s.send (kPool t) (kAcc t n) (keyF 35 [t]) m := by unfold PS.py; rw [if_neg h2]
    have n4 : kPool t ≠ [] := k1_ne (by decide) (by decide) (by omega)
    have n1 : kAcc t n ≠ [] := kAcc_ne (by omega) (by omega)
    have n35 : keyF 35 [t] ≠ [] := k1_ne (by decide) (by decide) (by omega)
    have a1 : kPool t ≠ kAcc t n := keyF_apart (by decide) (by decide) (by decide) (by decide) (by decide) n4
    have a2 : kPool t ≠ keyF 35 [t] := keyF_apart (by decide) (by decide) (by decide) (by decide) (by decide) n4
    have a3 : kAcc t n ≠ keyF 35 [t] := keyF_apart (by decide) (by decide) (by decide) (by decide) (by decide) n1
    obtain ⟨hx, hle, hp, hq⟩ := send_ok he hg.2.2 h.nil a1 a2 a3 n1 n35
    rw [hS]
    refine ⟨⟨getP_nil_send h.nil _ _ _ _, fun u hu => ?_⟩, hp⟩
    have hu0 : 0 ≤ u ∧ u < 18446744073709551616 := by omega
    have ht0 : 0 ≤ t ∧ t < 18446744073709551616 := by omega
    have m35 : keyF 35 [u] ≠ [] := k1_ne (by decide) (by decide) hu0.1
    have m4 : keyF 4 [u] ≠ [] := k1_ne (by decide) (by decide) hu0.1
    have m34 : keyF 34 [u] ≠ [] := k1_ne (by decide) (by decide) hu0.1
    have e34 : amtV (getP (s.send (kPool t) (kAcc t n) (keyF 35 [t]) m).t) (keyF 34 [u]) = amtV (getP s.t) (keyF 34 [u]) := by
      rw [hq, if_neg (fun e => keyF_apart (by decide) (by decide) (by decide) (by decide) (by decide) m34 e.symm), if_neg (fun e => keyF_apart (by decide) (by decide) (by decide) (by decide) (by decide) m34 e.symm), if_neg (fun e => keyF_apart (by decide) (by decide) (by decide) (by decide) (by decide) m34 e.symm)]
    have c4 : keyF 35 [t] ≠ keyF 4 [u] := fun e => keyF_apart (by decide) (by decide) (by decide) (by decide) (by decide) m4 e.symm
    have b4 : kAcc t n ≠ keyF 4 [u] := fun e => keyF_apart (by decide) (by decide) (by decide) (by decide) (by decide) m4 e.symm
    have b35 : kAcc t n ≠ keyF 35 [u] := fun e => keyF_apart (by decide) (by decide) (by decide) (by decide) (by decide) m35 e.symm
    have d35 : kPool t ≠ keyF 35 [u] := fun e => keyF_apart (by decide) (by decide) (by decide) (by decide) (by decide) m35 e.symm
    have hsum := h.sum u hu
    rw [e34]
    by_cases htu : t = u
    · subst htu
      rw [hq (keyF 4 [t]), if_neg c4, if_neg b4, if_pos (show kPool t = keyF 4 [t] from rfl), hq (keyF 35 [t]), if_pos rfl]
      unfold kPool at hle ⊢
      omega
    · have i4 : kPool t ≠ keyF 4 [u] := fun e => htu (keyF_inj (by decide) (by decide) ht0.1 ht0.2 hu0.1 hu0.2 e)
      have i35 : keyF 35 [t] ≠ keyF 35 [u] := fun e => htu (keyF_inj (by decide) (by decide) ht0.1 ht0.2 hu0.1 hu0.2 e)
      rw [hq (keyF 4 [u]), if_neg c4, if_neg b4, if_neg i4, hq (keyF 35 [u]), if_neg i35, if_neg b35, if_neg d35]
      exact hsum
theorem send_no {s : PS} {x y z : Txt} {m : Nat} (h : sendE s x y z m ≠ 0) : s.send x y z m = s := by unfold PS.send; rw [if_neg h]
/-- An act either leaves the store, or the changes grow; the sums hold. -/
theorem PI.act {s : PS} (h : PI s) (a : Act31) : PI (do31 s a) ∧ (do31 s a = s ∨ s.past.length < (do31 s a).past.length) := by
  unfold do31
  split
  · by_cases he : pyE s a.t a.who a.m = 0
    · exact ⟨(h.py he).1, .inr (h.py he).2⟩
    · have : s.py a.t a.who a.m = s := by
        unfold pyE at he
        unfold PS.py
        split
        · rfl
        · rename_i h2
          rw [if_neg h2] at he
          exact send_no he
      rw [this]; exact ⟨h, .inl rfl⟩
  · by_cases he : psubE s a.who a.t a.m = 0
    · exact ⟨(h.psub he).1, .inr (h.psub he).2⟩
    · have : s.psub a.who a.t a.m = s := by
        unfold psubE at he
        unfold PS.psub
        split
        · rfl
        · rename_i h1
          rw [if_neg h1] at he
          split
          · rfl
          · rename_i h2
            rw [if_neg h2] at he
            exact send_no he
      rw [this]; exact ⟨h, .inl rfl⟩

/-! ### both stores, and a slice of pairs beside them -/
def Tws (V : Value) (LT : Tab) (w0 w : World) (g h : Nat) (s1 s2 : PS) : Prop := ∃ F G, St w g s1 F ∧ RS w h s2 G ∧ (∀ x ∈ F, w0.heap.size ≤ x) ∧ (∀ x ∈ G, w0.heap.size ≤ x) ∧ Below w0.heap.size w0 w ∧ LO w 100 pairE 2 V LT ∧ ∀ k, V.ownBlock = some k → k < w.heap.size ∧ k ∉ F ∧ k ∉ G
theorem Tws.two {V : Value} {LT : Tab} {w0 w : World} {g h : Nat} {s1 s2 : PS} (t : Tws V LT w0 w g h s1 s2) : Two w0 w g h s1 s2 := by
  obtain ⟨F, G, h1, h2, h3, h4, h5, _⟩ := t; exact ⟨F, G, h1, h2, h3, h4, h5⟩
theorem Tws.was {V : Value} {LT : Tab} {w0 w : World} {g h : Nat} {s1 s2 : PS} (t : Tws V LT w0 w g h s1 s2) : LO w 100 pairE 2 V LT := by
  obtain ⟨F, G, h1, h2, h3, h4, h5, h6, _⟩ := t; exact h6
theorem Tws.below {V : Value} {LT : Tab} {w0 w : World} {g h : Nat} {s1 s2 : PS} (t : Tws V LT w0 w g h s1 s2) : Below w0.heap.size w0 w := t.two.below
theorem Tws.later {V : Value} {LT : Tab} {w0 w w' : World} {g h : Nat} {s1 s2 : PS} (t : Tws V LT w0 w g h s1 s2) (hk : Below w.heap.size w w') : Tws V LT w0 w' g h s1 s2 := by
  obtain ⟨F, G, h1, h2, h3, h4, h5, h6, h7⟩ := t
  exact ⟨F, G, h1.later hk, h2.later hk, h3, h4, h5.trans (hk.mono h5.size), h6.later hk, fun k hv => ⟨Nat.lt_of_lt_of_le (h7 k hv).1 hk.size, (h7 k hv).2⟩⟩
theorem Tws.st {V : Value} {LT : Tab} {P : Program} {f : FuncId} {args : Array Value} {w0 w : World} {g h : Nat} {s1 s2 s' : PS} {v : Value} (t : Tws V LT w0 w g h s1 s2) (hc : ∀ F, St w g s1 F → Calls P f args w (StRet w g F s' v)) :
    Calls P f args w (fun e w' => e = .returned v ∧ Tws V LT w0 w' g h s' s2 ∧ Oth w w') := by
  obtain ⟨F, G, h1, h2, h3, h4, h5, h6, h7⟩ := t
  refine (hc F h1).mono ?_
  rintro e w' ⟨he, F', q1, q2, q3⟩
  refine ⟨he, ⟨F', G, q1, h2.keep q2 fun x hx hx' => stores_apart h1 h2 x hx' hx, fun x hx => ?_, h4, h5.trans (q2.below (B := w0.heap.size) (fun q hq e => by have := h3 q e; omega) h5.size), h6.keep q2 (fun k hv => (h7 k hv).2.1), fun k hv => ⟨Nat.lt_of_lt_of_le (h7 k hv).1 q2.size, fun hx => ?_, (h7 k hv).2.2⟩⟩, Oth.of_st h1 q2⟩
  · rcases q3 x hx with h | h
    · exact h3 x h
    · exact Nat.le_trans h5.size h
  · rcases q3 k hx with h | h
    · exact (h7 k hv).2.1 h
    · have := (h7 k hv).1; omega
theorem Tws.rs {V : Value} {LT : Tab} {P : Program} {f : FuncId} {args : Array Value} {w0 w : World} {g h : Nat} {s1 s2 s' : PS} {v : Value} (t : Tws V LT w0 w g h s1 s2) (hc : ∀ F, RS w h s2 F → Calls P f args w (RRet w h F s' v)) :
    Calls P f args w (fun e w' => e = .returned v ∧ Tws V LT w0 w' g h s1 s' ∧ Oth w w') := by
  obtain ⟨F, G, h1, h2, h3, h4, h5, h6, h7⟩ := t
  refine (hc G h2).mono ?_
  rintro e w' ⟨he, G', q1, q2, q3⟩
  refine ⟨he, ⟨F, G', h1.keep q2 fun x hx hx' => stores_apart h1 h2 x hx hx', q1, h3, fun x hx => ?_, h5.trans (q2.below (B := w0.heap.size) (fun q hq e => by have := h4 q e; omega) h5.size), h6.keep q2 (fun k hv => (h7 k hv).2.2), fun k hv => ⟨Nat.lt_of_lt_of_le (h7 k hv).1 q2.size, (h7 k hv).2.1, fun hx => ?_⟩⟩, Oth.of_rs h2 q2⟩
  · rcases q3 x hx with h | h
    · exact h4 x h
    · exact Nat.le_trans h5.size h
  · rcases q3 k hx with h | h
    · exact (h7 k hv).2.2 h
    · have := (h7 k hv).1; omega
theorem Two.tws {V : Value} {LT : Tab} {w0 w w' : World} {g h : Nat} {s1 s2 : PS} (t : Two w0 w g h s1 s2) (hk : Below w.heap.size w w') (hl : LO w' 100 pairE 2 V LT) (hn : ∀ k, V.ownBlock = some k → w.heap.size ≤ k) : Tws V LT w0 w' g h s1 s2 := by
  obtain ⟨F, G, h1, h2, h3, h4, h5⟩ := t
  refine ⟨F, G, h1.later hk, h2.later hk, h3, h4, h5.trans (hk.mono h5.size), hl, fun k hv => ⟨?_, fun hx => ?_, fun hx => ?_⟩⟩
  · obtain ⟨cs, hc⟩ := hl.kind hv
    exact heap_lt hc
  · obtain ⟨o, ho, _⟩ := h1.kind k hx
    have := heap_lt ho; have := hn k hv; omega
  · obtain ⟨o, ho, _⟩ := h2.kind k hx
    have := heap_lt ho; have := hn k hv; omega
theorem Two.head {w0 w : World} {g h : Nat} {s1 s2 : PS} (t : Two w0 w g h s1 s2) : ∃ vL ad cap, w.heap[h]? = some (.cells #[vL, .slice ad s2.past.length cap] 30 (0, 0)) := by
  obtain ⟨F, G, _, h2, _⟩ := t
  obtain ⟨vL, vP, h8, _⟩ := h2
  obtain ⟨ad, cap, hvp, _, _⟩ := h8.past.shape
  have := h8.head
  rw [hvp] at this
  exact ⟨_, _, _, this⟩

set_option maxHeartbeats 8000000 in
set_option maxRecDepth 100000 in
theorem act31w_any {V : Value} {LT : Tab} {w0 w : World} {g h : Nat} {s : PS} (T : Tws V LT w0 w g h s s) (hz : s.sz < 100000) (hf : Fit s) {a : Act31} (ha : Good31 w a) :
    Calls Tryz.prog 36 #[.pointer (some ⟨g, 0, none⟩), .pointer (some ⟨h, 0, none⟩), .agg #[.bool a.pay, .int .i64 a.who, .int .i64 a.t, .int .u64 (uw0 a.m), .int .u64 (uw1 a.m), .int .u64 (uw2 a.m), .int .u64 (uw3 a.m)]] w (fun e w' => e = .returned (.bool true) ∧ Tws V LT w0 w' g h (do31 s a) (do31 s a) ∧ Oth w w') := by
  have TF := Lib.hid T; have HZ := Lib.hid hz; have HF := Lib.hid hf; have HA := Lib.hid ha
  have OT : Hid (Oth w w) := Lib.hid (Oth.of_below (Below.refl _ _))
  clear T hz hf ha
  go_enter Tryz.func36, Tryz.ntmps36
  go_upto_region 1 with fail
  obtain ⟨w1, hw1⟩ : ∃ w1, w1 = w.alloc (.cells #[.bool a.pay, .int .i64 a.who, .int .i64 a.t, .int .u64 (uw0 a.m), .int .u64 (uw1 a.m), .int .u64 (uw2 a.m), .int .u64 (uw3 a.m)] 60) := ⟨_, rfl⟩
  obtain ⟨X, hX⟩ : ∃ x, x = w.heap.size := ⟨_, rfl⟩
  rw [← hw1, ← hX]
  have HX : Hid (w1.heap[X]? = some (.cells #[.bool a.pay, .int .i64 a.who, .int .i64 a.t, .int .u64 (uw0 a.m), .int .u64 (uw1 a.m), .int .u64 (uw2 a.m), .int .u64 (uw3 a.m)] 60 (0, 0))) := Lib.hid (by rw [hw1, hX]; exact heap_alloc_new _ _)
  have hb : Below w.heap.size w w1 := by rw [hw1]; exact below_new _ _
  clear hw1 hX
  have TFm := Lib.hid (TF.out.later hb)
  have OTm := Lib.hid (OT.out.trans (Oth.of_below hb))
  clear hb TF OT
  have TF := TFm
  have OT := OTm
  clear TFm OTm
  have c0 : w1.cell? ⟨X, 0, none⟩ = some (.bool a.pay) := Lib.cell_of_heap HX.out 0
  cases hmt : a.pay with
  | false =>
    have HD : Hid (do31 s a = s.psub a.who a.t a.m) := Lib.hid (by unfold do31; rw [hmt]; rfl)
    rw [hmt] at c0
    obtain ⟨er, her⟩ : ∃ z, z = psubE s a.who a.t a.m := ⟨_, rfl⟩
    have HER := Lib.hid her
    clear her
    go_wp2_with fail
    clear c0
    obtain ⟨a1, hwz⟩ : ∃ wz, wz = w1.drew := ⟨_, rfl⟩
    have hbz : Below w1.heap.size w1 a1 := by rw [hwz]; exact (Below.refl _ _).drew
    have TFm := Lib.hid (TF.out.later hbz)
    have OTm := Lib.hid (OT.out.trans (Oth.of_below hbz))
    have HXm := Lib.hid (below_at' hbz HX.out)
    clear hbz TF OT HX
    have TF := TFm
    have OT := OTm
    have HX := HXm
    clear TFm OTm HXm
    have hS : a1.heap[X]? = some (.cells #[.bool a.pay, .int .i64 a.who, .int .i64 a.t, .int .u64 (uw0 a.m), .int .u64 (uw1 a.m), .int .u64 (uw2 a.m), .int .u64 (uw3 a.m)] 60 (0, 0)) := HX.out
    refine wp_region_till (fun w' => w'.heap[X]? = some (.cells #[.bool a.pay, .int .i64 a.who, .int .i64 a.t, .int .u64 (uw0 a.m), .int .u64 (uw1 a.m), .int .u64 (uw2 a.m), .int .u64 (uw3 a.m)] 60 (0, 0))) 18 18 (by kernel_rfl) rfl ?_
    rw [← hwz]
    clear hwz
    refine till_take 0 (some 26) rfl rfl (by kernel_rfl) (by kernel_rfl) (by kernel_rfl) (by kernel_rfl) (by kernel_rfl) (by kernel_rfl) (fun _ _ _ h => h) (.inl ⟨by rfl, fun w' _ => (by go_simp; rfl)⟩) hS ?_
    go_frame
    refine till_take 1 (some 27) rfl rfl (by kernel_rfl) (by kernel_rfl) (by kernel_rfl) (by kernel_rfl) (by kernel_rfl) (by kernel_rfl) (fun _ _ _ h => h) (.inl ⟨by rfl, fun w' _ => (by go_simp; rfl)⟩) hS ?_
    go_frame
    refine till_take 2 (some 28) rfl rfl (by kernel_rfl) (by kernel_rfl) (by kernel_rfl) (by kernel_rfl) (by kernel_rfl) (by kernel_rfl) (fun _ _ _ h => h) (.inl ⟨by rfl, fun w' hS' => (by have hc : w'.cell? ⟨X, 1, none⟩ = some (.int .i64 a.who) := Lib.cell_of_heap (hS') 1; go_simp; rfl)⟩) hS ?_
    go_frame
    refine till_take 3 (some 29) rfl rfl (by kernel_rfl) (by kernel_rfl) (by kernel_rfl) (by kernel_rfl) (by kernel_rfl) (by kernel_rfl) (fun _ _ _ h => h) (.inl ⟨by rfl, fun w' _ => (by go_simp; rfl)⟩) hS ?_
    go_frame
    refine till_take 4 (some 30) rfl rfl (by kernel_rfl) (by kernel_rfl) (by kernel_rfl) (by kernel_rfl) (by kernel_rfl) (by kernel_rfl) (fun _ _ _ h => h) (.inl ⟨by rfl, fun w' hS' => (by have hc : w'.cell? ⟨X, 2, none⟩ = some (.int .i64 a.t) := Lib.cell_of_heap (hS') 2; go_simp; rfl)⟩) hS ?_
    go_frame
    refine till_take 5 (some 31) rfl rfl (by kernel_rfl) (by kernel_rfl) (by kernel_rfl) (by kernel_rfl) (by kernel_rfl) (by kernel_rfl) (fun _ _ _ h => h) (.inl ⟨by rfl, fun w' _ => (by go_simp; rfl)⟩) hS ?_
    go_frame
    refine till_take 6 (some 32) rfl rfl (by kernel_rfl) (by kernel_rfl) (by kernel_rfl) (by kernel_rfl) (by kernel_rfl) (by kernel_rfl) (fun _ _ _ h => h) (yields_load (by rfl) 33 _ rfl (.pointer (some ⟨X, 3, none⟩)) rfl (.agg #[.int .u64 (uw0 a.m), .int .u64 (uw1 a.m), .int .u64 (uw2 a.m), .int .u64 (uw3 a.m)]) (fun w' hS' => run_loadAt_mid w' X 3 33 [.int .u64 (uw0 a.m), .int .u64 (uw1 a.m), .int .u64 (uw2 a.m), .int .u64 (uw3 a.m)] _ (range_of_heap (hS') 3 _ rfl) Tryz.underlying33 rfl Tryz.sizeU)) hS ?_
    go_frame
    refine till_take 8 (some 34) rfl rfl (by kernel_rfl) (by kernel_rfl) (by kernel_rfl) (by kernel_rfl) (by kernel_rfl) (by kernel_rfl) (fun _ _ _ h => h) (.inl ⟨by rfl, fun w' _ => (by go_simp; rfl)⟩) hS ?_
    go_frame
    refine till_take 9 (some 35) rfl rfl (by kernel_rfl) (by kernel_rfl) (by kernel_rfl) (by kernel_rfl) (by kernel_rfl) (by kernel_rfl) (fun _ _ _ h => h) (.inl ⟨by rfl, fun w' _ => (by go_simp; rfl)⟩) hS ?_
    go_frame
    refine till_take 10 (some 36) rfl rfl (by kernel_rfl) (by kernel_rfl) (by kernel_rfl) (by kernel_rfl) (by kernel_rfl) (by kernel_rfl) (fun _ _ _ h => h) (.inl ⟨by rfl, fun w' hS' => (by have hc : w'.cell? ⟨X, 1, none⟩ = some (.int .i64 a.who) := Lib.cell_of_heap (hS') 1; go_simp; rfl)⟩) hS ?_
    go_frame
    refine till_take 11 (some 37) rfl rfl (by kernel_rfl) (by kernel_rfl) (by kernel_rfl) (by kernel_rfl) (by kernel_rfl) (by kernel_rfl) (fun _ _ _ h => h) (.inl ⟨by rfl, fun w' _ => (by go_simp; rfl)⟩) hS ?_
    go_frame
    refine till_take 12 (some 38) rfl rfl (by kernel_rfl) (by kernel_rfl) (by kernel_rfl) (by kernel_rfl) (by kernel_rfl) (by kernel_rfl) (fun _ _ _ h => h) (.inl ⟨by rfl, fun w' hS' => (by have hc : w'.cell? ⟨X, 2, none⟩ = some (.int .i64 a.t) := Lib.cell_of_heap (hS') 2; go_simp; rfl)⟩) hS ?_
    go_frame
    refine till_take 13 (some 39) rfl rfl (by kernel_rfl) (by kernel_rfl) (by kernel_rfl) (by kernel_rfl) (by kernel_rfl) (by kernel_rfl) (fun _ _ _ h => h) (.inl ⟨by rfl, fun w' _ => (by go_simp; rfl)⟩) hS ?_
    go_frame
    refine till_take 14 (some 40) rfl rfl (by kernel_rfl) (by kernel_rfl) (by kernel_rfl) (by kernel_rfl) (by kernel_rfl) (by kernel_rfl) (fun _ _ _ h => h) (yields_load (by rfl) 33 _ rfl (.pointer (some ⟨X, 3, none⟩)) rfl (.agg #[.int .u64 (uw0 a.m), .int .u64 (uw1 a.m), .int .u64 (uw2 a.m), .int .u64 (uw3 a.m)]) (fun w' hS' => run_loadAt_mid w' X 3 33 [.int .u64 (uw0 a.m), .int .u64 (uw1 a.m), .int .u64 (uw2 a.m), .int .u64 (uw3 a.m)] _ (range_of_heap (hS') 3 _ rfl) Tryz.underlying33 rfl Tryz.sizeU)) hS ?_
    go_frame
    refine till_one 7 rfl (by kernel_rfl) fun K hK => ?_
    simp only [List.getElem_toArray, List.getElem_cons_succ, List.getElem_cons_zero]
    rw [if_pos (by rfl)]
    go_simp
    refine (TF.out.st fun F hs => psubmit_any hs (by have := HZ.out; omega) HF.out HA.out.b_who HA.out.b_t (uw_is HA.out.lt_m)).mono ?_
    rw [← HER.out]
    rintro e a2 ⟨rfl, o, hoth⟩
    have TFm := Lib.hid o
    have OTm := Lib.hid (OT.out.trans hoth)
    have HXm := Lib.hid (hoth.2 X _ HX.out rfl rfl)
    clear o hoth TF OT HX
    have TF := TFm
    have OT := OTm
    have HX := HXm
    clear TFm OTm HXm
    have hS2 : a2.heap[X]? = some (.cells #[.bool a.pay, .int .i64 a.who, .int .i64 a.t, .int .u64 (uw0 a.m), .int .u64 (uw1 a.m), .int .u64 (uw2 a.m), .int .u64 (uw3 a.m)] 60 (0, 0)) := HX.out
    refine hK _ _ (fun _ _ => hS2) ?_
    clear hK hS
    have hS := hS2
    clear hS2
    refine till_one 15 rfl (by kernel_rfl) fun K hK => ?_
    simp only [List.getElem_toArray, List.getElem_cons_succ, List.getElem_cons_zero]
    rw [if_pos (by rfl)]
    go_simp
    refine (TF.out.rs fun F hs => rpsubmit_any hs (by have := HZ.out; omega) HF.out HA.out.b_who HA.out.b_t (uw_is HA.out.lt_m)).mono ?_
    rw [← HER.out]
    rintro e a3 ⟨rfl, o, hoth⟩
    have TFm := Lib.hid o
    have OTm := Lib.hid (OT.out.trans hoth)
    have HXm := Lib.hid (hoth.2 X _ HX.out rfl rfl)
    clear o hoth TF OT HX
    have TF := TFm
    have OT := OTm
    have HX := HXm
    clear TFm OTm HXm
    have hS2 : a3.heap[X]? = some (.cells #[.bool a.pay, .int .i64 a.who, .int .i64 a.t, .int .u64 (uw0 a.m), .int .u64 (uw1 a.m), .int .u64 (uw2 a.m), .int .u64 (uw3 a.m)] 60 (0, 0)) := HX.out
    refine hK _ _ (fun _ _ => hS2) ?_
    clear hK hS
    have hS := hS2
    clear hS2
    refine till_take 16 (some 42) rfl rfl (by kernel_rfl) (by kernel_rfl) (by kernel_rfl) (by kernel_rfl) (by kernel_rfl) (by kernel_rfl) (fun _ _ _ h => h) (.inl ⟨by rfl, fun w' _ => (by go_simp; rfl)⟩) hS ?_
    go_frame
    refine till_take 17 (some 6) rfl rfl (by kernel_rfl) (by kernel_rfl) (by kernel_rfl) (by kernel_rfl) (by kernel_rfl) (by kernel_rfl) (fun _ _ _ h => h) (.inl ⟨by rfl, fun w' _ => (by go_simp; rfl)⟩) hS ?_
    go_frame
    refine till_done (by kernel_rfl) ?_ _
    clear hS
    go_wp2_with fail
    go_ret
    exact ⟨by simp, by rw [HD.out]; exact TF.out, OT.out⟩
  | true =>
    have HD : Hid (do31 s a = s.py a.t a.who a.m) := Lib.hid (by unfold do31; rw [hmt]; rfl)
    rw [hmt] at c0
    obtain ⟨er, her⟩ : ∃ z, z = pyE s a.t a.who a.m := ⟨_, rfl⟩
    have HER := Lib.hid her
    clear her
    go_wp2_with fail
    clear c0
    obtain ⟨a1, hwz⟩ : ∃ wz, wz = w1.drew := ⟨_, rfl⟩
    have hbz : Below w1.heap.size w1 a1 := by rw [hwz]; exact (Below.refl _ _).drew
    have TFm := Lib.hid (TF.out.later hbz)
    have OTm := Lib.hid (OT.out.trans (Oth.of_below hbz))
    have HXm := Lib.hid (below_at' hbz HX.out)
    clear hbz TF OT HX
    have TF := TFm
    have OT := OTm
    have HX := HXm
    clear TFm OTm HXm
    have hS : a1.heap[X]? = some (.cells #[.bool a.pay, .int .i64 a.who, .int .i64 a.t, .int .u64 (uw0 a.m), .int .u64 (uw1 a.m), .int .u64 (uw2 a.m), .int .u64 (uw3 a.m)] 60 (0, 0)) := HX.out
    refine wp_region_till (fun w' => w'.heap[X]? = some (.cells #[.bool a.pay, .int .i64 a.who, .int .i64 a.t, .int .u64 (uw0 a.m), .int .u64 (uw1 a.m), .int .u64 (uw2 a.m), .int .u64 (uw3 a.m)] 60 (0, 0))) 18 18 (by kernel_rfl) rfl ?_
    rw [← hwz]
    clear hwz
    refine till_take 0 (some 9) rfl rfl (by kernel_rfl) (by kernel_rfl) (by kernel_rfl) (by kernel_rfl) (by kernel_rfl) (by kernel_rfl) (fun _ _ _ h => h) (.inl ⟨by rfl, fun w' _ => (by go_simp; rfl)⟩) hS ?_
    go_frame
    refine till_take 1 (some 10) rfl rfl (by kernel_rfl) (by kernel_rfl) (by kernel_rfl) (by kernel_rfl) (by kernel_rfl) (by kernel_rfl) (fun _ _ _ h => h) (.inl ⟨by rfl, fun w' _ => (by go_simp; rfl)⟩) hS ?_
    go_frame
    refine till_take 2 (some 11) rfl rfl (by kernel_rfl) (by kernel_rfl) (by kernel_rfl) (by kernel_rfl) (by kernel_rfl) (by kernel_rfl) (fun _ _ _ h => h) (.inl ⟨by rfl, fun w' hS' => (by have hc : w'.cell? ⟨X, 2, none⟩ = some (.int .i64 a.t) := Lib.cell_of_heap (hS') 2; go_simp; rfl)⟩) hS ?_
    go_frame
    refine till_take 3 (some 12) rfl rfl (by kernel_rfl) (by kernel_rfl) (by kernel_rfl) (by kernel_rfl) (by kernel_rfl) (by kernel_rfl) (fun _ _ _ h => h) (.inl ⟨by rfl, fun w' _ => (by go_simp; rfl)⟩) hS ?_
    go_frame
    refine till_take 4 (some 13) rfl rfl (by kernel_rfl) (by kernel_rfl) (by kernel_rfl) (by kernel_rfl) (by kernel_rfl) (by kernel_rfl) (fun _ _ _ h => h) (.inl ⟨by rfl, fun w' hS' => (by have hc : w'.cell? ⟨X, 1, none⟩ = some (.int .i64 a.who) := Lib.cell_of_heap (hS') 1; go_simp; rfl)⟩) hS ?_
    go_frame
    refine till_take 5 (some 14) rfl rfl (by kernel_rfl) (by kernel_rfl) (by kernel_rfl) (by kernel_rfl) (by kernel_rfl) (by kernel_rfl) (fun _ _ _ h => h) (.inl ⟨by rfl, fun w' _ => (by go_simp; rfl)⟩) hS ?_
    go_frame
    refine till_take 6 (some 15) rfl rfl (by kernel_rfl) (by kernel_rfl) (by kernel_rfl) (by kernel_rfl) (by kernel_rfl) (by kernel_rfl) (fun _ _ _ h => h) (yields_load (by rfl) 33 _ rfl (.pointer (some ⟨X, 3, none⟩)) rfl (.agg #[.int .u64 (uw0 a.m), .int .u64 (uw1 a.m), .int .u64 (uw2 a.m), .int .u64 (uw3 a.m)]) (fun w' hS' => run_loadAt_mid w' X 3 33 [.int .u64 (uw0 a.m), .int .u64 (uw1 a.m), .int .u64 (uw2 a.m), .int .u64 (uw3 a.m)] _ (range_of_heap (hS') 3 _ rfl) Tryz.underlying33 rfl Tryz.sizeU)) hS ?_
    go_frame
    refine till_take 8 (some 17) rfl rfl (by kernel_rfl) (by kernel_rfl) (by kernel_rfl) (by kernel_rfl) (by kernel_rfl) (by kernel_rfl) (fun _ _ _ h => h) (.inl ⟨by rfl, fun w' _ => (by go_simp; rfl)⟩) hS ?_
    go_frame
    refine till_take 9 (some 18) rfl rfl (by kernel_rfl) (by kernel_rfl) (by kernel_rfl) (by kernel_rfl) (by kernel_rfl) (by kernel_rfl) (fun _ _ _ h => h) (.inl ⟨by rfl, fun w' _ => (by go_simp; rfl)⟩) hS ?_
    go_frame
    refine till_take 10 (some 19) rfl rfl (by kernel_rfl) (by kernel_rfl) (by kernel_rfl) (by kernel_rfl) (by kernel_rfl) (by kernel_rfl) (fun _ _ _ h => h) (.inl ⟨by rfl, fun w' hS' => (by have hc : w'.cell? ⟨X, 2, none⟩ = some (.int .i64 a.t) := Lib.cell_of_heap (hS') 2; go_simp; rfl)⟩) hS ?_
    go_frame
    refine till_take 11 (some 20) rfl rfl (by kernel_rfl) (by kernel_rfl) (by kernel_rfl) (by kernel_rfl) (by kernel_rfl) (by kernel_rfl) (fun _ _ _ h => h) (.inl ⟨by rfl, fun w' _ => (by go_simp; rfl)⟩) hS ?_
    go_frame
    refine till_take 12 (some 21) rfl rfl (by kernel_rfl) (by kernel_rfl) (by kernel_rfl) (by kernel_rfl) (by kernel_rfl) (by kernel_rfl) (fun _ _ _ h => h) (.inl ⟨by rfl, fun w' hS' => (by have hc : w'.cell? ⟨X, 1, none⟩ = some (.int .i64 a.who) := Lib.cell_of_heap (hS') 1; go_simp; rfl)⟩) hS ?_
    go_frame
    refine till_take 13 (some 22) rfl rfl (by kernel_rfl) (by kernel_rfl) (by kernel_rfl) (by kernel_rfl) (by kernel_rfl) (by kernel_rfl) (fun _ _ _ h => h) (.inl ⟨by rfl, fun w' _ => (by go_simp; rfl)⟩) hS ?_
    go_frame
    refine till_take 14 (some 23) rfl rfl (by kernel_rfl) (by kernel_rfl) (by kernel_rfl) (by kernel_rfl) (by kernel_rfl) (by kernel_rfl) (fun _ _ _ h => h) (yields_load (by rfl) 33 _ rfl (.pointer (some ⟨X, 3, none⟩)) rfl (.agg #[.int .u64 (uw0 a.m), .int .u64 (uw1 a.m), .int .u64 (uw2 a.m), .int .u64 (uw3 a.m)]) (fun w' hS' => run_loadAt_mid w' X 3 33 [.int .u64 (uw0 a.m), .int .u64 (uw1 a.m), .int .u64 (uw2 a.m), .int .u64 (uw3 a.m)] _ (range_of_heap (hS') 3 _ rfl) Tryz.underlying33 rfl Tryz.sizeU)) hS ?_
    go_frame
    refine till_one 7 rfl (by kernel_rfl) fun K hK => ?_
    simp only [List.getElem_toArray, List.getElem_cons_succ, List.getElem_cons_zero]
    rw [if_pos (by rfl)]
    go_simp
    refine (TF.out.st fun F hs => ppay_any hs (by have := HZ.out; omega) HF.out HA.out.b_t HA.out.b_who (uw_is HA.out.lt_m)).mono ?_
    rw [← HER.out]
    rintro e a2 ⟨rfl, o, hoth⟩
    have TFm := Lib.hid o
    have OTm := Lib.hid (OT.out.trans hoth)
    have HXm := Lib.hid (hoth.2 X _ HX.out rfl rfl)
    clear o hoth TF OT HX
    have TF := TFm
    have OT := OTm
    have HX := HXm
    clear TFm OTm HXm
    have hS2 : a2.heap[X]? = some (.cells #[.bool a.pay, .int .i64 a.who, .int .i64 a.t, .int .u64 (uw0 a.m), .int .u64 (uw1 a.m), .int .u64 (uw2 a.m), .int .u64 (uw3 a.m)] 60 (0, 0)) := HX.out
    refine hK _ _ (fun _ _ => hS2) ?_
    clear hK hS
    have hS := hS2
    clear hS2
    refine till_one 15 rfl (by kernel_rfl) fun K hK => ?_
    simp only [List.getElem_toArray, List.getElem_cons_succ, List.getElem_cons_zero]
    rw [if_pos (by rfl)]
    go_simp
    refine (TF.out.rs fun F hs => rppay_any hs (by have := HZ.out; omega) HF.out HA.out.b_t HA.out.b_who (uw_is HA.out.lt_m)).mono ?_
    rw [← HER.out]
    rintro e a3 ⟨rfl, o, hoth⟩
    have TFm := Lib.hid o
    have OTm := Lib.hid (OT.out.trans hoth)
    have HXm := Lib.hid (hoth.2 X _ HX.out rfl rfl)
    clear o hoth TF OT HX
    have TF := TFm
    have OT := OTm
    have HX := HXm
    clear TFm OTm HXm
    have hS2 : a3.heap[X]? = some (.cells #[.bool a.pay, .int .i64 a.who, .int .i64 a.t, .int .u64 (uw0 a.m), .int .u64 (uw1 a.m), .int .u64 (uw2 a.m), .int .u64 (uw3 a.m)] 60 (0, 0)) := HX.out
    refine hK _ _ (fun _ _ => hS2) ?_
    clear hK hS
    have hS := hS2
    clear hS2
    refine till_take 16 (some 25) rfl rfl (by kernel_rfl) (by kernel_rfl) (by kernel_rfl) (by kernel_rfl) (by kernel_rfl) (by kernel_rfl) (fun _ _ _ h => h) (.inl ⟨by rfl, fun w' _ => (by go_simp; rfl)⟩) hS ?_
    go_frame
    refine till_take 17 (some 6) rfl rfl (by kernel_rfl) (by kernel_rfl) (by kernel_rfl) (by kernel_rfl) (by kernel_rfl) (by kernel_rfl) (fun _ _ _ h => h) (.inl ⟨by rfl, fun w' _ => (by go_simp; rfl)⟩) hS ?_
    go_frame
    refine till_done (by kernel_rfl) ?_ _
    clear hS
    go_wp2_with fail
    go_ret
    exact ⟨by simp, by rw [HD.out]; exact TF.out, OT.out⟩

set_option maxHeartbeats 16000000 in
set_option maxRecDepth 100000 in
theorem adds31_any {w : World} {v : Value} {l : List Act31} (h1 : Rd w act31E 7 v l) (hgd : ∀ a ∈ l, Good31 w a) :
    Calls Tryz.prog 7 #[v] w (Ret w (.bool true)) := by
  obtain ⟨ad, cap, e1, c1, c1'⟩ := h1.shape
  obtain ⟨n, hn⟩ : ∃ n, n = l.length := ⟨_, rfl⟩
  rw [← hn] at e1 c1
  subst e1
  have H1 := Lib.hid h1; have HN := Lib.hid hn; have HGD := Lib.hid hgd
  clear h1 hn hgd
  by_cases hbig : 100 < n
  · go_enter Tryz.func7, Tryz.ntmps7
    go_wp2_with fail
    refine (lives31_any _).mono ?_
    rintro e w2 ⟨rfl, hb⟩
    have HB := Lib.hid hb
    clear hb
    go_wp2_with fail
    go_ret
    exact ⟨rfl, HB.out⟩
  have P150 : Hid (n ≤ 100) := Lib.hid (by omega)
  go_enter Tryz.func7, Tryz.ntmps7
  go_wp2_with fail
  clear hbig
  refine (world31_any _).mono ?_
  rintro e w4 ⟨g, h, rfl, t1⟩
  have TW := Lib.hid t1
  clear t1
  go_wp2_with fail
  go_loopw [22] (fun vi wr => ∃ (i : Nat) (s : PS), vi = .int .i64 i ∧ i ≤ n ∧ Hid (s.sz ≤ 1000 + 6 * i) ∧ Hid (Fit s) ∧ Hid (PI s) ∧ Hid (Two w wr g h s s)) (fun vi _ => n - (intOf vi).toNat)
  case atStart => exact ⟨0, _, rfl, Nat.zero_le _, Lib.hid (Nat.le_of_lt wSq_sz), Lib.hid wSq_fit, Lib.hid PI.start, TW⟩
  case round =>
    clear TW
    obtain ⟨i, s, rfl, hin, HZ, HF, HPI, TF⟩ := hrel
    by_cases hlt : i < n
    · have hj : i < l.length := by rw [← HN.out]; exact hlt
      obtain ⟨gL, off, rfl, hgL, q0, q1, q2, q3, q4, q5, q6⟩ := Rd.act31 H1.out i hj
      have hbw := TF.out.below
      have q0' := (hbw.cell (p := ⟨gL, off + i * 7, none⟩) hgL).trans q0
      have q1' := (hbw.cell (p := ⟨gL, off + i * 7 + 1, none⟩) hgL).trans q1
      have q2' := (hbw.cell (p := ⟨gL, off + i * 7 + 2, none⟩) hgL).trans q2
      have q3' := (hbw.cell (p := ⟨gL, off + i * 7 + 3, none⟩) hgL).trans q3
      have q4' := (hbw.cell (p := ⟨gL, off + i * 7 + 4, none⟩) hgL).trans q4
      have q5' := (hbw.cell (p := ⟨gL, off + i * 7 + 5, none⟩) hgL).trans q5
      have q6' := (hbw.cell (p := ⟨gL, off + i * 7 + 6, none⟩) hgL).trans q6
      have hmem : l[i] ∈ l := List.getElem_mem hj
      obtain ⟨a, ha⟩ : ∃ a, a = l[i] := ⟨_, rfl⟩
      rw [← ha] at hmem q0' q1' q2' q3' q4' q5' q6'
      have HJL := Lib.hid hlt; have HGX := Lib.hid (HGD.out a hmem)
      have HI : Hid (i ≤ 100) := Lib.hid (by have := P150.out; omega)
      obtain ⟨s2, hs2⟩ : ∃ z, z = do31 s a := ⟨_, rfl⟩
      have HS2 := Lib.hid hs2
      have HZ2 : Hid (s2.sz ≤ 1000 + 6 * (i + 1)) := Lib.hid (by have h7 := do31_sz s a; have h8 := HZ.out; rw [hs2]; omega)
      have HF2 : Hid (Fit s2) := Lib.hid (by rw [hs2]; exact do31_fit HF.out a)
      clear ha q0 q1 q2 q3 q4 q5 q6 hgL hj hmem hbw hs2 hin
      go_wp2_with (refine wpList_alloc_g rfl _ rfl _ _ Tryz.zeroAct31 rfl ?_)
      intro R d1 hR
      have WR : Hid (w.heap.size ≤ R) := Lib.hid (by rw [hR.out.eq]; exact (TF.out.below).size)
      have HRz := Lib.hid hR.out.cells; have hbR := hR.out.below
      clear hR
      have TFm := Lib.hid (TF.out.later hbR)
      clear hbR TF
      have TF := TFm
      clear TFm
      have HR := HRz
      clear HRz
      go_wp2_with (refine wpList_store_row_g (t := 60) (old := #[.bool false, .int .i64 0, .int .i64 0, .int .u64 0, .int .u64 0, .int .u64 0, .int .u64 0]) rfl 60 _ _ rfl R #[.bool a.pay, .int .i64 a.who, .int .i64 a.t, .int .u64 (uw0 a.m), .int .u64 (uw1 a.m), .int .u64 (uw2 a.m), .int .u64 (uw3 a.m)] rfl rfl HR.out Tryz.sizeAct31 rfl (by simp [Value.oneCell']) ?_)
      intro d2 hxR kR zR
      clear zR
      have TFm := Lib.hid (two_cells TF.out HR.out rfl rfl kR WR.out)
      have HRm := Lib.hid hxR
      clear hxR kR TF HR
      have TF := TFm
      have HR := HRm
      clear TFm HRm
      clear q0' q1' q2' q3' q4' q5' q6' hlt
      have hi150 : i ≤ 100 := HI.out
      go_wp2_with fail
      have HPA := Lib.hid (HPI.out.act a)
      rw [← HS2.out] at HPA
      obtain ⟨vL, adp, capp, hhd⟩ := TF.out.head
      obtain ⟨np, hnp⟩ : ∃ z, z = s.past.length := ⟨_, rfl⟩
      rw [← hnp] at hhd
      have HNP := Lib.hid hnp
      have HH := Lib.hid hhd
      have HSL : Hid (s.t.length < 1099511627776 ∧ s2.t.length < 1099511627776) := Lib.hid (by
        have h9 := HZ.out; have h8 := HZ2.out; have h7 := HI.out
        unfold PS.sz at h9 h8
        omega)
      clear hhd hnp
      have Hh := HH
      clear HH
      obtain ⟨d3, hwz⟩ : ∃ wz, wz = d2.drew := ⟨_, rfl⟩
      have hbz : Below d2.heap.size d2 d3 := by rw [hwz]; exact (Below.refl _ _).drew
      have TFm := Lib.hid (TF.out.later hbz)
      have HRm := Lib.hid (below_at' hbz HR.out)
      have Hhm := Lib.hid (below_at' hbz Hh.out)
      clear hbz TF HR Hh
      have TF := TFm
      have HR := HRm
      have Hh := Hhm
      clear TFm HRm Hhm
      have hS : d3.heap[h]? = some (.cells #[vL, .slice adp np capp] 30 (0, 0)) := Hh.out
      refine wp_region_till (fun w' => w'.heap[h]? = some (.cells #[vL, .slice adp np capp] 30 (0, 0))) 9 9 (by kernel_rfl) rfl ?_
      rw [← hwz]
      clear hwz
      refine till_take 0 (some 26) rfl rfl (by kernel_rfl) (by kernel_rfl) (by kernel_rfl) (by kernel_rfl) (by kernel_rfl) (by kernel_rfl) (fun _ _ _ h => h) (.inl ⟨by rfl, fun w' _ => (by go_simp; rfl)⟩) hS ?_
      go_frame
      refine till_take 2 (some 28) rfl rfl (by kernel_rfl) (by kernel_rfl) (by kernel_rfl) (by kernel_rfl) (by kernel_rfl) (by kernel_rfl) (fun _ _ _ h => h) (.inl ⟨by rfl, fun w' _ => (by go_simp; rfl)⟩) hS ?_
      go_frame
      refine till_take 3 (some 29) rfl rfl (by kernel_rfl) (by kernel_rfl) (by kernel_rfl) (by kernel_rfl) (by kernel_rfl) (by kernel_rfl) (fun _ _ _ h => h) (.inl ⟨by rfl, fun w' _ => (by go_simp; rfl)⟩) hS ?_
      go_frame
      refine till_take 4 (some 30) rfl rfl (by kernel_rfl) (by kernel_rfl) (by kernel_rfl) (by kernel_rfl) (by kernel_rfl) (by kernel_rfl) (fun _ _ _ h => h) (.inl ⟨by rfl, fun w' _ => (by go_simp; rfl)⟩) hS ?_
      go_frame
      refine till_take 5 (some 31) rfl rfl (by kernel_rfl) (by kernel_rfl) (by kernel_rfl) (by kernel_rfl) (by kernel_rfl) (by kernel_rfl) (fun _ _ _ h => h) (.inl ⟨by rfl, fun w' hS' => (by have hc : w'.cell? ⟨h, 1, none⟩ = some (.slice adp np capp) := Lib.cell_of_heap (hS') 1; go_simp; rfl)⟩) hS ?_
      go_frame
      refine till_take 6 (some 32) rfl rfl (by kernel_rfl) (by kernel_rfl) (by kernel_rfl) (by kernel_rfl) (by kernel_rfl) (by kernel_rfl) (fun _ _ _ h => h) (.inl ⟨by rfl, fun w' _ => (by go_simp; rfl)⟩) hS ?_
      go_frame
      refine till_one 1 rfl (by kernel_rfl) fun K hK => ?_
      simp only [List.getElem_toArray, List.getElem_cons_succ, List.getElem_cons_zero]
      rw [if_pos (by rfl)]
      go_simp
      obtain ⟨F9, h9⟩ := TF.out.get1
      refine (sall_any h9 HSL.out.1).mono ?_
      rintro e d4 ⟨vC, rfl, hlC, hb, hoC⟩
      have HTW : Hid (Tws vC s.t w d4 g h s s) := Lib.hid (TF.out.tws hb hlC hoC)
      clear hlC hoC h9
      have TFm := Lib.hid (TF.out.later hb)
      have HRm := Lib.hid (below_at' hb HR.out)
      have Hhm := Lib.hid (below_at' hb Hh.out)
      clear hb TF HR Hh
      have TF := TFm
      have HR := HRm
      have Hh := Hhm
      clear TFm HRm Hhm
      have hS2 : d4.heap[h]? = some (.cells #[vL, .slice adp np capp] 30 (0, 0)) := Hh.out
      refine hK _ _ (fun _ _ => hS2) ?_
      clear hK hS
      have hS := hS2
      clear hS2
      refine till_take 7 (some 7) rfl rfl (by kernel_rfl) (by kernel_rfl) (by kernel_rfl) (by kernel_rfl) (by kernel_rfl) (by kernel_rfl) (fun _ _ _ h => h) (.inl ⟨by rfl, fun w' _ => (by go_simp; rfl)⟩) hS ?_
      go_frame
      refine till_take 8 (some 8) rfl rfl (by kernel_rfl) (by kernel_rfl) (by kernel_rfl) (by kernel_rfl) (by kernel_rfl) (by kernel_rfl) (fun _ _ _ h => h) (.inl ⟨by rfl, fun w' _ => (by go_simp; rfl)⟩) hS ?_
      go_frame
      refine till_done (by kernel_rfl) ?_ _
      clear hS
      clear Hh
      clear TF
      obtain ⟨ad9, n9, cap9, hv9⟩ : ∃ ad n cap, vC = .slice ad n cap := by obtain ⟨a9, c9, e9, _⟩ := (HTW.out.was.rd pairE_len).shape; exact ⟨_, _, _, e9⟩
      subst hv9
      have r0 : d4.cell? ⟨R, 0, none⟩ = some (.bool a.pay) := Lib.cell_of_heap HR.out 0
      have r1 : d4.cell? ⟨R, 1, none⟩ = some (.int .i64 a.who) := Lib.cell_of_heap HR.out 1
      have r2 : d4.cell? ⟨R, 2, none⟩ = some (.int .i64 a.t) := Lib.cell_of_heap HR.out 2
      have r3 : d4.cell? ⟨R, 3, none⟩ = some (.int .u64 (uw0 a.m)) := Lib.cell_of_heap HR.out 3
      have r4 : d4.cell? ⟨R, 4, none⟩ = some (.int .u64 (uw1 a.m)) := Lib.cell_of_heap HR.out 4
      have r5 : d4.cell? ⟨R, 5, none⟩ = some (.int .u64 (uw2 a.m)) := Lib.cell_of_heap HR.out 5
      have r6 : d4.cell? ⟨R, 6, none⟩ = some (.int .u64 (uw3 a.m)) := Lib.cell_of_heap HR.out 6
      go_wp2_with fail
      clear r0 r1 r2 r3 r4 r5 r6
      refine (act31w_any HTW.out (by have := HZ.out; have := HI.out; omega) HF.out (a := a) (HGX.out.later (HTW.out.below))).mono ?_
      rw [← HS2.out]
      rintro e d5 ⟨rfl, o, hoth⟩
      have HRm := Lib.hid (hoth.2 R _ HR.out rfl rfl)
      have HTWm := Lib.hid o
      clear o hoth HR HTW
      have HR := HRm
      have HTW := HTWm
      clear HRm HTWm
      obtain ⟨vL2, adq, capq, hhd⟩ := HTW.out.two.head
      obtain ⟨nq, hnq⟩ : ∃ z, z = s2.past.length := ⟨_, rfl⟩
      rw [← hnq] at hhd
      have c9 : d5.cell? ⟨h, 1, none⟩ = some (.slice adq nq capq) := Lib.cell_of_heap hhd 1
      have HNQ := Lib.hid hnq
      have HPI2 : Hid (PI s2) := Lib.hid HPA.out.1
      have HU9 : Hid (s2 = s ∨ np < nq) := Lib.hid (by rw [HNP.out, hnq]; exact HPA.out.2)
      clear hhd hnq
      by_cases hpp : nq = np
      · have HEQ : Hid (s2 = s) := Lib.hid (by rcases HU9.out with h9 | h9; exact h9; omega)
        have q1 : ((nq : Int) == (np : Int)) = true := by simp [hpp]
        clear hpp
        go_wp2_with fail
        clear c9 q1
        obtain ⟨F9, h9⟩ := HTW.out.two.get1
        refine (sall_any h9 HSL.out.2).mono ?_
        rintro e d6 ⟨vD, rfl, hlD, hb, _⟩
        have HLD := Lib.hid hlD
        clear hlD h9
        have HRm := Lib.hid (below_at' hb HR.out)
        have HTWm := Lib.hid (HTW.out.later hb)
        clear hb HR HTW
        have HR := HRm
        have HTW := HTWm
        clear HRm HTWm
        obtain ⟨ad8, n8, cap8, hv8⟩ : ∃ ad n cap, vD = .slice ad n cap := by obtain ⟨a9, c9, e9, _⟩ := (HLD.out.rd pairE_len).shape; exact ⟨_, _, _, e9⟩
        subst hv8
        go_wp2_with fail
        have hsm := rsame_any (HLD.out.rd pairE_len) (HTW.out.was.rd pairE_len) HSL.out.2 HSL.out.1
        rw [HEQ.out, decide_eq_true rfl] at hsm
        refine (hsm).mono ?_
        rintro e d7 ⟨rfl, hb⟩
        have HRm := Lib.hid (below_at' hb HR.out)
        have HTWm := Lib.hid (HTW.out.later hb)
        clear hb HR HTW
        have HR := HRm
        have HTW := HTWm
        clear HRm HTWm
        clear hsm HLD
        go_wp2_with fail
        have TF := Lib.hid HTW.out.two
        clear HTW
        clear HR
        go_loopw [9] (fun vj wr => ∃ tk : Int, vj = .int .i64 tk ∧ 1 ≤ tk ∧ tk ≤ 3 ∧ Hid (Two w wr g h s2 s2)) (fun vj _ => (3 - intOf vj).toNat)
        case atStart => exact ⟨1, rfl, by omega, by omega, TF⟩
        case round =>
          clear TF
          obtain ⟨tk, rfl, ht1, ht3, TF⟩ := hrel
          by_cases hlt2 : tk ≤ 2
          · have HTI : Hid (I64 tk) := Lib.hid (by unfold I64; omega)
            have HTK : Hid (1 ≤ tk ∧ tk ≤ 2) := Lib.hid ⟨ht1, hlt2⟩
            obtain ⟨pd, hpd⟩ : ∃ z, z = amtV (getP s2.t) (keyF 35 [tk]) := ⟨_, rfl⟩
            obtain ⟨lf, hlf⟩ : ∃ z, z = amtV (getP s2.t) (keyF 4 [tk]) := ⟨_, rfl⟩
            obtain ⟨sb, hsb⟩ : ∃ z, z = amtV (getP s2.t) (keyF 34 [tk]) := ⟨_, rfl⟩
            have HSUM : Hid (pd + lf = sb) := Lib.hid (by rw [hpd, hlf, hsb]; exact HPI2.out.sum tk (by omega))
            have HPD := Lib.hid hpd; have HLF := Lib.hid hlf; have HSB := Lib.hid hsb
            clear hpd hlf hsb ht1 ht3 hlt2
            have hk2 : tk ≤ 2 := HTK.out.2
            have hk1 : 1 ≤ tk := HTK.out.1
            go_wp2_with fail
            obtain ⟨F9, h9⟩ := TF.out.get1
            refine (ppaid_any (Look.of_st h9) HF2.out.f HTI.out).mono ?_
            rw [← HPD.out]
            rintro e b1 ⟨xaa, xab, xac, xad, hu, rfl, hb⟩
            have HxaU := Lib.hid hu
            clear hu h9
            have TFm := Lib.hid (TF.out.later hb)
            clear hb TF
            have TF := TFm
            clear TFm
            go_wp2_with fail
            obtain ⟨F9, h9⟩ := TF.out.get1
            refine (pleft_any (Look.of_st h9) HF2.out.f HTI.out).mono ?_
            rw [← HLF.out]
            rintro e b2 ⟨xba, xbb, xbc, xbd, hu, rfl, hb⟩
            have HxbU := Lib.hid hu
            clear hu h9
            have TFm := Lib.hid (TF.out.later hb)
            clear hb TF
            have TF := TFm
            clear TFm
            go_wp2_with fail
            have hsm : sb < uMax := by have := HSB.out; rw [this]; exact amtV_lt _ _
            have HSM := Lib.hid hsm
            clear hsm
            refine (radd_any HxaU.out HxbU.out _).mono ?_
            rw [HSUM.out, decide_eq_true HSM.out]
            rintro e b3 ⟨sa, sb1, sc, sd, hu, rfl, hb⟩
            first | rw [if_pos trivial] at hu | rw [if_pos rfl] at hu
            have HSU := Lib.hid hu
            clear hu HxaU HxbU
            have TFm := Lib.hid (TF.out.later hb)
            clear hb TF
            have TF := TFm
            clear TFm
            go_wp2_with (refine wpList_alloc_g rfl _ rfl _ _ Tryz.zeroUz rfl ?_)
            intro P b4 hP
            have WP : Hid (w.heap.size ≤ P) := Lib.hid (by rw [hP.out.eq]; exact (TF.out.below).size)
            have HPz := Lib.hid hP.out.cells; have hbP := hP.out.below
            clear hP
            have TFm := Lib.hid (TF.out.later hbP)
            clear hbP TF
            have TF := TFm
            clear TFm
            have HP := HPz
            clear HPz
            go_wp2_with (refine wpList_store_row_g (t := 33) (old := u0) rfl 33 _ _ rfl P #[.int .u64 sa, .int .u64 sb1, .int .u64 sc, .int .u64 sd] rfl rfl HP.out Tryz.sizeU rfl (one_u64 _ _ _ _) ?_)
            intro b5 hxP kP zP
            clear zP
            have TFm := Lib.hid (two_cells TF.out HP.out rfl rfl kP WP.out)
            have HPm := Lib.hid hxP
            clear hxP kP TF HP
            have TF := TFm
            have HP := HPm
            clear TFm HPm
            go_wp2_with fail
            obtain ⟨b6, hwz⟩ : ∃ wz, wz = b5.drew := ⟨_, rfl⟩
            have hbz : Below b5.heap.size b5 b6 := by rw [hwz]; exact (Below.refl _ _).drew
            have TFm := Lib.hid (TF.out.later hbz)
            have HPm := Lib.hid (below_at' hbz HP.out)
            clear hbz TF HP
            have TF := TFm
            have HP := HPm
            clear TFm HPm
            have hS : b6.heap[P]? = some (.cells #[.int .u64 sa, .int .u64 sb1, .int .u64 sc, .int .u64 sd] 33 (0, 0)) := HP.out
            refine wp_region_till (fun w' => w'.heap[P]? = some (.cells #[.int .u64 sa, .int .u64 sb1, .int .u64 sc, .int .u64 sd] 33 (0, 0))) 19 19 (by kernel_rfl) rfl ?_
            rw [← hwz]
            clear hwz
            refine till_take 0 (some 65) rfl rfl (by kernel_rfl) (by kernel_rfl) (by kernel_rfl) (by kernel_rfl) (by kernel_rfl) (by kernel_rfl) (fun _ _ _ h => h) (.inl ⟨by rfl, fun w' _ => (by go_simp; rfl)⟩) hS ?_
            go_frame
            refine till_take 1 (some 66) rfl rfl (by kernel_rfl) (by kernel_rfl) (by kernel_rfl) (by kernel_rfl) (by kernel_rfl) (by kernel_rfl) (fun _ _ _ h => h) (.inl ⟨by rfl, fun w' _ => (by go_simp; rfl)⟩) hS ?_
            go_frame
            refine till_take 2 (some 67) rfl rfl (by kernel_rfl) (by kernel_rfl) (by kernel_rfl) (by kernel_rfl) (by kernel_rfl) (by kernel_rfl) (fun _ _ _ h => h) (.inl ⟨by rfl, fun w' _ => (by go_simp; rfl)⟩) hS ?_
            go_frame
            refine till_take 3 (some 68) rfl rfl (by kernel_rfl) (by kernel_rfl) (by kernel_rfl) (by kernel_rfl) (by kernel_rfl) (by kernel_rfl) (fun _ _ _ h => h) (yields_load (by rfl) 33 _ rfl (.pointer (some ⟨P, 0, none⟩)) rfl (.agg #[.int .u64 sa, .int .u64 sb1, .int .u64 sc, .int .u64 sd]) (fun w' hS' => load_heap (hS') Tryz.underlying33 rfl Tryz.sizeU)) hS ?_
            go_frame
            refine till_take 4 (some 69) rfl rfl (by kernel_rfl) (by kernel_rfl) (by kernel_rfl) (by kernel_rfl) (by kernel_rfl) (by kernel_rfl) (fun _ _ _ h => h) (.inl ⟨by rfl, fun w' _ => (by go_simp; rfl)⟩) hS ?_
            go_frame
            refine till_take 5 (some 70) rfl rfl (by kernel_rfl) (by kernel_rfl) (by kernel_rfl) (by kernel_rfl) (by kernel_rfl) (by kernel_rfl) (fun _ _ _ h => h) (.inl ⟨by rfl, fun w' _ => (by go_simp; rfl)⟩) hS ?_
            go_frame
            refine till_one 6 rfl (by kernel_rfl) fun K hK => ?_
            simp only [List.getElem_toArray, List.getElem_cons_succ, List.getElem_cons_zero]
            rw [if_pos (by rfl)]
            go_simp
            obtain ⟨F9, h9⟩ := TF.out.get1
            refine (psub_any (Look.of_st h9) HF2.out.f HTI.out).mono ?_
            rw [← HSB.out]
            rintro e b7 ⟨xca, xcb, xcc, xcd, hu, rfl, hb⟩
            have HxcU := Lib.hid hu
            clear hu h9
            have TFm := Lib.hid (TF.out.later hb)
            have HPm := Lib.hid (below_at' hb HP.out)
            clear hb TF HP
            have TF := TFm
            have HP := HPm
            clear TFm HPm
            have e7 := Tryz.eqUn HSU.out HxcU.out
            rw [decide_eq_true rfl] at e7
            have hS2 : b7.heap[P]? = some (.cells #[.int .u64 sa, .int .u64 sb1, .int .u64 sc, .int .u64 sd] 33 (0, 0)) := HP.out
            refine hK _ _ (fun _ _ => hS2) ?_
            clear hK hS
            have hS := hS2
            clear hS2
            refine till_take 7 (some 72) rfl rfl (by kernel_rfl) (by kernel_rfl) (by kernel_rfl) (by kernel_rfl) (by kernel_rfl) (by kernel_rfl) (fun _ _ _ h => h) (.inl ⟨by rfl, fun w' _ => (by go_simp; rfl)⟩) hS ?_
            go_frame
            refine till_take 8 (some 73) rfl rfl (by kernel_rfl) (by kernel_rfl) (by kernel_rfl) (by kernel_rfl) (by kernel_rfl) (by kernel_rfl) (fun _ _ _ h => h) (.inl ⟨by rfl, fun w' _ => (by go_simp; rfl)⟩) hS ?_
            go_frame
            refine till_take 9 (some 74) rfl rfl (by kernel_rfl) (by kernel_rfl) (by kernel_rfl) (by kernel_rfl) (by kernel_rfl) (by kernel_rfl) (fun _ _ _ h => h) (.inl ⟨by rfl, fun w' _ => (by go_simp; rfl)⟩) hS ?_
            go_frame
            refine till_take 10 (some 75) rfl rfl (by kernel_rfl) (by kernel_rfl) (by kernel_rfl) (by kernel_rfl) (by kernel_rfl) (by kernel_rfl) (fun _ _ _ h => h) (.inl ⟨by rfl, fun w' _ => (by go_simp; rfl)⟩) hS ?_
            go_frame
            refine till_take 11 (some 76) rfl rfl (by kernel_rfl) (by kernel_rfl) (by kernel_rfl) (by kernel_rfl) (by kernel_rfl) (by kernel_rfl) (fun _ _ _ h => h) (.inl ⟨by rfl, fun w' _ => (by go_simp; rfl)⟩) hS ?_
            go_frame
            refine till_take 13 (some 78) rfl rfl (by kernel_rfl) (by kernel_rfl) (by kernel_rfl) (by kernel_rfl) (by kernel_rfl) (by kernel_rfl) (fun _ _ _ h => h) (.inl ⟨by rfl, fun w' _ => (by go_simp; rfl)⟩) hS ?_
            go_frame
            refine till_take 14 (some 79) rfl rfl (by kernel_rfl) (by kernel_rfl) (by kernel_rfl) (by kernel_rfl) (by kernel_rfl) (by kernel_rfl) (fun _ _ _ h => h) (.inl ⟨by rfl, fun w' _ => (by go_simp; rfl)⟩) hS ?_
            go_frame
            refine till_one 12 rfl (by kernel_rfl) fun K hK => ?_
            simp only [List.getElem_toArray, List.getElem_cons_succ, List.getElem_cons_zero]
            rw [if_pos (by rfl)]
            go_simp
            obtain ⟨F9, h9⟩ := TF.out.get1
            refine (ppaid_any (Look.of_st h9) HF2.out.f HTI.out).mono ?_
            rw [← HPD.out]
            rintro e b8 ⟨xda, xdb, xdc, xdd, hu, rfl, hb⟩
            have HxdU := Lib.hid hu
            clear hu h9
            have TFm := Lib.hid (TF.out.later hb)
            have HPm := Lib.hid (below_at' hb HP.out)
            clear hb TF HP
            have TF := TFm
            have HP := HPm
            clear TFm HPm
            have hS2 : b8.heap[P]? = some (.cells #[.int .u64 sa, .int .u64 sb1, .int .u64 sc, .int .u64 sd] 33 (0, 0)) := HP.out
            refine hK _ _ (fun _ _ => hS2) ?_
            clear hK hS
            have hS := hS2
            clear hS2
            refine till_one 15 rfl (by kernel_rfl) fun K hK => ?_
            simp only [List.getElem_toArray, List.getElem_cons_succ, List.getElem_cons_zero]
            rw [if_pos (by rfl)]
            go_simp
            obtain ⟨F9, h9⟩ := TF.out.get1
            refine (psub_any (Look.of_st h9) HF2.out.f HTI.out).mono ?_
            rw [← HSB.out]
            rintro e b9 ⟨xea, xeb, xec, xed, hu, rfl, hb⟩
            have HxeU := Lib.hid hu
            clear hu h9
            have TFm := Lib.hid (TF.out.later hb)
            have HPm := Lib.hid (below_at' hb HP.out)
            clear hb TF HP
            have TF := TFm
            have HP := HPm
            clear TFm HPm
            have hS2 : b9.heap[P]? = some (.cells #[.int .u64 sa, .int .u64 sb1, .int .u64 sc, .int .u64 sd] 33 (0, 0)) := HP.out
            refine hK _ _ (fun _ _ => hS2) ?_
            clear hK hS
            have hS := hS2
            clear hS2
            refine till_one 16 rfl (by kernel_rfl) fun K hK => ?_
            simp only [List.getElem_toArray, List.getElem_cons_succ, List.getElem_cons_zero]
            rw [if_pos (by rfl)]
            go_simp
            refine (ucmp_any HxdU.out HxeU.out _).mono ?_
            obtain ⟨cv, hcv⟩ : ∃ q, q = cmpV pd sb := ⟨_, rfl⟩
            rw [← hcv]
            have hc0 : ¬ 0 < cv := by rw [hcv]; have := HSUM.out; unfold cmpV; split; omega; split <;> omega
            have hc1 : decide (0 < cv) = false := decide_eq_false hc0
            clear hcv
            rintro e b10 ⟨rfl, hb⟩
            have TFm := Lib.hid (TF.out.later hb)
            have HPm := Lib.hid (below_at' hb HP.out)
            clear hb TF HP
            have TF := TFm
            have HP := HPm
            clear TFm HPm
            have hS2 : b10.heap[P]? = some (.cells #[.int .u64 sa, .int .u64 sb1, .int .u64 sc, .int .u64 sd] 33 (0, 0)) := HP.out
            refine hK _ _ (fun _ _ => hS2) ?_
            clear hK hS
            have hS := hS2
            clear hS2
            refine till_take 17 (some 82) rfl rfl (by kernel_rfl) (by kernel_rfl) (by kernel_rfl) (by kernel_rfl) (by kernel_rfl) (by kernel_rfl) (fun _ _ _ h => h) (.inl ⟨by rfl, fun w' _ => (by go_simp; rfl)⟩) hS ?_
            go_frame
            refine till_take 18 (some 83) rfl rfl (by kernel_rfl) (by kernel_rfl) (by kernel_rfl) (by kernel_rfl) (by kernel_rfl) (by kernel_rfl) (fun _ _ _ h => h) (.inl ⟨by rfl, fun w' _ => (by go_simp; rfl)⟩) hS ?_
            go_frame
            refine till_done (by kernel_rfl) ?_ _
            clear hS
            clear e7
            go_wp2_with fail
            go_roundw
            case rel => exact ⟨tk + 1, by first | rfl | go_num, by have := HTK.out; omega, by have := HTK.out; omega, TF⟩
            case measure => have := HTK.out; simp [intOf]; omega
          · obtain rfl : tk = 3 := by omega
            clear ht1 ht3 hlt2
            go_wp2_with fail
            go_roundw
            case rel => exact ⟨i + 1, s2, by go_num, HJL.out, HZ2, HF2, HPI2, TF⟩
            case measure => have := HJL.out; simp [intOf]; omega
      · have q1 : ((nq : Int) == (np : Int)) = false := beq_eq_false_iff_ne.2 (by omega)
        clear hpp
        go_wp2_with fail
        clear c9 q1
        have TF := Lib.hid HTW.out.two
        clear HTW
        clear HR
        go_loopw [9] (fun vj wr => ∃ tk : Int, vj = .int .i64 tk ∧ 1 ≤ tk ∧ tk ≤ 3 ∧ Hid (Two w wr g h s2 s2)) (fun vj _ => (3 - intOf vj).toNat)
        case atStart => exact ⟨1, rfl, by omega, by omega, TF⟩
        case round =>
          clear TF
          obtain ⟨tk, rfl, ht1, ht3, TF⟩ := hrel
          by_cases hlt2 : tk ≤ 2
          · have HTI : Hid (I64 tk) := Lib.hid (by unfold I64; omega)
            have HTK : Hid (1 ≤ tk ∧ tk ≤ 2) := Lib.hid ⟨ht1, hlt2⟩
            obtain ⟨pd, hpd⟩ : ∃ z, z = amtV (getP s2.t) (keyF 35 [tk]) := ⟨_, rfl⟩
            obtain ⟨lf, hlf⟩ : ∃ z, z = amtV (getP s2.t) (keyF 4 [tk]) := ⟨_, rfl⟩
            obtain ⟨sb, hsb⟩ : ∃ z, z = amtV (getP s2.t) (keyF 34 [tk]) := ⟨_, rfl⟩
            have HSUM : Hid (pd + lf = sb) := Lib.hid (by rw [hpd, hlf, hsb]; exact HPI2.out.sum tk (by omega))
            have HPD := Lib.hid hpd; have HLF := Lib.hid hlf; have HSB := Lib.hid hsb
            clear hpd hlf hsb ht1 ht3 hlt2
            have hk2 : tk ≤ 2 := HTK.out.2
            have hk1 : 1 ≤ tk := HTK.out.1
            go_wp2_with fail
            obtain ⟨F9, h9⟩ := TF.out.get1
            refine (ppaid_any (Look.of_st h9) HF2.out.f HTI.out).mono ?_
            rw [← HPD.out]
            rintro e b1 ⟨xaa, xab, xac, xad, hu, rfl, hb⟩
            have HxaU := Lib.hid hu
            clear hu h9
            have TFm := Lib.hid (TF.out.later hb)
            clear hb TF
            have TF := TFm
            clear TFm
            go_wp2_with fail
            obtain ⟨F9, h9⟩ := TF.out.get1
            refine (pleft_any (Look.of_st h9) HF2.out.f HTI.out).mono ?_
            rw [← HLF.out]
            rintro e b2 ⟨xba, xbb, xbc, xbd, hu, rfl, hb⟩
            have HxbU := Lib.hid hu
            clear hu h9
            have TFm := Lib.hid (TF.out.later hb)
            clear hb TF
            have TF := TFm
            clear TFm
            go_wp2_with fail
            have hsm : sb < uMax := by have := HSB.out; rw [this]; exact amtV_lt _ _
            have HSM := Lib.hid hsm
            clear hsm
            refine (radd_any HxaU.out HxbU.out _).mono ?_
            rw [HSUM.out, decide_eq_true HSM.out]
            rintro e b3 ⟨sa, sb1, sc, sd, hu, rfl, hb⟩
            first | rw [if_pos trivial] at hu | rw [if_pos rfl] at hu
            have HSU := Lib.hid hu
            clear hu HxaU HxbU
            have TFm := Lib.hid (TF.out.later hb)
            clear hb TF
            have TF := TFm
            clear TFm
            go_wp2_with (refine wpList_alloc_g rfl _ rfl _ _ Tryz.zeroUz rfl ?_)
            intro P b4 hP
            have WP : Hid (w.heap.size ≤ P) := Lib.hid (by rw [hP.out.eq]; exact (TF.out.below).size)
            have HPz := Lib.hid hP.out.cells; have hbP := hP.out.below
            clear hP
            have TFm := Lib.hid (TF.out.later hbP)
            clear hbP TF
            have TF := TFm
            clear TFm
            have HP := HPz
            clear HPz
            go_wp2_with (refine wpList_store_row_g (t := 33) (old := u0) rfl 33 _ _ rfl P #[.int .u64 sa, .int .u64 sb1, .int .u64 sc, .int .u64 sd] rfl rfl HP.out Tryz.sizeU rfl (one_u64 _ _ _ _) ?_)
            intro b5 hxP kP zP
            clear zP
            have TFm := Lib.hid (two_cells TF.out HP.out rfl rfl kP WP.out)
            have HPm := Lib.hid hxP
            clear hxP kP TF HP
            have TF := TFm
            have HP := HPm
            clear TFm HPm
            go_wp2_with fail
            obtain ⟨b6, hwz⟩ : ∃ wz, wz = b5.drew := ⟨_, rfl⟩
            have hbz : Below b5.heap.size b5 b6 := by rw [hwz]; exact (Below.refl _ _).drew
            have TFm := Lib.hid (TF.out.later hbz)
            have HPm := Lib.hid (below_at' hbz HP.out)
            clear hbz TF HP
            have TF := TFm
            have HP := HPm
            clear TFm HPm
            have hS : b6.heap[P]? = some (.cells #[.int .u64 sa, .int .u64 sb1, .int .u64 sc, .int .u64 sd] 33 (0, 0)) := HP.out
            refine wp_region_till (fun w' => w'.heap[P]? = some (.cells #[.int .u64 sa, .int .u64 sb1, .int .u64 sc, .int .u64 sd] 33 (0, 0))) 19 19 (by kernel_rfl) rfl ?_
            rw [← hwz]
            clear hwz
            refine till_take 0 (some 65) rfl rfl (by kernel_rfl) (by kernel_rfl) (by kernel_rfl) (by kernel_rfl) (by kernel_rfl) (by kernel_rfl) (fun _ _ _ h => h) (.inl ⟨by rfl, fun w' _ => (by go_simp; rfl)⟩) hS ?_
            go_frame
            refine till_take 1 (some 66) rfl rfl (by kernel_rfl) (by kernel_rfl) (by kernel_rfl) (by kernel_rfl) (by kernel_rfl) (by kernel_rfl) (fun _ _ _ h => h) (.inl ⟨by rfl, fun w' _ => (by go_simp; rfl)⟩) hS ?_
            go_frame
            refine till_take 2 (some 67) rfl rfl (by kernel_rfl) (by kernel_rfl) (by kernel_rfl) (by kernel_rfl) (by kernel_rfl) (by kernel_rfl) (fun _ _ _ h => h) (.inl ⟨by rfl, fun w' _ => (by go_simp; rfl)⟩) hS ?_
            go_frame
            refine till_take 3 (some 68) rfl rfl (by kernel_rfl) (by kernel_rfl) (by kernel_rfl) (by kernel_rfl) (by kernel_rfl) (by kernel_rfl) (fun _ _ _ h => h) (yields_load (by rfl) 33 _ rfl (.pointer (some ⟨P, 0, none⟩)) rfl (.agg #[.int .u64 sa, .int .u64 sb1, .int .u64 sc, .int .u64 sd]) (fun w' hS' => load_heap (hS') Tryz.underlying33 rfl Tryz.sizeU)) hS ?_
            go_frame
            refine till_take 4 (some 69) rfl rfl (by kernel_rfl) (by kernel_rfl) (by kernel_rfl) (by kernel_rfl) (by kernel_rfl) (by kernel_rfl) (fun _ _ _ h => h) (.inl ⟨by rfl, fun w' _ => (by go_simp; rfl)⟩) hS ?_
            go_frame
            refine till_take 5 (some 70) rfl rfl (by kernel_rfl) (by kernel_rfl) (by kernel_rfl) (by kernel_rfl) (by kernel_rfl) (by kernel_rfl) (fun _ _ _ h => h) (.inl ⟨by rfl, fun w' _ => (by go_simp; rfl)⟩) hS ?_
            go_frame
            refine till_one 6 rfl (by kernel_rfl) fun K hK => ?_
            simp only [List.getElem_toArray, List.getElem_cons_succ, List.getElem_cons_zero]
            rw [if_pos (by rfl)]
            go_simp
            obtain ⟨F9, h9⟩ := TF.out.get1
            refine (psub_any (Look.of_st h9) HF2.out.f HTI.out).mono ?_
            rw [← HSB.out]
            rintro e b7 ⟨xca, xcb, xcc, xcd, hu, rfl, hb⟩
            have HxcU := Lib.hid hu
            clear hu h9
            have TFm := Lib.hid (TF.out.later hb)
            have HPm := Lib.hid (below_at' hb HP.out)
            clear hb TF HP
            have TF := TFm
            have HP := HPm
            clear TFm HPm
            have e7 := Tryz.eqUn HSU.out HxcU.out
            rw [decide_eq_true rfl] at e7
            have hS2 : b7.heap[P]? = some (.cells #[.int .u64 sa, .int .u64 sb1, .int .u64 sc, .int .u64 sd] 33 (0, 0)) := HP.out
            refine hK _ _ (fun _ _ => hS2) ?_
            clear hK hS
            have hS := hS2
            clear hS2
            refine till_take 7 (some 72) rfl rfl (by kernel_rfl) (by kernel_rfl) (by kernel_rfl) (by kernel_rfl) (by kernel_rfl) (by kernel_rfl) (fun _ _ _ h => h) (.inl ⟨by rfl, fun w' _ => (by go_simp; rfl)⟩) hS ?_
            go_frame
            refine till_take 8 (some 73) rfl rfl (by kernel_rfl) (by kernel_rfl) (by kernel_rfl) (by kernel_rfl) (by kernel_rfl) (by kernel_rfl) (fun _ _ _ h => h) (.inl ⟨by rfl, fun w' _ => (by go_simp; rfl)⟩) hS ?_
            go_frame
            refine till_take 9 (some 74) rfl rfl (by kernel_rfl) (by kernel_rfl) (by kernel_rfl) (by kernel_rfl) (by kernel_rfl) (by kernel_rfl) (fun _ _ _ h => h) (.inl ⟨by rfl, fun w' _ => (by go_simp; rfl)⟩) hS ?_
            go_frame
            refine till_take 10 (some 75) rfl rfl (by kernel_rfl) (by kernel_rfl) (by kernel_rfl) (by kernel_rfl) (by kernel_rfl) (by kernel_rfl) (fun _ _ _ h => h) (.inl ⟨by rfl, fun w' _ => (by go_simp; rfl)⟩) hS ?_
            go_frame
            refine till_take 11 (some 76) rfl rfl (by kernel_rfl) (by kernel_rfl) (by kernel_rfl) (by kernel_rfl) (by kernel_rfl) (by kernel_rfl) (fun _ _ _ h => h) (.inl ⟨by rfl, fun w' _ => (by go_simp; rfl)⟩) hS ?_
            go_frame
            refine till_take 13 (some 78) rfl rfl (by kernel_rfl) (by kernel_rfl) (by kernel_rfl) (by kernel_rfl) (by kernel_rfl) (by kernel_rfl) (fun _ _ _ h => h) (.inl ⟨by rfl, fun w' _ => (by go_simp; rfl)⟩) hS ?_
            go_frame
            refine till_take 14 (some 79) rfl rfl (by kernel_rfl) (by kernel_rfl) (by kernel_rfl) (by kernel_rfl) (by kernel_rfl) (by kernel_rfl) (fun _ _ _ h => h) (.inl ⟨by rfl, fun w' _ => (by go_simp; rfl)⟩) hS ?_
            go_frame
            refine till_one 12 rfl (by kernel_rfl) fun K hK => ?_
            simp only [List.getElem_toArray, List.getElem_cons_succ, List.getElem_cons_zero]
            rw [if_pos (by rfl)]
            go_simp
            obtain ⟨F9, h9⟩ := TF.out.get1
            refine (ppaid_any (Look.of_st h9) HF2.out.f HTI.out).mono ?_
            rw [← HPD.out]
            rintro e b8 ⟨xda, xdb, xdc, xdd, hu, rfl, hb⟩
            have HxdU := Lib.hid hu
            clear hu h9
            have TFm := Lib.hid (TF.out.later hb)
            have HPm := Lib.hid (below_at' hb HP.out)
            clear hb TF HP
            have TF := TFm
            have HP := HPm
            clear TFm HPm
            have hS2 : b8.heap[P]? = some (.cells #[.int .u64 sa, .int .u64 sb1, .int .u64 sc, .int .u64 sd] 33 (0, 0)) := HP.out
            refine hK _ _ (fun _ _ => hS2) ?_
            clear hK hS
            have hS := hS2
            clear hS2
            refine till_one 15 rfl (by kernel_rfl) fun K hK => ?_
            simp only [List.getElem_toArray, List.getElem_cons_succ, List.getElem_cons_zero]
            rw [if_pos (by rfl)]
            go_simp
            obtain ⟨F9, h9⟩ := TF.out.get1
            refine (psub_any (Look.of_st h9) HF2.out.f HTI.out).mono ?_
            rw [← HSB.out]
            rintro e b9 ⟨xea, xeb, xec, xed, hu, rfl, hb⟩
            have HxeU := Lib.hid hu
            clear hu h9
            have TFm := Lib.hid (TF.out.later hb)
            have HPm := Lib.hid (below_at' hb HP.out)
            clear hb TF HP
            have TF := TFm
            have HP := HPm
            clear TFm HPm
            have hS2 : b9.heap[P]? = some (.cells #[.int .u64 sa, .int .u64 sb1, .int .u64 sc, .int .u64 sd] 33 (0, 0)) := HP.out
            refine hK _ _ (fun _ _ => hS2) ?_
            clear hK hS
            have hS := hS2
            clear hS2
            refine till_one 16 rfl (by kernel_rfl) fun K hK => ?_
            simp only [List.getElem_toArray, List.getElem_cons_succ, List.getElem_cons_zero]
            rw [if_pos (by rfl)]
            go_simp
            refine (ucmp_any HxdU.out HxeU.out _).mono ?_
            obtain ⟨cv, hcv⟩ : ∃ q, q = cmpV pd sb := ⟨_, rfl⟩
            rw [← hcv]
            have hc0 : ¬ 0 < cv := by rw [hcv]; have := HSUM.out; unfold cmpV; split; omega; split <;> omega
            have hc1 : decide (0 < cv) = false := decide_eq_false hc0
            clear hcv
            rintro e b10 ⟨rfl, hb⟩
            have TFm := Lib.hid (TF.out.later hb)
            have HPm := Lib.hid (below_at' hb HP.out)
            clear hb TF HP
            have TF := TFm
            have HP := HPm
            clear TFm HPm
            have hS2 : b10.heap[P]? = some (.cells #[.int .u64 sa, .int .u64 sb1, .int .u64 sc, .int .u64 sd] 33 (0, 0)) := HP.out
            refine hK _ _ (fun _ _ => hS2) ?_
            clear hK hS
            have hS := hS2
            clear hS2
            refine till_take 17 (some 82) rfl rfl (by kernel_rfl) (by kernel_rfl) (by kernel_rfl) (by kernel_rfl) (by kernel_rfl) (by kernel_rfl) (fun _ _ _ h => h) (.inl ⟨by rfl, fun w' _ => (by go_simp; rfl)⟩) hS ?_
            go_frame
            refine till_take 18 (some 83) rfl rfl (by kernel_rfl) (by kernel_rfl) (by kernel_rfl) (by kernel_rfl) (by kernel_rfl) (by kernel_rfl) (fun _ _ _ h => h) (.inl ⟨by rfl, fun w' _ => (by go_simp; rfl)⟩) hS ?_
            go_frame
            refine till_done (by kernel_rfl) ?_ _
            clear hS
            clear e7
            go_wp2_with fail
            go_roundw
            case rel => exact ⟨tk + 1, by first | rfl | go_num, by have := HTK.out; omega, by have := HTK.out; omega, TF⟩
            case measure => have := HTK.out; simp [intOf]; omega
          · obtain rfl : tk = 3 := by omega
            clear ht1 ht3 hlt2
            go_wp2_with fail
            go_roundw
            case rel => exact ⟨i + 1, s2, by go_num, HJL.out, HZ2, HF2, HPI2, TF⟩
            case measure => have := HJL.out; simp [intOf]; omega
    · obtain rfl : i = n := by omega
      clear hlt
      go_wp2_with fail
      refine (lives31_any _).mono ?_
      rintro e w9 ⟨rfl, hb⟩
      have HBF := Lib.hid (TF.out.below.trans (hb.mono TF.out.below.size))
      clear hb
      go_wp2_with fail
      go_ret
      exact ⟨rfl, HBF.out⟩
end Go.Proofs.YthnjakomkdlglaaGreat
