/- Law 13: lives, DueNone. No condition. Plain law of DueOnce: what is due stands by block, then by number. No condition. Chapter 13, the reference: what is bad, how many there are, all rows (code). No condition. Chapter 13, the reference: the first block, one more (code). No condition. Chapter 13, the reference: what is taken (code). No condition. Chapter 13, plain: what both stores hold behind each act (law DueActs). No condition. Law 13: DueActs. No condition. -/
import Derived.Test.YthnjakomkdlglaaDueE
import Derived.Deep.QuietTactic
import Derived.BigQuiet
import Derived.WalkSmall
import Derived.Deep.Cut
namespace Go.Proofs.Ythnjakomkdlglaa
section
open Go.RowKit

theorem RowsV.later {w w' : World} {v : Value} {ls : List (List Int)} (h : RowsV w v ls) (hb : Below w.heap.size w w') : RowsV w' v ls := by
  obtain ⟨xs, h1, h2, h3⟩ := h
  exact ⟨xs, h1.later hb, h2, fun x hx => (h3 x hx).later hb⟩
theorem One.liv {w0 w w' : World} {F : List Nat} {g : Nat} {s' : PS} (hF : ∀ x ∈ F, w0.heap.size ≤ x) (hb : Below w0.heap.size w0 w) (L : Liv w F w' g s') : One w0 w' g s' := by
  obtain ⟨F', h1, h2, h3⟩ := L
  exact ⟨F', h1, fun x hx => by rcases h3 x hx with h | h; exact hF x h; exact Nat.le_trans hb.size h, hb.trans (h2.below (B := w0.heap.size) (fun y hy e => by have := hF y e; omega) hb.size)⟩
theorem One.add {P : Program} {f : FuncId} {args : Array Value} {w0 w : World} {g : Nat} {s s' : PS} {v : Value} (t : One w0 w g s) (hc : ∀ F, St w g s F → Calls P f args w (fun e w' => e = .returned v ∧ Liv w F w' g s')) : Calls P f args w (fun e w' => e = .returned v ∧ One w0 w' g s') := by
  obtain ⟨F, h1, h2, h3⟩ := t
  exact (hc F h1).mono fun e w' ⟨e1, L⟩ => ⟨e1, One.liv h2 h3 L⟩
theorem One.take {P : Program} {f : FuncId} {args : Array Value} {w0 w : World} {g : Nat} {s s' : PS} {ls : List (List Int)} (t : One w0 w g s) (hc : ∀ F, St w g s F → Calls P f args w (TakeRet w g F s' ls)) : Calls P f args w (fun e w' => ∃ v, e = .returned v ∧ RowsV w' v ls ∧ One w0 w' g s') := by
  obtain ⟨F, h1, h2, h3⟩ := t
  exact (hc F h1).mono fun e w' ⟨v, e1, r, L⟩ => ⟨v, e1, r, One.liv h2 h3 L⟩
theorem und_st {w : World} {g : Nat} {s : PS} {F : List Nat} (h : St w g s F) (hz : s.t.length < 1099511627776) (b : Txt) : Und w (some ⟨g, 0, none⟩) b (underP s.t b) := fun _ hW => sunder_any (h.later hW) hz b

set_option maxHeartbeats 8000000 in
set_option maxRecDepth 100000 in
theorem lives13_any (w : World) : Calls Try.prog 10 #[] w (Ret w (.bool true)) := by
  have a0 : TabOk (underP PS.new.t (keyF 26 [5])) := by unfold TabOk; decide +kernel
  have a1 : ∀ r ∈ rowsT (underP PS.new.t (keyF 26 [5])), 0 ≤ r.1.2 ∧ r.1.2 < 1000000000000 := by decide +kernel
  have a2 : getI (getP (PS.new.dput 5 (daddN PS.new 5) [1]).t) (keyF 27 []) < 1000000000000 := by decide +kernel
  have a3 : Fit PS.new := by unfold Fit; decide +kernel
  have a4 : PS.new.sz < 1000000000 := by decide +kernel
  have a5 : TabOk (underP (PS.new.dadd 5 [1]).t (keyF 26 [4])) := by unfold TabOk; decide +kernel
  have a6 : ∀ r ∈ rowsT (underP (PS.new.dadd 5 [1]).t (keyF 26 [4])), 0 ≤ r.1.2 ∧ r.1.2 < 1000000000000 := by decide +kernel
  have a7 : getI (getP ((PS.new.dadd 5 [1]).dput 4 (daddN (PS.new.dadd 5 [1]) 4) [2]).t) (keyF 27 []) < 1000000000000 := by decide +kernel
  have a8 : Fit (PS.new.dadd 5 [1]) := by unfold Fit; decide +kernel
  have a9 : (PS.new.dadd 5 [1]).sz < 1000000000 := by decide +kernel
  have a10 : TabOk (underP ((PS.new.dadd 5 [1]).dadd 4 [2]).t (keyF 26 [])) := by unfold TabOk; decide +kernel
  have a11 : (underP ((PS.new.dadd 5 [1]).dadd 4 [2]).t (keyF 26 [])).length < 1000000000 := by decide +kernel
  have a12 : ∀ r ∈ rowsT (underP ((PS.new.dadd 5 [1]).dadd 4 [2]).t (keyF 26 [])), (0 ≤ r.1.1 ∧ r.1.1 < 9223372036854775808) ∧ (0 ≤ r.1.2 ∧ r.1.2 < 9223372036854775808) := by decide +kernel
  have a13 : Fit ((PS.new.dadd 5 [1]).dadd 4 [2]) := by unfold Fit; decide +kernel
  have a14 : ((PS.new.dadd 5 [1]).dadd 4 [2]).sz < 1000000000 := by decide +kernel
  have a15 : (takeL 4 (rowsT (underP ((PS.new.dadd 5 [1]).dadd 4 [2]).t (keyF 26 [])))).map (·.2) = [[2]] := by decide +kernel
  have a16 : TabOk (underP (takeS ((PS.new.dadd 5 [1]).dadd 4 [2]) (takeL 4 (rowsT (underP ((PS.new.dadd 5 [1]).dadd 4 [2]).t (keyF 26 []))))).t (keyF 26 [])) := by unfold TabOk; decide +kernel
  have a17 : rowsT (underP (takeS ((PS.new.dadd 5 [1]).dadd 4 [2]) (takeL 4 (rowsT (underP ((PS.new.dadd 5 [1]).dadd 4 [2]).t (keyF 26 []))))).t (keyF 26 [])) = [((5, 0), [1])] := by decide +kernel
  have a18 : (takeS ((PS.new.dadd 5 [1]).dadd 4 [2]) (takeL 4 (rowsT (underP ((PS.new.dadd 5 [1]).dadd 4 [2]).t (keyF 26 []))))).t.length < 1099511627776 := by decide +kernel
  obtain ⟨s1, hs1⟩ : ∃ s, s = PS.new.dadd 5 [1] := ⟨_, rfl⟩
  obtain ⟨s2, hs2⟩ : ∃ s, s = s1.dadd 4 [2] := ⟨_, rfl⟩
  obtain ⟨tk, htk⟩ : ∃ s, s = takeL 4 (rowsT (underP s2.t (keyF 26 []))) := ⟨_, rfl⟩
  obtain ⟨s3, hs3⟩ : ∃ s, s = takeS s2 tk := ⟨_, rfl⟩
  rw [← hs1] at a5 a6 a7 a8 a9 a10 a11 a12 a13 a14 a15 a16 a17 a18
  rw [← hs2] at a10 a11 a12 a13 a14 a15 a16 a17 a18
  rw [← htk] at a15 a16 a17 a18
  rw [← hs3] at a16 a17 a18
  have A0 := Lib.hid a0
  have A1 := Lib.hid a1
  have A2 := Lib.hid a2
  have A3 := Lib.hid a3
  have A4 := Lib.hid a4
  have A5 := Lib.hid a5
  have A6 := Lib.hid a6
  have A7 := Lib.hid a7
  have A8 := Lib.hid a8
  have A9 := Lib.hid a9
  have A10 := Lib.hid a10
  have A11 := Lib.hid a11
  have A12 := Lib.hid a12
  have A13 := Lib.hid a13
  have A14 := Lib.hid a14
  have A15 := Lib.hid a15
  have A16 := Lib.hid a16
  have A17 := Lib.hid a17
  have A18 := Lib.hid a18
  have E1 := Lib.hid hs1; have E2 := Lib.hid hs2; have EK := Lib.hid htk; have E3 := Lib.hid hs3
  clear hs1 hs2 htk hs3 a0 a1 a2 a3 a4 a5 a6 a7 a8 a9 a10 a11 a12 a13 a14 a15 a16 a17 a18
  go_enter Try.func10, Try.ntmps10
  go_wp2_with fail
  refine (snew_any _).mono ?_
  rintro e w1 ⟨g, F, rfl, h1, hb1, hf1⟩
  have O : Hid (One w w1 g PS.new) := Lib.hid ⟨F, h1, hf1, hb1⟩
  clear h1 hb1 hf1
  go_wp2_with fail
  obtain ⟨a1, hw1⟩ : ∃ wq, wq = World.alloc w1 (.cells #[.int .i64 1] 3) := ⟨_, rfl⟩
  obtain ⟨gOL1, hgi⟩ : ∃ gi, gi = (World.heap w1).size := ⟨_, rfl⟩
  rw [← hw1, ← hgi]
  have OL1 : Hid (Own a1 0 3 intE 1 (.slice (some ⟨gOL1, 0, none⟩) 1 1) [1]) := Lib.hid (own_lit (l := [1]) (by rw [hw1, hgi]; exact heap_alloc_new _ _) (Nat.zero_le _) (by unfold maxLen; simp))
  have hb : Below (World.heap w1).size w1 a1 := by rw [hw1]; exact below_new _ _
  clear hw1 hgi
  have Om := Lib.hid (O.out.later hb)
  clear hb O
  have O := Om
  clear Om
  refine (O.out.add fun F hs => dadd_any hs A4.out A3.out (bk := 5) (by omega) (by omega) (own_rd OL1.out) (by decide) (I64s.one (by omega)) (by decide) rfl A0.out A1.out A2.out).mono ?_
  rw [← E1.out]
  rintro e a2 ⟨rfl, o⟩
  have Om := Lib.hid o
  clear o O OL1
  have O := Om
  clear Om
  go_wp2_with fail
  obtain ⟨a3, hw1⟩ : ∃ wq, wq = World.alloc a2 (.cells #[.int .i64 2] 3) := ⟨_, rfl⟩
  obtain ⟨gOL2, hgi⟩ : ∃ gi, gi = (World.heap a2).size := ⟨_, rfl⟩
  rw [← hw1, ← hgi]
  have OL2 : Hid (Own a3 0 3 intE 1 (.slice (some ⟨gOL2, 0, none⟩) 1 1) [2]) := Lib.hid (own_lit (l := [2]) (by rw [hw1, hgi]; exact heap_alloc_new _ _) (Nat.zero_le _) (by unfold maxLen; simp))
  have hb : Below (World.heap a2).size a2 a3 := by rw [hw1]; exact below_new _ _
  clear hw1 hgi
  have Om := Lib.hid (O.out.later hb)
  clear hb O
  have O := Om
  clear Om
  refine (O.out.add fun F hs => dadd_any hs A9.out A8.out (bk := 4) (by omega) (by omega) (own_rd OL2.out) (by decide) (I64s.one (by omega)) (by decide) rfl A5.out A6.out A7.out).mono ?_
  rw [← E2.out]
  rintro e a4 ⟨rfl, o⟩
  have Om := Lib.hid o
  clear o O OL2
  have O := Om
  clear Om
  go_wp2_with fail
  refine (O.out.take fun F hs => dtake_any hs A14.out A13.out rfl A10.out A11.out A12.out 4).mono ?_
  rw [← EK.out, A15.out, ← E3.out]
  rintro e a5 ⟨v, rfl, rv, o⟩
  have Om := Lib.hid o; have RV := Lib.hid rv
  clear o rv O
  have O := Om
  clear Om
  obtain ⟨ad, nv, cap, rfl⟩ : ∃ ad n cap, v = .slice ad n cap := by obtain ⟨xs, h1, _, _⟩ := RV.out; obtain ⟨a, c, e, _⟩ := h1.shape; exact ⟨_, _, _, e⟩
  go_wp2_with fail
  obtain ⟨F3, h3⟩ := O.out.get
  refine (dfirst_any (und_st h3 A18.out _) A16.out).mono ?_
  rw [A17.out, show firstV [((5, 0), [1])] = .tuple #[.int .i64 5, .bool true] from rfl]
  rintro e a6 ⟨rfl, hb⟩
  clear h3
  have Om := Lib.hid (O.out.later hb)
  have RVm := Lib.hid (RV.out.later hb)
  clear hb O RV
  have O := Om
  have RV := RVm
  clear Om RVm
  go_wp2_with fail
  obtain ⟨a7, hw1⟩ : ∃ wq, wq = World.alloc a6 (.cells #[.int .i64 2] 3) := ⟨_, rfl⟩
  obtain ⟨gi, hgi⟩ : ∃ gi, gi = (World.heap a6).size := ⟨_, rfl⟩
  have hsz : (World.heap a7).size = (World.heap a6).size + 1 := by rw [hw1, World.size_alloc]
  rw [← hsz, ← hw1, ← hgi]
  have OL : Hid (Own a7 0 3 intE 1 (.slice (some ⟨gi, 0, none⟩) 1 1) [2]) := Lib.hid (own_lit (l := [2]) (by rw [hw1, hgi]; exact heap_alloc_new _ _) (Nat.zero_le _) (by unfold maxLen; simp))
  have hb : Below (World.heap a6).size a6 a7 := by rw [hw1]; exact below_new _ _
  clear hw1 hgi hsz
  have Om := Lib.hid (O.out.later hb)
  have RVm := Lib.hid (RV.out.later hb)
  clear hb O RV
  have O := Om
  have RV := RVm
  clear Om RVm
  obtain ⟨a8, hw2⟩ : ∃ wq, wq = World.alloc a7 (.cells #[.slice (some ⟨gi, 0, none⟩) 1 1] 34) := ⟨_, rfl⟩
  obtain ⟨gj, hgj⟩ : ∃ gi, gi = (World.heap a7).size := ⟨_, rfl⟩
  rw [← hw2, ← hgj]
  have LV := litV a7 (.slice (some ⟨gi, 0, none⟩) 1 1)
  rw [← hw2, ← hgj] at LV
  have HLV := Lib.hid LV
  have hb : Below (World.heap a7).size a7 a8 := by rw [hw2]; exact below_new _ _
  have OLm := Lib.hid ((own_rd OL.out).later hb)
  clear hw2 hgj LV OL
  have Om := Lib.hid (O.out.later hb)
  have RVm := Lib.hid (RV.out.later hb)
  clear hb O RV
  have O := Om
  have RV := RVm
  clear Om RVm
  obtain ⟨xs, r1, r2, r3⟩ := RV.out.rd
  have hrw := rrows_any (ys := [(.slice (some ⟨gi, 0, none⟩) 1 1, [2])]) r1 HLV.out r3 (fun x hx => by rw [List.mem_singleton.1 hx]; exact OLm.out)
  rw [r2, show decide ([[2]] = [(Value.slice (some ⟨gi, 0, none⟩) 1 1, [(2 : Int)])].map (·.2)) = true from decide_eq_true rfl] at hrw
  clear RV r1 r2 r3
  refine (hrw).mono ?_
  rintro e a9 ⟨rfl, hb⟩
  clear hrw
  have Om := Lib.hid (O.out.later hb)
  clear hb O
  have O := Om
  clear Om
  go_wp2_with fail
  go_ret
  exact ⟨rfl, O.out.below⟩

theorem Try.idxSt0 (p q : Value) (w : World) : (Instr.index 64 (.agg #[p, q]) (.int .i64 0)).run Try.prog w = .ok p w := by kernel_rfl
theorem Try.idxSt1 (p q : Value) (w : World) : (Instr.index 64 (.agg #[p, q]) (.int .i64 1)).run Try.prog w = .ok q w := by kernel_rfl
theorem getI_none (k : Txt) : getI (fun _ => none) k = 0 := by
  show intF (rowF []) = 0
  decide +kernel

end
section
open Go.RowKit

/-! ### the order of keys -/
theorem dq_lex : ∀ (x y : List UInt8), less x y = lexLt x y
  | [], [] => rfl
  | [], _ :: _ => rfl
  | _ :: _, [] => rfl
  | a :: x, b :: y => by
    rw [less_cons, lexLt, dq_lex x y]
    by_cases h : a = b
    · subst h; simp
    · have : (a == b) = false := by simpa using h
      rw [if_neg h, this]; simp
theorem dq_foldl (l : List UInt8) : ∀ a : Nat, l.foldl (fun a c => a * 256 + c.toNat) a = a * 256 ^ l.length + be l := by
  induction l with
  | nil => intro a; simp [be]
  | cons c l ih =>
    intro a
    rw [List.foldl_cons, ih, List.length_cons]
    have : be (c :: l) = (0 * 256 + c.toNat) * 256 ^ l.length + be l := by rw [be, List.foldl_cons, ih]
    rw [this, Nat.pow_succ, Nat.add_mul]
    simp only [Nat.zero_mul, Nat.zero_add]
    rw [Nat.mul_assoc, Nat.mul_comm 256, ← Nat.add_assoc]
theorem dq_cons (c : UInt8) (l : List UInt8) : be (c :: l) = c.toNat * 256 ^ l.length + be l := by
  rw [be, List.foldl_cons, dq_foldl]; simp
theorem dq_be : ∀ (u v s t : List UInt8), u.length = v.length → lexLt (u ++ s) (v ++ t) = if u = v then lexLt s t else decide (be u < be v)
  | [], [], s, t, _ => by simp
  | [], _ :: _, _, _, h => by simp at h
  | _ :: _, [], _, _, h => by simp at h
  | a :: u, b :: v, s, t, h => by
    have hl : u.length = v.length := by simpa using h
    have h1 := be_lt u
    have h2 := be_lt v
    rw [← hl] at h2
    rw [List.cons_append, List.cons_append, lexLt, dq_cons, dq_cons, ← hl]
    by_cases hab : a = b
    · subst hab
      rw [if_pos rfl, dq_be u v s t hl]
      by_cases huv : u = v
      · rw [if_pos huv, if_pos (by rw [huv])]
      · rw [if_neg huv, if_neg (by simpa using huv)]
        simp
    · rw [if_neg hab, if_neg (by simp [hab])]
      have hne : a.toNat ≠ b.toNat := fun e => hab (UInt8.toNat_inj.1 e)
      by_cases hlt : a.toNat < b.toNat
      · have h3 : (a.toNat + 1) * 256 ^ u.length ≤ b.toNat * 256 ^ u.length := Nat.mul_le_mul_right _ hlt
        rw [Nat.add_mul, Nat.one_mul] at h3
        have ha : a < b := UInt8.lt_iff_toNat_lt.2 hlt
        rw [decide_eq_true ha, decide_eq_true (by omega)]
      · have h3 : (b.toNat + 1) * 256 ^ u.length ≤ a.toNat * 256 ^ u.length := Nat.mul_le_mul_right _ (by omega)
        rw [Nat.add_mul, Nat.one_mul] at h3
        have ha : ¬ a < b := fun h => hlt (UInt8.lt_iff_toNat_lt.1 h)
        rw [decide_eq_false ha, decide_eq_false (by omega)]
/-- A number of a key. -/
def Nm (x : Int) : Prop := 0 ≤ x ∧ x < 9223372036854775808
theorem keyF_two {t b n : Int} (h1 : 1 ≤ t) (h2 : t ≤ 255) (hb : 0 ≤ b) (hn : 0 ≤ n) : keyF t [b, n] = UInt8.ofNat t.toNat :: (numL b ++ (numL n ++ [])) := by
  unfold keyF
  rw [if_neg]
  · rfl
  · rintro (h3 | h3 | ⟨x, hx, h3⟩)
    · omega
    · omega
    · simp only [List.mem_cons, List.not_mem_nil, or_false] at hx
      rcases hx with rfl | rfl <;> omega
theorem keyF_onee {t b : Int} (h1 : 1 ≤ t) (h2 : t ≤ 255) (hb : 0 ≤ b) : keyF t [b] = UInt8.ofNat t.toNat :: (numL b ++ []) := by
  unfold keyF
  rw [if_neg]
  · rfl
  · rintro (h3 | h3 | ⟨x, hx, h3⟩)
    · omega
    · omega
    · simp only [List.mem_cons, List.not_mem_nil, or_false] at hx
      omega
theorem numL_lex {a b : Int} (ha : Nm a) (hb : Nm b) (s t : List UInt8) (h : lexLt (numL a ++ s) (numL b ++ t) = true) : a < b ∨ a = b ∧ lexLt s t = true := by
  rw [dq_be _ _ _ _ (by rw [numL_length, numL_length])] at h
  have ea := cbe_numL a ha.1 (by have := ha.2; omega)
  have eb := cbe_numL b hb.1 (by have := hb.2; omega)
  by_cases e : numL a = numL b
  · rw [if_pos e] at h
    rw [e, eb] at ea
    exact .inr ⟨ea.symm, h⟩
  · rw [if_neg e] at h
    have h9 := of_decide_eq_true h
    exact .inl (by omega)
theorem keyR_less {b n c m : Int} (hb : Nm b) (hn : Nm n) (hc : Nm c) (hm : Nm m) (h : less (keyF 26 [b, n]) (keyF 26 [c, m]) = true) : b < c ∨ b = c ∧ n < m := by
  rw [keyF_two (by decide) (by decide) hb.1 hn.1, keyF_two (by decide) (by decide) hc.1 hm.1, dq_lex, lexLt, if_pos rfl] at h
  rcases numL_lex hb hc _ _ h with h | ⟨h, h9⟩
  · exact .inl h
  · rcases numL_lex hn hm _ _ h9 with h9 | ⟨_, h8⟩
    · exact .inr ⟨h, h9⟩
    · cases h8
theorem keyR_inj {b n c m : Int} (hb : Nm b) (hn : Nm n) (hc : Nm c) (hm : Nm m) (h : keyF 26 [b, n] = keyF 26 [c, m]) : b = c ∧ n = m := by
  rw [keyF_two (by decide) (by decide) hb.1 hn.1, keyF_two (by decide) (by decide) hc.1 hm.1] at h
  have h2 := (List.cons.inj h).2
  rw [List.append_nil, List.append_nil] at h2
  have h3 := List.append_inj h2 (by rw [numL_length, numL_length])
  have e1 := cbe_numL b hb.1 (by have := hb.2; omega)
  have e2 := cbe_numL c hc.1 (by have := hc.2; omega)
  have e3 := cbe_numL n hn.1 (by have := hn.2; omega)
  have e4 := cbe_numL m hm.1 (by have := hm.2; omega)
  rw [h3.1, e2] at e1
  rw [h3.2, e4] at e3
  exact ⟨e1.symm, e3.symm⟩
def kDC : Txt := keyF 27 []
theorem kDC_ne : kDC ≠ [] := by decide +kernel
theorem keyR_cnt {b n : Int} (hb : Nm b) (hn : Nm n) : keyF 26 [b, n] ≠ kDC := by
  rw [keyF_two (by decide) (by decide) hb.1 hn.1, show kDC = [27] by decide +kernel]
  intro e
  have h := (List.cons.inj e).2
  have := congrArg List.length h
  rw [List.length_append, numL_length] at this
  simp at this
theorem keyR_ne {b n : Int} (hb : Nm b) (hn : Nm n) : keyF 26 [b, n] ≠ [] := by
  rw [keyF_two (by decide) (by decide) hb.1 hn.1]; simp
theorem keyR_under {b n : Int} (hb : Nm b) (hn : Nm n) : (keyF 26 []).isPrefixOf (keyF 26 [b, n]) = true := by
  rw [keyF_two (by decide) (by decide) hb.1 hn.1, show keyF 26 [] = [26] by decide +kernel]; rfl
theorem keyR_block {b n : Int} (hb : Nm b) (hn : Nm n) : (keyF 26 [b]).isPrefixOf (keyF 26 [b, n]) = true := by
  rw [keyF_two (by decide) (by decide) hb.1 hn.1, keyF_onee (by decide) (by decide) hb.1, List.isPrefixOf_iff_prefix, List.append_nil]
  exact ⟨numL n ++ [], by simp⟩
theorem cnt_under : (keyF 26 []).isPrefixOf kDC = false := by decide +kernel
theorem cnt_block {b : Int} (hb : Nm b) : (keyF 26 [b]).isPrefixOf kDC = false := by
  rw [keyF_onee (by decide) (by decide) hb.1, show kDC = [27] by decide +kernel]; rfl
theorem dparse_key {b n : Int} (hb : Nm b) (hn : Nm n) : readF (keyF 26 [b, n]) = some (b, n) := by
  refine readF_two (t := 26) ?_
  rw [keyF_two (by decide) (by decide) hb.1 hn.1]
  have h := cnumsF_flat [b, n] (fun x hx => by
    simp only [List.mem_cons, List.not_mem_nil, or_false] at hx
    rcases hx with rfl | rfl
    · exact hb
    · exact hn)
  have h2 : numsF (numL b ++ (numL n ++ [])) = some [b, n] := h
  rw [parseF, if_neg (by decide), h2]
  rfl

/-! ### the rows of DueOnce -/
def bbD (bl : List Int) (j : Nat) : Int := bl.getD j 0
def kjD (bl : List Int) (nf : Nat → Int) (j : Nat) : Txt := keyF 26 [bbD bl j, nf j]
def vjD (bl : List Int) (j : Nat) : Txt := [bbD bl j, (j : Int)].flatMap numL
def rjD (bl : List Int) (nf : Nat → Int) (j : Nat) : (Int × Int) × List Int := ((bbD bl j, nf j), [bbD bl j, (j : Int)])
def Bl (bl : List Int) : Prop := bl.length ≤ 80 ∧ ∀ x ∈ bl, 0 ≤ x ∧ x ≤ 255
theorem Bl.bb {bl : List Int} (h : Bl bl) (j : Nat) : 0 ≤ bbD bl j ∧ bbD bl j ≤ 255 := by
  unfold bbD
  rw [List.getD_eq_getElem?_getD]
  by_cases hj : j < bl.length
  · rw [List.getElem?_eq_getElem hj]; exact h.2 _ (List.getElem_mem hj)
  · rw [List.getElem?_eq_none (by omega)]; decide
theorem Bl.nm {bl : List Int} (h : Bl bl) (j : Nat) : Nm (bbD bl j) := by have := h.bb j; exact ⟨this.1, by omega⟩
/-- Row i stands ahead of row j. -/
def Ahd (bl : List Int) (i j : Nat) : Prop := bbD bl i < bbD bl j ∨ bbD bl i = bbD bl j ∧ i < j
/-- What stands in the store while the rows j < m with al j are due. -/
structure DJ (bl : List Int) (nf : Nat → Int) (m : Nat) (al : Nat → Bool) (s : PS) : Prop where
  up : Up s.t
  mem : ∀ k v, getP s.t k = some v → k = kDC ∨ ∃ j, j < m ∧ al j = true ∧ k = kjD bl nf j ∧ v = vjD bl j
  has : ∀ j, j < m → al j = true → getP s.t (kjD bl nf j) = some (vjD bl j)
  cnt : getI (getP s.t) kDC = ((List.range m).countP al : Nat)
  val : ∀ v, getP s.t kDC = some v → v.length = 8
  num : ∀ j, j < m → 0 ≤ nf j ∧ nf j ≤ j
  mono : ∀ j k, j < k → k < m → bbD bl j = bbD bl k → nf j < nf k
theorem DJ.new (bl : List Int) : DJ bl (fun _ => 0) 0 (fun _ => true) PS.new :=
  ⟨List.Pairwise.nil, fun _ _ h => (by cases h), fun _ hj => absurd hj (Nat.not_lt_zero _), (by decide +kernel), fun _ h => (by cases h), fun _ hj => absurd hj (Nat.not_lt_zero _), fun _ _ _ hk => absurd hk (Nat.not_lt_zero _)⟩
theorem DJ.congr {bl : List Int} {nf : Nat → Int} {m : Nat} {al al' : Nat → Bool} {s : PS} (h : DJ bl nf m al s) (e : ∀ j, j < m → al j = al' j) : DJ bl nf m al' s := by
  refine ⟨h.up, fun k v hk => ?_, fun j hj ha => h.has j hj (by rw [e j hj]; exact ha), ?_, h.val, h.num, h.mono⟩
  · rcases h.mem k v hk with h1 | ⟨j, hj, ha, h2⟩
    · exact .inl h1
    · exact .inr ⟨j, hj, by rw [← e j hj]; exact ha, h2⟩
  · rw [h.cnt]
    congr 1
    exact List.countP_congr fun j hj => by rw [e j (List.mem_range.1 hj)]
theorem DJ.nmn {bl : List Int} {nf : Nat → Int} {m : Nat} {al : Nat → Bool} {s : PS} (h : DJ bl nf m al s) (hm : m ≤ 80) {j : Nat} (hj : j < m) : Nm (nf j) := by
  have := h.num j hj
  exact ⟨this.1, by omega⟩
theorem rowT_j {bl : List Int} (hB : Bl bl) {nf : Nat → Int} {j : Nat} (hn : Nm (nf j)) (hj : j < 80) : rowT (kjD bl nf j, vjD bl j) = some (rjD bl nf j) := by
  unfold rowT kjD vjD
  have h := cnumsF_flat [bbD bl j, (j : Int)] (fun x hx => by
    simp only [List.mem_cons, List.not_mem_nil, or_false] at hx
    rcases hx with rfl | rfl
    · exact hB.nm j
    · omega)
  simp only [dparse_key (hB.nm j) hn, h]
  rfl
theorem vj_inj {bl : List Int} {i j : Nat} (hB : Bl bl) (hi : i < 80) (hj : j < 80) (h : vjD bl i = vjD bl j) : i = j := by
  have e : ∀ k : Nat, k < 80 → numsF (vjD bl k) = some [bbD bl k, (k : Int)] := fun k hk => cnumsF_flat _ (fun x hx => by
    simp only [List.mem_cons, List.not_mem_nil, or_false] at hx
    rcases hx with rfl | rfl
    · exact hB.nm k
    · omega)
  have h1 := e i hi
  rw [h, e j hj] at h1
  injection h1 with h1
  injection h1 with _ h1
  injection h1 with h1
  omega
/-- A part of the table, whose keys begin alike. -/
theorem DJ.list {bl : List Int} {nf : Nat → Int} {m : Nat} {al : Nat → Bool} {s : PS} (h : DJ bl nf m al s) (hB : Bl bl) (hm : m ≤ bl.length) : ∀ {t : Tab}, Up t → (∀ p ∈ t, p ∈ s.t ∧ p.1 ≠ kDC) →
    ∃ js : List Nat, t = js.map (fun j => (kjD bl nf j, vjD bl j)) ∧ (∀ j ∈ js, j < m ∧ al j = true) ∧ js.Pairwise (Ahd bl)
  | [], _, _ => ⟨[], rfl, fun _ h => (by cases h), List.Pairwise.nil⟩
  | p :: t, hu, hp => by
    have h80 := hB.1
    have hu' := List.pairwise_cons.1 hu
    obtain ⟨js, e1, e2, e3⟩ := h.list hB hm hu'.2 (fun q hq => hp q (List.mem_cons_of_mem _ hq))
    obtain ⟨hp1, hp2⟩ := hp p (by simp)
    rcases h.mem p.1 p.2 (getP_of_mem h.up hp1) with h1 | ⟨j, hj, ha, h2, h3⟩
    · exact absurd h1 hp2
    · refine ⟨j :: js, ?_, fun k hk => ?_, List.pairwise_cons.2 ⟨fun k hk => ?_, e3⟩⟩
      · rw [List.map_cons, ← e1, ← h2, ← h3]
      · rcases List.mem_cons.1 hk with rfl | hk
        · exact ⟨hj, ha⟩
        · exact e2 k hk
      · have hkm := (e2 k hk).1
        have hl := hu'.1 (kjD bl nf k, vjD bl k) (by rw [e1]; exact List.mem_map.2 ⟨k, hk, rfl⟩)
        rw [h2] at hl
        rcases keyR_less (hB.nm j) (h.nmn (by omega) hj) (hB.nm k) (h.nmn (by omega) hkm) hl with h4 | ⟨h4, h5⟩
        · exact .inl h4
        · refine .inr ⟨h4, ?_⟩
          rcases Nat.lt_trichotomy j k with h6 | h6 | h6
          · exact h6
          · subst h6; omega
          · have := h.mono k j h6 hj h4.symm
            omega
theorem DJ.rowsOf {bl : List Int} {nf : Nat → Int} {m : Nat} {al : Nat → Bool} {s : PS} (h : DJ bl nf m al s) (hB : Bl bl) (hm : m ≤ bl.length) : ∀ {js : List Nat}, (∀ j ∈ js, j < m) → rowsT (js.map (fun j => (kjD bl nf j, vjD bl j))) = js.map (rjD bl nf)
  | [], _ => rfl
  | j :: js, hj => by
    have h80 := hB.1
    have h1 := hj j (by simp)
    have := h.rowsOf hB hm (js := js) (fun k hk => hj k (List.mem_cons_of_mem _ hk))
    unfold rowsT at this ⊢
    rw [List.map_cons, List.filterMap_cons, rowT_j hB (h.nmn (by omega) h1) (by omega), this]
    rfl
/-- All rows that are due, in order. -/
theorem DJ.rows {bl : List Int} {nf : Nat → Int} {m : Nat} {al : Nat → Bool} {s : PS} (h : DJ bl nf m al s) (hB : Bl bl) (hm : m ≤ bl.length) :
    ∃ js : List Nat, rowsT (underP s.t (keyF 26 [])) = js.map (rjD bl nf) ∧ (∀ j, j ∈ js ↔ j < m ∧ al j = true) ∧ js.Pairwise (Ahd bl) := by
  have h80 := hB.1
  obtain ⟨js, e1, e2, e3⟩ := h.list hB hm (up_under h.up (keyF 26 [])) (fun p hp => by
    obtain ⟨h1, h2⟩ := List.mem_filter.1 hp
    refine ⟨h1, fun e => ?_⟩
    rw [e, cnt_under] at h2
    cases h2)
  refine ⟨js, by rw [e1, h.rowsOf hB hm fun j hj => (e2 j hj).1], fun j => ⟨e2 j, fun ⟨hj, ha⟩ => ?_⟩, e3⟩
  have h1 : (kjD bl nf j, vjD bl j) ∈ underP s.t (keyF 26 []) := List.mem_filter.2 ⟨getP_mem (h.has j hj ha), keyR_under (hB.nm j) (h.nmn (by omega) hj)⟩
  rw [e1] at h1
  obtain ⟨k, hk, e⟩ := List.mem_map.1 h1
  have := vj_inj hB (by have := (e2 k hk).1; omega) (by omega) (congrArg Prod.snd e)
  rw [← this]; exact hk
theorem Ahd.irrefl (bl : List Int) (j : Nat) : ¬ Ahd bl j j := by rintro (h | ⟨_, h⟩) <;> omega
theorem ahd_nodup {bl : List Int} {js : List Nat} (h : js.Pairwise (Ahd bl)) : js.Nodup := h.imp fun {a b} hab e => by subst e; exact Ahd.irrefl _ _ hab
theorem js_count {bl : List Int} {m : Nat} {al : Nat → Bool} {js : List Nat} (h : ∀ j, j ∈ js ↔ j < m ∧ al j = true) (hp : js.Pairwise (Ahd bl)) (p : Nat → Bool) : (js.filter p).length = (List.range m).countP (fun j => al j && p j) := by
  have h1 : (js.filter p).Perm ((List.range m).filter (fun j => al j && p j)) := by
    refine (List.perm_ext_iff_of_nodup ((ahd_nodup hp).filter _) (List.nodup_range.filter _)).2 fun j => ?_
    simp only [List.mem_filter, h, List.mem_range, Bool.and_eq_true]
    exact ⟨fun ⟨⟨a, b⟩, c⟩ => ⟨a, b, c⟩, fun ⟨a, b, c⟩ => ⟨⟨a, b⟩, c⟩⟩
  rw [h1.length_eq, List.countP_eq_length_filter]
/-- What is due up to a block stands ahead. -/
theorem take_filter {bl : List Int} {nf : Nat → Int} (bk : Int) : ∀ {js : List Nat}, js.Pairwise (Ahd bl) → takeL bk (js.map (rjD bl nf)) = (js.filter fun j => decide (bbD bl j ≤ bk)).map (rjD bl nf)
  | [], _ => rfl
  | j :: js, hp => by
    have hp' := List.pairwise_cons.1 hp
    have ih := take_filter (nf := nf) bk hp'.2
    unfold takeL at ih ⊢
    rw [List.map_cons, List.takeWhile_cons]
    by_cases h : bbD bl j ≤ bk
    · rw [List.filter_cons_of_pos (by simpa using h), List.map_cons, ← ih]
      have : decide ((rjD bl nf j).1.1 ≤ bk) = true := decide_eq_true h
      rw [this]; rfl
    · have h1 : decide ((rjD bl nf j).1.1 ≤ bk) = false := decide_eq_false h
      rw [List.filter_cons_of_neg (by simpa using h), h1]
      have h2 : (js.filter fun j => decide (bbD bl j ≤ bk)) = [] := List.filter_eq_nil_iff.2 fun k hk => by
        have := hp'.1 k hk
        simp only [decide_eq_true_eq]
        rcases this with h3 | ⟨h3, _⟩ <;> omega
      rw [h2]; rfl
theorem getP_delAll (q : Txt) : ∀ (R : List ((Int × Int) × List Int)) (s : PS), getP (delAll s R).t q = if ∃ r ∈ R, keyF 26 [r.1.1, r.1.2] = q then none else getP s.t q
  | [], s => by
    rw [if_neg (by rintro ⟨r, hr, _⟩; cases hr)]; rfl
  | r :: R, s => by
    have h1 : delAll s (r :: R) = delAll (s.del (keyF 26 [r.1.1, r.1.2])) R := rfl
    rw [h1, getP_delAll q R, getP_sdel]
    by_cases h : ∃ r ∈ R, keyF 26 [r.1.1, r.1.2] = q
    · rw [if_pos h, if_pos]
      obtain ⟨r', h2, h3⟩ := h
      exact ⟨r', List.mem_cons_of_mem _ h2, h3⟩
    · rw [if_neg h]
      by_cases h4 : keyF 26 [r.1.1, r.1.2] = q
      · rw [if_pos h4, if_pos ⟨r, by simp, h4⟩]
      · rw [if_neg h4, if_neg]
        rintro ⟨r', h5, h6⟩
        rcases List.mem_cons.1 h5 with rfl | h5
        · exact h4 h6
        · exact h ⟨r', h5, h6⟩
theorem up_sdel {s : PS} (h : Up s.t) (k : Txt) : Up (s.del k).t := by
  unfold PS.del
  split
  · exact h
  · show Up (layP s.t k [] false)
    exact up_lay h _ _ _
theorem up_sset {s : PS} (h : Up s.t) (k v : Txt) : Up (s.set k v).t := by
  unfold PS.set
  split
  · exact h
  · show Up (layP s.t k v true)
    exact up_lay h _ _ _
theorem up_delAll : ∀ (R : List ((Int × Int) × List Int)) {s : PS}, Up s.t → Up (delAll s R).t
  | [], _, h => h
  | _ :: R, s, h => up_delAll R (s := s.del _) (up_sdel h _)
theorem up_setInt {s : PS} (h : Up s.t) (k : Txt) (n : Int) : Up (s.setInt k n).t := by
  unfold PS.setInt
  split
  · exact up_sdel h _
  · exact up_sset h _ _
/-- The count is laid. -/
theorem getP_cnt {s : PS} {n : Int} (q : Txt) : getP (s.setInt kDC n).t q = if kDC = q then (if n < 1 then none else some (numL n)) else getP s.t q := by
  unfold PS.setInt
  by_cases h : n < 1
  · rw [if_pos h, getP_sdel, if_pos h]
  · rw [if_neg h, getP_set, if_neg h]
    by_cases hq : kDC = q
    · rw [if_pos ⟨hq, kDC_ne⟩, if_pos hq]
    · rw [if_neg (fun e => hq e.1), if_neg hq]
theorem getI_cnt {s : PS} {n : Int} (h0 : 0 ≤ n) (h1 : n < 9223372036854775808) : getI (getP (s.setInt kDC n).t) kDC = n := by
  unfold getI valF
  rw [getP_cnt, if_pos rfl]
  by_cases h : n < 1
  · rw [if_pos h]
    obtain rfl : n = 0 := by omega
    decide +kernel
  · rw [if_neg h]
    have e : rowF (numL n) = [n] := by
      have := rowF_flat (l := [n]) (fun x hx => by rw [List.mem_singleton.1 hx]; exact ⟨h0, h1⟩)
      simpa using this
    show intF (rowF (numL n)) = n
    rw [e]; rfl
/-- The store with another count, whose rows are those of al. -/
theorem DJ.recount {bl : List Int} {nf : Nat → Int} {m : Nat} {al : Nat → Bool} {s : PS} (hB : Bl bl) (hm : m ≤ bl.length) (up : Up s.t)
    (mem : ∀ k v, getP s.t k = some v → k = kDC ∨ ∃ j, j < m ∧ al j = true ∧ k = kjD bl nf j ∧ v = vjD bl j) (has : ∀ j, j < m → al j = true → getP s.t (kjD bl nf j) = some (vjD bl j))
    (num : ∀ j, j < m → 0 ≤ nf j ∧ nf j ≤ j) (mono : ∀ j k, j < k → k < m → bbD bl j = bbD bl k → nf j < nf k) {n : Int} (hn : n = ((List.range m).countP al : Nat)) : DJ bl nf m al (s.setInt kDC n) := by
  have h80 := hB.1
  have hc : (List.range m).countP al ≤ m := by have := List.countP_le_length (p := al) (l := List.range m); rwa [List.length_range] at this
  refine ⟨up_setInt up _ _, fun k v hk => ?_, fun j hj ha => ?_, ?_, fun v hv => ?_, num, mono⟩
  · rw [getP_cnt] at hk
    by_cases h : kDC = k
    · exact .inl h.symm
    · rw [if_neg h] at hk; exact mem k v hk
  · have hne : kDC ≠ kjD bl nf j := fun e => keyR_cnt (hB.nm j) ⟨(num j hj).1, by have := (num j hj).2; omega⟩ e.symm
    rw [getP_cnt, if_neg hne]; exact has j hj ha
  · rw [getI_cnt (by omega) (by omega), hn]
  · rw [getP_cnt, if_pos rfl] at hv
    split at hv
    · cases hv
    · cases hv; exact numL_length _
/-- What is taken at a block. -/
theorem DJ.take {bl : List Int} {nf : Nat → Int} {m : Nat} {al : Nat → Bool} {s : PS} (h : DJ bl nf m al s) (hB : Bl bl) (hm : m ≤ bl.length) (bk : Int) :
    ∃ A : List Nat, takeL bk (rowsT (underP s.t (keyF 26 []))) = A.map (rjD bl nf) ∧ (∀ j ∈ A, j < m ∧ bbD bl j ≤ bk) ∧ A.Pairwise (Ahd bl) ∧ A.length = (List.range m).countP (fun j => al j && decide (bbD bl j ≤ bk)) ∧
      DJ bl nf m (fun j => al j && !decide (bbD bl j ≤ bk)) (takeS s (takeL bk (rowsT (underP s.t (keyF 26 []))))) := by
  have h80 := hB.1
  obtain ⟨js, e1, e2, e3⟩ := h.rows hB hm
  obtain ⟨A, hA⟩ : ∃ A, A = js.filter fun j => decide (bbD bl j ≤ bk) := ⟨_, rfl⟩
  have eT : takeL bk (rowsT (underP s.t (keyF 26 []))) = A.map (rjD bl nf) := by rw [e1, take_filter bk e3, hA]
  have mA : ∀ j, j ∈ A ↔ (j < m ∧ al j = true) ∧ bbD bl j ≤ bk := fun j => by rw [hA, List.mem_filter, e2]; simp
  have lA : A.length = (List.range m).countP (fun j => al j && decide (bbD bl j ≤ bk)) := by rw [hA]; exact js_count e2 e3 _
  have split : (List.range m).countP al = (List.range m).countP (fun j => al j && decide (bbD bl j ≤ bk)) + (List.range m).countP (fun j => al j && !decide (bbD bl j ≤ bk)) := by
    have : ∀ l : List Nat, l.countP al = l.countP (fun j => al j && decide (bbD bl j ≤ bk)) + l.countP (fun j => al j && !decide (bbD bl j ≤ bk)) := by
      intro l
      induction l with
      | nil => rfl
      | cons x l ih =>
        simp only [List.countP_cons]
        cases al x <;> cases decide (bbD bl x ≤ bk) <;> simp <;> omega
    exact this _
  refine ⟨A, eT, fun j hj => ⟨((mA j).1 hj).1.1, ((mA j).1 hj).2⟩, by rw [hA]; exact e3.filter _, lA, ?_⟩
  rw [eT]
  unfold takeS
  by_cases hnil : A = []
  · rw [if_pos (by rw [hnil]; rfl)]
    refine h.congr fun j hj => ?_
    have : ¬ ((j < m ∧ al j = true) ∧ bbD bl j ≤ bk) := fun hc => by have := (mA j).2 hc; rw [hnil] at this; cases this
    cases ha : al j with
    | false => rfl
    | true =>
      have hb : ¬ bbD bl j ≤ bk := fun hc => this ⟨⟨hj, ha⟩, hc⟩
      simp [hb]
  · rw [if_neg (by simpa using hnil)]
    have gd : ∀ q, getP (delAll s (A.map (rjD bl nf))).t q = if ∃ j ∈ A, kjD bl nf j = q then none else getP s.t q := fun q => by
      rw [getP_delAll]
      congr 1
      apply propext
      constructor
      · rintro ⟨r, hr, e⟩
        obtain ⟨j, hj, rfl⟩ := List.mem_map.1 hr
        exact ⟨j, hj, e⟩
      · rintro ⟨j, hj, e⟩
        exact ⟨_, List.mem_map.2 ⟨j, hj, rfl⟩, e⟩
    have nm : ∀ j, j < m → Nm (nf j) := fun j hj => h.nmn (by omega) hj
    have gc : getI (getP (delAll s (A.map (rjD bl nf))).t) (keyF 27 []) = getI (getP s.t) kDC := by
      unfold getI valF
      rw [gd, if_neg]
      · rfl
      · rintro ⟨j, hj, e⟩
        exact keyR_cnt (hB.nm j) (nm j ((mA j).1 hj).1.1) e
    refine DJ.recount hB hm (up_delAll _ h.up) (fun k v hk => ?_) (fun j hj ha => ?_) h.num h.mono ?_
    · rw [gd] at hk
      split at hk
      · cases hk
      · rename_i hno
        rcases h.mem k v hk with h1 | ⟨j, hj, ha, h2, h3⟩
        · exact .inl h1
        · refine .inr ⟨j, hj, ?_, h2, h3⟩
          have : ¬ bbD bl j ≤ bk := fun hc => hno ⟨j, (mA j).2 ⟨⟨hj, ha⟩, hc⟩, h2.symm⟩
          simp [ha, this]
    · simp only [Bool.and_eq_true, Bool.not_eq_true', decide_eq_false_iff_not] at ha
      rw [gd, if_neg]
      · exact h.has j hj ha.1
      · rintro ⟨i, hi, e⟩
        have hi2 := (mA i).1 hi
        have := keyR_inj (hB.nm i) (nm i hi2.1.1) (hB.nm j) (nm j hj) e
        rw [this.1] at hi2
        exact ha.2 hi2.2
    · rw [gc, h.cnt, List.length_map, lA, split]
      omega
/-- One more row. -/
theorem dnext_ge {r : (Int × Int) × List Int} : ∀ {R : List ((Int × Int) × List Int)} {n : Int}, r ∈ R → r.1.2 + 1 ≤ R.foldl (fun n r => max n (r.1.2 + 1)) n := by
  intro R
  have mono : ∀ (R : List ((Int × Int) × List Int)) (n : Int), n ≤ R.foldl (fun n r => max n (r.1.2 + 1)) n := by
    intro R
    induction R with
    | nil => intro n; exact Int.le_refl _
    | cons x R ih => intro n; exact Int.le_trans (Int.le_max_left _ _) (ih _)
  induction R with
  | nil => intro n h; cases h
  | cons x R ih =>
    intro n h
    rcases List.mem_cons.1 h with rfl | h
    · exact Int.le_trans (Int.le_max_right _ _) (mono R _)
    · exact ih h
theorem DJ.block {bl : List Int} {nf : Nat → Int} {m : Nat} {al : Nat → Bool} {s : PS} (h : DJ bl nf m al s) (hB : Bl bl) (hm : m ≤ bl.length) {bk : Int} (hbk : Nm bk) :
    ∃ js : List Nat, rowsT (underP s.t (keyF 26 [bk])) = js.map (rjD bl nf) ∧ (∀ j ∈ js, j < m) ∧ (∀ j, j < m → al j = true → bbD bl j = bk → j ∈ js) := by
  have h80 := hB.1
  obtain ⟨js, e1, e2, e3⟩ := h.list hB hm (up_under h.up (keyF 26 [bk])) (fun p hp => by
    obtain ⟨h1, h2⟩ := List.mem_filter.1 hp
    refine ⟨h1, fun e => ?_⟩
    rw [e, cnt_block hbk] at h2
    cases h2)
  refine ⟨js, by rw [e1, h.rowsOf hB hm fun j hj => (e2 j hj).1], fun j hj => (e2 j hj).1, fun j hj ha hb => ?_⟩
  have h1 : (kjD bl nf j, vjD bl j) ∈ underP s.t (keyF 26 [bk]) := List.mem_filter.2 ⟨getP_mem (h.has j hj ha), by rw [← hb]; exact keyR_block (hB.nm j) (h.nmn (by omega) hj)⟩
  rw [e1] at h1
  obtain ⟨k, hk, e⟩ := List.mem_map.1 h1
  have := vj_inj hB (by have := (e2 k hk).1; omega) (by omega) (congrArg Prod.snd e)
  rw [← this]; exact hk
theorem DJ.ok {bl : List Int} {nf : Nat → Int} {m : Nat} {al : Nat → Bool} {s : PS} (h : DJ bl nf m al s) (hB : Bl bl) (_hm : m ≤ bl.length) (hs : s.sz < 1000000) : Fit s ∧ ∀ b, TabOk (underP s.t b) := by
  have h80 := hB.1
  have hv : ∀ p ∈ s.t, p.1.length ≤ 100 ∧ p.2.length ≤ 100 := fun p hp => by
    have hg := getP_of_mem h.up (k := p.1) (v := p.2) hp
    rcases h.mem _ _ hg with h1 | ⟨j, hj, ha, h2, h3⟩
    · rw [h1] at hg
      exact ⟨by rw [h1]; decide +kernel, by rw [h.val _ hg]; decide⟩
    · refine ⟨?_, by rw [h3, vjD, cflat_length]; simp⟩
      rw [h2, kjD, keyF_two (by decide) (by decide) (hB.nm j).1 (h.num j hj).1]
      simp [numL_length]
  refine ⟨fun p hp => by have := hv p hp; omega, fun b => ⟨?_, fun p hp => ?_⟩⟩
  · refine Nat.lt_of_le_of_lt (List.length_filter_le _ _) ?_
    unfold PS.sz at hs; omega
  · have := hv p (List.mem_filter.1 hp).1
    omega
theorem DJ.add {bl : List Int} {nf : Nat → Int} {m : Nat} {s : PS} (h : DJ bl nf m (fun _ => true) s) (hB : Bl bl) (hm : m < bl.length) :
    (∀ r ∈ rowsT (underP s.t (keyF 26 [bbD bl m])), 0 ≤ r.1.2 ∧ r.1.2 < 1000000000000) ∧ getI (getP (s.dput (bbD bl m) (daddN s (bbD bl m)) [bbD bl m, (m : Int)]).t) (keyF 27 []) < 1000000000000 ∧
    ∃ nf' : Nat → Int, DJ bl nf' (m + 1) (fun _ => true) (s.dadd (bbD bl m) [bbD bl m, (m : Int)]) := by
  have h80 := hB.1
  obtain ⟨js, e1, e2, e3⟩ := h.block hB (Nat.le_of_lt hm) (hB.nm m)
  obtain ⟨n, hn⟩ : ∃ n, n = daddN s (bbD bl m) := ⟨_, rfl⟩
  have hr : ∀ r ∈ rowsT (underP s.t (keyF 26 [bbD bl m])), 0 ≤ r.1.2 ∧ r.1.2 < m := fun r hr => by
    rw [e1] at hr
    obtain ⟨j, hj, rfl⟩ := List.mem_map.1 hr
    have hjm := e2 j hj
    have := h.num j hjm
    show 0 ≤ nf j ∧ nf j < m
    omega
  have nb : 0 ≤ n ∧ n ≤ m := by rw [hn]; exact dnext_bound _ (fun r h9 => (hr r h9).2) (by omega)
  have ng : ∀ j, j < m → bbD bl j = bbD bl m → nf j < n := fun j hj hb => by
    have h9 : rjD bl nf j ∈ rowsT (underP s.t (keyF 26 [bbD bl m])) := by rw [e1]; exact List.mem_map.2 ⟨j, e3 j hj rfl hb, rfl⟩
    have h8 : nf j + 1 ≤ daddN s (bbD bl m) := dnext_ge h9
    omega
  have hnn : Nm n := ⟨nb.1, by omega⟩
  rw [← hn]
  obtain ⟨nf', hnf⟩ : ∃ f : Nat → Int, f = fun j => if j = m then n else nf j := ⟨_, rfl⟩
  have nfm : nf' m = n := by rw [hnf]; simp
  have nfo : ∀ j, j < m → nf' j = nf j := fun j hj => by rw [hnf]; simp; omega
  have kjm : kjD bl nf' m = keyF 26 [bbD bl m, n] := by unfold kjD; rw [nfm]
  have kjo : ∀ j, j < m → kjD bl nf' j = kjD bl nf j := fun j hj => by unfold kjD; rw [nfo j hj]
  have gput : ∀ q, getP (s.dput (bbD bl m) n [bbD bl m, (m : Int)]).t q = if keyF 26 [bbD bl m, n] = q then some (vjD bl m) else getP s.t q := fun q => by
    unfold PS.dput PS.setRow
    rw [if_neg]
    · unfold PS.putv
      have hne : [bbD bl m, (m : Int)].flatMap numL ≠ [] := by
        intro e
        have := congrArg List.length e
        rw [cflat_length] at this
        simp at this
      rw [if_neg hne, getP_set]
      by_cases hq : keyF 26 [bbD bl m, n] = q
      · rw [if_pos ⟨hq, keyR_ne (hB.nm m) hnn⟩, if_pos hq]; rfl
      · rw [if_neg (fun e => hq e.1), if_neg hq]
    · rintro ⟨x, hx, h9⟩
      simp only [List.mem_cons, List.not_mem_nil, or_false] at hx
      rcases hx with rfl | rfl
      · have := (hB.bb m).1; omega
      · omega
  have upp : Up (s.dput (bbD bl m) n [bbD bl m, (m : Int)]).t := by
    unfold PS.dput PS.setRow
    split
    · exact h.up
    · unfold PS.putv
      split
      · exact up_sdel h.up _
      · exact up_sset h.up _ _
  have gci : getI (getP (s.dput (bbD bl m) n [bbD bl m, (m : Int)]).t) (keyF 27 []) = m := by
    have : getI (getP (s.dput (bbD bl m) n [bbD bl m, (m : Int)]).t) (keyF 27 []) = getI (getP s.t) kDC := by
      unfold getI valF
      rw [gput, if_neg (show keyF 26 [bbD bl m, n] ≠ keyF 27 [] from keyR_cnt (hB.nm m) hnn)]; rfl
    rw [this, h.cnt]
    simp
  refine ⟨fun r h9 => by have := hr r h9; omega, by rw [gci]; omega, nf', ?_⟩
  have hds : s.dadd (bbD bl m) [bbD bl m, (m : Int)] = (s.dput (bbD bl m) n [bbD bl m, (m : Int)]).setInt kDC (m + 1) := by
    unfold PS.dadd PS.dcnt
    rw [← hn, gci]; rfl
  rw [hds]
  refine DJ.recount hB (by omega) upp (fun k v hk => ?_) (fun j hj _ => ?_) (fun j hj => ?_) (fun j k hjk hk hb => ?_) (by simp)
  · rw [gput] at hk
    split at hk
    · rename_i e
      cases hk
      exact .inr ⟨m, by omega, rfl, by rw [kjm, e], rfl⟩
    · rcases h.mem k v hk with h1 | ⟨j, hj, _, h2, h3⟩
      · exact .inl h1
      · exact .inr ⟨j, by omega, rfl, by rw [kjo j hj]; exact h2, h3⟩
  · rw [gput]
    by_cases hjm : j = m
    · subst hjm; rw [if_pos kjm.symm]
    · have hj' : j < m := by omega
      rw [kjo j hj', if_neg]
      · exact h.has j hj' rfl
      · intro e
        have := keyR_inj (hB.nm m) hnn (hB.nm j) (h.nmn (by omega) hj') e
        have h9 := ng j hj' this.1.symm
        omega
  · by_cases hjm : j = m
    · subst hjm; rw [nfm]; omega
    · rw [nfo j (by omega)]; exact h.num j (by omega)
  · by_cases hkm : k = m
    · subst hkm
      rw [nfm, nfo j hjk]
      exact ng j hjk hb
    · rw [nfo j (by omega), nfo k (by omega)]
      exact h.mono j k hjk (by omega) hb

/-! ### how many -/
def leftN (bl : List Int) (nw : Int) : Nat := (List.range bl.length).countP fun j => decide (nw < bbD bl j)
theorem left_all {bl : List Int} (hB : Bl bl) : leftN bl (-1) = bl.length := by
  unfold leftN
  have : (List.range bl.length).countP (fun j => decide (-1 < bbD bl j)) = (List.range bl.length).length := List.countP_eq_length.2 fun j _ => by have := (hB.bb j).1; simp; omega
  rw [this, List.length_range]
theorem left_want (nw : Int) (bl : List Int) : leftN bl nw + bl.countP (fun b => decide (b ≤ nw)) = bl.length := by
  unfold leftN
  have e : (List.range bl.length).countP (fun j => decide (nw < bbD bl j)) = bl.countP fun b => decide (nw < b) := by
    have h1 : bl = (List.range bl.length).map (bbD bl) := by
      apply List.ext_getElem
      · simp
      · intro i h1 h2
        simp [bbD, List.getElem?_eq_getElem h1]
    have h2 : bl.countP (fun b => decide (nw < b)) = ((List.range bl.length).map (bbD bl)).countP (fun b => decide (nw < b)) := by rw [← h1]
    rw [h2, List.countP_map]; rfl
  rw [e]
  induction bl with
  | nil => rfl
  | cons b bl ih =>
    have ih' := ih (by
      have h1 : bl = (List.range bl.length).map (bbD bl) := by
        apply List.ext_getElem
        · simp
        · intro i h1 h2
          simp [bbD, List.getElem?_eq_getElem h1]
      have h2 : bl.countP (fun b => decide (nw < b)) = ((List.range bl.length).map (bbD bl)).countP (fun b => decide (nw < b)) := by rw [← h1]
      rw [h2, List.countP_map]; rfl)
    simp only [List.countP_cons, List.length_cons]
    by_cases hb : b ≤ nw
    · rw [decide_eq_true hb, decide_eq_false (by omega)]; simp; omega
    · rw [decide_eq_false hb, decide_eq_true (by omega)]; simp; omega
/-- The store while all that is due up to nw was taken. -/
def DN (bl : List Int) (nw : Int) (s : PS) : Prop := ∃ nf, DJ bl nf bl.length (fun j => decide (nw < bbD bl j)) s
theorem DJ.all {bl : List Int} {nf : Nat → Int} {s : PS} (h : DJ bl nf bl.length (fun _ => true) s) (hB : Bl bl) : DN bl (-1) s :=
  ⟨nf, h.congr fun j _ => (decide_eq_true (by have := (hB.bb j).1; omega)).symm⟩
theorem DN.len {bl : List Int} {nw : Int} {s : PS} (h : DN bl nw s) : getI (getP s.t) (keyF 27 []) = (leftN bl nw : Nat) := by
  obtain ⟨nf, h⟩ := h; exact h.cnt
theorem DN.ok {bl : List Int} {nw : Int} {s : PS} (h : DN bl nw s) (hB : Bl bl) (hs : s.sz < 1000000) : Fit s ∧ ∀ b, TabOk (underP s.t b) := by
  obtain ⟨nf, h⟩ := h; exact h.ok hB (Nat.le_refl _) hs
theorem sz_takeS (s : PS) (R : List ((Int × Int) × List Int)) : (takeS s R).sz ≤ s.sz + 2 * R.length + 2 := by
  unfold takeS
  split
  · omega
  · have := sz_delAll s R
    have := sz_setInt (delAll s R) (keyF 27 []) (getI (getP (delAll s R).t) (keyF 27 []) - R.length)
    omega
/-- What a Take gives: the numbers A of the rows, in order. -/
structure Took (bl : List Int) (nw bk : Int) (A : List Nat) : Prop where
  inn : ∀ j ∈ A, j < bl.length ∧ bbD bl j ≤ bk
  ord : A.Pairwise (Ahd bl)
  len : A.length + leftN bl bk = leftN bl nw
theorem DN.take {bl : List Int} {nw : Int} {s : PS} (h : DN bl nw s) (hB : Bl bl) {bk : Int} (hle : nw ≤ bk) :
    (∀ r ∈ rowsT (underP s.t (keyF 26 [])), (0 ≤ r.1.1 ∧ r.1.1 < 9223372036854775808) ∧ (0 ≤ r.1.2 ∧ r.1.2 < 9223372036854775808)) ∧
    ∃ A : List Nat, (takeL bk (rowsT (underP s.t (keyF 26 [])))).map (·.2) = A.map (fun j => [bbD bl j, (j : Int)]) ∧ Took bl nw bk A ∧ DN bl bk (takeS s (takeL bk (rowsT (underP s.t (keyF 26 []))))) ∧ (takeS s (takeL bk (rowsT (underP s.t (keyF 26 []))))).sz ≤ s.sz + 200 := by
  have h80 := hB.1
  obtain ⟨nf, h⟩ := h
  obtain ⟨js, e1, e2, e3⟩ := h.rows hB (Nat.le_refl _)
  obtain ⟨A, a1, a2, a3, a4, a5⟩ := h.take hB (Nat.le_refl _) bk
  refine ⟨fun r hr => ?_, A, ?_, ⟨a2, a3, ?_⟩, ⟨nf, a5.congr fun j hj => ?_⟩, ?_⟩
  · rw [e1] at hr
    obtain ⟨j, hj, rfl⟩ := List.mem_map.1 hr
    exact ⟨hB.nm j, h.nmn (by omega) ((e2 j).1 hj).1⟩
  · rw [a1, List.map_map]; rfl
  · have hs : ∀ l : List Nat, l.countP (fun j => decide (nw < bbD bl j) && decide (bbD bl j ≤ bk)) + l.countP (fun j => decide (bk < bbD bl j)) = l.countP (fun j => decide (nw < bbD bl j)) := by
      intro l
      induction l with
      | nil => rfl
      | cons x l ih =>
        simp only [List.countP_cons]
        by_cases c1 : nw < bbD bl x <;> by_cases c2 : bbD bl x ≤ bk <;> by_cases c3 : bk < bbD bl x <;> simp [c1, c2, c3] <;> omega
    rw [a4]
    exact hs _
  · by_cases c1 : nw < bbD bl j <;> by_cases c2 : bbD bl j ≤ bk <;> by_cases c3 : bk < bbD bl j <;> simp [c1, c2, c3] <;> omega
  · have h1 := sz_takeS s (takeL bk (rowsT (underP s.t (keyF 26 []))))
    have h2 : (takeL bk (rowsT (underP s.t (keyF 26 [])))).length ≤ 80 := by
      rw [a1, List.length_map, a4]
      have := List.countP_le_length (p := fun j => decide (nw < bbD bl j) && decide (bbD bl j ≤ bk)) (l := List.range bl.length)
      rw [List.length_range] at this
      omega
    omega
end
section
section
open Go.RowKit

set_option maxHeartbeats 2000000 in
set_option maxRecDepth 100000 in
theorem rbad_any {w : World} {v : Value} {l : List Int} (hrd : Rd w intE 1 v l) :
    Calls Try.prog 51 #[v] w (Ret w (.bool (!goodL l))) := by
  obtain ⟨ad, cap, rfl, h1, h2⟩ := hrd.shape
  obtain ⟨n, hn⟩ : ∃ n, n = l.length := ⟨_, rfl⟩
  rw [← hn] at h1 ⊢
  have H := Lib.hid hrd; have HN := Lib.hid hn
  clear hrd hn
  go_enter Try.func51, Try.ntmps51
  go_wp2_with fail
  go_loopw [7] (fun vi wr => ∃ i : Nat, vi = .int .i64 i ∧ i ≤ n ∧ (∀ j (hj : j < l.length), j < i → 0 ≤ l[j]) ∧ Hid (Below w.heap.size w wr)) (fun vi _ => n - (intOf vi).toNat)
  case atStart => exact ⟨0, rfl, Nat.zero_le _, fun j _ hj => absurd hj (by omega), Lib.hid (Below.refl _ _)⟩
  case round =>
    obtain ⟨i, rfl, hin, hle, BW⟩ := hrel
    have HLE := Lib.hid hle
    clear hle
    by_cases hlt : i < n
    · have hi : i < l.length := by rw [← HN.out]; exact hlt
      obtain ⟨q, off, rfl, hq, hc⟩ := H.out.at i hi
      have hc' : wr.cell? ⟨q, off + i, none⟩ = some (.int .i64 l[i]) := (BW.out.cell (p := ⟨q, off + i, none⟩) hq).trans hc
      obtain ⟨x, hx⟩ : ∃ x, x = l[i] := ⟨_, rfl⟩
      rw [← hx] at hc'
      have HX := Lib.hid hx
      clear hc hq hx
      by_cases hneg : x < 0
      · have HG : Hid (goodL l = false) := Lib.hid (decide_eq_false fun e => by have := e.2 l[i] (List.getElem_mem hi); rw [← HX.out] at this; omega)
        go_wp2_with fail
        go_ret
        exact ⟨by rw [HG.out]; rfl, BW.out⟩
      · go_wp2_with fail
        go_roundw
        case rel => exact ⟨i + 1, by go_num, hlt, fun j hj h => by
          rcases Nat.lt_or_ge j i with h9 | h9
          · exact HLE.out j hj h9
          · obtain rfl : j = i := by omega
            rw [← HX.out]; omega, BW⟩
        case measure => simp [intOf]; omega
    · obtain rfl : i = n := by omega
      by_cases h0 : i = 0
      · have HG : Hid (goodL l = false) := Lib.hid (decide_eq_false fun e => e.1 (List.length_eq_zero_iff.1 (by rw [← HN.out]; exact h0)))
        subst h0
        clear hlt hin
        go_wp2_with fail
        go_ret
        exact ⟨by rw [HG.out]; rfl, BW.out⟩
      · have HG : Hid (goodL l = true) := Lib.hid (decide_eq_true ⟨fun e => h0 (by rw [HN.out, e]; rfl), fun x hx => by
          obtain ⟨j, hj, rfl⟩ := List.getElem_of_mem hx
          exact HLE.out j hj (by rw [HN.out]; exact hj)⟩)
        have hb0 : ((i : Int) == 0) = false := beq_eq_false_iff_ne.2 (by omega)
        clear hin h0
        go_wp2_with fail
        go_ret
        exact ⟨by rw [HG.out]; rfl, BW.out⟩

set_option maxHeartbeats 2000000 in
set_option maxRecDepth 100000 in
theorem rdlen_any {w : World} {g : Nat} {s : PS} {F : List Nat} (h : RS w g s F) (hz : s.sz < 1099511627776) (hf : Fit s) : Calls Try.prog 21 #[.pointer (some ⟨g, 0, none⟩)] w (Ret w (.int .i64 (getI (getP s.t) (keyF 27 [])))) := by
  have H := Lib.hid h; have HF := Lib.hid hf; have HZ := Lib.hid hz
  clear h hf hz
  go_enter Try.func21, Try.ntmps21
  go_wp2_with fail
  refine (refKey_any 27 [] _ _ (by simp) I64s_nil (Rd.nil _ _ _)).mono ?_
  rintro e w1 ⟨rfl, hb⟩
  have HB := Lib.hid hb
  clear hb
  go_wp2_with fail
  refine (rint_any (H.out.later HB.out) HZ.out HF.out (keyF 27 [])).mono ?_
  rintro e w2 ⟨rfl, hb⟩
  have HB2 := Lib.hid (HB.out.trans (hb.mono HB.out.size))
  clear hb
  go_wp2_with fail
  go_ret
  exact ⟨rfl, HB2.out⟩

/-! ### all rows -/
def rrE (x : DRow) : List Value := [.int .i64 x.b, .int .i64 x.n, x.v]
theorem rrE_len (x : DRow) : (rrE x).length = 3 := rfl
theorem Try.zeroRR (w : World) : (zeroValue 93).run Try.prog w = .ok (.agg #[.int .i64 0, .int .i64 0, .slice none 0 0]) w := by kernel_rfl
theorem Try.sizeRR : (Try.prog.info? 93).map (·.size) = some 3 := by kernel_rfl
theorem Try.infoRR : (Try.prog.info? 93).map (fun i => (i.zero, i.size, i.bytes)) = some (some (.agg #[.int .i64 0, .int .i64 0, .slice none 0 0]), 3, 40) := by kernel_rfl
/-- The rows that a slice of them tells, and their numbers. -/
def RowsA (w : World) (v : Value) (xs : List DRow) (R : List ((Int × Int) × List Int)) : Prop := LO w 93 rrE 3 v xs ∧ xs.map drK = R ∧ ∀ x ∈ xs, LO w 3 intE 1 x.v x.l
def AllRet (w : World) (R : List ((Int × Int) × List Int)) (e : Ending) (w' : World) : Prop := ∃ v xs, e = .returned v ∧ RowsA w' v xs R ∧ Below w.heap.size w w' ∧ ∀ k, v.ownBlock = some k → w.heap.size ≤ k
theorem RowsA.later {w w' : World} {v : Value} {xs : List DRow} {R : List ((Int × Int) × List Int)} (h : RowsA w v xs R) (hb : Below w.heap.size w w') : RowsA w' v xs R := ⟨h.1.later hb, h.2.1, fun x hx => (h.2.2 x hx).later hb⟩
theorem lo_two {w : World} {g cap : Nat} {a b : Int} (h : LO w 3 intE 1 (.slice (some ⟨g, 0, none⟩) 2 cap) [a, b]) : w.cell? ⟨g, 0, none⟩ = some (.int .i64 a) ∧ w.cell? ⟨g, 1, none⟩ = some (.int .i64 b) := by
  obtain ⟨ax, cx, e3, _, _, h3⟩ := h.rd intE_len
  obtain ⟨q, off, e4, _, h5⟩ := h3 (by simp)
  have e5 := (Value.slice.inj e3).1
  rw [e4] at e5
  injection e5 with e6
  injection e6 with e7 e8
  subst e7 e8
  exact ⟨h5 0 (by simp) 0 (by decide), h5 1 (by simp) 0 (by decide)⟩
theorem rrE_one {x : DRow} (h : x.v.oneCell' = true) : ∀ u ∈ rrE x, u.oneCell' = true := fun u hu => by
  simp only [rrE, List.mem_cons, List.not_mem_nil, or_false] at hu
  rcases hu with rfl | rfl | rfl
  · rfl
  · rfl
  · exact h
theorem LO.slice_one {w : World} {e : TypeId} {enc : Int → List Value} {sz : Nat} {v : Value} {l : List Int} (h : LO w e enc sz v l) : v.oneCell' = true := by
  obtain ⟨ad, cap, rfl, _, _⟩ := h.shape
  rfl
theorem rd_row1 (w : World) (a b : Int) (v : Value) (l : List Int) : Rd (w.alloc (.cells #[.int .i64 a, .int .i64 b, v] 93)) rrE 3 (.slice (some ⟨w.heap.size, 0, none⟩) 1 1) [(⟨a, b, v, l⟩ : DRow)] := by
  refine ⟨_, 1, rfl, Nat.le_refl _, (by unfold maxLen; decide), fun _ => ⟨_, 0, rfl, by rw [World.size_alloc]; omega, fun i hi j hj => ?_⟩⟩
  have hi0 : i = 0 := by simp at hi; omega
  subst hi0
  have hx := heap_alloc_new w (.cells #[.int .i64 a, .int .i64 b, v] 93)
  rcases (show j = 0 ∨ j = 1 ∨ j = 2 by omega) with rfl | rfl | rfl
  · exact Lib.cell_of_heap hx 0
  · exact Lib.cell_of_heap hx 1
  · exact Lib.cell_of_heap hx 2
/-- One more row is appended to what was. -/
theorem RowsA.app {W w5 : World} {v va : Value} {xs : List DRow} {R : List ((Int × Int) × List Int)} {y : DRow} (h : RowsA W v xs R) (hy : LO W 3 intE 1 y.v y.l) (la : LO w5 93 rrE 3 va (xs ++ [y])) (ka : Keep (fun k => v.ownBlock = some k) W w5) : RowsA w5 va (xs ++ [y]) (R ++ [drK y]) := by
  have off : ∀ k, v.ownBlock = some k → ∃ cs Tq fr, W.heap[k]? = some (.cells cs Tq fr) ∧ Tq ≠ 3 := fun k hk => by
    obtain ⟨cs, hc⟩ := h.1.kind hk
    exact ⟨cs, _, _, hc, by decide⟩
  refine ⟨la, by rw [List.map_append, h.2.1]; rfl, fun z hz => ?_⟩
  rcases List.mem_append.1 hz with hz | hz
  · exact (h.2.2 z hz).off ka off
  · rw [List.mem_singleton.1 hz]; exact hy.off ka off

set_option maxHeartbeats 4000000 in
set_option maxRecDepth 100000 in
theorem rall_any {w : World} {g : Nat} {s : PS} {F : List Nat} (h : RS w g s F) (hz : s.sz < 1000000) {T : Tab} (hT : T = underP s.t (keyF 26 [])) (hok : TabOk T) (hln : T.length < 1000000) :
    Calls Try.prog 47 #[.pointer (some ⟨g, 0, none⟩)] w (AllRet w (rowsT T)) := by
  have H := Lib.hid h; have HZ := Lib.hid hz; have HT := Lib.hid hT; have HOK := Lib.hid hok
  obtain ⟨n, hn⟩ : ∃ n, n = T.length := ⟨_, rfl⟩
  rw [← hn] at hln
  have HN := Lib.hid hn; have HLN := Lib.hid hln
  clear h hz hT hok hn hln
  go_enter Try.func47, Try.ntmps47
  go_wp2_with fail
  refine (refKey_any 26 [] _ _ (by simp) I64s_nil (Rd.nil _ _ _)).mono ?_
  rintro e w1 ⟨rfl, hb⟩
  have HB := Lib.hid hb
  clear hb
  go_wp2_with fail
  refine (runder_any (H.out.later HB.out) (by have := HZ.out; unfold PS.sz at this; omega) (keyF 26 [])).mono ?_
  rintro e w2 ⟨vT, rfl, lT, hb, _⟩
  rw [← HT.out] at lT
  obtain ⟨adT, capT, rfl, _, _⟩ := lT.shape
  rw [← HN.out] at lT ⊢
  have LT := Lib.hid lT; have HB2 := Lib.hid (HB.out.trans (hb.mono HB.out.size))
  clear lT hb
  go_wp2_with fail
  go_loopw [3, 15] (fun vo vi wr => ∃ (i : Nat) (xs : List DRow), vi = .int .i64 i ∧ i ≤ n ∧ Hid (RowsA wr vo xs (rowsT (T.take i))) ∧ Hid (LO wr 99 pairE 2 (.slice adT n capT) T) ∧ Hid (Below w.heap.size w wr) ∧ Hid (∀ k, vo.ownBlock = some k → w.heap.size ≤ k)) (fun _ vi _ => n - (intOf vi).toNat)
  case atStart => exact ⟨0, [], rfl, Nat.zero_le _, Lib.hid ⟨LO.nil _ _ _ _, rfl, fun _ h => by cases h⟩, LT, HB2, Lib.hid fun k e => by cases e⟩
  case round =>
    clear LT HB2
    obtain ⟨i, xs, rfl, hin, HR, LT, BW, OW⟩ := hrel
    by_cases hlt : i < n
    · have hi : i < T.length := by rw [← HN.out]; exact hlt
      obtain ⟨gT, rfl, _, q0, q1⟩ := LT.out.pair i hi
      have hts := rowsT_take hi
      have hkb := HOK.out.2 T[i] (List.getElem_mem hi)
      have hxl : xs.length ≤ i := by
        have h9 := congrArg List.length HR.out.2.1
        rw [List.length_map] at h9
        have h8 := rowsT_len (T.take i)
        rw [List.length_take] at h8
        omega
      obtain ⟨x, hx⟩ : ∃ x, x = T[i] := ⟨_, rfl⟩
      rw [← hx] at q0 q1 hts hkb
      obtain ⟨ky, vl⟩ := x
      simp only at q0 q1 hts hkb
      have HTS := Lib.hid hts; have HKB := Lib.hid hkb; have HXL := Lib.hid hxl; have HLT := Lib.hid hlt
      have hi6 : i < 1000000 := by have := HLN.out; omega
      clear hx hts hkb hxl hi
      go_wp2_with (refine wpList_alloc_g rfl _ rfl _ _ Try.zeroPairE rfl ?_)
      intro X dm hX
      go_wp2_with (refine wpList_store_row_g (t := 99) (old := #[.string (bs []), .string (bs [])]) rfl 99 _ _ rfl X #[.string (bs ky), .string (bs vl)] rfl rfl hX.out.cells Try.sizePair rfl (by simp [Value.oneCell']) ?_)
      intro d1 hxX kX zX
      clear zX q0 q1
      have hbX : Below wr.heap.size wr d1 := hX.out.below.trans (kX.below (B := wr.heap.size) (fun x hx e => by have := hX.out.eq; omega) hX.out.below.size)
      have WX : Hid (w.heap.size ≤ X) := Lib.hid (by rw [hX.out.eq]; exact (BW.out).size)
      have HXz := Lib.hid hxX
      clear hX hxX kX
      have BWm := Lib.hid (BW.out.trans (hbX.mono BW.out.size))
      have HRm := Lib.hid (HR.out.later hbX)
      have LTm := Lib.hid (LT.out.later hbX)
      clear hbX BW HR LT
      have BW := BWm
      have HR := HRm
      have LT := LTm
      clear BWm HRm LTm
      have HX := HXz
      clear HXz
      have c0 : d1.cell? ⟨X, 0, none⟩ = some (.string (bs ky)) := Lib.cell_of_heap HX.out 0
      go_wp2_with fail
      clear c0
      refine (refParse_any (bs ky) _ (by rw [bs_size]; have := HKB.out.1; omega)).mono ?_
      rintro e d2 ⟨hb, hp⟩
      rw [bs_toList] at hp
      have BWm := Lib.hid (BW.out.trans (hb.mono BW.out.size))
      have HRm := Lib.hid (HR.out.later hb)
      have LTm := Lib.hid (LT.out.later hb)
      have HXm := Lib.hid (below_at' hb HX.out)
      clear hb BW HR LT HX
      have BW := BWm
      have HR := HRm
      have LT := LTm
      have HX := HXm
      clear BWm HRm LTm HXm
      cases hpk : parseF ky with
      | none =>
        rw [hpk] at hp
        subst hp
        have HPK := Lib.hid hpk
        clear hpk
        have c1 : d2.cell? ⟨X, 1, none⟩ = some (.string (bs vl)) := Lib.cell_of_heap HX.out 1
        go_wp2_with fail
        clear c1
        refine (refNums_any (bs vl) _ (by rw [bs_size]; have := HKB.out.2; omega)).mono ?_
        rintro e d3 ⟨hb, hs⟩
        rw [bs_toList] at hs
        have BWm := Lib.hid (BW.out.trans (hb.mono BW.out.size))
        have HRm := Lib.hid (HR.out.later hb)
        have LTm := Lib.hid (LT.out.later hb)
        have HXm := Lib.hid (below_at' hb HX.out)
        clear hb BW HR LT HX
        have BW := BWm
        have HR := HRm
        have LT := LTm
        have HX := HXm
        clear BWm HRm LTm HXm
        cases hnv : numsF vl with
        | none =>
          rw [hnv] at hs
          subst hs
          clear hnv
          have HNX : Hid (rowsT (T.take (i + 1)) = rowsT (T.take i)) := Lib.hid (by rw [HTS.out, show rowT (ky, vl) = none from by unfold rowT; rw [readF_none HPK.out]]; exact List.append_nil _)
          go_wp2_with fail
          go_roundw
          case rel => exact ⟨i + 1, xs, by go_num, HLT.out, Lib.hid (by rw [HNX.out]; exact HR.out), LT, BW, OW⟩
          case measure => have hh : i < n := HLT.out; simp [intOf]; omega
        | some zs =>
          rw [hnv] at hs
          obtain ⟨vz, rfl, _⟩ := hs
          clear hnv
          have HNX : Hid (rowsT (T.take (i + 1)) = rowsT (T.take i)) := Lib.hid (by rw [HTS.out, show rowT (ky, vl) = none from by unfold rowT; rw [readF_none HPK.out]]; exact List.append_nil _)
          go_wp2_with fail
          go_roundw
          case rel => exact ⟨i + 1, xs, by go_num, HLT.out, Lib.hid (by rw [HNX.out]; exact HR.out), LT, BW, OW⟩
          case measure => have hh : i < n := HLT.out; simp [intOf]; omega
      | some pk =>
        obtain ⟨tk, ys⟩ := pk
        rw [hpk] at hp
        obtain ⟨vy, rfl, hown⟩ := hp
        have HPK := Lib.hid hpk; have HY := Lib.hid (LO.of_own hown)
        clear hpk hown
        have c1 : d2.cell? ⟨X, 1, none⟩ = some (.string (bs vl)) := Lib.cell_of_heap HX.out 1
        go_wp2_with fail
        clear c1
        refine (refNums_any (bs vl) _ (by rw [bs_size]; have := HKB.out.2; omega)).mono ?_
        rintro e d3 ⟨hb, hs⟩
        rw [bs_toList] at hs
        have BWm := Lib.hid (BW.out.trans (hb.mono BW.out.size))
        have HRm := Lib.hid (HR.out.later hb)
        have LTm := Lib.hid (LT.out.later hb)
        have HXm := Lib.hid (below_at' hb HX.out)
        have HYm := Lib.hid (HY.out.later hb)
        clear hb BW HR LT HX HY
        have BW := BWm
        have HR := HRm
        have LT := LTm
        have HX := HXm
        have HY := HYm
        clear BWm HRm LTm HXm HYm
        cases hnv : numsF vl with
        | none =>
          rw [hnv] at hs
          subst hs
          have HNV := Lib.hid hnv
          clear hnv
          have HNX : Hid (rowsT (T.take (i + 1)) = rowsT (T.take i)) := Lib.hid (by rw [HTS.out, show rowT (ky, vl) = none from by unfold rowT; rw [HNV.out]; cases readF ky <;> rfl]; exact List.append_nil _)
          go_wp2_with fail
          go_roundw
          case rel => exact ⟨i + 1, xs, by go_num, HLT.out, Lib.hid (by rw [HNX.out]; exact HR.out), LT, BW, OW⟩
          case measure => have hh : i < n := HLT.out; simp [intOf]; omega
        | some zs =>
          rw [hnv] at hs
          obtain ⟨vz, rfl, hown⟩ := hs
          have HNV := Lib.hid hnv; have HZL := Lib.hid (LO.of_own hown)
          clear hnv hown
          obtain ⟨ny, hny⟩ : ∃ z, z = ys.length := ⟨_, rfl⟩
          obtain ⟨ady, capy, hvy, _, _⟩ := HY.out.shape
          rw [← hny] at hvy
          subst hvy
          have HNY := Lib.hid hny
          clear hny
          by_cases hy2 : ny = 2
          · subst hy2
            obtain ⟨nz, hnz⟩ : ∃ z, z = zs.length := ⟨_, rfl⟩
            obtain ⟨adz, capz, hvz, _, _⟩ := HZL.out.shape
            rw [← hnz] at hvz
            subst hvz
            clear hnz
            obtain ⟨y0, y1, rfl⟩ : ∃ y0 y1, ys = [y0, y1] := by
              match ys, HNY.out with
              | [p, q], _ => exact ⟨p, q, rfl⟩
            obtain ⟨gY, capq, cur, e9, _⟩ := HY.out.opened (by simp)
            injection e9 with e8 _ e7
            subst e8 e7
            clear HNY
            go_wp2_with fail
            obtain ⟨d4, hwz⟩ : ∃ wz, wz = d3.drew := ⟨_, rfl⟩
            have hbz : Below d3.heap.size d3 d4 := by rw [hwz]; exact (Below.refl _ _).drew
            have BWm := Lib.hid (BW.out.trans (hbz.mono BW.out.size))
            have HRm := Lib.hid (HR.out.later hbz)
            have LTm := Lib.hid (LT.out.later hbz)
            have HXm := Lib.hid (below_at' hbz HX.out)
            have HYm := Lib.hid (HY.out.later hbz)
            have HZLm := Lib.hid (HZL.out.later hbz)
            clear hbz BW HR LT HX HY HZL
            have BW := BWm
            have HR := HRm
            have LT := LTm
            have HX := HXm
            have HY := HYm
            have HZL := HZLm
            clear BWm HRm LTm HXm HYm HZLm
            have hS : LO d4 3 intE 1 (.slice (some ⟨gY, 0, none⟩) 2 capy) [y0, y1] := HY.out
            refine wp_region_till (fun w' => LO w' 3 intE 1 (.slice (some ⟨gY, 0, none⟩) 2 capy) [y0, y1]) 12 12 (by kernel_rfl) rfl ?_
            rw [← hwz]
            clear hwz
            refine till_take 0 (some 41) rfl rfl (by kernel_rfl) (by kernel_rfl) (by kernel_rfl) (by kernel_rfl) (by kernel_rfl) (by kernel_rfl) (fun _ _ _ h => h) (.inl ⟨by rfl, fun w' _ => (by go_simp; rfl)⟩) hS ?_
            go_frame
            refine till_take 1 (some 42) rfl rfl (by kernel_rfl) (by kernel_rfl) (by kernel_rfl) (by kernel_rfl) (by kernel_rfl) (by kernel_rfl) (fun _ _ _ h => h) (.inl ⟨by rfl, fun w' _ => (by go_simp; rfl)⟩) hS ?_
            go_frame
            refine till_take 2 (some 43) rfl rfl (by kernel_rfl) (by kernel_rfl) (by kernel_rfl) (by kernel_rfl) (by kernel_rfl) (by kernel_rfl) (fun _ _ _ h => h) (.inl ⟨by rfl, fun w' _ => (by go_simp; rfl)⟩) hS ?_
            go_frame
            refine till_take 3 (some 44) rfl rfl (by kernel_rfl) (by kernel_rfl) (by kernel_rfl) (by kernel_rfl) (by kernel_rfl) (by kernel_rfl) (fun _ _ _ h => h) (.inl ⟨by rfl, fun w' hS' => (by obtain ⟨hc1, hc2⟩ := lo_two hS'; go_simp; rfl)⟩) hS ?_
            go_frame
            refine till_take 4 (some 45) rfl rfl (by kernel_rfl) (by kernel_rfl) (by kernel_rfl) (by kernel_rfl) (by kernel_rfl) (by kernel_rfl) (fun _ _ _ h => h) (.inl ⟨by rfl, fun w' _ => (by go_simp; rfl)⟩) hS ?_
            go_frame
            refine till_take 5 (some 46) rfl rfl (by kernel_rfl) (by kernel_rfl) (by kernel_rfl) (by kernel_rfl) (by kernel_rfl) (by kernel_rfl) (fun _ _ _ h => h) (.inl ⟨by rfl, fun w' _ => (by go_simp; rfl)⟩) hS ?_
            go_frame
            refine till_take 6 (some 47) rfl rfl (by kernel_rfl) (by kernel_rfl) (by kernel_rfl) (by kernel_rfl) (by kernel_rfl) (by kernel_rfl) (fun _ _ _ h => h) (.inl ⟨by rfl, fun w' hS' => (by obtain ⟨hc1, hc2⟩ := lo_two hS'; go_simp; rfl)⟩) hS ?_
            go_frame
            refine till_take 7 (some 48) rfl rfl (by kernel_rfl) (by kernel_rfl) (by kernel_rfl) (by kernel_rfl) (by kernel_rfl) (by kernel_rfl) (fun _ _ _ h => h) (.inl ⟨by rfl, fun w' _ => (by go_simp; rfl)⟩) hS ?_
            go_frame
            refine till_take 8 (some 49) rfl rfl (by kernel_rfl) (by kernel_rfl) (by kernel_rfl) (by kernel_rfl) (by kernel_rfl) (by kernel_rfl) (fun _ _ _ h => h) (.inl ⟨by rfl, fun w' _ => (by go_simp; rfl)⟩) hS ?_
            go_frame
            refine till_one 9 rfl (by kernel_rfl) fun K hK => ?_
            simp only [List.getElem_toArray, List.getElem_cons_succ, List.getElem_cons_zero]
            rw [if_pos (by rfl)]
            go_simp
            obtain ⟨d5, hwn⟩ : ∃ wn, wn = World.alloc d4 (.cells #[.int .i64 y0, .int .i64 y1, .slice adz nz capz] 93) := ⟨_, rfl⟩
            obtain ⟨A, hA⟩ : ∃ A, A = (World.heap d4).size := ⟨_, rfl⟩
            rw [← hwn, ← hA]
            have hb : Below (World.heap d4).size d4 d5 := by rw [hwn]; exact below_new _ _
            obtain ⟨y, hyd⟩ : ∃ y : DRow, y = ⟨y0, y1, .slice adz nz capz, zs⟩ := ⟨_, rfl⟩
            have HRA : Hid (Rd d5 rrE 3 (.slice (some ⟨A, 0, none⟩) 1 1) [y]) := Lib.hid (by rw [hwn, hA, hyd]; exact rd_row1 _ _ _ _ _)
            have hS1 := hS.later hb
            clear hwn hA hS
            have BWm := Lib.hid (BW.out.trans (hb.mono BW.out.size))
            have HRm := Lib.hid (HR.out.later hb)
            have LTm := Lib.hid (LT.out.later hb)
            have HXm := Lib.hid (below_at' hb HX.out)
            have HYm := Lib.hid (HY.out.later hb)
            have HZLm := Lib.hid (HZL.out.later hb)
            clear hb BW HR LT HX HY HZL
            have BW := BWm
            have HR := HRm
            have LT := LTm
            have HX := HXm
            have HY := HYm
            have HZL := HZLm
            clear BWm HRm LTm HXm HYm HZLm
            refine hK _ _ (fun _ _ => hS1) ?_
            clear hK
            have hS := hS1
            clear hS1
            have HYD := Lib.hid hyd
            clear hyd
            refine till_one 10 rfl (by kernel_rfl) fun K hK => ?_
            simp only [List.getElem_toArray, List.getElem_cons_succ, List.getElem_cons_zero]
            rw [if_pos (by rfl)]
            refine wp_lo_apps (l := xs) (l2 := [y]) (enc := rrE) _ _ 90 90 rfl Try.underlying90 Try.underlying90 Try.infoRR rfl (by decide) rrE_len (fun z hz => by rw [List.mem_singleton.1 hz, HYD.out]; exact rrE_one (LO.slice_one HZL.out)) HR.out.1 rfl _ rfl HRA.out (by have := HXL.out; have := HLN.out; have := HLT.out; unfold maxLen; simp; omega) (by have := HXL.out; have := HLN.out; have := HLT.out; simp; omega) ?_
            intro va d6 la ka ma
            have HRn : Hid (RowsA d6 va (xs ++ [y]) (rowsT (T.take (i + 1)))) := Lib.hid (by
              have h9 := HR.out.app (y := y) (by rw [HYD.out]; exact HZL.out) la ka
              rw [HTS.out, show rowT (ky, vl) = some (drK y) from by unfold rowT; rw [readF_two HPK.out, HNV.out, HYD.out]; rfl]
              exact h9)
            have LTn : Hid (LO d6 99 pairE 2 (.slice (some ⟨gT, 0, none⟩) n capT) T) := Lib.hid (LT.out.off ka fun k hk => by obtain ⟨cs, hc⟩ := HR.out.1.kind hk; exact ⟨cs, _, _, hc, by decide⟩)
            have hS1 := hS.off ka fun k hk => by obtain ⟨cs, hc⟩ := HR.out.1.kind hk; exact ⟨cs, _, _, hc, by decide⟩
            have BWn : Hid (Below w.heap.size w d6) := Lib.hid (BW.out.trans (ka.below (B := w.heap.size) (fun q hq e => by have := OW.out q e; omega) BW.out.size))
            have OWn : Hid (∀ k, va.ownBlock = some k → w.heap.size ≤ k) := Lib.hid fun k e => by
              rcases ma with m | ⟨q, m, m2⟩
              · exact OW.out k (by rw [← m]; exact e)
              · rw [e] at m; cases m; exact Nat.le_trans BW.out.size m2
            refine hK _ _ (fun _ _ => hS1) ?_
            clear hK hS la ka ma HRA HR LT BW OW HY HZL HX
            have hS := hS1
            clear hS1
            refine till_take 11 (some 3) rfl rfl (by kernel_rfl) (by kernel_rfl) (by kernel_rfl) (by kernel_rfl) (by kernel_rfl) (by kernel_rfl) (fun _ _ _ h => h) (.inl ⟨by rfl, fun w' _ => (by go_simp; rfl)⟩) hS ?_
            go_frame
            refine till_done (by kernel_rfl) ?_ _
            clear hS
            go_wp2_with fail
            go_roundw
            case rel => exact ⟨i + 1, xs ++ [y], by go_num, HLT.out, HRn, LTn, BWn, OWn⟩
            case measure => have hh : i < n := HLT.out; simp [intOf]; omega
          · have hyb : ((ny : Int) == 2) = false := beq_eq_false_iff_ne.2 (by omega)
            have HY2 : Hid (ys.length ≠ 2) := Lib.hid (by rw [← HNY.out]; exact hy2)
            clear hy2
            have HNX : Hid (rowsT (T.take (i + 1)) = rowsT (T.take i)) := Lib.hid (by rw [HTS.out, show rowT (ky, vl) = none from by unfold rowT; rw [readF_other HPK.out HY2.out]]; exact List.append_nil _)
            go_wp2_with fail
            go_roundw
            case rel => exact ⟨i + 1, xs, by go_num, HLT.out, Lib.hid (by rw [HNX.out]; exact HR.out), LT, BW, OW⟩
            case measure => have hh : i < n := HLT.out; simp [intOf]; omega
    · obtain rfl : i = n := by omega
      clear hlt hin
      go_wp2_with fail
      go_ret
      exact ⟨_, xs, rfl, by have := HR.out; rw [HN.out, List.take_length] at this; exact this, BW.out, OW.out⟩
end
section
open Go.RowKit

theorem RLiv.rsD {w0 w : World} {F0 : List Nat} {g : Nat} {s : PS} (L : RLiv w0 F0 w g s) : ∃ F, RS w g s F := by obtain ⟨F, h1, _, _⟩ := L; exact ⟨F, h1⟩
theorem rliv_cells {w0 w w' : World} {F0 : List Nat} {g : Nat} {s : PS} {X : Nat} {cs : Array Value} {T : TypeId} (L : RLiv w0 F0 w g s) (hX : w.heap[X]? = some (.cells cs T (0, 0))) (hT : rstKind (.cells cs T (0, 0)) = false) (hk : Keep (· = X) w w') (hw : w0.heap.size ≤ X) : RLiv w0 F0 w' g s := by
  obtain ⟨F, h1, h2, h3⟩ := L
  refine ⟨F, h1.keep hk fun x hx hu => ?_, h2.trans (hk.mono fun y _ hy => .inr (hy ▸ hw)), h3⟩
  obtain ⟨o, ho, k1⟩ := h1.kind x hx
  subst hu
  rw [hX] at ho
  cases ho
  rw [hT] at k1; cases k1
theorem LO.rr {w : World} {e : TypeId} {ad : Option Addr} {n cap : Nat} {xs : List DRow} (h : LO w e rrE 3 (.slice ad n cap) xs) (i : Nat) (hi : i < xs.length) :
    ∃ g, ad = some ⟨g, 0, none⟩ ∧ g < w.heap.size ∧ w.cell? ⟨g, i * 3, none⟩ = some (.int .i64 xs[i].b) ∧ w.cell? ⟨g, i * 3 + 1, none⟩ = some (.int .i64 xs[i].n) ∧ w.cell? ⟨g, i * 3 + 2, none⟩ = some xs[i].v := by
  have hne : xs ≠ [] := by rintro rfl; simp at hi
  obtain ⟨g, c, cur, e1, hg, _⟩ := h.opened hne
  have e2 := (Value.slice.inj e1).1
  subst e2
  obtain ⟨ax, cx, e3, _, _, h3⟩ := h.rd rrE_len
  obtain ⟨b, off, e4, _, h5⟩ := h3 hne
  have e5 := (Value.slice.inj e3).1.trans e4
  simp only [Option.some.injEq, Addr.mk.injEq] at e5
  obtain ⟨rfl, rfl, _⟩ := e5
  refine ⟨g, rfl, heap_lt hg, ?_, ?_, ?_⟩
  · have := h5 i hi 0 (by omega); simpa [rrE] using this
  · have := h5 i hi 1 (by omega); simpa [rrE] using this
  · have := h5 i hi 2 (by omega); simpa [rrE] using this
theorem one_rr (a b : Int) {v : Value} (h : v.oneCell' = true) : (#[Value.int .i64 a, .int .i64 b, v].all (·.oneCell')) = true := by simp [Value.oneCell'] at h ⊢; exact h

set_option maxHeartbeats 2000000 in
set_option maxRecDepth 100000 in
theorem rdfirst_any {w : World} {g : Nat} {s : PS} {F : List Nat} (h : RS w g s F) (hz : s.sz < 1000000) {T : Tab} (hT : T = underP s.t (keyF 26 [])) (hok : TabOk T) (hln : T.length < 1000000) :
    Calls Try.prog 20 #[.pointer (some ⟨g, 0, none⟩)] w (Ret w (firstV (rowsT T))) := by
  have HC := Lib.hid fun (W : World) => rall_any h hz hT hok hln
  clear h hz hT hok hln
  go_enter Try.func20, Try.ntmps20
  go_wp2_with fail
  refine (HC.out w).mono ?_
  rintro e w1 ⟨v, xs, rfl, hr, hb, _⟩
  have HR := Lib.hid hr; have HB := Lib.hid hb
  obtain ⟨m, hm⟩ : ∃ m, m = xs.length := ⟨_, rfl⟩
  obtain ⟨ad, cap, hv, _, _⟩ := hr.1.shape
  rw [← hm] at hv
  subst hv
  have HM := Lib.hid hm
  clear hr hb hm
  by_cases h0 : m = 0
  · have HE : Hid (rowsT T = []) := Lib.hid (by
      rw [← HR.out.2.1, List.length_eq_zero_iff.1 (show xs.length = 0 by rw [← HM.out]; exact h0)]; rfl)
    subst h0
    go_wp2_with fail
    go_ret2
    exact ⟨by rw [HE.out]; rfl, HB.out⟩
  · have hi : 0 < xs.length := by rw [← HM.out]; omega
    obtain ⟨gR, rfl, _, q0, q1, q2⟩ := HR.out.1.rr 0 hi
    clear q1 q2
    rw [Nat.zero_mul] at q0
    obtain ⟨x, hx⟩ : ∃ x, x = xs[0] := ⟨_, rfl⟩
    rw [← hx] at q0
    have HE : Hid (firstV (rowsT T) = .tuple #[.int .i64 x.b, .bool true]) := Lib.hid (by
      rw [← HR.out.2.1, hx]
      cases xs with
      | nil => simp at hi
      | cons y ys => rfl)
    have hb0 : ((m : Int) == 0) = false := beq_eq_false_iff_ne.2 (by omega)
    have hm1 : 0 < m := by omega
    clear hi hx h0
    go_wp2_with fail
    go_ret2
    exact ⟨by rw [HE.out]; rfl, HB.out⟩

/-- The next number of a block, as the reference counts. -/
def rdN (R : List ((Int × Int) × List Int)) (bk : Int) : Int := R.foldl (fun n r => if r.1.1 = bk ∧ n ≤ r.1.2 then r.1.2 + 1 else n) 0
theorem rdN_snoc (R : List ((Int × Int) × List Int)) (r : (Int × Int) × List Int) (bk : Int) : rdN (R ++ [r]) bk = if r.1.1 = bk ∧ rdN R bk ≤ r.1.2 then r.1.2 + 1 else rdN R bk := by unfold rdN; rw [List.foldl_append]; rfl
theorem rdN_bound {m : Int} (bk : Int) : ∀ (R : List ((Int × Int) × List Int)) (n0 : Int), (∀ r ∈ R, r.1.2 < m) → 0 ≤ n0 → n0 ≤ m → 0 ≤ R.foldl (fun n r => if r.1.1 = bk ∧ n ≤ r.1.2 then r.1.2 + 1 else n) n0 ∧ R.foldl (fun n r => if r.1.1 = bk ∧ n ≤ r.1.2 then r.1.2 + 1 else n) n0 ≤ m
  | [], n0, _, h1, h2 => ⟨h1, h2⟩
  | r :: R, n0, h, h1, h2 => by
    have h3 := h r List.mem_cons_self
    refine rdN_bound bk R _ (fun x hx => h x (List.mem_cons_of_mem _ hx)) ?_ ?_
    · dsimp only
      split
      · omega
      · exact h1
    · dsimp only
      split
      · omega
      · exact h2
def raddS (s : PS) (R : List ((Int × Int) × List Int)) (bk : Int) (l : List Int) : PS := (s.dput bk (rdN R bk) l).dcnt

set_option maxHeartbeats 2000000 in
set_option maxRecDepth 100000 in
theorem rdadd_bad {w : World} {x : Option Addr} {bk : Int} {v : Value} {l : List Int} (hrd : Rd w intE 1 v l) (hbad : DBad bk l) :
    Calls Try.prog 18 #[.pointer x, .int .i64 bk, v] w (Ret w (.int .i64 2)) := by
  have HRD := Lib.hid hrd
  clear hrd
  have h2 : bk < 0 ∨ (¬ bk < 0 ∧ 1099511627776 < bk) ∨ (¬ bk < 0 ∧ ¬ 1099511627776 < bk ∧ goodL l = false) := by
    unfold DBad at hbad
    rcases hbad with h | h | h
    · exact .inl h
    · by_cases e : bk < 0
      · exact .inl e
      · exact .inr (.inl ⟨e, h⟩)
    · by_cases e : bk < 0
      · exact .inl e
      · by_cases e2 : 1099511627776 < bk
        · exact .inr (.inl ⟨e, e2⟩)
        · exact .inr (.inr ⟨e, e2, h⟩)
  clear hbad
  rcases h2 with h1 | ⟨h1, h2⟩ | ⟨h1, h2, hg⟩
  · go_enter Try.func18, Try.ntmps18
    go_wp2_with fail
    go_ret
    exact ⟨rfl, Below.refl _ _⟩
  · go_enter Try.func18, Try.ntmps18
    go_wp2_with fail
    go_ret
    exact ⟨rfl, Below.refl _ _⟩
  · have HG := Lib.hid hg
    clear hg
    go_enter Try.func18, Try.ntmps18
    go_wp2_with fail
    refine (rbad_any HRD.out).mono ?_
    rw [HG.out]
    rintro e w1 ⟨rfl, hb⟩
    have HB := Lib.hid hb
    clear hb
    go_wp2_with fail
    go_ret
    exact ⟨rfl, HB.out⟩

set_option maxHeartbeats 4000000 in
set_option maxRecDepth 100000 in
theorem rdadd_any {w : World} {g : Nat} {s : PS} {F : List Nat} (h : RS w g s F) (hz : s.sz < 900000) (hf : Fit s) {bk : Int} (hb0 : 0 ≤ bk) (hb1 : bk ≤ 1099511627776) {v : Value} {l : List Int} (hrd : Rd w intE 1 v l) (hll : l.length ≤ 100000) (hli : I64s l) (hg : goodL l = true) {T : Tab} (hT : T = underP s.t (keyF 26 [])) (hok : TabOk T) (hln : T.length < 1000000) (hrw : ∀ r ∈ rowsT T, r.1.2 < 1000000000) (hc : getI (getP (s.dput bk (rdN (rowsT T) bk) l).t) (keyF 27 []) < 1000000000) :
    Calls Try.prog 18 #[.pointer (some ⟨g, 0, none⟩), .int .i64 bk, v] w (RRet w g F (raddS s (rowsT T) bk l) (.int .i64 0)) := by
  have L := Lib.hid (RLiv.start h); have HZ := Lib.hid hz; have HF := Lib.hid hf; have HBK := Lib.hid (And.intro hb0 hb1); have HRD := Lib.hid hrd; have HLL := Lib.hid (And.intro hll hli); have HG := Lib.hid hg; have HT := Lib.hid hT; have HOK := Lib.hid hok; have HLN := Lib.hid hln; have HRW := Lib.hid hrw; have HC := Lib.hid hc
  have h1 : ¬ bk < 0 := by omega
  have h2 : ¬ 1099511627776 < bk := by omega
  clear h hz hf hb0 hb1 hrd hll hli hg hT hok hln hrw hc
  go_enter Try.func18, Try.ntmps18
  go_wp2_with fail
  refine (rbad_any HRD.out).mono ?_
  rw [HG.out]
  rintro e a1 ⟨rfl, hb⟩
  have Lm := Lib.hid (L.out.later hb)
  have HRDm := Lib.hid (HRD.out.later hb)
  clear hb L HRD
  have L := Lm
  have HRD := HRDm
  clear Lm HRDm
  go_wp2_with fail
  clear h1 h2
  obtain ⟨F9, q9⟩ := L.out.rsD
  refine (rall_any q9 (by have := HZ.out; omega) HT.out HOK.out HLN.out).mono ?_
  rintro e a2 ⟨vA, xs, rfl, hra, hb, _⟩
  have HRA := Lib.hid hra
  clear hra q9
  have Lm := Lib.hid (L.out.later hb)
  have HRDm := Lib.hid (HRD.out.later hb)
  clear hb L HRD
  have L := Lm
  have HRD := HRDm
  clear Lm HRDm
  obtain ⟨m, hm⟩ : ∃ m, m = xs.length := ⟨_, rfl⟩
  obtain ⟨adA, capA, hv, _, _⟩ := HRA.out.1.shape
  rw [← hm] at hv
  subst hv
  have HM := Lib.hid hm
  have hm6 : m < 1000000 := by
    have h9 := congrArg List.length HRA.out.2.1
    rw [List.length_map] at h9
    have h8 := rowsT_len T
    have h7 := HLN.out
    omega
  have HM6 := Lib.hid hm6
  clear hm hm6
  go_wp2_with fail
  go_loopw [7, 23] (fun vn vi wr => ∃ (i : Nat), vn = .int .i64 (rdN ((rowsT T).take i) bk) ∧ vi = .int .i64 i ∧ i ≤ m ∧ Hid (RLiv w F wr g s) ∧ Hid (Rd wr intE 1 v l) ∧ Hid (RowsA wr (.slice adA m capA) xs (rowsT T))) (fun _ vi _ => m - (intOf vi).toNat)
  case atStart => exact ⟨0, rfl, rfl, Nat.zero_le _, L, HRD, HRA⟩
  case round =>
    clear L HRD HRA
    obtain ⟨i, rfl, rfl, hin, L, HRD, HRA⟩ := hrel
    obtain ⟨nn, hnn⟩ : ∃ z, z = rdN ((rowsT T).take i) bk := ⟨_, rfl⟩
    have hnb := rdN_bound (m := 1000000000) bk ((rowsT T).take i) 0 (fun r hr => HRW.out r (List.mem_of_mem_take hr)) (by omega) (by omega)
    rw [show ((rowsT T).take i).foldl (fun n r => if r.1.1 = bk ∧ n ≤ r.1.2 then r.1.2 + 1 else n) 0 = nn from hnn.symm] at hnb
    rw [← hnn]
    have HNN := Lib.hid hnn; have HNB := Lib.hid hnb
    clear hnn hnb
    by_cases hlt : i < m
    · have hi : i < xs.length := by rw [← HM.out]; exact hlt
      obtain ⟨gR, rfl, hgR, q0, q1, q2⟩ := HRA.out.1.rr i hi
      have hxe : drK xs[i] ∈ rowsT T := by rw [← HRA.out.2.1]; exact List.mem_map_of_mem (List.getElem_mem hi)
      have hxb := HRW.out _ hxe
      have htk : (rowsT T).take (i + 1) = (rowsT T).take i ++ [drK xs[i]] := by
        rw [← HRA.out.2.1, ← List.map_take, ← List.map_take, List.take_succ_eq_append_getElem hi, List.map_append]; rfl
      have h1c := (HRA.out.2.2 xs[i] (List.getElem_mem hi)).slice_one
      obtain ⟨x, hx⟩ : ∃ x, x = xs[i] := ⟨_, rfl⟩
      rw [← hx] at q0 q1 q2 htk hxb h1c
      obtain ⟨xb, xn, xv, xl⟩ := x
      simp only at q0 q1 q2
      have hxn : xn < 1000000000 := hxb
      have HSN : Hid (rdN ((rowsT T).take (i + 1)) bk = if xb = bk ∧ nn ≤ xn then xn + 1 else nn) := Lib.hid (by rw [htk, rdN_snoc, ← HNN.out]; rfl)
      have HXN := Lib.hid hxn; have H1C : Hid (xv.oneCell' = true) := Lib.hid h1c; have HLT := Lib.hid hlt
      have hi6 : i < 1000000 := by have := HM6.out; omega
      clear hx hxe hxb htk h1c hi hgR hxn
      go_wp2_with (refine wpList_alloc_g rfl _ rfl _ _ Try.zeroRR rfl ?_)
      intro R d1 hR
      go_wp2_with (refine wpList_store_row_g (t := 93) (old := #[.int .i64 0, .int .i64 0, .slice none 0 0]) rfl 93 _ _ rfl R #[.int .i64 xb, .int .i64 xn, xv] rfl rfl hR.out.cells Try.sizeRR rfl (one_rr _ _ H1C.out) ?_)
      intro d2 hxR kR zR
      clear zR
      have hbR : Below wr.heap.size wr d2 := hR.out.below.trans (kR.below (B := wr.heap.size) (fun x hx e => by have := hR.out.eq; omega) hR.out.below.size)
      have WR : Hid (w.heap.size ≤ R) := Lib.hid (by rw [hR.out.eq]; exact (L.out.keep).size)
      have HRz := Lib.hid hxR
      clear hR hxR kR
      have Lm := Lib.hid (L.out.later hbR)
      have HRDm := Lib.hid (HRD.out.later hbR)
      have HRAm := Lib.hid (HRA.out.later hbR)
      clear hbR L HRD HRA
      have L := Lm
      have HRD := HRDm
      have HRA := HRAm
      clear Lm HRDm HRAm
      have HR := HRz
      clear HRz
      clear q0 q1 q2 hlt hin
      have c0 : d2.cell? ⟨R, 0, none⟩ = some (.int .i64 xb) := Lib.cell_of_heap HR.out 0
      have c1 : d2.cell? ⟨R, 1, none⟩ = some (.int .i64 xn) := Lib.cell_of_heap HR.out 1
      by_cases e1 : xb = bk
      · by_cases e2 : nn ≤ xn
        · have HBE : Hid (xb = bk ∧ nn ≤ xn) := Lib.hid ⟨e1, e2⟩
          have hxn := HXN.out; have hnb := HNB.out
          have hwr : IntKind.i64.wrap (xn + 1) = xn + 1 := by rw [IntKind.wrap_i64]; omega
          obtain rfl : bk = xb := e1.symm
          have HV : Hid (rdN ((rowsT T).take (i + 1)) bk = xn + 1) := Lib.hid (by rw [HSN.out, if_pos HBE.out])
          go_wp2_with fail
          go_roundw
          case rel => exact ⟨i + 1, by (rw [HV.out]) <;> (first | rfl | go_num), by go_num, HLT.out, L, HRD, HRA⟩
          case measure => have := HLT.out; simp [intOf]; omega
        · have hbe : ¬ (xb = bk ∧ nn ≤ xn) := fun e => e2 e.2
          have HBE := Lib.hid hbe
          obtain rfl : bk = xb := e1.symm
          clear hbe
          have HV : Hid (rdN ((rowsT T).take (i + 1)) bk = nn) := Lib.hid (by rw [HSN.out, if_neg HBE.out])
          go_wp2_with fail
          go_roundw
          case rel => exact ⟨i + 1, by (rw [HV.out]) <;> (first | rfl | go_num), by go_num, HLT.out, L, HRD, HRA⟩
          case measure => have := HLT.out; simp [intOf]; omega
      · have hbe : ¬ (xb = bk ∧ nn ≤ xn) := fun e => e1 e.1
        have HBE := Lib.hid hbe
        have e1b : (xb == bk) = false := beq_eq_false_iff_ne.2 e1
        clear hbe
        have HV : Hid (rdN ((rowsT T).take (i + 1)) bk = nn) := Lib.hid (by rw [HSN.out, if_neg HBE.out])
        go_wp2_with fail
        go_roundw
        case rel => exact ⟨i + 1, by (rw [HV.out]) <;> (first | rfl | go_num), by go_num, HLT.out, L, HRD, HRA⟩
        case measure => have := HLT.out; simp [intOf]; omega
    · have hi9 : i = m := by omega
      subst hi9
      have HNE : Hid (nn = rdN (rowsT T) bk) := Lib.hid (by rw [HNN.out, List.take_of_length_le (by rw [← HRA.out.2.1, List.length_map, ← HM.out]; exact Nat.le_refl _)])
      obtain ⟨s1, hs1⟩ : ∃ z, z = s.dput bk nn l := ⟨_, rfl⟩
      have HS1 := Lib.hid hs1
      have HF1 : Hid (Fit s1) := Lib.hid (by rw [hs1]; exact HF.out.setRow _ (by have := HLL.out.1; omega))
      have HZ1 : Hid (s1.sz < 1000000) := Lib.hid (by have h8 := sz_setRow s (keyF 26 [bk, nn]) l; have h9 := HZ.out; rw [hs1]; unfold PS.dput; omega)
      have HSR : Hid (s.setRow (keyF 26 [bk, nn]) l = s1) := Lib.hid hs1.symm
      obtain ⟨cn, hcn⟩ : ∃ z, z = getI (getP s1.t) (keyF 27 []) := ⟨_, rfl⟩
      have HCB : Hid (0 ≤ cn ∧ cn < 1000000000) := Lib.hid ⟨by rw [hcn]; exact (getI_bound _ _).1, by rw [hcn, hs1, HNE.out]; exact HC.out⟩
      have HSE : Hid (s1.setInt (keyF 27 []) (cn + 1) = raddS s (rowsT T) bk l) := Lib.hid (by unfold raddS PS.dcnt; rw [← HNE.out, ← hs1, hcn])
      have HCN := Lib.hid hcn
      clear hs1 hcn hlt hin HRA
      go_wp2_with fail
      obtain ⟨f1, hwl⟩ : ∃ wl, wl = World.alloc wr (.cells #[.int .i64 bk, .int .i64 nn] 3) := ⟨_, rfl⟩
      obtain ⟨gl, hgl⟩ : ∃ gl, gl = (World.heap wr).size := ⟨_, rfl⟩
      rw [← hwl, ← hgl]
      have HOIz : Hid (Own f1 0 3 intE 1 (.slice (some ⟨gl, 0, none⟩) 2 2) [bk, nn]) := Lib.hid (own_lit (l := [bk, nn]) (by rw [hwl, hgl]; exact heap_alloc_new _ _) (Nat.zero_le _) (by unfold maxLen; simp))
      have hb : Below (World.heap wr).size wr f1 := by rw [hwl]; exact below_new _ _
      clear hwl hgl
      have Lm := Lib.hid (L.out.later hb)
      have HRDm := Lib.hid (HRD.out.later hb)
      clear hb L HRD
      have L := Lm
      have HRD := HRDm
      clear Lm HRDm
      have HOI := HOIz
      clear HOIz
      refine (refKey_any 26 [bk, nn] _ _ (by simp) (I64s.two (by have := HBK.out; omega) (by have := HNB.out; omega)) (HOI.out.rd fun _ => rfl)).mono ?_
      rintro e f2 ⟨rfl, hb⟩
      have Lm := Lib.hid (L.out.later hb)
      have HRDm := Lib.hid (HRD.out.later hb)
      have HOIm := Lib.hid (HOI.out.later hb)
      clear hb L HRD HOI
      have L := Lm
      have HRD := HRDm
      have HOI := HOIm
      clear Lm HRDm HOIm
      clear HOI
      go_wp2_with fail
      refine (L.out.call fun F hs => rsetRow_any hs (by have := HZ.out; omega) (keyF 26 [bk, nn]) (by have := HLL.out.1; omega) HLL.out.2 HRD.out).mono ?_
      rw [HSR.out]
      rintro e f3 ⟨rfl, o, hoth⟩
      have Lm := Lib.hid o
      clear o hoth L
      have L := Lm
      clear Lm
      go_wp2_with fail
      refine (refKey_any 27 [] _ _ (by simp) I64s_nil (Rd.nil _ _ _)).mono ?_
      rintro e f4 ⟨rfl, hb⟩
      have Lm := Lib.hid (L.out.later hb)
      clear hb L
      have L := Lm
      clear Lm
      go_wp2_with fail
      obtain ⟨F9, q9⟩ := L.out.rsD
      refine (rdlen_any q9 (by have := HZ1.out; omega) HF1.out).mono ?_
      rw [← HCN.out]
      rintro e f5 ⟨rfl, hb⟩
      clear q9
      have Lm := Lib.hid (L.out.later hb)
      clear hb L
      have L := Lm
      clear Lm
      have hcb := HCB.out
      have hwr : IntKind.i64.wrap (cn + 1) = cn + 1 := by rw [IntKind.wrap_i64]; omega
      go_wp2_with fail
      refine (L.out.call fun F hs => rsetInt_any hs (by have := HZ1.out; omega) (keyF 27 []) (cn + 1) (by have := HCB.out; omega)).mono ?_
      rw [HSE.out]
      rintro e f6 ⟨rfl, o, hoth⟩
      have Lm := Lib.hid o
      clear o hoth L
      have L := Lm
      clear Lm
      go_wp2_with fail
      go_ret
      exact L.out.ret
end
section
open Go.RowKit

def rtk1 (s : PS) (r : (Int × Int) × List Int) : PS := (s.del (keyF 26 [r.1.1, r.1.2])).setInt (keyF 27 []) (getI (getP (s.del (keyF 26 [r.1.1, r.1.2])).t) (keyF 27 []) - 1)
def rtakeS (s : PS) (R : List ((Int × Int) × List Int)) (bk : Int) : PS := R.foldl (fun s r => if r.1.1 ≤ bk then rtk1 s r else s) s
theorem rtakeS_snoc (s : PS) (R : List ((Int × Int) × List Int)) (r : (Int × Int) × List Int) (bk : Int) : rtakeS s (R ++ [r]) bk = if r.1.1 ≤ bk then rtk1 (rtakeS s R bk) r else rtakeS s R bk := by unfold rtakeS; rw [List.foldl_append]; rfl
def rtakeL (R : List ((Int × Int) × List Int)) (bk : Int) : List ((Int × Int) × List Int) := R.filter fun r => decide (r.1.1 ≤ bk)
theorem rtakeL_snoc (R : List ((Int × Int) × List Int)) (r : (Int × Int) × List Int) (bk : Int) : rtakeL (R ++ [r]) bk = if r.1.1 ≤ bk then rtakeL R bk ++ [r] else rtakeL R bk := by
  unfold rtakeL
  rw [List.filter_append]
  by_cases h : r.1.1 ≤ bk
  · rw [if_pos h, List.filter_cons_of_pos (by exact decide_eq_true h)]; rfl
  · rw [if_neg h, List.filter_cons_of_neg (by simpa using h)]; simp
theorem sz_rtk1 (s : PS) (r : (Int × Int) × List Int) : (rtk1 s r).sz ≤ s.sz + 4 := by
  unfold rtk1
  have h1 := sz_del s (keyF 26 [r.1.1, r.1.2])
  have h2 := sz_setInt (s.del (keyF 26 [r.1.1, r.1.2])) (keyF 27 []) (getI (getP (s.del (keyF 26 [r.1.1, r.1.2])).t) (keyF 27 []) - 1)
  omega
theorem sz_rtakeS (bk : Int) : ∀ (R : List ((Int × Int) × List Int)) (s : PS), (rtakeS s R bk).sz ≤ s.sz + 4 * R.length
  | [], s => Nat.le_refl _
  | r :: R, s => by
    have h1 := sz_rtakeS bk R (if r.1.1 ≤ bk then rtk1 s r else s)
    have h2 : (if r.1.1 ≤ bk then rtk1 s r else s).sz ≤ s.sz + 4 := by
      split
      · exact sz_rtk1 s r
      · omega
    show (rtakeS (if r.1.1 ≤ bk then rtk1 s r else s) R bk).sz ≤ _
    rw [List.length_cons]
    omega
theorem Fit.rtakeS (bk : Int) : ∀ (R : List ((Int × Int) × List Int)) {s : PS}, Fit s → Fit (rtakeS s R bk)
  | [], _, h => h
  | r :: R, s, h => Fit.rtakeS bk R (s := if r.1.1 ≤ bk then rtk1 s r else s) (by
    split
    · exact (h.del _).setInt _ _
    · exact h)
theorem LO.oth {α : Type} {w w' : World} {e : TypeId} {enc : α → List Value} {sz : Nat} {v : Value} {l : List α} (h : LO w e enc sz v l) (he : stoKind (.cells #[] e (0, 0)) = false) (he2 : rstKind (.cells #[] e (0, 0)) = false) (ho : Oth w w') : LO w' e enc sz v l := by
  rcases h with h | ⟨g, cap, cur, e1, hh, h1⟩
  · exact .inl h
  · exact .inr ⟨g, cap, cur, e1, ho.2 g _ hh he he2, h1⟩
theorem RowsA.oth {w w' : World} {v : Value} {xs : List DRow} {R : List ((Int × Int) × List Int)} (h : RowsA w v xs R) (ho : Oth w w') : RowsA w' v xs R := ⟨h.1.oth rfl rfl ho, h.2.1, fun x hx => (h.2.2 x hx).oth rfl rfl ho⟩
/-- The rows that are handed back, of those that were told. -/
def RowsO (w : World) (v : Value) (os : List DRow) (R : List ((Int × Int) × List Int)) : Prop := LO w 34 vE 1 v (os.map (·.v)) ∧ os.map drK = R ∧ ∀ y ∈ os, LO w 3 intE 1 y.v y.l
theorem RowsO.later {w w' : World} {v : Value} {os : List DRow} {R : List ((Int × Int) × List Int)} (h : RowsO w v os R) (hb : Below w.heap.size w w') : RowsO w' v os R := ⟨h.1.later hb, h.2.1, fun x hx => (h.2.2 x hx).later hb⟩
theorem RowsO.oth {w w' : World} {v : Value} {os : List DRow} {R : List ((Int × Int) × List Int)} (h : RowsO w v os R) (ho : Oth w w') : RowsO w' v os R := ⟨h.1.oth rfl rfl ho, h.2.1, fun x hx => (h.2.2 x hx).oth rfl rfl ho⟩
theorem RowsO.rowsV {w : World} {v : Value} {os : List DRow} {R : List ((Int × Int) × List Int)} (h : RowsO w v os R) : RowsV w v (R.map (·.2)) := by
  refine ⟨os.map fun y => (y.v, y.l), ?_, ?_, fun x hx => ?_⟩
  · rw [List.map_map]; exact h.1
  · rw [← h.2.1, List.map_map, List.map_map]; rfl
  · obtain ⟨y, hy, rfl⟩ := List.mem_map.1 hx
    exact h.2.2 y hy
theorem RLiv.off {w0 w w' : World} {F0 : List Nat} {g : Nat} {s : PS} {S : Nat → Prop} (L : RLiv w0 F0 w g s) (hk : Keep S w w') (hS : ∀ k, S k → ∃ o, w.heap[k]? = some o ∧ rstKind o = false) (hw : ∀ k, S k → w0.heap.size ≤ k) : RLiv w0 F0 w' g s := by
  obtain ⟨F, h1, h2, h3⟩ := L
  refine ⟨F, h1.keep hk fun x hx hu => ?_, h2.trans (hk.mono fun y _ hy => .inr (hw y hy)), h3⟩
  obtain ⟨o, ho, k1⟩ := h1.kind x hx
  obtain ⟨o', ho', k2⟩ := hS x hu
  rw [ho] at ho'; cases ho'
  rw [k2] at k1; cases k1
/-- An append to the rows handed back leaves all else. -/
theorem RowsO.app {w W w5 : World} {F : List Nat} {g : Nat} {s : PS} {v va vA : Value} {os xs : List DRow} {R Q : List ((Int × Int) × List Int)} {y : DRow} (h : RowsO W v os R) (hy : LO W 3 intE 1 y.v y.l) (la : LO w5 34 vE 1 va (os.map (·.v) ++ [y.v])) (ka : Keep (fun k => v.ownBlock = some k) W w5) (hA : RowsA W vA xs Q) (L : RLiv w F W g s) (hw : ∀ k, v.ownBlock = some k → w.heap.size ≤ k) :
    RowsO w5 va (os ++ [y]) (R ++ [drK y]) ∧ RowsA w5 vA xs Q ∧ RLiv w F w5 g s ∧ ∀ (X : Nat) (cs : Array Value), W.heap[X]? = some (.cells cs 93 (0, 0)) → w5.heap[X]? = some (.cells cs 93 (0, 0)) := by
  have own : ∀ k, v.ownBlock = some k → ∃ cs fr, W.heap[k]? = some (.cells cs 34 fr) := fun k hk => by
    obtain ⟨cs, hc⟩ := h.1.kind hk
    exact ⟨cs, _, hc⟩
  have off : ∀ {e : TypeId}, 34 ≠ e → ∀ k, v.ownBlock = some k → ∃ cs T fr, W.heap[k]? = some (.cells cs T fr) ∧ T ≠ e := fun he k hk => by obtain ⟨cs, fr, hc⟩ := own k hk; exact ⟨_, _, _, hc, he⟩
  refine ⟨⟨by rw [List.map_append]; exact la, by rw [List.map_append, h.2.1]; rfl, fun z hz => ?_⟩, ⟨hA.1.off ka (off (by decide)), hA.2.1, fun x hx => (hA.2.2 x hx).off ka (off (by decide))⟩, L.off ka (fun k hk => by obtain ⟨cs, hc⟩ := h.1.kind hk; exact ⟨_, hc, rfl⟩) hw, fun X cs hX => at_off hX ka (off (by decide))⟩
  rcases List.mem_append.1 hz with hz | hz
  · exact (h.2.2 z hz).off ka (off (by decide))
  · rw [List.mem_singleton.1 hz]; exact hy.off ka (off (by decide))

set_option maxHeartbeats 4000000 in
set_option maxRecDepth 100000 in
theorem rdtake_any {w : World} {g : Nat} {s : PS} {F : List Nat} (h : RS w g s F) (hz : s.sz < 900000) (hf : Fit s) (bk : Int) {T : Tab} (hT : T = underP s.t (keyF 26 [])) (hok : TabOk T) (hln : T.length < 1000000) (hrw : ∀ r ∈ rowsT T, Nm r.1.1 ∧ Nm r.1.2) :
    Calls Try.prog 17 #[.pointer (some ⟨g, 0, none⟩), .int .i64 bk] w (fun e w' => ∃ v, e = .returned v ∧ RowsV w' v ((rtakeL (rowsT T) bk).map (·.2)) ∧ RLiv w F w' g (rtakeS s (rowsT T) bk)) := by
  have L := Lib.hid (RLiv.start h); have HZ := Lib.hid hz; have HF := Lib.hid hf; have HT := Lib.hid hT; have HOK := Lib.hid hok; have HLN := Lib.hid hln; have HRW := Lib.hid hrw
  clear h hz hf hT hok hln hrw
  go_enter Try.func17, Try.ntmps17
  go_wp2_with fail
  obtain ⟨F9, q9⟩ := L.out.rsD
  refine (rall_any q9 (by have := HZ.out; omega) HT.out HOK.out HLN.out).mono ?_
  rintro e a1 ⟨vA, xs, rfl, hra, hb, _⟩
  have HRA := Lib.hid hra
  clear hra q9
  have Lm := Lib.hid (L.out.later hb)
  clear hb L
  have L := Lm
  clear Lm
  obtain ⟨m, hm⟩ : ∃ m, m = xs.length := ⟨_, rfl⟩
  obtain ⟨adA, capA, hv, _, _⟩ := HRA.out.1.shape
  rw [← hm] at hv
  subst hv
  have HM := Lib.hid hm
  have hm6 : m < 1000000 := by
    have h9 := congrArg List.length HRA.out.2.1
    rw [List.length_map] at h9
    have h8 := rowsT_len T
    have h7 := HLN.out
    omega
  have HM6 := Lib.hid hm6
  clear hm hm6
  go_wp2_with fail
  go_loopw [5, 11] (fun vo vi wr => ∃ (i : Nat) (os : List DRow), vi = .int .i64 i ∧ i ≤ m ∧ Hid (RLiv w F wr g (rtakeS s ((rowsT T).take i) bk)) ∧ Hid (RowsO wr vo os (rtakeL ((rowsT T).take i) bk)) ∧ Hid (RowsA wr (.slice adA m capA) xs (rowsT T)) ∧ Hid (∀ k, vo.ownBlock = some k → w.heap.size ≤ k)) (fun _ vi _ => m - (intOf vi).toNat)
  case atStart => exact ⟨0, [], rfl, Nat.zero_le _, L, Lib.hid ⟨LO.nil _ _ _ _, rfl, fun _ h => by cases h⟩, HRA, Lib.hid fun k e => by cases e⟩
  case round =>
    clear L HRA
    obtain ⟨i, os, rfl, hin, L, HO, HRA, HOW⟩ := hrel
    by_cases hlt : i < m
    · have hi : i < xs.length := by rw [← HM.out]; exact hlt
      obtain ⟨gR, rfl, hgR, q0, q1, q2⟩ := HRA.out.1.rr i hi
      have hxe : drK xs[i] ∈ rowsT T := by rw [← HRA.out.2.1]; exact List.mem_map_of_mem (List.getElem_mem hi)
      have hnm := HRW.out _ hxe
      have htk : (rowsT T).take (i + 1) = (rowsT T).take i ++ [drK xs[i]] := by
        rw [← HRA.out.2.1, ← List.map_take, ← List.map_take, List.take_succ_eq_append_getElem hi, List.map_append]; rfl
      have hxv := HRA.out.2.2 xs[i] (List.getElem_mem hi)
      have hol : os.length ≤ i := by
        have h9 := congrArg List.length HO.out.2.1
        rw [List.length_map] at h9
        have h8 : (rtakeL ((rowsT T).take i) bk).length ≤ ((rowsT T).take i).length := List.length_filter_le _ _
        rw [List.length_take] at h8
        omega
      obtain ⟨x, hx⟩ : ∃ x, x = xs[i] := ⟨_, rfl⟩
      rw [← hx] at q0 q1 q2 htk hnm hxv
      obtain ⟨xb, xn, xv, xl⟩ := x
      simp only at q0 q1 q2 hxv
      obtain ⟨nz, hnz⟩ : ∃ z, z = xl.length := ⟨_, rfl⟩
      obtain ⟨adz, capz, hvz, _, _⟩ := hxv.shape
      rw [← hnz] at hvz
      subst hvz
      have HNM : Hid (Nm xb ∧ Nm xn) := Lib.hid hnm
      obtain ⟨st, hst⟩ : ∃ z, z = rtakeS s ((rowsT T).take i) bk := ⟨_, rfl⟩
      have HSZ : Hid (st.sz < 6000000) := Lib.hid (by
        have h9 := sz_rtakeS bk ((rowsT T).take i) s
        rw [List.length_take, ← hst] at h9
        have h8 := HZ.out
        have h7 := HM6.out
        omega)
      have HSF : Hid (Fit st) := Lib.hid (by rw [hst]; exact HF.out.rtakeS _ _)
      have HTS : Hid (rtakeS s ((rowsT T).take (i + 1)) bk = if xb ≤ bk then rtk1 st ((xb, xn), xl) else st) := Lib.hid (by rw [htk, rtakeS_snoc, ← hst]; rfl)
      have HTL : Hid (rtakeL ((rowsT T).take (i + 1)) bk = if xb ≤ bk then rtakeL ((rowsT T).take i) bk ++ [((xb, xn), xl)] else rtakeL ((rowsT T).take i) bk) := Lib.hid (by rw [htk, rtakeL_snoc]; rfl)
      rw [← hst] at L
      have HXV := Lib.hid hxv; have HLT := Lib.hid hlt; have HOL := Lib.hid hol
      have hi6 : i < 1000000 := by have := HM6.out; omega
      have HI6 := Lib.hid hi6
      clear hx hxe hnm htk hxv hol hi hgR hnz hst
      go_wp2_with (refine wpList_alloc_g rfl _ rfl _ _ Try.zeroRR rfl ?_)
      intro R d1 hR
      go_wp2_with (refine wpList_store_row_g (t := 93) (old := #[.int .i64 0, .int .i64 0, .slice none 0 0]) rfl 93 _ _ rfl R #[.int .i64 xb, .int .i64 xn, .slice adz nz capz] rfl rfl hR.out.cells Try.sizeRR rfl (one_rr _ _ rfl) ?_)
      intro d2 hxR kR zR
      clear zR
      have hbR : Below wr.heap.size wr d2 := hR.out.below.trans (kR.below (B := wr.heap.size) (fun x hx e => by have := hR.out.eq; omega) hR.out.below.size)
      have WR : Hid (w.heap.size ≤ R) := Lib.hid (by rw [hR.out.eq]; exact (L.out.keep).size)
      have HRz := Lib.hid hxR
      clear hR hxR kR
      have Lm := Lib.hid (L.out.later hbR)
      have HOm := Lib.hid (HO.out.later hbR)
      have HRAm := Lib.hid (HRA.out.later hbR)
      have HXVm := Lib.hid (HXV.out.later hbR)
      clear hbR L HO HRA HXV
      have L := Lm
      have HO := HOm
      have HRA := HRAm
      have HXV := HXVm
      clear Lm HOm HRAm HXVm
      have HR := HRz
      clear HRz
      clear q0 q1 q2 hlt hin
      have c0 : d2.cell? ⟨R, 0, none⟩ = some (.int .i64 xb) := Lib.cell_of_heap HR.out 0
      have c2 : d2.cell? ⟨R, 2, none⟩ = some (.slice adz nz capz) := Lib.cell_of_heap HR.out 2
      by_cases e1 : xb ≤ bk
      · obtain ⟨s1, hs1⟩ : ∃ z, z = st.del (keyF 26 [xb, xn]) := ⟨_, rfl⟩
        obtain ⟨cn, hcn⟩ : ∃ z, z = getI (getP s1.t) (keyF 27 []) := ⟨_, rfl⟩
        obtain ⟨s2, hs2⟩ : ∃ z, z = s1.setInt (keyF 27 []) (cn - 1) := ⟨_, rfl⟩
        have HE : Hid (rtakeS s ((rowsT T).take (i + 1)) bk = s2 ∧ rtakeL ((rowsT T).take (i + 1)) bk = rtakeL ((rowsT T).take i) bk ++ [((xb, xn), xl)]) := Lib.hid ⟨by rw [HTS.out, if_pos e1, hs2, hcn, hs1]; rfl, by rw [HTL.out, if_pos e1]⟩
        have HZ1 : Hid (s1.sz < 7000000) := Lib.hid (by have h8 := sz_del st (keyF 26 [xb, xn]); have h9 := HSZ.out; rw [hs1]; omega)
        have HF1 : Hid (Fit s1) := Lib.hid (by rw [hs1]; exact HSF.out.del _)
        have HCB : Hid (0 ≤ cn ∧ cn < 9223372036854775808) := Lib.hid (by rw [hcn]; exact getI_bound _ _)
        have HS1 := Lib.hid hs1; have HS2 := Lib.hid hs2; have HCN := Lib.hid hcn
        clear hs1 hs2 hcn
        go_wp2_with (at_builtin; refine lo_apps (l := os.map (·.v)) (l2 := [.slice adz nz capz]) (enc := vE) rfl _ _ 35 35 rfl Try.underlying35 Try.underlying35 Try.infoRows rfl (by decide) vE_len' (fun z hz u hu => by rw [List.mem_singleton.1 hz] at hu; rw [List.mem_singleton.1 (show u ∈ [Value.slice adz nz capz] from hu)]; rfl) (HO.out.1.later (below_new _ _)) rfl _ rfl (litV _ _) (by have := HOL.out; have := HI6.out; unfold maxLen; simp; omega) (by have := HOL.out; have := HI6.out; simp; omega) ?_)
        intro va d3 la ka ma
        have hb := below_new d2 (.cells #[.slice adz nz capz] 34)
        obtain ⟨p1, p2, p3, p4⟩ := (HO.out.later hb).app (y := ⟨xb, xn, .slice adz nz capz, xl⟩) (HXV.out.later hb) la ka (HRA.out.later hb) (L.out.later hb) HOW.out
        have HRm := Lib.hid (p4 R _ (below_at' hb HR.out))
        have HOWm : Hid (∀ k, va.ownBlock = some k → w.heap.size ≤ k) := Lib.hid fun k e => by
          rcases ma with q | ⟨q, e2, hq⟩
          · exact HOW.out k (by rw [← q]; exact e)
          · rw [e] at e2; cases e2; exact Nat.le_trans (Nat.le_trans (L.out.keep).size hb.size) hq
        have Lm := Lib.hid p3; have HOm := Lib.hid p1; have HRAm := Lib.hid p2
        clear hb p1 p2 p3 p4 la ka ma L HO HRA HR HOW HXV c0 c2
        have L := Lm
        have HO := HOm
        have HRA := HRAm
        have HR := HRm
        have HOW := HOWm
        clear Lm HOm HRAm HRm HOWm
        have c0 : d3.cell? ⟨R, 0, none⟩ = some (.int .i64 xb) := Lib.cell_of_heap HR.out 0
        have c1 : d3.cell? ⟨R, 1, none⟩ = some (.int .i64 xn) := Lib.cell_of_heap HR.out 1
        go_wp2_with fail
        clear c0 c1
        obtain ⟨d4, hwl⟩ : ∃ wl, wl = World.alloc d3 (.cells #[.int .i64 xb, .int .i64 xn] 3) := ⟨_, rfl⟩
        obtain ⟨gl, hgl⟩ : ∃ gl, gl = (World.heap d3).size := ⟨_, rfl⟩
        rw [← hwl, ← hgl]
        have HOIz : Hid (Own d4 0 3 intE 1 (.slice (some ⟨gl, 0, none⟩) 2 2) [xb, xn]) := Lib.hid (own_lit (l := [xb, xn]) (by rw [hwl, hgl]; exact heap_alloc_new _ _) (Nat.zero_le _) (by unfold maxLen; simp))
        have hb : Below (World.heap d3).size d3 d4 := by rw [hwl]; exact below_new _ _
        clear hwl hgl
        have Lm := Lib.hid (L.out.later hb)
        have HOm := Lib.hid (HO.out.later hb)
        have HRAm := Lib.hid (HRA.out.later hb)
        have HRm := Lib.hid (below_at' hb HR.out)
        clear hb L HO HRA HR
        have L := Lm
        have HO := HOm
        have HRA := HRAm
        have HR := HRm
        clear Lm HOm HRAm HRm
        have HOI := HOIz
        clear HOIz
        refine (refKey_any 26 [xb, xn] _ _ (by simp) (I64s.two (by have := HNM.out.1; unfold Nm at this; omega) (by have := HNM.out.2; unfold Nm at this; omega)) (HOI.out.rd fun _ => rfl)).mono ?_
        rintro e d5 ⟨rfl, hb⟩
        have Lm := Lib.hid (L.out.later hb)
        have HOm := Lib.hid (HO.out.later hb)
        have HRAm := Lib.hid (HRA.out.later hb)
        have HRm := Lib.hid (below_at' hb HR.out)
        have HOIm := Lib.hid (HOI.out.later hb)
        clear hb L HO HRA HR HOI
        have L := Lm
        have HO := HOm
        have HRA := HRAm
        have HR := HRm
        have HOI := HOIm
        clear Lm HOm HRAm HRm HOIm
        clear HOI
        go_wp2_with fail
        refine (L.out.call fun F hs => rdel_any hs (by have := HSZ.out; unfold PS.sz at this; omega) (by have := HSZ.out; unfold PS.sz at this; omega) (keyF 26 [xb, xn])).mono ?_
        rw [← HS1.out]
        rintro e d6 ⟨rfl, o, hoth⟩
        have Lm := Lib.hid o
        have HOm := Lib.hid (HO.out.oth hoth)
        have HRAm := Lib.hid (HRA.out.oth hoth)
        have HRm := Lib.hid (hoth.2 R _ HR.out rfl rfl)
        clear o hoth L HO HRA HR
        have L := Lm
        have HO := HOm
        have HRA := HRAm
        have HR := HRm
        clear Lm HOm HRAm HRm
        go_wp2_with fail
        refine (refKey_any 27 [] _ _ (by simp) I64s_nil (Rd.nil _ _ _)).mono ?_
        rintro e d7 ⟨rfl, hb⟩
        have Lm := Lib.hid (L.out.later hb)
        have HOm := Lib.hid (HO.out.later hb)
        have HRAm := Lib.hid (HRA.out.later hb)
        have HRm := Lib.hid (below_at' hb HR.out)
        clear hb L HO HRA HR
        have L := Lm
        have HO := HOm
        have HRA := HRAm
        have HR := HRm
        clear Lm HOm HRAm HRm
        go_wp2_with fail
        obtain ⟨F9, q9⟩ := L.out.rsD
        refine (rdlen_any q9 (by have := HZ1.out; omega) HF1.out).mono ?_
        rw [← HCN.out]
        rintro e d8 ⟨rfl, hb⟩
        clear q9
        have Lm := Lib.hid (L.out.later hb)
        have HOm := Lib.hid (HO.out.later hb)
        have HRAm := Lib.hid (HRA.out.later hb)
        have HRm := Lib.hid (below_at' hb HR.out)
        clear hb L HO HRA HR
        have L := Lm
        have HO := HOm
        have HRA := HRAm
        have HR := HRm
        clear Lm HOm HRAm HRm
        have hcb := HCB.out
        have hwr : IntKind.i64.wrap (cn - 1) = cn - 1 := by rw [IntKind.wrap_i64]; omega
        go_wp2_with fail
        refine (L.out.call fun F hs => rsetInt_any hs (by have := HZ1.out; omega) (keyF 27 []) (cn - 1) (by have := HCB.out; omega)).mono ?_
        rw [← HS2.out]
        rintro e d9 ⟨rfl, o, hoth⟩
        have Lm := Lib.hid o
        have HOm := Lib.hid (HO.out.oth hoth)
        have HRAm := Lib.hid (HRA.out.oth hoth)
        have HRm := Lib.hid (hoth.2 R _ HR.out rfl rfl)
        clear o hoth L HO HRA HR
        have L := Lm
        have HO := HOm
        have HRA := HRAm
        have HR := HRm
        clear Lm HOm HRAm HRm
        clear hwr hcb
        have hi6 : i < 1000000 := HI6.out
        go_wp2_with fail
        go_roundw
        case rel => exact ⟨i + 1, os ++ [⟨xb, xn, .slice adz nz capz, xl⟩], by go_num, HLT.out, Lib.hid (by rw [HE.out.1]; exact L.out), Lib.hid (by rw [HE.out.2]; exact HO.out), HRA, HOW⟩
        case measure => have := HLT.out; simp [intOf]; omega
      · have HE : Hid (rtakeS s ((rowsT T).take (i + 1)) bk = st ∧ rtakeL ((rowsT T).take (i + 1)) bk = rtakeL ((rowsT T).take i) bk) := Lib.hid ⟨by rw [HTS.out, if_neg e1], by rw [HTL.out, if_neg e1]⟩
        go_wp2_with fail
        go_roundw
        case rel => exact ⟨i + 1, os, by go_num, HLT.out, Lib.hid (by rw [HE.out.1]; exact L.out), Lib.hid (by rw [HE.out.2]; exact HO.out), HRA, HOW⟩
        case measure => have := HLT.out; simp [intOf]; omega
    · have hi9 : i = m := by omega
      subst hi9
      have HNE : Hid ((rowsT T).take i = rowsT T) := Lib.hid (List.take_of_length_le (by rw [← HRA.out.2.1, List.length_map, ← HM.out]; exact Nat.le_refl _))
      clear hlt hin
      go_wp2_with fail
      go_ret
      exact ⟨_, rfl, by have := HO.out.rowsV; rw [HNE.out] at this; exact this, by have := L.out; rw [HNE.out] at this; exact this⟩
end
section
open Go.RowKit

/-- An entry that is a row. -/
structure RowE (i : Nat) (p : Txt × Txt) (b n : Int) (l : List Int) : Prop where
  key : p.1 = keyF 26 [b, n]
  val : p.2 = l.flatMap numL
  hb : 0 ≤ b ∧ b ≤ 1099511627776
  hn : 0 ≤ n ∧ n < i
  ne : l ≠ []
  len : l.length ≤ 10
  nm : ∀ x ∈ l, Nm x
structure DG (t : Tab) (i : Nat) : Prop where
  up : Up t
  ent : ∀ p ∈ t, (p.1 = kDC ∧ p.2.length = 8) ∨ ∃ b n l, RowE i p b n l
  cnt : getI (getP t) kDC ≤ i
theorem RowE.nb {i : Nat} {p : Txt × Txt} {b n : Int} {l : List Int} (h : RowE i p b n l) : Nm b := ⟨h.hb.1, by have := h.hb.2; omega⟩
theorem RowE.nn {i : Nat} (hi : i ≤ 1000) {p : Txt × Txt} {b n : Int} {l : List Int} (h : RowE i p b n l) : Nm n := ⟨h.hn.1, by have := h.hn.2; omega⟩
theorem RowE.rowT {i : Nat} (hi : i ≤ 1000) {p : Txt × Txt} {b n : Int} {l : List Int} (h : RowE i p b n l) : Go.Proofs.Ythnjakomkdlglaa.rowT p = some ((b, n), l) := by
  unfold Go.Proofs.Ythnjakomkdlglaa.rowT
  rw [h.key, h.val, dparse_key h.nb (h.nn hi), cnumsF_flat l h.nm]
theorem RowE.succ {i : Nat} {p : Txt × Txt} {b n : Int} {l : List Int} (h : RowE i p b n l) : RowE (i + 1) p b n l := ⟨h.key, h.val, h.hb, ⟨h.hn.1, by have := h.hn.2; omega⟩, h.ne, h.len, h.nm⟩
theorem DG.succ {t : Tab} {i : Nat} (h : DG t i) : DG t (i + 1) := ⟨h.up, fun p hp => (h.ent p hp).imp id fun ⟨b, n, l, hr⟩ => ⟨b, n, l, hr.succ⟩, by have := h.cnt; omega⟩
theorem DG.new : DG PS.new.t 0 := ⟨List.Pairwise.nil, fun p hp => (by cases hp), by
  unfold getI valF
  show intF (rowF []) ≤ 0
  rw [rowF_nil]
  exact Int.le_refl _⟩
def Bf (r r' : (Int × Int) × List Int) : Prop := r.1.1 < r'.1.1 ∨ r.1.1 = r'.1.1 ∧ r.1.2 < r'.1.2
theorem rows_all {i : Nat} (hi : i ≤ 1000) : ∀ {u : Tab}, Up u → (∀ p ∈ u, ∃ b n l, RowE i p b n l) → (rowsT u).Pairwise Bf ∧ ∀ r ∈ rowsT u, ∃ p ∈ u, RowE i p r.1.1 r.1.2 r.2
  | [], _, _ => ⟨List.Pairwise.nil, fun r hr => by cases hr⟩
  | p :: u, hu, hp => by
    have hu' := List.pairwise_cons.1 hu
    obtain ⟨h1, h2⟩ := rows_all hi hu'.2 fun q hq => hp q (List.mem_cons_of_mem _ hq)
    obtain ⟨b, n, l, h⟩ := hp p List.mem_cons_self
    have e : rowsT (p :: u) = ((b, n), l) :: rowsT u := by unfold rowsT; rw [List.filterMap_cons, h.rowT hi]
    rw [e]
    refine ⟨List.pairwise_cons.2 ⟨fun r hr => ?_, h1⟩, fun r hr => ?_⟩
    · obtain ⟨p', hp', hr'⟩ := h2 r hr
      have hl := hu'.1 p' hp'
      rw [h.key, hr'.key] at hl
      exact keyR_less h.nb (h.nn hi) hr'.nb (hr'.nn hi) hl
    · rcases List.mem_cons.1 hr with rfl | hr
      · exact ⟨p, List.mem_cons_self, h⟩
      · obtain ⟨p', hp', hr'⟩ := h2 r hr
        exact ⟨p', List.mem_cons_of_mem _ hp', hr'⟩
/-- All rows of a table. -/
def rowsD (t : Tab) : List ((Int × Int) × List Int) := rowsT (underP t (keyF 26 []))
theorem DG.rows {t : Tab} {i : Nat} (h : DG t i) (hi : i ≤ 1000) : (rowsD t).Pairwise Bf ∧ ∀ r ∈ rowsD t, ∃ p ∈ t, RowE i p r.1.1 r.1.2 r.2 := by
  obtain ⟨h1, h2⟩ := rows_all hi (up_under h.up (keyF 26 [])) fun p hp => by
    obtain ⟨a, b⟩ := List.mem_filter.1 hp
    rcases h.ent p a with e | e
    · rw [e.1, cnt_under] at b; cases b
    · exact e
  exact ⟨h1, fun r hr => by obtain ⟨p, hp, q⟩ := h2 r hr; exact ⟨p, (List.mem_filter.1 hp).1, q⟩⟩
theorem DG.num {t : Tab} {i : Nat} (h : DG t i) (hi : i ≤ 1000) {r : (Int × Int) × List Int} (hr : r ∈ rowsD t) : Nm r.1.1 ∧ Nm r.1.2 ∧ r.1.2 < i := by
  obtain ⟨p, _, q⟩ := (h.rows hi).2 r hr
  exact ⟨q.nb, q.nn hi, q.hn.2⟩
theorem takeL_eq {bk : Int} : ∀ {R : List ((Int × Int) × List Int)}, R.Pairwise Bf → takeL bk R = rtakeL R bk
  | [], _ => rfl
  | r :: R, h => by
    have h' := List.pairwise_cons.1 h
    unfold takeL rtakeL
    by_cases e : r.1.1 ≤ bk
    · rw [List.takeWhile_cons_of_pos (by exact decide_eq_true e), List.filter_cons_of_pos (by exact decide_eq_true e)]
      congr 1
      exact takeL_eq h'.2
    · rw [List.takeWhile_cons_of_neg (by simpa using e), List.filter_cons_of_neg (by simpa using e)]
      refine (List.filter_eq_nil_iff.2 fun x hx => ?_).symm
      have := h'.1 x hx
      unfold Bf at this
      simp only [decide_eq_true_eq]
      omega
theorem block_ne {b n c : Int} (hb : Nm b) (hn : Nm n) (hc : Nm c) (hne : b ≠ c) : (keyF 26 [c]).isPrefixOf (keyF 26 [b, n]) = false := by
  rw [Bool.eq_false_iff]
  intro h
  rw [keyF_two (by decide) (by decide) hb.1 hn.1, keyF_onee (by decide) (by decide) hc.1, List.isPrefixOf_iff_prefix, List.append_nil] at h
  obtain ⟨u, hu⟩ := h
  rw [List.cons_append] at hu
  have h2 := (List.cons.inj hu).2
  have h3 := List.append_inj h2 (by rw [numL_length, numL_length])
  have e1 := cbe_numL b hb.1 (by have := hb.2; omega)
  have e2 := cbe_numL c hc.1 (by have := hc.2; omega)
  rw [h3.1, e1] at e2
  exact hne e2
theorem rows_block {i : Nat} (hi : i ≤ 1000) {bk : Int} (hbk : Nm bk) : ∀ {t : Tab}, (∀ p ∈ t, (p.1 = kDC ∧ p.2.length = 8) ∨ ∃ b n l, RowE i p b n l) → rowsT (underP t (keyF 26 [bk])) = (rowsD t).filter fun r => decide (r.1.1 = bk)
  | [], _ => rfl
  | p :: t, hp => by
    have ih := rows_block hi hbk (t := t) fun q hq => hp q (List.mem_cons_of_mem _ hq)
    unfold rowsD at ih ⊢
    unfold underP at ih ⊢
    rcases hp p List.mem_cons_self with e | ⟨b, n, l, h⟩
    · rw [List.filter_cons_of_neg (by rw [e.1, cnt_block hbk]; simp), List.filter_cons_of_neg (by rw [e.1, cnt_under]; simp)]
      exact ih
    · rw [List.filter_cons_of_pos (a := p) (p := fun p => (keyF 26 []).isPrefixOf p.1) (by rw [h.key]; exact keyR_under h.nb (h.nn hi))]
      have e2 : ∀ u : Tab, rowsT (p :: u) = ((b, n), l) :: rowsT u := fun u => by unfold rowsT; rw [List.filterMap_cons, h.rowT hi]
      rw [e2]
      by_cases e : b = bk
      · subst e
        rw [List.filter_cons_of_pos (by rw [h.key]; exact keyR_block h.nb (h.nn hi)), e2, List.filter_cons_of_pos (by simp), ih]
      · rw [List.filter_cons_of_neg (by rw [h.key, block_ne h.nb (h.nn hi) hbk e]; simp), List.filter_cons_of_neg (by simpa using e), ih]
theorem rdN_fold (bk : Int) : ∀ (R : List ((Int × Int) × List Int)) (n0 : Int), R.foldl (fun n r => if r.1.1 = bk ∧ n ≤ r.1.2 then r.1.2 + 1 else n) n0 = (R.filter fun r => decide (r.1.1 = bk)).foldl (fun n r => max n (r.1.2 + 1)) n0
  | [], _ => rfl
  | r :: R, n0 => by
    by_cases e : r.1.1 = bk
    · rw [List.filter_cons_of_pos (by exact decide_eq_true e), List.foldl_cons, List.foldl_cons, rdN_fold bk R]
      congr 1
      by_cases h : n0 ≤ r.1.2
      · rw [if_pos ⟨e, h⟩]; omega
      · rw [if_neg (fun q => h q.2)]; omega
    · rw [List.filter_cons_of_neg (by simpa using e), List.foldl_cons, if_neg (fun q => e q.1), rdN_fold bk R]
theorem DG.next {s : PS} {i : Nat} (h : DG s.t i) (hi : i ≤ 1000) {bk : Int} (hbk : Nm bk) : daddN s bk = rdN (rowsD s.t) bk ∧ 0 ≤ rdN (rowsD s.t) bk ∧ rdN (rowsD s.t) bk ≤ i := by
  refine ⟨?_, rdN_bound bk (rowsD s.t) 0 (fun r hr => (h.num hi hr).2.2) (Int.le_refl _) (by omega)⟩
  unfold daddN dnext rdN
  rw [rows_block hi hbk h.ent, rdN_fold]
/-! ### one more -/
theorem goodL_pos {l : List Int} (h : goodL l = true) : l ≠ [] ∧ ∀ x ∈ l, 0 ≤ x := of_decide_eq_true h
theorem flat_ne {l : List Int} (h : l ≠ []) : l.flatMap numL ≠ [] := fun e => by
  have h1 := congrArg List.length e
  rw [cflat_length] at h1
  exact h (List.length_eq_zero_iff.1 (by simp at h1; omega))
theorem gput {s : PS} {b n : Int} (hb : Nm b) (hn : Nm n) {l : List Int} (hg : goodL l = true) (q : Txt) : getP (s.dput b n l).t q = if keyF 26 [b, n] = q then some (l.flatMap numL) else getP s.t q := by
  obtain ⟨h1, h2⟩ := goodL_pos hg
  unfold PS.dput PS.setRow PS.putv
  rw [if_neg (by rintro ⟨x, hx, h9⟩; have := h2 x hx; omega), if_neg (flat_ne h1), getP_set]
  by_cases hq : keyF 26 [b, n] = q
  · rw [if_pos ⟨hq, keyR_ne hb hn⟩, if_pos hq]
  · rw [if_neg (fun e => hq e.1), if_neg hq]
theorem up_dput {s : PS} (h : Up s.t) (b n : Int) (l : List Int) : Up (s.dput b n l).t := by
  unfold PS.dput PS.setRow
  split
  · exact h
  · unfold PS.putv
    split
    · exact up_sdel h _
    · exact up_sset h _ _
theorem getI_of {f f' : Txt → Option Txt} {k : Txt} (h : f' k = f k) : getI f' k = getI f k := by unfold getI valF; rw [h]
theorem cnt_t {s s' : PS} (he : s'.t = s.t) (hu : Up s.t) (n : Int) : (s'.setInt kDC n).t = (s.setInt kDC n).t :=
  tab_ext (up_setInt (he ▸ hu) _ _) (up_setInt hu _ _) fun q => by rw [getP_cnt, getP_cnt, he]
theorem DG.add {s s' : PS} {i : Nat} (he : s'.t = s.t) (h : DG s.t i) (hi : i ≤ 150) {bk : Int} (hb : 0 ≤ bk ∧ bk ≤ 1099511627776) {l : List Int} (hg : goodL l = true) (hl : l.length ≤ 10) (hli : I64s l) :
    getI (getP (s.dput bk (daddN s bk) l).t) (keyF 27 []) ≤ i ∧ getI (getP (s'.dput bk (rdN (rowsD s.t) bk) l).t) (keyF 27 []) ≤ i ∧ (raddS s' (rowsD s.t) bk l).t = (s.dadd bk l).t ∧ DG (s.dadd bk l).t (i + 1) := by
  have hbk : Nm bk := ⟨hb.1, by omega⟩
  obtain ⟨e1, n0, n1⟩ := h.next (by omega) hbk
  obtain ⟨n, hn⟩ : ∃ n, n = rdN (rowsD s.t) bk := ⟨_, rfl⟩
  unfold PS.dadd raddS
  rw [e1, ← hn]
  rw [← hn] at n0 n1
  have hnn : Nm n := ⟨n0, by omega⟩
  have hut := up_dput h.up bk n l
  have ht : (s'.dput bk n l).t = (s.dput bk n l).t := tab_ext (up_dput (he ▸ h.up) _ _ _) hut fun q => by rw [gput hbk hnn hg, gput hbk hnn hg, he]
  have hc : getI (getP (s.dput bk n l).t) kDC = getI (getP s.t) kDC := getI_of (by rw [gput hbk hnn hg, if_neg (keyR_cnt hbk hnn)])
  have hcb := getI_bound (getP s.t) kDC
  have hci := h.cnt
  refine ⟨by show getI _ kDC ≤ _; rw [hc]; exact hci, by show getI _ kDC ≤ _; rw [ht, hc]; exact hci, ?_, ?_⟩
  · unfold PS.dcnt
    rw [ht]
    exact cnt_t ht hut _
  · have hgp : ∀ q, getP (s.dput bk n l).dcnt.t q = if kDC = q then (if getI (getP s.t) kDC + 1 < 1 then none else some (numL (getI (getP s.t) kDC + 1))) else if keyF 26 [bk, n] = q then some (l.flatMap numL) else getP s.t q := fun q => by
      unfold PS.dcnt
      show getP ((s.dput bk n l).setInt kDC (getI (getP (s.dput bk n l).t) kDC + 1)).t q = _
      rw [hc, getP_cnt, gput hbk hnn hg]
    have hup : Up (s.dput bk n l).dcnt.t := by unfold PS.dcnt; exact up_setInt hut _ _
    refine ⟨hup, fun p hp => ?_, ?_⟩
    · have hq := getP_of_mem hup (k := p.1) (v := p.2) hp
      rw [hgp] at hq
      by_cases c1 : kDC = p.1
      · rw [if_pos c1, if_neg (by omega)] at hq
        refine .inl ⟨c1.symm, ?_⟩
        rw [← Option.some.inj hq, numL_length]
      · rw [if_neg c1] at hq
        by_cases c2 : keyF 26 [bk, n] = p.1
        · rw [if_pos c2] at hq
          exact .inr ⟨bk, n, l, c2.symm, (Option.some.inj hq).symm, hb, ⟨n0, by omega⟩, (goodL_pos hg).1, hl, fun x hx => ⟨(goodL_pos hg).2 x hx, (hli x hx).2⟩⟩
        · rw [if_neg c2] at hq
          exact (h.ent p (getP_mem hq)).imp id fun ⟨b, m, l', hr⟩ => ⟨b, m, l', hr.succ⟩
    · have : getI (getP (s.dput bk n l).dcnt.t) kDC = getI (getP s.t) kDC + 1 := by
        unfold PS.dcnt
        show getI (getP ((s.dput bk n l).setInt kDC (getI (getP (s.dput bk n l).t) kDC + 1)).t) kDC = _
        rw [hc, getI_cnt (by omega) (by omega)]
      rw [this]
      omega
/-! ### what is taken -/
theorem rtakeS_fold (bk : Int) : ∀ (R : List ((Int × Int) × List Int)) (s : PS), rtakeS s R bk = (rtakeL R bk).foldl rtk1 s
  | [], _ => rfl
  | r :: R, s => by
    show rtakeS (if r.1.1 ≤ bk then rtk1 s r else s) R bk = _
    unfold rtakeL
    by_cases e : r.1.1 ≤ bk
    · rw [if_pos e, List.filter_cons_of_pos (by exact decide_eq_true e)]
      exact rtakeS_fold bk R _
    · rw [if_neg e, List.filter_cons_of_neg (by simpa using e)]
      exact rtakeS_fold bk R _
/-- What the count's place holds for a count. -/
def cntV (c : Int) : Option Txt := if c < 1 then none else some (numL c)
theorem rtk1_getP {s : PS} {r : (Int × Int) × List Int} (h : Nm r.1.1 ∧ Nm r.1.2) (q : Txt) : getP (rtk1 s r).t q = if kDC = q then cntV (getI (getP s.t) kDC - 1) else if keyF 26 [r.1.1, r.1.2] = q then none else getP s.t q := by
  unfold rtk1
  have hc : getI (getP (s.del (keyF 26 [r.1.1, r.1.2])).t) kDC = getI (getP s.t) kDC := getI_of (by rw [getP_sdel, if_neg (keyR_cnt h.1 h.2)])
  show getP ((s.del (keyF 26 [r.1.1, r.1.2])).setInt kDC (getI (getP (s.del (keyF 26 [r.1.1, r.1.2])).t) kDC - 1)).t q = _
  rw [hc, getP_cnt, getP_sdel]; rfl
theorem rtk1_cnt {s : PS} {r : (Int × Int) × List Int} (h : Nm r.1.1 ∧ Nm r.1.2) : getI (getP (rtk1 s r).t) kDC = max (getI (getP s.t) kDC - 1) 0 := by
  have hb := getI_bound (getP s.t) kDC
  by_cases e : getI (getP s.t) kDC - 1 < 1
  · have : getI (getP (rtk1 s r).t) kDC = getI (fun _ => none) kDC := getI_of (by rw [rtk1_getP h, if_pos rfl]; unfold cntV; rw [if_pos e])
    rw [this, getI_none]
    omega
  · have h2 : getI (getP (rtk1 s r).t) kDC = getI (getP (s.setInt kDC (getI (getP s.t) kDC - 1)).t) kDC := getI_of (by rw [rtk1_getP h, if_pos rfl, getP_cnt, if_pos rfl]; rfl)
    rw [h2, getI_cnt (by omega) (by omega)]
    omega
theorem fold_getP (q : Txt) : ∀ (Q : List ((Int × Int) × List Int)) (s : PS), (∀ r ∈ Q, Nm r.1.1 ∧ Nm r.1.2) → getP (Q.foldl rtk1 s).t q = if kDC = q ∧ Q ≠ [] then cntV (getI (getP s.t) kDC - Q.length) else if ∃ r ∈ Q, keyF 26 [r.1.1, r.1.2] = q then none else getP s.t q
  | [], s, _ => by
    rw [if_neg (fun e => e.2 rfl), if_neg (by rintro ⟨r, hr, _⟩; cases hr)]; rfl
  | r :: Q, s, h => by
    have hr := h r List.mem_cons_self
    rw [List.foldl_cons, fold_getP q Q _ fun x hx => h x (List.mem_cons_of_mem _ hx), rtk1_cnt hr, rtk1_getP hr]
    have hb := getI_bound (getP s.t) kDC
    by_cases e : kDC = q
    · subst e
      rw [if_pos (And.intro rfl (List.cons_ne_nil r Q))]
      by_cases e2 : Q = []
      · subst e2
        rw [if_neg (fun e => e.2 rfl), if_neg (by rintro ⟨r, hr, _⟩; cases hr), if_pos rfl]
        simp
      · rw [if_pos ⟨rfl, e2⟩]
        have hq : 0 < Q.length := by cases Q with | nil => exact absurd rfl e2 | cons _ _ => simp
        unfold cntV
        rw [List.length_cons]
        by_cases e3 : getI (getP s.t) kDC - ((Q.length + 1 : Nat) : Int) < 1
        · rw [if_pos e3, if_pos (by omega)]
        · rw [if_neg e3, if_neg (by omega)]
          congr 2
          omega
    · rw [if_neg (show ¬ (kDC = q ∧ Q ≠ []) from fun x => e x.1), if_neg (show ¬ (kDC = q ∧ r :: Q ≠ []) from fun x => e x.1), if_neg (show ¬ kDC = q from e)]
      by_cases h4 : keyF 26 [r.1.1, r.1.2] = q
      · rw [if_pos h4, if_pos (⟨r, List.mem_cons_self, h4⟩ : ∃ r' ∈ r :: Q, keyF 26 [r'.1.1, r'.1.2] = q)]
        split <;> rfl
      · rw [if_neg h4]
        by_cases h5 : ∃ r' ∈ Q, keyF 26 [r'.1.1, r'.1.2] = q
        · rw [if_pos h5, if_pos]
          obtain ⟨r', a, b⟩ := h5
          exact ⟨r', List.mem_cons_of_mem _ a, b⟩
        · rw [if_neg h5, if_neg]
          rintro ⟨r', a, b⟩
          rcases List.mem_cons.1 a with rfl | a
          · exact h4 b
          · exact h5 ⟨r', a, b⟩
theorem up_fold : ∀ (Q : List ((Int × Int) × List Int)) {s : PS}, Up s.t → Up (Q.foldl rtk1 s).t
  | [], _, h => h
  | _ :: Q, _, h => up_fold Q (up_setInt (up_sdel h _) _ _)
theorem take_getP (q : Txt) (Q : List ((Int × Int) × List Int)) (s : PS) (h : ∀ r ∈ Q, Nm r.1.1 ∧ Nm r.1.2) : getP (takeS s Q).t q = if kDC = q ∧ Q ≠ [] then cntV (getI (getP s.t) kDC - Q.length) else if ∃ r ∈ Q, keyF 26 [r.1.1, r.1.2] = q then none else getP s.t q := by
  unfold takeS
  by_cases e : Q = []
  · subst e
    rw [if_pos rfl, if_neg (fun x => x.2 rfl), if_neg (by rintro ⟨r, hr, _⟩; cases hr)]
  · rw [if_neg e]
    have hc : getI (getP (delAll s Q).t) kDC = getI (getP s.t) kDC := getI_of (by
      rw [getP_delAll, if_neg]
      rintro ⟨r, hr, h9⟩
      exact keyR_cnt (h r hr).1 (h r hr).2 h9)
    show getP ((delAll s Q).setInt kDC (getI (getP (delAll s Q).t) kDC - Q.length)).t q = _
    rw [hc, getP_cnt, getP_delAll]
    by_cases e2 : kDC = q
    · rw [if_pos e2, if_pos (And.intro e2 e : kDC = q ∧ Q ≠ [])]; rfl
    · rw [if_neg e2, if_neg (show ¬ (kDC = q ∧ Q ≠ []) from fun x => e2 x.1)]
theorem up_take {s : PS} (h : Up s.t) (Q : List ((Int × Int) × List Int)) : Up (takeS s Q).t := by
  unfold takeS
  split
  · exact h
  · exact up_setInt (up_delAll Q h) _ _
theorem DG.take {s s' : PS} {i : Nat} (he : s'.t = s.t) (h : DG s.t i) (hi : i ≤ 150) (bk : Int) :
    takeL bk (rowsD s.t) = rtakeL (rowsD s.t) bk ∧ (rtakeS s' (rowsD s.t) bk).t = (takeS s (takeL bk (rowsD s.t))).t ∧ DG (takeS s (takeL bk (rowsD s.t))).t (i + 1) := by
  have e1 := takeL_eq (bk := bk) (h.rows (by omega)).1
  obtain ⟨Q, hQ⟩ : ∃ Q, Q = rtakeL (rowsD s.t) bk := ⟨_, rfl⟩
  have hq : ∀ r ∈ Q, Nm r.1.1 ∧ Nm r.1.2 := fun r hr => by
    rw [hQ] at hr
    have := h.num (by omega) (List.mem_filter.1 hr).1
    exact ⟨this.1, this.2.1⟩
  have hcb := getI_bound (getP s.t) kDC
  have hci := h.cnt
  refine ⟨e1, ?_, ?_⟩
  · rw [rtakeS_fold, e1, ← hQ]
    exact tab_ext (up_fold Q (he ▸ h.up)) (up_take h.up Q) fun q => by rw [fold_getP q Q s' hq, take_getP q Q s hq, he]
  · rw [e1, ← hQ]
    refine ⟨up_take h.up Q, fun p hp => ?_, ?_⟩
    · have hg := getP_of_mem (up_take h.up Q) (k := p.1) (v := p.2) hp
      rw [take_getP _ Q s hq] at hg
      by_cases c1 : kDC = p.1 ∧ Q ≠ []
      · rw [if_pos c1] at hg
        unfold cntV at hg
        split at hg
        · cases hg
        · refine .inl ⟨c1.1.symm, ?_⟩
          rw [← Option.some.inj hg, numL_length]
      · rw [if_neg c1] at hg
        split at hg
        · cases hg
        · exact (h.ent p (getP_mem hg)).imp id fun ⟨b, m, l', hr⟩ => ⟨b, m, l', hr.succ⟩
    · by_cases c1 : Q = []
      · have : getI (getP (takeS s Q).t) kDC = getI (getP s.t) kDC := getI_of (by
          rw [take_getP _ Q s hq, if_neg (fun x => x.2 c1), if_neg]
          rintro ⟨r, hr, _⟩
          rw [c1] at hr; cases hr)
        rw [this]; omega
      · by_cases c2 : getI (getP s.t) kDC - Q.length < 1
        · have : getI (getP (takeS s Q).t) kDC = getI (fun _ => none) kDC := getI_of (by rw [take_getP _ Q s hq, if_pos ⟨rfl, c1⟩]; unfold cntV; rw [if_pos c2])
          rw [this, getI_none]; omega
        · have : getI (getP (takeS s Q).t) kDC = getI (getP (s.setInt kDC (getI (getP s.t) kDC - Q.length)).t) kDC := getI_of (by rw [take_getP _ Q s hq, if_pos ⟨rfl, c1⟩, getP_cnt, if_pos rfl]; rfl)
          rw [this, getI_cnt (by omega) (by omega)]; omega
/-- Such a store is small. -/
theorem DG.ok {t : Tab} {i : Nat} (h : DG t i) (hs : t.length < 1000000) : (∀ p ∈ t, p.2.length ≤ 1000000) ∧ (∀ b, TabOk (underP t b)) ∧ ∀ b, (underP t b).length < 1000000 := by
  have hv : ∀ p ∈ t, p.1.length ≤ 100 ∧ p.2.length ≤ 100 := fun p hp => by
    rcases h.ent p hp with e | ⟨b, n, l, hr⟩
    · exact ⟨by rw [e.1]; decide +kernel, by rw [e.2]; decide⟩
    · refine ⟨?_, by rw [hr.val, cflat_length]; have := hr.len; omega⟩
      rw [hr.key, keyF_two (by decide) (by decide) hr.hb.1 hr.hn.1]
      simp [numL_length]
  have hl : ∀ b, (underP t b).length < 1000000 := fun b => Nat.lt_of_le_of_lt (List.length_filter_le _ _) hs
  refine ⟨fun p hp => by have := hv p hp; omega, fun b => ⟨by have := hl b; omega, fun p hp => ?_⟩, hl⟩
  have := hv p (List.mem_filter.1 hp).1
  omega
end
section
open Go.RowKit

theorem Two.takeD {P : Program} {f : FuncId} {args : Array Value} {w0 w : World} {g h : Nat} {s1 s2 s' : PS} {ls : List (List Int)} (t : Two w0 w g h s1 s2) (hc : ∀ F, St w g s1 F → Calls P f args w (TakeRet w g F s' ls)) :
    Calls P f args w (fun e w' => ∃ v, e = .returned v ∧ RowsV w' v ls ∧ Two w0 w' g h s' s2 ∧ Oth w w') := by
  obtain ⟨F, G, h1, h2, h3, h4, h5⟩ := t
  refine (hc F h1).mono ?_
  rintro e w' ⟨v, he, hr, F', q1, q2, q3⟩
  refine ⟨v, he, hr, ⟨F', G, q1, h2.keep q2 fun x hx hx' => stores_apart h1 h2 x hx' hx, fun x hx => ?_, h4, h5.trans (q2.below (B := w0.heap.size) (fun q hq e => by have := h3 q e; omega) h5.size)⟩, Oth.of_st h1 q2⟩
  rcases q3 x hx with h | h
  · exact h3 x h
  · exact Nat.le_trans h5.size h
theorem Two.rtakeD {P : Program} {f : FuncId} {args : Array Value} {w0 w : World} {g h : Nat} {s1 s2 s' : PS} {ls : List (List Int)} (t : Two w0 w g h s1 s2) (hc : ∀ F, RS w h s2 F → Calls P f args w (fun e w' => ∃ v, e = .returned v ∧ RowsV w' v ls ∧ RLiv w F w' h s')) :
    Calls P f args w (fun e w' => ∃ v, e = .returned v ∧ RowsV w' v ls ∧ Two w0 w' g h s1 s' ∧ Oth w w') := by
  obtain ⟨F, G, h1, h2, h3, h4, h5⟩ := t
  refine (hc G h2).mono ?_
  rintro e w' ⟨v, he, hr, G', q1, q2, q3⟩
  refine ⟨v, he, hr, ⟨F, G', h1.keep q2 fun x hx hx' => stores_apart h1 h2 x hx hx', q1, h3, fun x hx => ?_, h5.trans (q2.below (B := w0.heap.size) (fun q hq e => by have := h4 q e; omega) h5.size)⟩, Oth.of_rs h2 q2⟩
  rcases q3 x hx with h | h
  · exact h4 x h
  · exact Nat.le_trans h5.size h
theorem RowsV.oth {w w' : World} {v : Value} {ls : List (List Int)} (h : RowsV w v ls) (ho : Oth w w') : RowsV w' v ls := by
  obtain ⟨xs, h1, h2, h3⟩ := h
  exact ⟨xs, h1.oth rfl rfl ho, h2, fun x hx => (h3 x hx).oth rfl rfl ho⟩
theorem len_set {s : PS} (hu : Up s.t) (k v : Txt) : (s.set k v).t.length ≤ s.t.length + 1 := by
  unfold PS.set
  split
  · omega
  · show (insP s.t k v).length ≤ _
    rw [length_ins k v hu]
    split <;> omega
theorem len_del (s : PS) (k : Txt) : (s.del k).t.length ≤ s.t.length := by
  unfold PS.del
  split
  · omega
  · exact List.length_filter_le _ _
theorem len_setInt {s : PS} (hu : Up s.t) (k : Txt) (n : Int) : (s.setInt k n).t.length ≤ s.t.length + 1 := by
  unfold PS.setInt
  split
  · have := len_del s k; omega
  · exact len_set hu _ _
theorem len_delAll : ∀ (R : List ((Int × Int) × List Int)) (s : PS), (delAll s R).t.length ≤ s.t.length
  | [], _ => Nat.le_refl _
  | _ :: R, s => Nat.le_trans (len_delAll R (s.del _)) (len_del s _)
theorem len_take {s : PS} (hu : Up s.t) (R : List ((Int × Int) × List Int)) : (takeS s R).t.length ≤ s.t.length + 1 := by
  unfold takeS
  split
  · omega
  · have h1 := len_setInt (up_delAll R hu) (keyF 27 []) (getI (getP (delAll s R).t) (keyF 27 []) - R.length)
    have h2 := len_delAll R s
    omega
theorem len_add {s : PS} (hu : Up s.t) (bk : Int) (l : List Int) : (s.dadd bk l).t.length ≤ s.t.length + 2 := by
  unfold PS.dadd PS.dcnt
  have h1 := len_setInt (up_dput hu bk (daddN s bk) l) (keyF 27 []) (getI (getP (s.dput bk (daddN s bk) l).t) (keyF 27 []) + 1)
  have h2 : (s.dput bk (daddN s bk) l).t.length ≤ s.t.length + 1 := by
    unfold PS.dput PS.setRow
    split
    · omega
    · unfold PS.putv
      split
      · have := len_del s (keyF 26 [bk, daddN s bk]); omega
      · exact len_set hu _ _
  omega
theorem sz_dcntput (s : PS) (bk n : Int) (l : List Int) : (s.dput bk n l).dcnt.sz ≤ s.sz + 4 := by
  unfold PS.dcnt
  have h1 := sz_setInt (s.dput bk n l) (keyF 27 []) (getI (getP (s.dput bk n l).t) (keyF 27 []) + 1)
  have h2 : (s.dput bk n l).sz ≤ s.sz + 2 := sz_setRow _ _ _
  omega
theorem rowsD_len (t : Tab) : (rowsD t).length ≤ t.length := Nat.le_trans (rowsT_len _) (List.length_filter_le _ _)
/-- Both stores of the law behind i acts. -/
structure DT (s1 s2 : PS) (i : Nat) : Prop where
  t : s2.t = s1.t
  dg : DG s1.t i
  len : s1.t.length ≤ 2 * i
  sz1 : s1.sz ≤ 2000 * i
  sz2 : s2.sz ≤ 2000 * i
theorem DT.new : DT PS.new PS.new 0 := ⟨rfl, DG.new, Nat.le_refl _, Nat.le_refl _, Nat.le_refl _⟩
theorem DT.succ {s1 s2 : PS} {i : Nat} (h : DT s1 s2 i) : DT s1 s2 (i + 1) := ⟨h.t, h.dg.succ, by have := h.len; omega, by have := h.sz1; omega, by have := h.sz2; omega⟩
theorem DT.add {s1 s2 : PS} {i : Nat} (h : DT s1 s2 i) (hi : i ≤ 150) {bk : Int} (hb : 0 ≤ bk ∧ bk ≤ 1099511627776) {l : List Int} (hg : goodL l = true) (hl : l.length ≤ 10) (hli : I64s l) : DT (s1.dadd bk l) (raddS s2 (rowsD s1.t) bk l) (i + 1) := by
  obtain ⟨_, _, e1, e2⟩ := h.dg.add h.t hi hb hg hl hli
  exact ⟨e1, e2, by have := len_add h.dg.up bk l; have := h.len; omega, by have := sz_dcntput s1 bk (daddN s1 bk) l; have := h.sz1; unfold PS.dadd; omega, by have := sz_dcntput s2 bk (rdN (rowsD s1.t) bk) l; have := h.sz2; unfold raddS; omega⟩
theorem DT.take {s1 s2 : PS} {i : Nat} (h : DT s1 s2 i) (hi : i ≤ 150) (bk : Int) : DT (takeS s1 (takeL bk (rowsD s1.t))) (rtakeS s2 (rowsD s1.t) bk) (i + 1) := by
  obtain ⟨_, e1, e2⟩ := h.dg.take h.t hi bk
  have h1 := rowsD_len s1.t
  have h2 := h.len
  refine ⟨e1, e2, by have := len_take h.dg.up (takeL bk (rowsD s1.t)); omega, ?_, ?_⟩
  · have h3 := sz_takeS s1 (takeL bk (rowsD s1.t))
    have h4 : (takeL bk (rowsD s1.t)).length ≤ (rowsD s1.t).length := (List.takeWhile_sublist _).length_le
    have := h.sz1
    omega
  · have h3 := sz_rtakeS bk (rowsD s1.t) s2
    have := h.sz2
    omega
theorem DT.ok {s1 s2 : PS} {i : Nat} (h : DT s1 s2 i) (hi : i ≤ 1000) : Fit s1 ∧ Fit s2 ∧ (∀ b, TabOk (underP s1.t b)) ∧ ∀ b, (underP s1.t b).length < 1000000 := by
  obtain ⟨h1, h2, h3⟩ := h.dg.ok (by have := h.len; omega)
  exact ⟨h1, fun p hp => h1 p (by rw [← h.t]; exact hp), h2, h3⟩

set_option maxHeartbeats 2000000 in
set_option maxRecDepth 100000 in
theorem dadd_bad {w : World} {g : Nat} {s : PS} {F : List Nat} (h : St w g s F) {bk : Int} {v : Value} {l : List Int} (hrd : Rd w intE 1 v l) (hbad : DBad bk l) :
    Calls Try.prog 12 #[.pointer (some ⟨g, 0, none⟩), .int .i64 bk, v] w (Ret w (.int .i64 2)) := by
  have hmk := smade_any h
  have hgd := good_any hrd
  clear h hrd
  have h2 : bk < 0 ∨ (¬ bk < 0 ∧ 1099511627776 < bk) ∨ (¬ bk < 0 ∧ ¬ 1099511627776 < bk ∧ goodL l = false) := by
    unfold DBad at hbad
    rcases hbad with h | h | h
    · exact .inl h
    · by_cases e : bk < 0
      · exact .inl e
      · exact .inr (.inl ⟨e, h⟩)
    · by_cases e : bk < 0
      · exact .inl e
      · by_cases e2 : 1099511627776 < bk
        · exact .inr (.inl ⟨e, e2⟩)
        · exact .inr (.inr ⟨e, e2, h⟩)
  clear hbad
  rcases h2 with h1 | ⟨h1, h2⟩ | ⟨h1, h2, hg⟩
  · clear hgd
    refine (callsIn_wide (n := 9)).1 (callsIn_of_wp_marks Try.func12 rfl trivial ?_ rfl)
    simp only [Try.ntmps12, List.size_toArray, List.length_cons, List.length_nil, Nat.reduceAdd, Nat.reduceSub, Array.replicate_succ, Array.replicate_zero, List.push_toArray, List.append_toArray, List.nil_append, List.cons_append]
    refine wpIn_wide.2 ?_
    go_wp2_with fail
    refine hmk.mono ?_
    rintro e _ ⟨rfl, rfl⟩
    clear hmk
    go_wp2_with fail
    refine leave_aside (B := w.heap.size) _ _ ⟨List.Pairwise.nil, fun _ h => by cases h⟩ fun w' hw' => ?_
    exact ⟨_, results_tmp rfl _ _ _, rfl, below_aside (Below.refl _ _) hw' (Nat.le_refl _) (Nat.le_refl _)⟩
  · clear hgd
    refine (callsIn_wide (n := 9)).1 (callsIn_of_wp_marks Try.func12 rfl trivial ?_ rfl)
    simp only [Try.ntmps12, List.size_toArray, List.length_cons, List.length_nil, Nat.reduceAdd, Nat.reduceSub, Array.replicate_succ, Array.replicate_zero, List.push_toArray, List.append_toArray, List.nil_append, List.cons_append]
    refine wpIn_wide.2 ?_
    go_wp2_with fail
    refine hmk.mono ?_
    rintro e _ ⟨rfl, rfl⟩
    clear hmk
    go_wp2_with fail
    refine leave_aside (B := w.heap.size) _ _ ⟨List.Pairwise.nil, fun _ h => by cases h⟩ fun w' hw' => ?_
    exact ⟨_, results_tmp rfl _ _ _, rfl, below_aside (Below.refl _ _) hw' (Nat.le_refl _) (Nat.le_refl _)⟩
  · rw [hg] at hgd
    clear hg
    refine (callsIn_wide (n := 9)).1 (callsIn_of_wp_marks Try.func12 rfl trivial ?_ rfl)
    simp only [Try.ntmps12, List.size_toArray, List.length_cons, List.length_nil, Nat.reduceAdd, Nat.reduceSub, Array.replicate_succ, Array.replicate_zero, List.push_toArray, List.append_toArray, List.nil_append, List.cons_append]
    refine wpIn_wide.2 ?_
    go_wp2_with fail
    refine hmk.mono ?_
    rintro e _ ⟨rfl, rfl⟩
    clear hmk
    go_wp2_with fail
    refine hgd.mono ?_
    rintro e _ ⟨rfl, rfl⟩
    clear hgd
    go_wp2_with fail
    refine leave_aside (B := w.heap.size) _ _ ⟨List.Pairwise.nil, fun _ h => by cases h⟩ fun w' hw' => ?_
    exact ⟨_, results_tmp rfl _ _ _, rfl, below_aside (Below.refl _ _) hw' (Nat.le_refl _) (Nat.le_refl _)⟩
theorem two_cells {w w' w0 : World} {g h : Nat} {s s2 : PS} {X : Nat} {cs : Array Value} {T : TypeId} (t : Two w0 w g h s s2) (hX : w.heap[X]? = some (.cells cs T (0, 0))) (hT : stoKind (.cells cs T (0, 0)) = false) (hR : rstKind (.cells cs T (0, 0)) = false) (hk : Keep (· = X) w w') (hw : w0.heap.size ≤ X) : Two w0 w' g h s s2 := by
  obtain ⟨F, G, h1, h2, h3, h4, h5⟩ := t
  refine ⟨F, G, h1.keep hk fun x hx e => ?_, h2.keep hk fun x hx e => ?_, h3, h4, h5.trans (hk.below (B := w0.heap.size) (fun y hy e => by omega) h5.size)⟩
  · obtain ⟨o, ho, hs⟩ := h1.kind x hx
    subst e
    rw [hX] at ho
    cases ho
    rw [hT] at hs
    cases hs
  · obtain ⟨o, ho, hs⟩ := h2.kind x hx
    subst e
    rw [hX] at ho
    cases ho
    rw [hR] at hs
    cases hs

set_option maxHeartbeats 8000000 in
set_option maxRecDepth 100000 in
theorem acts13_any {w : World} {v : Value} {l : List Act13} (h1 : Rd w act13E 3 v l) (hgd : ∀ a ∈ l, Good13 w a) :
    Calls Try.prog 5 #[v] w (Ret w (.bool true)) := by
  obtain ⟨ad, cap, e1, c1, c1'⟩ := h1.shape
  obtain ⟨n, hn⟩ : ∃ n, n = l.length := ⟨_, rfl⟩
  rw [← hn] at e1 c1
  subst e1
  have H1 := Lib.hid h1; have HN := Lib.hid hn; have HGD := Lib.hid hgd
  clear h1 hn hgd
  go_enter Try.func5, Try.ntmps5
  go_wp2_with fail
  refine (light13_any H1.out).mono ?_
  rintro e w1 ⟨r, rfl, hr, hb⟩
  cases r with
  | false =>
    have HB := Lib.hid hb
    clear hr hb
    go_wp2_with fail
    refine (lives13_any _).mono ?_
    rintro e w2 ⟨rfl, hb2⟩
    have HB2 := Lib.hid (HB.out.trans (hb2.mono HB.out.size))
    clear hb2
    go_wp2_with fail
    go_ret
    exact ⟨rfl, HB2.out⟩
  | true =>
  have HL := Lib.hid (hr rfl); have HB := Lib.hid hb
  clear hr hb
  go_wp2_with fail
  refine (snew_any _).mono ?_
  rintro e w3 ⟨g, F, rfl, q1, hb3, q3⟩
  have Q1 := Lib.hid q1; have HB3 := Lib.hid (HB.out.trans (hb3.mono HB.out.size)); have Q3 : Hid (∀ x ∈ F, w.heap.size ≤ x) := Lib.hid fun x hx => Nat.le_trans HB.out.size (q3 x hx)
  clear q1 hb3 q3
  go_wp2_with fail
  obtain ⟨w4, hw4⟩ : ∃ w4, w4 = w3.alloc (.cells #[.slice none 0 0, .slice none 0 0] 45) := ⟨_, rfl⟩
  obtain ⟨h, hh⟩ : ∃ h, h = w3.heap.size := ⟨_, rfl⟩
  rw [← hw4, ← hh]
  have TW : Hid (Two w w4 g h PS.new PS.new) := Lib.hid (by
    have hb4 : Below w3.heap.size w3 w4 := by rw [hw4]; exact (Below.refl _ _).alloc (Nat.le_refl _) _
    have hx4 : w4.heap[h]? = some (.cells #[.slice none 0 0, .slice none 0 0] 45 (0, 0)) := by rw [hw4, hh]; exact heap_alloc_new _ _
    have hrs : RS w4 h PS.new (rfoot h (.slice none 0 0) (.slice none 0 0)) := ⟨_, _, ⟨hx4, LO.nil _ _ _ _, LO.nil _ _ _ _, List.Pairwise.nil⟩, rfl⟩
    refine ⟨F, _, Q1.out.later hb4, hrs, Q3.out, fun x hx => ?_, HB3.out.trans (hb4.mono HB3.out.size)⟩
    rw [rfoot_eq] at hx
    rcases hx with e | e | e
    · rw [e, hh]; exact HB3.out.size
    · cases e
    · cases e)
  clear hw4 hh Q1 Q3 HB3
  go_wp2_with fail
  have P150 : Hid (n ≤ 150) := Lib.hid (by rw [HN.out]; exact HL.out.1)
  have H1n := Lib.hid (H1.out)
  go_loopw [20] (fun vi wr => ∃ (i : Nat) (s1 s2 : PS), vi = .int .i64 i ∧ i ≤ n ∧ Hid (DT s1 s2 i) ∧ Hid (Two w wr g h s1 s2)) (fun vi _ => n - (intOf vi).toNat)
  case atStart => exact ⟨0, _, _, rfl, Nat.zero_le _, Lib.hid DT.new, TW⟩
  case round =>
    clear TW
    obtain ⟨i, s1, s2, rfl, hin, HDT, TF⟩ := hrel
    by_cases hlt : i < n
    · have hj : i < l.length := by rw [← HN.out]; exact hlt
      obtain ⟨gL, off, rfl, hgL, q0, q1, q2⟩ := Rd.act13 H1.out i hj
      have hbw := TF.out.below
      have q0' := (hbw.cell (p := ⟨gL, off + i * 3, none⟩) hgL).trans q0
      have q1' := (hbw.cell (p := ⟨gL, off + i * 3 + 1, none⟩) hgL).trans q1
      have q2' := (hbw.cell (p := ⟨gL, off + i * 3 + 2, none⟩) hgL).trans q2
      have hmem : l[i] ∈ l := List.getElem_mem hj
      have hal := HL.out.2 _ hmem
      obtain ⟨a, ha⟩ : ∃ a, a = l[i] := ⟨_, rfl⟩
      rw [← ha] at hmem hal q0' q1' q2'
      have HJL := Lib.hid hlt; have HGX := Lib.hid (HGD.out a hmem); have HAL := Lib.hid hal
      have HI : Hid (i ≤ 150) := Lib.hid (by have := P150.out; omega)
      have HOK := Lib.hid (HDT.out.ok (by have := P150.out; omega))
      obtain ⟨Qr, hQr⟩ : ∃ z, z = rowsD s1.t := ⟨_, rfl⟩
      have HRD : Hid (rowsT (underP s1.t (keyF 26 [])) = Qr) := Lib.hid hQr.symm
      have HRD2 : Hid (underP s2.t (keyF 26 []) = underP s1.t (keyF 26 [])) := Lib.hid (by rw [HDT.out.t])
      have HNUM : Hid (∀ r ∈ Qr, Nm r.1.1 ∧ Nm r.1.2 ∧ r.1.2 < i) := Lib.hid fun r hr => HDT.out.dg.num (by have := HI.out; omega) (by rw [← hQr]; exact hr)
      have HSZ : Hid (s1.sz ≤ 300000 ∧ s2.sz ≤ 300000) := Lib.hid ⟨by have := HDT.out.sz1; have := HI.out; omega, by have := HDT.out.sz2; have := HI.out; omega⟩
      have HRR := Lib.hid hQr
      have hi150 : i ≤ 150 := HI.out
      clear ha hQr q0 q1 q2 hgL hj hmem hal hbw hin
      go_wp2_with (refine wpList_alloc_g rfl _ rfl _ _ Try.zeroAct13 rfl ?_)
      intro R d1 hR
      have WR : Hid (w.heap.size ≤ R) := Lib.hid (by rw [hR.out.eq]; exact (TF.out.below).size)
      have HRz := Lib.hid hR.out.cells; have hbR := hR.out.below
      clear hR
      have TFm := Lib.hid (TF.out.later hbR)
      clear hbR TF
      have TF := TFm
      clear TFm
      have HR := HRz
      clear HRz
      go_wp2_with (refine wpList_store_row_g (t := 47) (old := #[.bool false, .int .i64 0, .slice none 0 0]) rfl 47 _ _ rfl R #[.bool a.take, .int .i64 a.b, .slice a.ld a.l.length a.lc] rfl rfl HR.out Try.sizeAct13 rfl (by simp [Value.oneCell']) ?_)
      intro d2 hxR kR zR
      clear zR
      have TFm := Lib.hid (two_cells TF.out HR.out rfl rfl kR WR.out)
      have HRm := Lib.hid hxR
      clear hxR kR TF HR
      have TF := TFm
      have HR := HRm
      clear TFm HRm
      clear q0' q1' q2' hlt
      have c0 : d2.cell? ⟨R, 0, none⟩ = some (.bool a.take) := Lib.cell_of_heap HR.out 0
      cases hmt : a.take with
      | true =>
        rw [hmt] at c0
        obtain ⟨z1, hz1⟩ : ∃ z, z = takeS s1 (takeL a.b Qr) := ⟨_, rfl⟩
        obtain ⟨z2, hz2⟩ : ∃ z, z = rtakeS s2 Qr a.b := ⟨_, rfl⟩
        have HDN : Hid (DT z1 z2 (i + 1)) := Lib.hid (by rw [hz1, hz2, HRR.out]; exact HDT.out.take HI.out a.b)
        have HLE : Hid (takeL a.b Qr = rtakeL Qr a.b) := Lib.hid (by rw [HRR.out]; exact (HDT.out.dg.take HDT.out.t HI.out a.b).1)
        have HZ1 := Lib.hid hz1; have HZ2 := Lib.hid hz2
        clear hz1 hz2
        go_wp2_with fail
        clear c0
        obtain ⟨d3, hwz⟩ : ∃ wz, wz = d2.drew := ⟨_, rfl⟩
        have hbz : Below d2.heap.size d2 d3 := by rw [hwz]; exact (Below.refl _ _).drew
        have TFm := Lib.hid (TF.out.later hbz)
        have HRm := Lib.hid (below_at' hbz HR.out)
        clear hbz TF HR
        have TF := TFm
        have HR := HRm
        clear TFm HRm
        have hS : d3.heap[R]? = some (.cells #[.bool a.take, .int .i64 a.b, .slice a.ld a.l.length a.lc] 47 (0, 0)) := HR.out
        refine wp_region_till (fun w' => w'.heap[R]? = some (.cells #[.bool a.take, .int .i64 a.b, .slice a.ld a.l.length a.lc] 47 (0, 0))) 10 10 (by kernel_rfl) rfl ?_
        rw [← hwz]
        clear hwz
        refine till_take 0 (some 26) rfl rfl (by kernel_rfl) (by kernel_rfl) (by kernel_rfl) (by kernel_rfl) (by kernel_rfl) (by kernel_rfl) (fun _ _ _ h => h) (.inl ⟨by rfl, fun w' _ => (by go_simp; rfl)⟩) hS ?_
        go_frame
        refine till_take 1 (some 27) rfl rfl (by kernel_rfl) (by kernel_rfl) (by kernel_rfl) (by kernel_rfl) (by kernel_rfl) (by kernel_rfl) (fun _ _ _ h => h) (.inl ⟨by rfl, fun w' _ => (by go_simp; rfl)⟩) hS ?_
        go_frame
        refine till_take 2 (some 28) rfl rfl (by kernel_rfl) (by kernel_rfl) (by kernel_rfl) (by kernel_rfl) (by kernel_rfl) (by kernel_rfl) (fun _ _ _ h => h) (.inl ⟨by rfl, fun w' hS' => (by have hc : w'.cell? ⟨R, 1, none⟩ = some (.int .i64 a.b) := Lib.cell_of_heap (hS') 1; go_simp; rfl)⟩) hS ?_
        go_frame
        refine till_take 4 (some 30) rfl rfl (by kernel_rfl) (by kernel_rfl) (by kernel_rfl) (by kernel_rfl) (by kernel_rfl) (by kernel_rfl) (fun _ _ _ h => h) (.inl ⟨by rfl, fun w' _ => (by go_simp; rfl)⟩) hS ?_
        go_frame
        refine till_take 5 (some 31) rfl rfl (by kernel_rfl) (by kernel_rfl) (by kernel_rfl) (by kernel_rfl) (by kernel_rfl) (by kernel_rfl) (fun _ _ _ h => h) (.inl ⟨by rfl, fun w' _ => (by go_simp; rfl)⟩) hS ?_
        go_frame
        refine till_take 6 (some 32) rfl rfl (by kernel_rfl) (by kernel_rfl) (by kernel_rfl) (by kernel_rfl) (by kernel_rfl) (by kernel_rfl) (fun _ _ _ h => h) (.inl ⟨by rfl, fun w' hS' => (by have hc : w'.cell? ⟨R, 1, none⟩ = some (.int .i64 a.b) := Lib.cell_of_heap (hS') 1; go_simp; rfl)⟩) hS ?_
        go_frame
        refine till_one 3 rfl (by kernel_rfl) fun K hK => ?_
        simp only [List.getElem_toArray, List.getElem_cons_succ, List.getElem_cons_zero]
        rw [if_pos (by rfl)]
        go_simp
        refine (TF.out.takeD fun F hs => dtake_any hs (by have := HSZ.out.1; omega) HOK.out.1 rfl (HOK.out.2.2.1 _) (by have := HOK.out.2.2.2 (keyF 26 []); omega) (by rw [HRD.out]; exact fun r hr => ⟨(HNUM.out r hr).1, (HNUM.out r hr).2.1⟩) a.b).mono ?_
        rw [HRD.out, ← HZ1.out]
        rintro e d4 ⟨va, rfl, hrv, o, hoth⟩
        have HV1 := Lib.hid hrv
        clear hrv
        have TFm := Lib.hid o
        have HRm := Lib.hid (hoth.2 R _ HR.out rfl rfl)
        clear o hoth TF HR
        have TF := TFm
        have HR := HRm
        clear TFm HRm
        have hS2 : d4.heap[R]? = some (.cells #[.bool a.take, .int .i64 a.b, .slice a.ld a.l.length a.lc] 47 (0, 0)) := HR.out
        refine hK _ _ (fun _ _ => hS2) ?_
        clear hK hS
        have hS := hS2
        clear hS2
        refine till_one 7 rfl (by kernel_rfl) fun K hK => ?_
        simp only [List.getElem_toArray, List.getElem_cons_succ, List.getElem_cons_zero]
        rw [if_pos (by rfl)]
        go_simp
        refine (TF.out.rtakeD fun F hs => rdtake_any hs (by have := HSZ.out.2; omega) HOK.out.2.1 a.b HRD2.out.symm (HOK.out.2.2.1 _) (HOK.out.2.2.2 _) (by rw [HRD.out]; exact fun r hr => ⟨(HNUM.out r hr).1, (HNUM.out r hr).2.1⟩)).mono ?_
        rw [HRD.out, ← HZ2.out]
        rintro e d5 ⟨vb, rfl, hrv, o, hoth⟩
        have HV2 := Lib.hid hrv
        clear hrv
        have TFm := Lib.hid o
        have HRm := Lib.hid (hoth.2 R _ HR.out rfl rfl)
        have HV1m := Lib.hid (HV1.out.oth hoth)
        clear o hoth TF HR HV1
        have TF := TFm
        have HR := HRm
        have HV1 := HV1m
        clear TFm HRm HV1m
        have hS2 : d5.heap[R]? = some (.cells #[.bool a.take, .int .i64 a.b, .slice a.ld a.l.length a.lc] 47 (0, 0)) := HR.out
        refine hK _ _ (fun _ _ => hS2) ?_
        clear hK hS
        have hS := hS2
        clear hS2
        refine till_one 8 rfl (by kernel_rfl) fun K hK => ?_
        simp only [List.getElem_toArray, List.getElem_cons_succ, List.getElem_cons_zero]
        rw [if_pos (by rfl)]
        go_simp
        refine (rrows_of HV1.out HV2.out).mono ?_
        rw [decide_eq_true (by rw [HLE.out])]
        rintro e d6 ⟨rfl, hb⟩
        have TFm := Lib.hid (TF.out.later hb)
        have HRm := Lib.hid (below_at' hb HR.out)
        have HV1m := Lib.hid (HV1.out.later hb)
        have HV2m := Lib.hid (HV2.out.later hb)
        clear hb TF HR HV1 HV2
        have TF := TFm
        have HR := HRm
        have HV1 := HV1m
        have HV2 := HV2m
        clear TFm HRm HV1m HV2m
        have hS2 : d6.heap[R]? = some (.cells #[.bool a.take, .int .i64 a.b, .slice a.ld a.l.length a.lc] 47 (0, 0)) := HR.out
        refine hK _ _ (fun _ _ => hS2) ?_
        clear hK hS
        have hS := hS2
        clear hS2
        refine till_take 9 (some 35) rfl rfl (by kernel_rfl) (by kernel_rfl) (by kernel_rfl) (by kernel_rfl) (by kernel_rfl) (by kernel_rfl) (fun _ _ _ h => h) (.inl ⟨by rfl, fun w' _ => (by go_simp; rfl)⟩) hS ?_
        go_frame
        refine till_done (by kernel_rfl) ?_ _
        clear hS
        have HOKn := Lib.hid (HDN.out.ok (by have := HI.out; omega))
        have HSN : Hid (z1.sz ≤ 400000 ∧ z2.sz ≤ 400000) := Lib.hid ⟨by have := HDN.out.sz1; have := HI.out; omega, by have := HDN.out.sz2; have := HI.out; omega⟩
        obtain ⟨fn, fk, hfv⟩ : ∃ fn fk, firstV (rowsT (underP z1.t (keyF 26 []))) = .tuple #[.int .i64 fn, .bool fk] := ⟨_, _, rfl⟩
        obtain ⟨cn, hcn⟩ : ∃ z, z = getI (getP z1.t) (keyF 27 []) := ⟨_, rfl⟩
        have HFV := Lib.hid hfv; have HCN := Lib.hid hcn
        clear hfv hcn
        go_wp2_with fail
        obtain ⟨F9, h9⟩ := TF.out.get1
        refine (dfirst_any (und_st h9 (by have := HSN.out.1; unfold PS.sz at this; omega) (keyF 26 [])) (HOKn.out.2.2.1 _)).mono ?_
        rw [HFV.out]
        rintro e d7 ⟨rfl, hb⟩
        clear h9
        have TFm := Lib.hid (TF.out.later hb)
        have HRm := Lib.hid (below_at' hb HR.out)
        have HV1m := Lib.hid (HV1.out.later hb)
        have HV2m := Lib.hid (HV2.out.later hb)
        clear hb TF HR HV1 HV2
        have TF := TFm
        have HR := HRm
        have HV1 := HV1m
        have HV2 := HV2m
        clear TFm HRm HV1m HV2m
        go_wp2_with fail
        obtain ⟨F9, h9⟩ := TF.out.get2
        refine (rdfirst_any h9 (by have := HSN.out.2; omega) (T := underP z1.t (keyF 26 [])) (by rw [HDN.out.t]) (HOKn.out.2.2.1 _) (HOKn.out.2.2.2 _)).mono ?_
        rw [HFV.out]
        rintro e d8 ⟨rfl, hb⟩
        clear h9
        have TFm := Lib.hid (TF.out.later hb)
        have HRm := Lib.hid (below_at' hb HR.out)
        have HV1m := Lib.hid (HV1.out.later hb)
        have HV2m := Lib.hid (HV2.out.later hb)
        clear hb TF HR HV1 HV2
        have TF := TFm
        have HR := HRm
        have HV1 := HV1m
        have HV2 := HV2m
        clear TFm HRm HV1m HV2m
        go_wp2_with fail
        obtain ⟨F9, h9⟩ := TF.out.get1
        refine (dlen_any (Look.of_st h9) HOKn.out.1.f).mono ?_
        rw [← HCN.out]
        rintro e d9 ⟨rfl, hb⟩
        clear h9
        have TFm := Lib.hid (TF.out.later hb)
        have HRm := Lib.hid (below_at' hb HR.out)
        have HV1m := Lib.hid (HV1.out.later hb)
        have HV2m := Lib.hid (HV2.out.later hb)
        clear hb TF HR HV1 HV2
        have TF := TFm
        have HR := HRm
        have HV1 := HV1m
        have HV2 := HV2m
        clear TFm HRm HV1m HV2m
        go_wp2_with fail
        obtain ⟨F9, h9⟩ := TF.out.get2
        refine (rdlen_any h9 (by have := HSN.out.2; omega) HOKn.out.2.1).mono ?_
        rw [HDN.out.t, ← HCN.out]
        rintro e d10 ⟨rfl, hb⟩
        clear h9
        have TFm := Lib.hid (TF.out.later hb)
        have HRm := Lib.hid (below_at' hb HR.out)
        have HV1m := Lib.hid (HV1.out.later hb)
        have HV2m := Lib.hid (HV2.out.later hb)
        clear hb TF HR HV1 HV2
        have TF := TFm
        have HR := HRm
        have HV1 := HV1m
        have HV2 := HV2m
        clear TFm HRm HV1m HV2m
        have hi150 : i ≤ 150 := HI.out
        go_wp2_with fail
        go_roundw
        case rel => exact ⟨i + 1, z1, z2, by go_num, HJL.out, HDN, TF⟩
        case measure => have := HJL.out; simp [intOf]; omega
      | false =>
        rw [hmt] at c0
        go_wp2_with fail
        clear c0
        by_cases hbad : DBad a.b a.l
        · obtain ⟨z1, hz1⟩ : ∃ z, z = s1 := ⟨_, rfl⟩
          obtain ⟨z2, hz2⟩ : ∃ z, z = s2 := ⟨_, rfl⟩
          rw [← hz1, ← hz2] at TF
          have HDN : Hid (DT z1 z2 (i + 1)) := Lib.hid (by rw [hz1, hz2]; exact HDT.out.succ)
          have HBAD := Lib.hid hbad
          clear hz1 hz2 hbad
          obtain ⟨d3, hwz⟩ : ∃ wz, wz = d2.drew := ⟨_, rfl⟩
          have hbz : Below d2.heap.size d2 d3 := by rw [hwz]; exact (Below.refl _ _).drew
          have TFm := Lib.hid (TF.out.later hbz)
          have HRm := Lib.hid (below_at' hbz HR.out)
          clear hbz TF HR
          have TF := TFm
          have HR := HRm
          clear TFm HRm
          have hS : d3.heap[R]? = some (.cells #[.bool a.take, .int .i64 a.b, .slice a.ld a.l.length a.lc] 47 (0, 0)) := HR.out
          refine wp_region_till (fun w' => w'.heap[R]? = some (.cells #[.bool a.take, .int .i64 a.b, .slice a.ld a.l.length a.lc] 47 (0, 0))) 13 13 (by kernel_rfl) rfl ?_
          rw [← hwz]
          clear hwz
          refine till_take 0 (some 36) rfl rfl (by kernel_rfl) (by kernel_rfl) (by kernel_rfl) (by kernel_rfl) (by kernel_rfl) (by kernel_rfl) (fun _ _ _ h => h) (.inl ⟨by rfl, fun w' _ => (by go_simp; rfl)⟩) hS ?_
          go_frame
          refine till_take 1 (some 37) rfl rfl (by kernel_rfl) (by kernel_rfl) (by kernel_rfl) (by kernel_rfl) (by kernel_rfl) (by kernel_rfl) (fun _ _ _ h => h) (.inl ⟨by rfl, fun w' _ => (by go_simp; rfl)⟩) hS ?_
          go_frame
          refine till_take 2 (some 38) rfl rfl (by kernel_rfl) (by kernel_rfl) (by kernel_rfl) (by kernel_rfl) (by kernel_rfl) (by kernel_rfl) (fun _ _ _ h => h) (.inl ⟨by rfl, fun w' hS' => (by have hc : w'.cell? ⟨R, 1, none⟩ = some (.int .i64 a.b) := Lib.cell_of_heap (hS') 1; go_simp; rfl)⟩) hS ?_
          go_frame
          refine till_take 3 (some 39) rfl rfl (by kernel_rfl) (by kernel_rfl) (by kernel_rfl) (by kernel_rfl) (by kernel_rfl) (by kernel_rfl) (fun _ _ _ h => h) (.inl ⟨by rfl, fun w' _ => (by go_simp; rfl)⟩) hS ?_
          go_frame
          refine till_take 4 (some 40) rfl rfl (by kernel_rfl) (by kernel_rfl) (by kernel_rfl) (by kernel_rfl) (by kernel_rfl) (by kernel_rfl) (fun _ _ _ h => h) (.inl ⟨by rfl, fun w' hS' => (by have hc : w'.cell? ⟨R, 2, none⟩ = some (.slice a.ld a.l.length a.lc) := Lib.cell_of_heap (hS') 2; go_simp; rfl)⟩) hS ?_
          go_frame
          refine till_take 6 (some 42) rfl rfl (by kernel_rfl) (by kernel_rfl) (by kernel_rfl) (by kernel_rfl) (by kernel_rfl) (by kernel_rfl) (fun _ _ _ h => h) (.inl ⟨by rfl, fun w' _ => (by go_simp; rfl)⟩) hS ?_
          go_frame
          refine till_take 7 (some 43) rfl rfl (by kernel_rfl) (by kernel_rfl) (by kernel_rfl) (by kernel_rfl) (by kernel_rfl) (by kernel_rfl) (fun _ _ _ h => h) (.inl ⟨by rfl, fun w' _ => (by go_simp; rfl)⟩) hS ?_
          go_frame
          refine till_take 8 (some 44) rfl rfl (by kernel_rfl) (by kernel_rfl) (by kernel_rfl) (by kernel_rfl) (by kernel_rfl) (by kernel_rfl) (fun _ _ _ h => h) (.inl ⟨by rfl, fun w' hS' => (by have hc : w'.cell? ⟨R, 1, none⟩ = some (.int .i64 a.b) := Lib.cell_of_heap (hS') 1; go_simp; rfl)⟩) hS ?_
          go_frame
          refine till_take 9 (some 45) rfl rfl (by kernel_rfl) (by kernel_rfl) (by kernel_rfl) (by kernel_rfl) (by kernel_rfl) (by kernel_rfl) (fun _ _ _ h => h) (.inl ⟨by rfl, fun w' _ => (by go_simp; rfl)⟩) hS ?_
          go_frame
          refine till_take 10 (some 46) rfl rfl (by kernel_rfl) (by kernel_rfl) (by kernel_rfl) (by kernel_rfl) (by kernel_rfl) (by kernel_rfl) (fun _ _ _ h => h) (.inl ⟨by rfl, fun w' hS' => (by have hc : w'.cell? ⟨R, 2, none⟩ = some (.slice a.ld a.l.length a.lc) := Lib.cell_of_heap (hS') 2; go_simp; rfl)⟩) hS ?_
          go_frame
          refine till_one 5 rfl (by kernel_rfl) fun K hK => ?_
          simp only [List.getElem_toArray, List.getElem_cons_succ, List.getElem_cons_zero]
          rw [if_pos (by rfl)]
          go_simp
          obtain ⟨F9, h9⟩ := TF.out.get1
          refine (dadd_bad h9 (HGX.out.rd_l.later TF.out.below) HBAD.out).mono ?_
          rintro e d4 ⟨rfl, hb⟩
          clear h9
          have TFm := Lib.hid (TF.out.later hb)
          have HRm := Lib.hid (below_at' hb HR.out)
          clear hb TF HR
          have TF := TFm
          have HR := HRm
          clear TFm HRm
          have hS2 : d4.heap[R]? = some (.cells #[.bool a.take, .int .i64 a.b, .slice a.ld a.l.length a.lc] 47 (0, 0)) := HR.out
          refine hK _ _ (fun _ _ => hS2) ?_
          clear hK hS
          have hS := hS2
          clear hS2
          refine till_one 11 rfl (by kernel_rfl) fun K hK => ?_
          simp only [List.getElem_toArray, List.getElem_cons_succ, List.getElem_cons_zero]
          rw [if_pos (by rfl)]
          go_simp
          refine (rdadd_bad (HGX.out.rd_l.later TF.out.below) HBAD.out).mono ?_
          rintro e d5 ⟨rfl, hb⟩
          have TFm := Lib.hid (TF.out.later hb)
          have HRm := Lib.hid (below_at' hb HR.out)
          clear hb TF HR
          have TF := TFm
          have HR := HRm
          clear TFm HRm
          have hS2 : d5.heap[R]? = some (.cells #[.bool a.take, .int .i64 a.b, .slice a.ld a.l.length a.lc] 47 (0, 0)) := HR.out
          refine hK _ _ (fun _ _ => hS2) ?_
          clear hK hS
          have hS := hS2
          clear hS2
          refine till_take 12 (some 48) rfl rfl (by kernel_rfl) (by kernel_rfl) (by kernel_rfl) (by kernel_rfl) (by kernel_rfl) (by kernel_rfl) (fun _ _ _ h => h) (.inl ⟨by rfl, fun w' _ => (by go_simp; rfl)⟩) hS ?_
          go_frame
          refine till_done (by kernel_rfl) ?_ _
          clear hS
          have HOKn := Lib.hid (HDN.out.ok (by have := HI.out; omega))
          have HSN : Hid (z1.sz ≤ 400000 ∧ z2.sz ≤ 400000) := Lib.hid ⟨by have := HDN.out.sz1; have := HI.out; omega, by have := HDN.out.sz2; have := HI.out; omega⟩
          obtain ⟨fn, fk, hfv⟩ : ∃ fn fk, firstV (rowsT (underP z1.t (keyF 26 []))) = .tuple #[.int .i64 fn, .bool fk] := ⟨_, _, rfl⟩
          obtain ⟨cn, hcn⟩ : ∃ z, z = getI (getP z1.t) (keyF 27 []) := ⟨_, rfl⟩
          have HFV := Lib.hid hfv; have HCN := Lib.hid hcn
          clear hfv hcn
          go_wp2_with fail
          obtain ⟨F9, h9⟩ := TF.out.get1
          refine (dfirst_any (und_st h9 (by have := HSN.out.1; unfold PS.sz at this; omega) (keyF 26 [])) (HOKn.out.2.2.1 _)).mono ?_
          rw [HFV.out]
          rintro e d6 ⟨rfl, hb⟩
          clear h9
          have TFm := Lib.hid (TF.out.later hb)
          have HRm := Lib.hid (below_at' hb HR.out)
          clear hb TF HR
          have TF := TFm
          have HR := HRm
          clear TFm HRm
          go_wp2_with fail
          obtain ⟨F9, h9⟩ := TF.out.get2
          refine (rdfirst_any h9 (by have := HSN.out.2; omega) (T := underP z1.t (keyF 26 [])) (by rw [HDN.out.t]) (HOKn.out.2.2.1 _) (HOKn.out.2.2.2 _)).mono ?_
          rw [HFV.out]
          rintro e d7 ⟨rfl, hb⟩
          clear h9
          have TFm := Lib.hid (TF.out.later hb)
          have HRm := Lib.hid (below_at' hb HR.out)
          clear hb TF HR
          have TF := TFm
          have HR := HRm
          clear TFm HRm
          go_wp2_with fail
          obtain ⟨F9, h9⟩ := TF.out.get1
          refine (dlen_any (Look.of_st h9) HOKn.out.1.f).mono ?_
          rw [← HCN.out]
          rintro e d8 ⟨rfl, hb⟩
          clear h9
          have TFm := Lib.hid (TF.out.later hb)
          have HRm := Lib.hid (below_at' hb HR.out)
          clear hb TF HR
          have TF := TFm
          have HR := HRm
          clear TFm HRm
          go_wp2_with fail
          obtain ⟨F9, h9⟩ := TF.out.get2
          refine (rdlen_any h9 (by have := HSN.out.2; omega) HOKn.out.2.1).mono ?_
          rw [HDN.out.t, ← HCN.out]
          rintro e d9 ⟨rfl, hb⟩
          clear h9
          have TFm := Lib.hid (TF.out.later hb)
          have HRm := Lib.hid (below_at' hb HR.out)
          clear hb TF HR
          have TF := TFm
          have HR := HRm
          clear TFm HRm
          have hi150 : i ≤ 150 := HI.out
          go_wp2_with fail
          go_roundw
          case rel => exact ⟨i + 1, z1, z2, by go_num, HJL.out, HDN, TF⟩
          case measure => have := HJL.out; simp [intOf]; omega
        · have HGB : Hid (0 ≤ a.b ∧ a.b ≤ 1099511627776 ∧ goodL a.l = true) := Lib.hid (by
            unfold DBad at hbad
            refine ⟨by omega, by omega, ?_⟩
            cases hq : goodL a.l with
            | true => rfl
            | false => exact absurd (.inr (.inr hq)) hbad)
          obtain ⟨z1, hz1⟩ : ∃ z, z = s1.dadd a.b a.l := ⟨_, rfl⟩
          obtain ⟨z2, hz2⟩ : ∃ z, z = raddS s2 Qr a.b a.l := ⟨_, rfl⟩
          have HDN : Hid (DT z1 z2 (i + 1)) := Lib.hid (by rw [hz1, hz2, HRR.out]; exact HDT.out.add HI.out ⟨HGB.out.1, HGB.out.2.1⟩ HGB.out.2.2 HAL.out HGX.out.i64_l)
          have HAA := Lib.hid (HDT.out.dg.add HDT.out.t HI.out ⟨HGB.out.1, HGB.out.2.1⟩ HGB.out.2.2 HAL.out HGX.out.i64_l)
          have HBR : Hid (∀ r ∈ rowsT (underP s1.t (keyF 26 [a.b])), 0 ≤ r.1.2 ∧ r.1.2 < 1000000000000) := Lib.hid (fun r hr => by
            rw [rows_block (by have := HI.out; omega) ⟨HGB.out.1, by have := HGB.out.2.1; omega⟩ HDT.out.dg.ent, ← HRR.out] at hr
            have h9 := HNUM.out r (List.mem_filter.1 hr).1
            have h8 := HI.out
            exact ⟨h9.2.1.1, by have := h9.2.2; omega⟩)
          have HZ1 := Lib.hid hz1; have HZ2 := Lib.hid hz2
          clear hz1 hz2 hbad
          obtain ⟨d3, hwz⟩ : ∃ wz, wz = d2.drew := ⟨_, rfl⟩
          have hbz : Below d2.heap.size d2 d3 := by rw [hwz]; exact (Below.refl _ _).drew
          have TFm := Lib.hid (TF.out.later hbz)
          have HRm := Lib.hid (below_at' hbz HR.out)
          clear hbz TF HR
          have TF := TFm
          have HR := HRm
          clear TFm HRm
          have hS : d3.heap[R]? = some (.cells #[.bool a.take, .int .i64 a.b, .slice a.ld a.l.length a.lc] 47 (0, 0)) := HR.out
          refine wp_region_till (fun w' => w'.heap[R]? = some (.cells #[.bool a.take, .int .i64 a.b, .slice a.ld a.l.length a.lc] 47 (0, 0))) 13 13 (by kernel_rfl) rfl ?_
          rw [← hwz]
          clear hwz
          refine till_take 0 (some 36) rfl rfl (by kernel_rfl) (by kernel_rfl) (by kernel_rfl) (by kernel_rfl) (by kernel_rfl) (by kernel_rfl) (fun _ _ _ h => h) (.inl ⟨by rfl, fun w' _ => (by go_simp; rfl)⟩) hS ?_
          go_frame
          refine till_take 1 (some 37) rfl rfl (by kernel_rfl) (by kernel_rfl) (by kernel_rfl) (by kernel_rfl) (by kernel_rfl) (by kernel_rfl) (fun _ _ _ h => h) (.inl ⟨by rfl, fun w' _ => (by go_simp; rfl)⟩) hS ?_
          go_frame
          refine till_take 2 (some 38) rfl rfl (by kernel_rfl) (by kernel_rfl) (by kernel_rfl) (by kernel_rfl) (by kernel_rfl) (by kernel_rfl) (fun _ _ _ h => h) (.inl ⟨by rfl, fun w' hS' => (by have hc : w'.cell? ⟨R, 1, none⟩ = some (.int .i64 a.b) := Lib.cell_of_heap (hS') 1; go_simp; rfl)⟩) hS ?_
          go_frame
          refine till_take 3 (some 39) rfl rfl (by kernel_rfl) (by kernel_rfl) (by kernel_rfl) (by kernel_rfl) (by kernel_rfl) (by kernel_rfl) (fun _ _ _ h => h) (.inl ⟨by rfl, fun w' _ => (by go_simp; rfl)⟩) hS ?_
          go_frame
          refine till_take 4 (some 40) rfl rfl (by kernel_rfl) (by kernel_rfl) (by kernel_rfl) (by kernel_rfl) (by kernel_rfl) (by kernel_rfl) (fun _ _ _ h => h) (.inl ⟨by rfl, fun w' hS' => (by have hc : w'.cell? ⟨R, 2, none⟩ = some (.slice a.ld a.l.length a.lc) := Lib.cell_of_heap (hS') 2; go_simp; rfl)⟩) hS ?_
          go_frame
          refine till_take 6 (some 42) rfl rfl (by kernel_rfl) (by kernel_rfl) (by kernel_rfl) (by kernel_rfl) (by kernel_rfl) (by kernel_rfl) (fun _ _ _ h => h) (.inl ⟨by rfl, fun w' _ => (by go_simp; rfl)⟩) hS ?_
          go_frame
          refine till_take 7 (some 43) rfl rfl (by kernel_rfl) (by kernel_rfl) (by kernel_rfl) (by kernel_rfl) (by kernel_rfl) (by kernel_rfl) (fun _ _ _ h => h) (.inl ⟨by rfl, fun w' _ => (by go_simp; rfl)⟩) hS ?_
          go_frame
          refine till_take 8 (some 44) rfl rfl (by kernel_rfl) (by kernel_rfl) (by kernel_rfl) (by kernel_rfl) (by kernel_rfl) (by kernel_rfl) (fun _ _ _ h => h) (.inl ⟨by rfl, fun w' hS' => (by have hc : w'.cell? ⟨R, 1, none⟩ = some (.int .i64 a.b) := Lib.cell_of_heap (hS') 1; go_simp; rfl)⟩) hS ?_
          go_frame
          refine till_take 9 (some 45) rfl rfl (by kernel_rfl) (by kernel_rfl) (by kernel_rfl) (by kernel_rfl) (by kernel_rfl) (by kernel_rfl) (fun _ _ _ h => h) (.inl ⟨by rfl, fun w' _ => (by go_simp; rfl)⟩) hS ?_
          go_frame
          refine till_take 10 (some 46) rfl rfl (by kernel_rfl) (by kernel_rfl) (by kernel_rfl) (by kernel_rfl) (by kernel_rfl) (by kernel_rfl) (fun _ _ _ h => h) (.inl ⟨by rfl, fun w' hS' => (by have hc : w'.cell? ⟨R, 2, none⟩ = some (.slice a.ld a.l.length a.lc) := Lib.cell_of_heap (hS') 2; go_simp; rfl)⟩) hS ?_
          go_frame
          refine till_one 5 rfl (by kernel_rfl) fun K hK => ?_
          simp only [List.getElem_toArray, List.getElem_cons_succ, List.getElem_cons_zero]
          rw [if_pos (by rfl)]
          go_simp
          refine (TF.out.st fun F hs => dadd_any hs (by have := HSZ.out.1; omega) HOK.out.1 HGB.out.1 HGB.out.2.1 (HGX.out.rd_l.later TF.out.below) (by have := HAL.out; omega) HGX.out.i64_l HGB.out.2.2 rfl (HOK.out.2.2.1 _) HBR.out (by have := HAA.out.1; have := HI.out; omega)).mono ?_
          rw [← HZ1.out]
          rintro e d4 ⟨rfl, o, hoth⟩
          have TFm := Lib.hid o
          have HRm := Lib.hid (hoth.2 R _ HR.out rfl rfl)
          clear o hoth TF HR
          have TF := TFm
          have HR := HRm
          clear TFm HRm
          have hS2 : d4.heap[R]? = some (.cells #[.bool a.take, .int .i64 a.b, .slice a.ld a.l.length a.lc] 47 (0, 0)) := HR.out
          refine hK _ _ (fun _ _ => hS2) ?_
          clear hK hS
          have hS := hS2
          clear hS2
          refine till_one 11 rfl (by kernel_rfl) fun K hK => ?_
          simp only [List.getElem_toArray, List.getElem_cons_succ, List.getElem_cons_zero]
          rw [if_pos (by rfl)]
          go_simp
          refine (TF.out.rs fun F hs => rdadd_any hs (by have := HSZ.out.2; omega) HOK.out.2.1 HGB.out.1 HGB.out.2.1 (HGX.out.rd_l.later TF.out.below) (by have := HAL.out; omega) HGX.out.i64_l HGB.out.2.2 HRD2.out.symm (HOK.out.2.2.1 _) (HOK.out.2.2.2 _) (by rw [HRD.out]; exact fun r hr => by have h9 := (HNUM.out r hr).2.2; have h8 := HI.out; omega) (by rw [HRD.out, HRR.out]; have h9 := HAA.out.2.1; have h8 := HI.out; omega)).mono ?_
          rw [HRD.out, ← HZ2.out]
          rintro e d5 ⟨rfl, o, hoth⟩
          have TFm := Lib.hid o
          have HRm := Lib.hid (hoth.2 R _ HR.out rfl rfl)
          clear o hoth TF HR
          have TF := TFm
          have HR := HRm
          clear TFm HRm
          have hS2 : d5.heap[R]? = some (.cells #[.bool a.take, .int .i64 a.b, .slice a.ld a.l.length a.lc] 47 (0, 0)) := HR.out
          refine hK _ _ (fun _ _ => hS2) ?_
          clear hK hS
          have hS := hS2
          clear hS2
          refine till_take 12 (some 48) rfl rfl (by kernel_rfl) (by kernel_rfl) (by kernel_rfl) (by kernel_rfl) (by kernel_rfl) (by kernel_rfl) (fun _ _ _ h => h) (.inl ⟨by rfl, fun w' _ => (by go_simp; rfl)⟩) hS ?_
          go_frame
          refine till_done (by kernel_rfl) ?_ _
          clear hS
          have HOKn := Lib.hid (HDN.out.ok (by have := HI.out; omega))
          have HSN : Hid (z1.sz ≤ 400000 ∧ z2.sz ≤ 400000) := Lib.hid ⟨by have := HDN.out.sz1; have := HI.out; omega, by have := HDN.out.sz2; have := HI.out; omega⟩
          obtain ⟨fn, fk, hfv⟩ : ∃ fn fk, firstV (rowsT (underP z1.t (keyF 26 []))) = .tuple #[.int .i64 fn, .bool fk] := ⟨_, _, rfl⟩
          obtain ⟨cn, hcn⟩ : ∃ z, z = getI (getP z1.t) (keyF 27 []) := ⟨_, rfl⟩
          have HFV := Lib.hid hfv; have HCN := Lib.hid hcn
          clear hfv hcn
          go_wp2_with fail
          obtain ⟨F9, h9⟩ := TF.out.get1
          refine (dfirst_any (und_st h9 (by have := HSN.out.1; unfold PS.sz at this; omega) (keyF 26 [])) (HOKn.out.2.2.1 _)).mono ?_
          rw [HFV.out]
          rintro e d6 ⟨rfl, hb⟩
          clear h9
          have TFm := Lib.hid (TF.out.later hb)
          have HRm := Lib.hid (below_at' hb HR.out)
          clear hb TF HR
          have TF := TFm
          have HR := HRm
          clear TFm HRm
          go_wp2_with fail
          obtain ⟨F9, h9⟩ := TF.out.get2
          refine (rdfirst_any h9 (by have := HSN.out.2; omega) (T := underP z1.t (keyF 26 [])) (by rw [HDN.out.t]) (HOKn.out.2.2.1 _) (HOKn.out.2.2.2 _)).mono ?_
          rw [HFV.out]
          rintro e d7 ⟨rfl, hb⟩
          clear h9
          have TFm := Lib.hid (TF.out.later hb)
          have HRm := Lib.hid (below_at' hb HR.out)
          clear hb TF HR
          have TF := TFm
          have HR := HRm
          clear TFm HRm
          go_wp2_with fail
          obtain ⟨F9, h9⟩ := TF.out.get1
          refine (dlen_any (Look.of_st h9) HOKn.out.1.f).mono ?_
          rw [← HCN.out]
          rintro e d8 ⟨rfl, hb⟩
          clear h9
          have TFm := Lib.hid (TF.out.later hb)
          have HRm := Lib.hid (below_at' hb HR.out)
          clear hb TF HR
          have TF := TFm
          have HR := HRm
          clear TFm HRm
          go_wp2_with fail
          obtain ⟨F9, h9⟩ := TF.out.get2
          refine (rdlen_any h9 (by have := HSN.out.2; omega) HOKn.out.2.1).mono ?_
          rw [HDN.out.t, ← HCN.out]
          rintro e d9 ⟨rfl, hb⟩
          clear h9
          have TFm := Lib.hid (TF.out.later hb)
          have HRm := Lib.hid (below_at' hb HR.out)
          clear hb TF HR
          have TF := TFm
          have HR := HRm
          clear TFm HRm
          have hi150 : i ≤ 150 := HI.out
          go_wp2_with fail
          go_roundw
          case rel => exact ⟨i + 1, z1, z2, by go_num, HJL.out, HDN, TF⟩
          case measure => have := HJL.out; simp [intOf]; omega
    · obtain rfl : i = n := by omega
      have HSZ : Hid (s1.t.length < 1099511627776) := Lib.hid (by have := HDT.out.len; have := P150.out; omega)
      have HSZ2 : Hid (s2.t.length < 1099511627776) := Lib.hid (by rw [HDT.out.t]; exact HSZ.out)
      obtain ⟨_, _, p1, p2, _, _, _⟩ := TF.out
      obtain ⟨vL, vP, hra, _⟩ := p2
      have P1 := Lib.hid p1; have HRA := Lib.hid hra
      have hS : wr.drew.cell? ⟨h, 0, none⟩ = some vL := Lib.cell_of_heap hra.head 0
      have hbd : Below wr.heap.size wr wr.drew := Below.drew (Below.refl _ _)
      clear p1 hra
      go_wp2_with fail
      clear hlt
      refine wp_region_till (fun w' => w'.cell? ⟨h, 0, none⟩ = some vL) 11 11 (by kernel_rfl) rfl ?_
      refine till_take 0 (some 75) rfl rfl (by kernel_rfl) (by kernel_rfl) (by kernel_rfl) (by kernel_rfl) (by kernel_rfl) (by kernel_rfl) (fun _ _ _ h => h) (.inl ⟨by rfl, fun w' _ => (by go_simp; rfl)⟩) hS ?_
      go_frame
      refine till_take 2 (some 77) rfl rfl (by kernel_rfl) (by kernel_rfl) (by kernel_rfl) (by kernel_rfl) (by kernel_rfl) (by kernel_rfl) (fun _ _ _ h => h) (.inl ⟨by rfl, fun w' _ => (by go_simp; rfl)⟩) hS ?_
      go_frame
      refine till_take 3 (some 78) rfl rfl (by kernel_rfl) (by kernel_rfl) (by kernel_rfl) (by kernel_rfl) (by kernel_rfl) (by kernel_rfl) (fun _ _ _ h => h) (.inl ⟨by rfl, fun w' _ => (by go_simp; rfl)⟩) hS ?_
      go_frame
      refine till_take 4 (some 79) rfl rfl (by kernel_rfl) (by kernel_rfl) (by kernel_rfl) (by kernel_rfl) (by kernel_rfl) (by kernel_rfl) (fun _ _ _ h => h) (.inl ⟨by rfl, fun w' _ => (by go_simp; rfl)⟩) hS ?_
      go_frame
      refine till_take 5 (some 80) rfl rfl (by kernel_rfl) (by kernel_rfl) (by kernel_rfl) (by kernel_rfl) (by kernel_rfl) (by kernel_rfl) (fun _ _ _ h => h) (.inl ⟨by rfl, fun w' hS' => (by have hc1 := hS'; go_simp; rfl)⟩) hS ?_
      go_frame
      refine till_one 1 rfl (by kernel_rfl) fun K hK => ?_
      simp only [List.getElem_toArray, List.getElem_cons_succ, List.getElem_cons_zero]
      rw [if_pos (by rfl)]
      go_simp
      refine (sall_any (P1.out.later hbd) HSZ.out).mono ?_
      rintro e wC ⟨vC, rfl, hlC, hbC, _⟩
      have hbx : Below wr.heap.size wr wC := hbd.trans (hbC.mono hbd.size)
      have hS2 : wC.cell? ⟨h, 0, none⟩ = some vL := Lib.cell_of_heap (below_at' hbx HRA.out.head) 0
      refine hK _ _ (fun _ _ => hS2) ?_
      clear hK hS hbd hbC
      have hS := hS2
      have hbd := hbx
      clear hS2 hbx
      refine till_one 6 rfl (by kernel_rfl) fun K hK => ?_
      simp only [List.getElem_toArray, List.getElem_cons_succ, List.getElem_cons_zero]
      rw [if_pos (by rfl)]
      go_simp
      have hsm := rsame_any (hlC.rd pairE_len) ((HRA.out.list.later hbd).rd pairE_len) HSZ.out HSZ2.out
      rw [decide_eq_true HDT.out.t.symm] at hsm
      refine hsm.mono ?_
      rintro e wD ⟨rfl, hbD⟩
      clear hsm hlC
      have hbx : Below wr.heap.size wr wD := hbd.trans (hbD.mono hbd.size)
      have hS2 : wD.cell? ⟨h, 0, none⟩ = some vL := Lib.cell_of_heap (below_at' hbx HRA.out.head) 0
      refine hK _ _ (fun _ _ => hS2) ?_
      clear hK hS hbd hbD
      have hS := hS2
      have hbd := hbx
      clear hS2 hbx
      refine till_take 7 (some 82) rfl rfl (by kernel_rfl) (by kernel_rfl) (by kernel_rfl) (by kernel_rfl) (by kernel_rfl) (by kernel_rfl) (fun _ _ _ h => h) (.inl ⟨by rfl, fun w' _ => (by go_simp; rfl)⟩) hS ?_
      go_frame
      refine till_one 8 rfl (by kernel_rfl) fun K hK => ?_
      simp only [List.getElem_toArray, List.getElem_cons_succ, List.getElem_cons_zero]
      rw [if_pos (by rfl)]
      go_simp
      refine (lives13_any _).mono ?_
      rintro e wE ⟨rfl, hbE⟩
      have hbx : Below wr.heap.size wr wE := hbd.trans (hbE.mono hbd.size)
      have hS2 : wE.cell? ⟨h, 0, none⟩ = some vL := Lib.cell_of_heap (below_at' hbx HRA.out.head) 0
      refine hK _ _ (fun _ _ => hS2) ?_
      clear hK hS hbd hbE
      have hS := hS2
      have hbd := hbx
      clear hS2 hbx
      refine till_take 9 (some 84) rfl rfl (by kernel_rfl) (by kernel_rfl) (by kernel_rfl) (by kernel_rfl) (by kernel_rfl) (by kernel_rfl) (fun _ _ _ h => h) (.inl ⟨by rfl, fun w' _ => (by go_simp; rfl)⟩) hS ?_
      go_frame
      refine till_take 10 (some 2) rfl rfl (by kernel_rfl) (by kernel_rfl) (by kernel_rfl) (by kernel_rfl) (by kernel_rfl) (by kernel_rfl) (fun _ _ _ h => h) (.inl ⟨by rfl, fun w' _ => (by go_simp; rfl)⟩) hS ?_
      go_frame
      refine till_done (by kernel_rfl) ?_ _
      have BWA := Lib.hid (TF.out.below.trans (hbd.mono TF.out.below.size))
      clear hS hbd
      go_wp2_with fail
      go_ret
      exact ⟨rfl, BWA.out⟩
end
end
end Go.Proofs.Ythnjakomkdlglaa
