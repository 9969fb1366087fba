/- Law 13: lives, DueNone. No condition. -/
import Derived.Test.YthnjakomkdlglaaDueE
namespace Go.Proofs.Ythnjakomkdlglaa
open Go.RowKit

theorem RowsV.later {w w' : World} {v : Value} {ls : List (List Int)} (h : RowsV w v ls) (hb : Below w.heap.size w w') : RowsV w' v ls := by
  obtain ⟨xs, h1, h2, h3⟩ := h
  exact ⟨xs, h1.later hb, h2, fun x hx => (h3 x hx).later hb⟩
theorem One.liv {w0 w w' : World} {F : List Nat} {g : Nat} {s' : PS} (hF : ∀ x ∈ F, w0.heap.size ≤ x) (hb : Below w0.heap.size w0 w) (L : Liv w F w' g s') : One w0 w' g s' := by
  obtain ⟨F', h1, h2, h3⟩ := L
  exact ⟨F', h1, fun x hx => by rcases h3 x hx with h | h; exact hF x h; exact Nat.le_trans hb.size h, hb.trans (h2.below (B := w0.heap.size) (fun y hy e => by have := hF y e; omega) hb.size)⟩
theorem One.add {P : Program} {f : FuncId} {args : Array Value} {w0 w : World} {g : Nat} {s s' : PS} {v : Value} (t : One w0 w g s) (hc : ∀ F, St w g s F → Calls P f args w (fun e w' => e = .returned v ∧ Liv w F w' g s')) : Calls P f args w (fun e w' => e = .returned v ∧ One w0 w' g s') := by
  obtain ⟨F, h1, h2, h3⟩ := t
  exact (hc F h1).mono fun e w' ⟨e1, L⟩ => ⟨e1, One.liv h2 h3 L⟩
theorem One.take {P : Program} {f : FuncId} {args : Array Value} {w0 w : World} {g : Nat} {s s' : PS} {ls : List (List Int)} (t : One w0 w g s) (hc : ∀ F, St w g s F → Calls P f args w (TakeRet w g F s' ls)) : Calls P f args w (fun e w' => ∃ v, e = .returned v ∧ RowsV w' v ls ∧ One w0 w' g s') := by
  obtain ⟨F, h1, h2, h3⟩ := t
  exact (hc F h1).mono fun e w' ⟨v, e1, r, L⟩ => ⟨v, e1, r, One.liv h2 h3 L⟩
theorem und_st {w : World} {g : Nat} {s : PS} {F : List Nat} (h : St w g s F) (hz : s.t.length < 1099511627776) (b : Txt) : Und w (some ⟨g, 0, none⟩) b (underP s.t b) := fun _ hW => sunder_any (h.later hW) hz b

set_option maxHeartbeats 8000000 in
set_option maxRecDepth 100000 in
theorem lives13_any (w : World) : Calls Try.prog 10 #[] w (Ret w (.bool true)) := by
  have a0 : TabOk (underP PS.new.t (keyF 26 [5])) := by unfold TabOk; decide +kernel
  have a1 : ∀ r ∈ rowsT (underP PS.new.t (keyF 26 [5])), 0 ≤ r.1.2 ∧ r.1.2 < 1000000000000 := by decide +kernel
  have a2 : getI (getP (PS.new.dput 5 (daddN PS.new 5) [1]).t) (keyF 27 []) < 1000000000000 := by decide +kernel
  have a3 : Fit PS.new := by unfold Fit; decide +kernel
  have a4 : PS.new.sz < 1000000000 := by decide +kernel
  have a5 : TabOk (underP (PS.new.dadd 5 [1]).t (keyF 26 [4])) := by unfold TabOk; decide +kernel
  have a6 : ∀ r ∈ rowsT (underP (PS.new.dadd 5 [1]).t (keyF 26 [4])), 0 ≤ r.1.2 ∧ r.1.2 < 1000000000000 := by decide +kernel
  have a7 : getI (getP ((PS.new.dadd 5 [1]).dput 4 (daddN (PS.new.dadd 5 [1]) 4) [2]).t) (keyF 27 []) < 1000000000000 := by decide +kernel
  have a8 : Fit (PS.new.dadd 5 [1]) := by unfold Fit; decide +kernel
  have a9 : (PS.new.dadd 5 [1]).sz < 1000000000 := by decide +kernel
  have a10 : TabOk (underP ((PS.new.dadd 5 [1]).dadd 4 [2]).t (keyF 26 [])) := by unfold TabOk; decide +kernel
  have a11 : (underP ((PS.new.dadd 5 [1]).dadd 4 [2]).t (keyF 26 [])).length < 1000000000 := by decide +kernel
  have a12 : ∀ r ∈ rowsT (underP ((PS.new.dadd 5 [1]).dadd 4 [2]).t (keyF 26 [])), (0 ≤ r.1.1 ∧ r.1.1 < 9223372036854775808) ∧ (0 ≤ r.1.2 ∧ r.1.2 < 9223372036854775808) := by decide +kernel
  have a13 : Fit ((PS.new.dadd 5 [1]).dadd 4 [2]) := by unfold Fit; decide +kernel
  have a14 : ((PS.new.dadd 5 [1]).dadd 4 [2]).sz < 1000000000 := by decide +kernel
  have a15 : (takeL 4 (rowsT (underP ((PS.new.dadd 5 [1]).dadd 4 [2]).t (keyF 26 [])))).map (·.2) = [[2]] := by decide +kernel
  have a16 : TabOk (underP (takeS ((PS.new.dadd 5 [1]).dadd 4 [2]) (takeL 4 (rowsT (underP ((PS.new.dadd 5 [1]).dadd 4 [2]).t (keyF 26 []))))).t (keyF 26 [])) := by unfold TabOk; decide +kernel
  have a17 : rowsT (underP (takeS ((PS.new.dadd 5 [1]).dadd 4 [2]) (takeL 4 (rowsT (underP ((PS.new.dadd 5 [1]).dadd 4 [2]).t (keyF 26 []))))).t (keyF 26 [])) = [((5, 0), [1])] := by decide +kernel
  have a18 : (takeS ((PS.new.dadd 5 [1]).dadd 4 [2]) (takeL 4 (rowsT (underP ((PS.new.dadd 5 [1]).dadd 4 [2]).t (keyF 26 []))))).t.length < 1099511627776 := by decide +kernel
  obtain ⟨s1, hs1⟩ : ∃ s, s = PS.new.dadd 5 [1] := ⟨_, rfl⟩
  obtain ⟨s2, hs2⟩ : ∃ s, s = s1.dadd 4 [2] := ⟨_, rfl⟩
  obtain ⟨tk, htk⟩ : ∃ s, s = takeL 4 (rowsT (underP s2.t (keyF 26 []))) := ⟨_, rfl⟩
  obtain ⟨s3, hs3⟩ : ∃ s, s = takeS s2 tk := ⟨_, rfl⟩
  rw [← hs1] at a5 a6 a7 a8 a9 a10 a11 a12 a13 a14 a15 a16 a17 a18
  rw [← hs2] at a10 a11 a12 a13 a14 a15 a16 a17 a18
  rw [← htk] at a15 a16 a17 a18
  rw [← hs3] at a16 a17 a18
  have A0 := Lib.hid a0
  have A1 := Lib.hid a1
  have A2 := Lib.hid a2
  have A3 := Lib.hid a3
  have A4 := Lib.hid a4
  have A5 := Lib.hid a5
  have A6 := Lib.hid a6
  have A7 := Lib.hid a7
  have A8 := Lib.hid a8
  have A9 := Lib.hid a9
  have A10 := Lib.hid a10
  have A11 := Lib.hid a11
  have A12 := Lib.hid a12
  have A13 := Lib.hid a13
  have A14 := Lib.hid a14
  have A15 := Lib.hid a15
  have A16 := Lib.hid a16
  have A17 := Lib.hid a17
  have A18 := Lib.hid a18
  have E1 := Lib.hid hs1; have E2 := Lib.hid hs2; have EK := Lib.hid htk; have E3 := Lib.hid hs3
  clear hs1 hs2 htk hs3 a0 a1 a2 a3 a4 a5 a6 a7 a8 a9 a10 a11 a12 a13 a14 a15 a16 a17 a18
  go_enter Try.func10, Try.ntmps10
  go_wp2_with fail
  refine (snew_any _).mono ?_
  rintro e w1 ⟨g, F, rfl, h1, hb1, hf1⟩
  have O : Hid (One w w1 g PS.new) := Lib.hid ⟨F, h1, hf1, hb1⟩
  clear h1 hb1 hf1
  go_wp2_with fail
  obtain ⟨a1, hw1⟩ : ∃ wq, wq = World.alloc w1 (.cells #[.int .i64 1] 3) := ⟨_, rfl⟩
  obtain ⟨gOL1, hgi⟩ : ∃ gi, gi = (World.heap w1).size := ⟨_, rfl⟩
  rw [← hw1, ← hgi]
  have OL1 : Hid (Own a1 0 3 intE 1 (.slice (some ⟨gOL1, 0, none⟩) 1 1) [1]) := Lib.hid (own_lit (l := [1]) (by rw [hw1, hgi]; exact heap_alloc_new _ _) (Nat.zero_le _) (by unfold maxLen; simp))
  have hb : Below (World.heap w1).size w1 a1 := by rw [hw1]; exact below_new _ _
  clear hw1 hgi
  have Om := Lib.hid (O.out.later hb)
  clear hb O
  have O := Om
  clear Om
  refine (O.out.add fun F hs => dadd_any hs A4.out A3.out (bk := 5) (by omega) (by omega) (own_rd OL1.out) (by decide) (I64s.one (by omega)) (by decide) rfl A0.out A1.out A2.out).mono ?_
  rw [← E1.out]
  rintro e a2 ⟨rfl, o⟩
  have Om := Lib.hid o
  clear o O OL1
  have O := Om
  clear Om
  go_wp2_with fail
  obtain ⟨a3, hw1⟩ : ∃ wq, wq = World.alloc a2 (.cells #[.int .i64 2] 3) := ⟨_, rfl⟩
  obtain ⟨gOL2, hgi⟩ : ∃ gi, gi = (World.heap a2).size := ⟨_, rfl⟩
  rw [← hw1, ← hgi]
  have OL2 : Hid (Own a3 0 3 intE 1 (.slice (some ⟨gOL2, 0, none⟩) 1 1) [2]) := Lib.hid (own_lit (l := [2]) (by rw [hw1, hgi]; exact heap_alloc_new _ _) (Nat.zero_le _) (by unfold maxLen; simp))
  have hb : Below (World.heap a2).size a2 a3 := by rw [hw1]; exact below_new _ _
  clear hw1 hgi
  have Om := Lib.hid (O.out.later hb)
  clear hb O
  have O := Om
  clear Om
  refine (O.out.add fun F hs => dadd_any hs A9.out A8.out (bk := 4) (by omega) (by omega) (own_rd OL2.out) (by decide) (I64s.one (by omega)) (by decide) rfl A5.out A6.out A7.out).mono ?_
  rw [← E2.out]
  rintro e a4 ⟨rfl, o⟩
  have Om := Lib.hid o
  clear o O OL2
  have O := Om
  clear Om
  go_wp2_with fail
  refine (O.out.take fun F hs => dtake_any hs A14.out A13.out rfl A10.out A11.out A12.out 4).mono ?_
  rw [← EK.out, A15.out, ← E3.out]
  rintro e a5 ⟨v, rfl, rv, o⟩
  have Om := Lib.hid o; have RV := Lib.hid rv
  clear o rv O
  have O := Om
  clear Om
  obtain ⟨ad, nv, cap, rfl⟩ : ∃ ad n cap, v = .slice ad n cap := by obtain ⟨xs, h1, _, _⟩ := RV.out; obtain ⟨a, c, e, _⟩ := h1.shape; exact ⟨_, _, _, e⟩
  go_wp2_with fail
  obtain ⟨F3, h3⟩ := O.out.get
  refine (dfirst_any (und_st h3 A18.out _) A16.out).mono ?_
  rw [A17.out, show firstV [((5, 0), [1])] = .tuple #[.int .i64 5, .bool true] from rfl]
  rintro e a6 ⟨rfl, hb⟩
  clear h3
  have Om := Lib.hid (O.out.later hb)
  have RVm := Lib.hid (RV.out.later hb)
  clear hb O RV
  have O := Om
  have RV := RVm
  clear Om RVm
  go_wp2_with fail
  obtain ⟨a7, hw1⟩ : ∃ wq, wq = World.alloc a6 (.cells #[.int .i64 2] 3) := ⟨_, rfl⟩
  obtain ⟨gi, hgi⟩ : ∃ gi, gi = (World.heap a6).size := ⟨_, rfl⟩
  have hsz : (World.heap a7).size = (World.heap a6).size + 1 := by rw [hw1, World.size_alloc]
  rw [← hsz, ← hw1, ← hgi]
  have OL : Hid (Own a7 0 3 intE 1 (.slice (some ⟨gi, 0, none⟩) 1 1) [2]) := Lib.hid (own_lit (l := [2]) (by rw [hw1, hgi]; exact heap_alloc_new _ _) (Nat.zero_le _) (by unfold maxLen; simp))
  have hb : Below (World.heap a6).size a6 a7 := by rw [hw1]; exact below_new _ _
  clear hw1 hgi hsz
  have Om := Lib.hid (O.out.later hb)
  have RVm := Lib.hid (RV.out.later hb)
  clear hb O RV
  have O := Om
  have RV := RVm
  clear Om RVm
  obtain ⟨a8, hw2⟩ : ∃ wq, wq = World.alloc a7 (.cells #[.slice (some ⟨gi, 0, none⟩) 1 1] 34) := ⟨_, rfl⟩
  obtain ⟨gj, hgj⟩ : ∃ gi, gi = (World.heap a7).size := ⟨_, rfl⟩
  rw [← hw2, ← hgj]
  have LV := litV a7 (.slice (some ⟨gi, 0, none⟩) 1 1)
  rw [← hw2, ← hgj] at LV
  have HLV := Lib.hid LV
  have hb : Below (World.heap a7).size a7 a8 := by rw [hw2]; exact below_new _ _
  have OLm := Lib.hid ((own_rd OL.out).later hb)
  clear hw2 hgj LV OL
  have Om := Lib.hid (O.out.later hb)
  have RVm := Lib.hid (RV.out.later hb)
  clear hb O RV
  have O := Om
  have RV := RVm
  clear Om RVm
  obtain ⟨xs, r1, r2, r3⟩ := RV.out.rd
  have hrw := rrows_any (ys := [(.slice (some ⟨gi, 0, none⟩) 1 1, [2])]) r1 HLV.out r3 (fun x hx => by rw [List.mem_singleton.1 hx]; exact OLm.out)
  rw [r2, show decide ([[2]] = [(Value.slice (some ⟨gi, 0, none⟩) 1 1, [(2 : Int)])].map (·.2)) = true from decide_eq_true rfl] at hrw
  clear RV r1 r2 r3
  refine (hrw).mono ?_
  rintro e a9 ⟨rfl, hb⟩
  clear hrw
  have Om := Lib.hid (O.out.later hb)
  clear hb O
  have O := Om
  clear Om
  go_wp2_with fail
  go_ret
  exact ⟨rfl, O.out.below⟩

theorem Try.idxSt0 (p q : Value) (w : World) : (Instr.index 64 (.agg #[p, q]) (.int .i64 0)).run Try.prog w = .ok p w := by kernel_rfl
theorem Try.idxSt1 (p q : Value) (w : World) : (Instr.index 64 (.agg #[p, q]) (.int .i64 1)).run Try.prog w = .ok q w := by kernel_rfl
theorem getI_none (k : Txt) : getI (fun _ => none) k = 0 := by
  show intF (rowF []) = 0
  decide +kernel

end Go.Proofs.Ythnjakomkdlglaa
