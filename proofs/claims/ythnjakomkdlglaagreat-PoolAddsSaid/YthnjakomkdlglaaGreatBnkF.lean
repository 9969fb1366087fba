/- The reference's banks (code). No condition. -/
import Derived.Test.YthnjakomkdlglaaGreatBnkJ
import Derived.Test.YthnjakomkdlglaaGreatCelS
import Derived.Deep.Cut
namespace Go.Proofs.YthnjakomkdlglaaGreat
open Go.RowKit

/-- Later by changes alone, that can be undone. -/
def Ext (s z : PS) : Prop := Up z.t ∧ ∃ n, z.past.length = s.past.length + n ∧ PS.backs n z = s
theorem back_put {s : PS} (hu : Up s.t) (k v : Txt) (b : Bool) : (s.put k v b).back = s := by
  unfold PS.back PS.put
  simp only [List.getLast?_append, List.getLast?_singleton, Option.some_or, List.dropLast_concat]
  obtain ⟨t, past⟩ := s
  congr 1
  refine tab_ext (up_lay (up_lay hu _ _ _) _ _ _) hu fun q => ?_
  rw [getP_lay, getP_lay]
  by_cases h : k = q
  · subst h
    simp only [if_true]
    cases hg : getP t k <;> simp
  · simp [h]
theorem Ext.refl {s : PS} (hu : Up s.t) : Ext s s := ⟨hu, 0, rfl, rfl⟩
theorem Ext.put {s z : PS} (h : Ext s z) (k v : Txt) (b : Bool) : Ext s (z.put k v b) := by
  obtain ⟨hu, n, h1, h2⟩ := h
  refine ⟨up_lay hu _ _ _, n + 1, ?_, ?_⟩
  · unfold PS.put; simp [h1]; omega
  · show PS.backs n (z.put k v b).back = s
    rw [back_put hu, h2]
theorem Ext.set {s z : PS} (h : Ext s z) (k v : Txt) : Ext s (z.set k v) := by
  unfold PS.set; split
  · exact h
  · exact h.put _ _ _
theorem Ext.del {s z : PS} (h : Ext s z) (k : Txt) : Ext s (z.del k) := by
  unfold PS.del; split
  · exact h
  · exact h.put _ _ _
theorem Ext.undo {s z : PS} (h : Ext s z) : z.undo s.past.length = s ∧ undoE z s.past.length = true := by
  obtain ⟨hu, n, h1, h2⟩ := h
  have hE : undoE z s.past.length = true := by unfold undoE; rw [decide_eq_true_iff]; omega
  refine ⟨?_, hE⟩
  unfold PS.undo
  rw [if_pos hE, Int.toNat_natCast, h1, Nat.add_sub_cancel_left, h2]

theorem Ext.setAmt {s z : PS} (h : Ext s z) (k : Txt) (n : Nat) : Ext s (z.setAmt k n) := by
  unfold PS.setAmt; split
  · exact h.del _
  · exact h.set _ _
theorem Ext.addA {s z : PS} (h : Ext s z) (k : Txt) (n : Nat) : Ext s (z.addA k n) := by
  unfold PS.addA; split
  · exact h.setAmt _ _
  · exact h
theorem Ext.moveA {s z : PS} (h : Ext s z) (k l : Txt) (n : Nat) : Ext s (z.moveA k l n) := by
  unfold PS.moveA; split
  · exact (h.setAmt _ _).setAmt _ _
  · exact h
/-- An error leaves the store. -/
theorem mint_no {s : PS} (hu : Up s.t) {t n : Int} {m : Nat} (h : mintE s t n m ≠ 0) : s.mint t n m = s := by
  unfold mintE at h
  unfold PS.mint
  split
  · rfl
  · rename_i h0
    rw [if_neg h0] at h
    split
    · rfl
    · rename_i h1
      rw [if_neg h1] at h
      rw [if_pos h]
      exact (((Ext.refl hu).addA _ _).addA _ _).undo.1
theorem mint_sz {s : PS} (hu : Up s.t) (t n : Int) (m : Nat) : (s.mint t n m).sz ≤ s.sz + 4 := by
  refine sz_mint s t n m ?_
  by_cases h : mintE s t n m = 0
  · exact .inl h
  · exact .inr (mint_no hu h)
theorem mint_fit {s : PS} (hf : Fit s) (hu : Up s.t) (t n : Int) (m : Nat) : Fit (s.mint t n m) := by
  by_cases h : mintE s t n m = 0
  · unfold mintE at h
    unfold PS.mint
    split
    · exact hf
    · rename_i h0
      rw [if_neg h0] at h
      split
      · exact hf
      · rename_i h1
        rw [if_neg h1] at h
        rw [if_neg (fun e => e h)]
        exact (hf.addA _ _).addA _ _
  · rw [mint_no hu h]; exact hf
theorem pay_sz (s : PS) (t a b : Int) (m : Nat) : (s.pay t a b m).sz ≤ s.sz + 4 := by
  unfold PS.pay; split
  · omega
  · exact sz_moveA _ _ _ _
theorem pay_fit {s : PS} (hf : Fit s) (t a b : Int) (m : Nat) : Fit (s.pay t a b m) := by
  unfold PS.pay; split
  · exact hf
  · exact hf.moveA _ _ _

set_option maxHeartbeats 4000000 in
theorem ris_any (n : Int) (w : World) : Calls Tryz.prog 64 #[.int .i64 n] w fun e w' => e = .returned (.bool (decide (1 ≤ n ∧ n ≤ 4294967295))) ∧ w = w' := by
  obtain ⟨q, hq⟩ : ∃ q, q = decide (1 ≤ n ∧ n ≤ 4294967295) := ⟨_, rfl⟩
  have HQ := Lib.hid hq
  rw [← hq]
  clear hq
  by_cases h1 : 1 ≤ n
  · have hd : Hid (decide (n ≤ 4294967295) = q) := Lib.hid (by rw [HQ.out]; simp only [h1, true_and])
    go_enter Tryz.func64, Tryz.ntmps64
    go_wp2_with fail
    go_ret
    exact ⟨by rw [← hd.out]; rfl, rfl⟩
  · have hd : Hid (q = false) := Lib.hid (by rw [HQ.out]; exact decide_eq_false fun e => h1 e.1)
    have h3 : n < 1 := by omega
    clear h1
    go_enter Tryz.func64, Tryz.ntmps64
    go_wp2_with fail
    go_ret
    exact ⟨by rw [hd.out]; rfl, rfl⟩
set_option maxHeartbeats 4000000 in
theorem rgood_any (t n : Int) (w : World) : Calls Tryz.prog 17 #[.int .i64 t, .int .i64 n] w fun e w' => e = .returned (.bool (goodB t n)) ∧ w = w' := by
  obtain ⟨q, hq⟩ : ∃ q, q = goodB t n := ⟨_, rfl⟩
  have HQ := Lib.hid hq
  rw [← hq]
  clear hq
  by_cases h1 : 1 ≤ t
  · by_cases h2 : t ≤ 1000
    · have hd : Hid (decide (1 ≤ n ∧ n ≤ 4294967295) = q) := Lib.hid (by rw [HQ.out]; unfold goodB; simp only [h1, h2, true_and])
      go_enter Tryz.func17, Tryz.ntmps17
      go_wp2_with fail
      refine (ris_any n _).mono ?_
      rintro e _ ⟨rfl, rfl⟩
      rw [hd.out]
      clear h1 h2
      go_wp2_with fail
      go_ret
      exact ⟨rfl, rfl⟩
    · have hd : Hid (q = false) := Lib.hid (by rw [HQ.out]; unfold goodB; exact decide_eq_false fun e => h2 e.1.2)
      go_enter Tryz.func17, Tryz.ntmps17
      go_wp2_with fail
      go_ret
      exact ⟨by rw [hd.out]; first | rfl | simp [h2], rfl⟩
  · have hd : Hid (q = false) := Lib.hid (by rw [HQ.out]; unfold goodB; exact decide_eq_false fun e => h1 e.1.1)
    have h3 : t < 1 := by omega
    go_enter Tryz.func17, Tryz.ntmps17
    go_wp2_with fail
    go_ret
    exact ⟨by rw [hd.out]; first | rfl | simp [h1], rfl⟩

set_option maxHeartbeats 8000000 in
set_option maxRecDepth 100000 in
theorem rmint_any {w : World} {g : Nat} {s : PS} {F : List Nat} (h : RS w g s F) (hz : s.sz < 100000000) (hf : Fit s) {t n : Int} (ht : I64 t) (hn : I64 n) {a b c d : Int} {m : Nat} (hu : UIs a b c d m) :
    Calls Tryz.prog 50 #[.pointer (some ⟨g, 0, none⟩), .int .i64 t, .int .i64 n, .agg #[.int .u64 a, .int .u64 b, .int .u64 c, .int .u64 d]] w (RRet w g F (s.mint t n m) (.int .i64 (mintE s t n m))) := by
  have L := Lib.hid (RLiv.start h); have HZ := Lib.hid hz; have HF := Lib.hid hf; have HT := Lib.hid ht; have HN := Lib.hid hn; have HU := Lib.hid hu
  obtain ⟨gq, hgq⟩ : ∃ q, q = goodB t n := ⟨_, rfl⟩
  have HG := Lib.hid hgq
  clear h hz hf ht hn hu hgq
  go_enter Tryz.func50, Tryz.ntmps50
  go_upto_region 1 with fail
  obtain ⟨w1, hw1⟩ : ∃ w1, w1 = w.alloc (.cells #[.int .u64 a, .int .u64 b, .int .u64 c, .int .u64 d] 33) := ⟨_, rfl⟩
  obtain ⟨BA, hBA⟩ : ∃ x, x = w.heap.size := ⟨_, rfl⟩
  rw [← hw1, ← hBA]
  have HBA : Hid (w1.heap[BA]? = some (.cells #[.int .u64 a, .int .u64 b, .int .u64 c, .int .u64 d] 33 (0, 0))) := Lib.hid (by rw [hw1, hBA]; exact heap_alloc_new _ _)
  have Lm : Hid (RLiv w F w1 g s) := Lib.hid (L.out.later (by rw [hw1]; exact below_new _ _))
  clear hw1 hBA L
  have L := Lm
  clear Lm
  go_wp2_with fail
  refine (rgood_any t n _).mono ?_
  rw [← HG.out]
  rintro e _ ⟨rfl, rfl⟩
  cases gq with
  | false =>
    have HE : Hid (mintE s t n m = 2) := Lib.hid (by unfold mintE; rw [if_pos (.inl HG.out.symm)])
    have HS : Hid (s.mint t n m = s) := Lib.hid (by unfold PS.mint; rw [if_pos (.inl HG.out.symm)])
    go_wp2_with fail
    go_ret
    rw [HE.out, HS.out]; exact L.out.ret
  | true =>
    have cBA0 : w1.cell? ⟨BA, 0, none⟩ = some (.int .u64 a) := Lib.cell_of_heap HBA.out 0
    have cBA1 : w1.cell? ⟨BA, 1, none⟩ = some (.int .u64 b) := Lib.cell_of_heap HBA.out 1
    have cBA2 : w1.cell? ⟨BA, 2, none⟩ = some (.int .u64 c) := Lib.cell_of_heap HBA.out 2
    have cBA3 : w1.cell? ⟨BA, 3, none⟩ = some (.int .u64 d) := Lib.cell_of_heap HBA.out 3
    go_wp2_with fail
    clear cBA0 cBA1 cBA2 cBA3
    refine (rmAmount_any HU.out _).mono ?_
    obtain ⟨q, hq⟩ : ∃ q, q = decide (m < uHalf) := ⟨_, rfl⟩
    rw [← hq]
    have HQ := Lib.hid hq
    clear hq
    rintro e a1 ⟨rfl, hb⟩
    have Lm := Lib.hid (L.out.later hb)
    have HBAm := Lib.hid (below_at' hb HBA.out)
    clear hb L HBA
    have L := Lm
    have HBA := HBAm
    clear Lm HBAm
    cases q with
    | false =>
      have HE : Hid (mintE s t n m = 2) := Lib.hid (by unfold mintE; rw [if_pos (.inr (of_decide_eq_false HQ.out.symm))])
      have HS : Hid (s.mint t n m = s) := Lib.hid (by unfold PS.mint; rw [if_pos (.inr (of_decide_eq_false HQ.out.symm))])
      go_wp2_with fail
      go_ret
      rw [HE.out, HS.out]; exact L.out.ret
    | true =>
      have hno : ¬ (goodB t n = false ∨ ¬ m < uHalf) := fun e => by
        rcases e with e | e
        · rw [e] at HG; have := HG.out; cases this
        · exact e (of_decide_eq_true HQ.out.symm)
      obtain ⟨s1, hs1⟩ : ∃ z, z = s.addA (kSup t) m := ⟨_, rfl⟩
      obtain ⟨e1, he1⟩ : ∃ z, z = addE (getP s.t) (kSup t) m := ⟨_, rfl⟩
      obtain ⟨s2, hs2⟩ : ∃ z, z = s1.addA (kAcc t n) m := ⟨_, rfl⟩
      obtain ⟨e2, he2⟩ : ∃ z, z = addE (getP s1.t) (kAcc t n) m := ⟨_, rfl⟩
      have HE : Hid (mintE s t n m = if e1 ≠ 0 then e1 else e2) := Lib.hid (by unfold mintE; rw [if_neg hno, ← hs1, ← he1, ← he2])
      have HS : Hid (s.mint t n m = if e1 ≠ 0 then s else if e2 ≠ 0 then s2.undo s.past.length else s2) := Lib.hid (by unfold PS.mint; rw [if_neg hno, ← hs1, ← he1, ← he2, ← hs2])
      have HNO : Hid (e1 ≠ 0 → s1 = s) := Lib.hid (fun h => by rw [hs1]; exact addA_no (by rw [← he1]; exact h))
      have HF1 : Hid (Fit s1 ∧ s1.sz ≤ s.sz + 2 ∧ s2.sz ≤ s.sz + 4) := Lib.hid (by
        have a1 := sz_addA s (kSup t) m
        have a2 := sz_addA s1 (kAcc t n) m
        rw [← hs1] at a1
        rw [← hs2] at a2
        exact ⟨by rw [hs1]; exact HF.out.addA _ _, by omega, by omega⟩)
      have HS1 := Lib.hid hs1; have HE1 := Lib.hid he1; have HS2 := Lib.hid hs2; have HE2 := Lib.hid he2
      clear hno HG HQ hs1 he1 hs2 he2
      obtain ⟨F9, h9⟩ := L.out.get
      obtain ⟨vL, vP, h8, _⟩ := h9
      obtain ⟨ad, cap, hvp, _, _⟩ := h8.past.shape
      obtain ⟨np, hnp⟩ : ∃ z, z = s.past.length := ⟨_, rfl⟩
      rw [← hnp] at hvp
      subst hvp
      have HNP := Lib.hid hnp
      have c9 : a1.cell? ⟨g, 1, none⟩ = some (.slice ad np cap) := Lib.cell_of_heap h8.head 1
      clear h8 hnp
      go_wp2_with fail
      clear c9
      obtain ⟨a2, hwz⟩ : ∃ wz, wz = a1.drew := ⟨_, rfl⟩
      have hbz : Below a1.heap.size a1 a2 := by rw [hwz]; exact (Below.refl _ _).drew
      have Lm := Lib.hid (L.out.later hbz)
      have HBAm := Lib.hid (below_at' hbz HBA.out)
      clear hbz L HBA
      have L := Lm
      have HBA := HBAm
      clear Lm HBAm
      have hS : a2.heap[BA]? = some (.cells #[.int .u64 a, .int .u64 b, .int .u64 c, .int .u64 d] 33 (0, 0)) := HBA.out
      refine wp_region_till (fun w' => w'.heap[BA]? = some (.cells #[.int .u64 a, .int .u64 b, .int .u64 c, .int .u64 d] 33 (0, 0))) 6 6 (by kernel_rfl) rfl ?_
      rw [← hwz]
      clear hwz
      refine till_take 0 (some 26) rfl rfl (by kernel_rfl) (by kernel_rfl) (by kernel_rfl) (by kernel_rfl) (by kernel_rfl) (by kernel_rfl) (fun _ _ _ h => h) (.inl ⟨by rfl, fun w' _ => (by go_simp; rfl)⟩) hS ?_
      go_frame
      refine till_take 1 (some 27) rfl rfl (by kernel_rfl) (by kernel_rfl) (by kernel_rfl) (by kernel_rfl) (by kernel_rfl) (by kernel_rfl) (fun _ _ _ h => h) (.inl ⟨by rfl, fun w' _ => (by go_simp; rfl)⟩) hS ?_
      go_frame
      refine till_take 3 (some 29) rfl rfl (by kernel_rfl) (by kernel_rfl) (by kernel_rfl) (by kernel_rfl) (by kernel_rfl) (by kernel_rfl) (fun _ _ _ h => h) (yields_load (by rfl) 33 _ rfl (.pointer (some ⟨BA, 0, none⟩)) rfl (.agg #[.int .u64 a, .int .u64 b, .int .u64 c, .int .u64 d]) (fun w' hS' => load_heap (hS') Tryz.underlying33 rfl Tryz.sizeU)) hS ?_
      go_frame
      refine till_one 2 rfl (by kernel_rfl) fun K hK => ?_
      simp only [List.getElem_toArray, List.getElem_cons_succ, List.getElem_cons_zero]
      rw [if_pos (by rfl)]
      go_simp
      refine (rbSup_any HT.out _).mono ?_
      rintro e a3 ⟨rfl, hb⟩
      have Lm := Lib.hid (L.out.later hb)
      have HBAm := Lib.hid (below_at' hb HBA.out)
      clear hb L HBA
      have L := Lm
      have HBA := HBAm
      clear Lm HBAm
      have hS2 : a3.heap[BA]? = some (.cells #[.int .u64 a, .int .u64 b, .int .u64 c, .int .u64 d] 33 (0, 0)) := HBA.out
      refine hK _ _ (fun _ _ => hS2) ?_
      clear hK hS
      have hS := hS2
      clear hS2
      refine till_one 4 rfl (by kernel_rfl) fun K hK => ?_
      simp only [List.getElem_toArray, List.getElem_cons_succ, List.getElem_cons_zero]
      rw [if_pos (by rfl)]
      go_simp
      refine (L.out.call fun F hs => radd10_any hs (by have := HZ.out; omega) HF.out (kSup t) HU.out).mono ?_
      rw [← HE1.out, ← HS1.out]
      rintro e a4 ⟨rfl, o, hoth⟩
      have Lm := Lib.hid o
      have HBAm := Lib.hid (hoth.2 BA _ HBA.out rfl rfl)
      clear o hoth L HBA
      have L := Lm
      have HBA := HBAm
      clear Lm HBAm
      have hS2 : a4.heap[BA]? = some (.cells #[.int .u64 a, .int .u64 b, .int .u64 c, .int .u64 d] 33 (0, 0)) := HBA.out
      refine hK _ _ (fun _ _ => hS2) ?_
      clear hK hS
      have hS := hS2
      clear hS2
      refine till_take 5 (some 10) rfl rfl (by kernel_rfl) (by kernel_rfl) (by kernel_rfl) (by kernel_rfl) (by kernel_rfl) (by kernel_rfl) (fun _ _ _ h => h) (.inl ⟨by rfl, fun w' _ => (by go_simp; rfl)⟩) hS ?_
      go_frame
      refine till_done (by kernel_rfl) ?_ _
      clear hS
      by_cases hz1 : e1 = 0
      · have hne : (e1 != 0) = false := by simpa using hz1
        have HEV : Hid (mintE s t n m = e2) := Lib.hid (by rw [HE.out, if_neg (fun e => e hz1)])
        have HSV : Hid (s.mint t n m = if e2 ≠ 0 then s2.undo np else s2) := Lib.hid (by rw [HS.out, if_neg (fun e => e hz1), HNP.out])
        subst hz1
        clear HE HS HNO
        go_wp2_with fail
        clear hne
        obtain ⟨a5, hwz⟩ : ∃ wz, wz = a4.drew := ⟨_, rfl⟩
        have hbz : Below a4.heap.size a4 a5 := by rw [hwz]; exact (Below.refl _ _).drew
        have Lm := Lib.hid (L.out.later hbz)
        have HBAm := Lib.hid (below_at' hbz HBA.out)
        clear hbz L HBA
        have L := Lm
        have HBA := HBAm
        clear Lm HBAm
        have hS : a5.heap[BA]? = some (.cells #[.int .u64 a, .int .u64 b, .int .u64 c, .int .u64 d] 33 (0, 0)) := HBA.out
        refine wp_region_till (fun w' => w'.heap[BA]? = some (.cells #[.int .u64 a, .int .u64 b, .int .u64 c, .int .u64 d] 33 (0, 0))) 7 7 (by kernel_rfl) rfl ?_
        rw [← hwz]
        clear hwz
        refine till_take 0 (some 34) rfl rfl (by kernel_rfl) (by kernel_rfl) (by kernel_rfl) (by kernel_rfl) (by kernel_rfl) (by kernel_rfl) (fun _ _ _ h => h) (.inl ⟨by rfl, fun w' _ => (by go_simp; rfl)⟩) hS ?_
        go_frame
        refine till_take 1 (some 35) rfl rfl (by kernel_rfl) (by kernel_rfl) (by kernel_rfl) (by kernel_rfl) (by kernel_rfl) (by kernel_rfl) (fun _ _ _ h => h) (.inl ⟨by rfl, fun w' _ => (by go_simp; rfl)⟩) hS ?_
        go_frame
        refine till_take 2 (some 36) rfl rfl (by kernel_rfl) (by kernel_rfl) (by kernel_rfl) (by kernel_rfl) (by kernel_rfl) (by kernel_rfl) (fun _ _ _ h => h) (.inl ⟨by rfl, fun w' _ => (by go_simp; rfl)⟩) hS ?_
        go_frame
        refine till_take 4 (some 38) rfl rfl (by kernel_rfl) (by kernel_rfl) (by kernel_rfl) (by kernel_rfl) (by kernel_rfl) (by kernel_rfl) (fun _ _ _ h => h) (yields_load (by rfl) 33 _ rfl (.pointer (some ⟨BA, 0, none⟩)) rfl (.agg #[.int .u64 a, .int .u64 b, .int .u64 c, .int .u64 d]) (fun w' hS' => load_heap (hS') Tryz.underlying33 rfl Tryz.sizeU)) hS ?_
        go_frame
        refine till_one 3 rfl (by kernel_rfl) fun K hK => ?_
        simp only [List.getElem_toArray, List.getElem_cons_succ, List.getElem_cons_zero]
        rw [if_pos (by rfl)]
        go_simp
        refine (rbAcc_any HT.out HN.out _).mono ?_
        rintro e a6 ⟨rfl, hb⟩
        have Lm := Lib.hid (L.out.later hb)
        have HBAm := Lib.hid (below_at' hb HBA.out)
        clear hb L HBA
        have L := Lm
        have HBA := HBAm
        clear Lm HBAm
        have hS2 : a6.heap[BA]? = some (.cells #[.int .u64 a, .int .u64 b, .int .u64 c, .int .u64 d] 33 (0, 0)) := HBA.out
        refine hK _ _ (fun _ _ => hS2) ?_
        clear hK hS
        have hS := hS2
        clear hS2
        refine till_one 5 rfl (by kernel_rfl) fun K hK => ?_
        simp only [List.getElem_toArray, List.getElem_cons_succ, List.getElem_cons_zero]
        rw [if_pos (by rfl)]
        go_simp
        refine (L.out.call fun F hs => radd10_any hs (by have := HZ.out; have := HF1.out.2.1; omega) HF1.out.1 (kAcc t n) HU.out).mono ?_
        rw [← HE2.out, ← HS2.out]
        rintro e a7 ⟨rfl, o, hoth⟩
        have Lm := Lib.hid o
        have HBAm := Lib.hid (hoth.2 BA _ HBA.out rfl rfl)
        clear o hoth L HBA
        have L := Lm
        have HBA := HBAm
        clear Lm HBAm
        have hS2 : a7.heap[BA]? = some (.cells #[.int .u64 a, .int .u64 b, .int .u64 c, .int .u64 d] 33 (0, 0)) := HBA.out
        refine hK _ _ (fun _ _ => hS2) ?_
        clear hK hS
        have hS := hS2
        clear hS2
        refine till_take 6 (some 11) rfl rfl (by kernel_rfl) (by kernel_rfl) (by kernel_rfl) (by kernel_rfl) (by kernel_rfl) (by kernel_rfl) (fun _ _ _ h => h) (.inl ⟨by rfl, fun w' _ => (by go_simp; rfl)⟩) hS ?_
        go_frame
        refine till_done (by kernel_rfl) ?_ _
        clear hS
        by_cases hz2 : e2 = 0
        · have hne : (e2 != 0) = false := by simpa using hz2
          have HEW : Hid (mintE s t n m = 0) := Lib.hid (by rw [HEV.out, hz2])
          have HSW : Hid (s.mint t n m = s2) := Lib.hid (by rw [HSV.out, if_neg (fun e => e hz2)])
          subst hz2
          go_wp2_with fail
          go_ret
          rw [HEW.out, HSW.out]; exact L.out.ret
        · have hne : (e2 != 0) = true := by simpa using hz2
          have hne' : (e2 == 0) = false := by simpa using hz2
          have HSW : Hid (s.mint t n m = s2.undo np) := Lib.hid (by rw [HSV.out, if_pos hz2])
          clear hz2
          go_wp2_with fail
          refine (L.out.call fun F hs => rundo_any hs (by have := HZ.out; have h7 := HF1.out.2.2; unfold PS.sz at h7 this; omega) (np : Int)).mono ?_
          rintro e a8 ⟨rfl, o, hoth⟩
          have Lm := Lib.hid o
          have HBAm := Lib.hid (hoth.2 BA _ HBA.out rfl rfl)
          clear o hoth L HBA
          have L := Lm
          have HBA := HBAm
          clear Lm HBAm
          go_wp2_with fail
          go_ret
          rw [HEV.out, HSW.out]; exact L.out.ret
      · have hne : (e1 != 0) = true := by simpa using hz1
        have hne' : (e1 == 0) = false := by simpa using hz1
        have HEV : Hid (mintE s t n m = e1) := Lib.hid (by rw [HE.out, if_pos hz1])
        have HSV : Hid (s.mint t n m = s1) := Lib.hid (by rw [HS.out, if_pos hz1, HNO.out hz1])
        clear hz1
        go_wp2_with fail
        go_ret
        rw [HEV.out, HSV.out]; exact L.out.ret

set_option maxHeartbeats 8000000 in
set_option maxRecDepth 100000 in
theorem rpay_any {w : World} {g : Nat} {s : PS} {F : List Nat} (h : RS w g s F) (hz : s.sz < 100000000) (hf : Fit s) {t x y : Int} (ht : I64 t) (hx : I64 x) (hy : I64 y) {a b c d : Int} {m : Nat} (hu : UIs a b c d m) :
    Calls Tryz.prog 51 #[.pointer (some ⟨g, 0, none⟩), .int .i64 t, .int .i64 x, .int .i64 y, .agg #[.int .u64 a, .int .u64 b, .int .u64 c, .int .u64 d]] w (RRet w g F (s.pay t x y m) (.int .i64 (payE s t x y m))) := by
  have L := Lib.hid (RLiv.start h); have HZ := Lib.hid hz; have HF := Lib.hid hf; have HT := Lib.hid ht; have HX := Lib.hid hx; have HY := Lib.hid hy; have HU := Lib.hid hu
  obtain ⟨g1, hg1⟩ : ∃ q, q = goodB t x := ⟨_, rfl⟩
  obtain ⟨g2, hg2⟩ : ∃ q, q = goodB t y := ⟨_, rfl⟩
  have HG := Lib.hid (And.intro hg1 hg2)
  clear h hz hf ht hx hy hu hg1 hg2
  go_enter Tryz.func51, Tryz.ntmps51
  go_upto_region 1 with fail
  obtain ⟨w1, hw1⟩ : ∃ w1, w1 = w.alloc (.cells #[.int .u64 a, .int .u64 b, .int .u64 c, .int .u64 d] 33) := ⟨_, rfl⟩
  obtain ⟨BA, hBA⟩ : ∃ x, x = w.heap.size := ⟨_, rfl⟩
  rw [← hw1, ← hBA]
  have HBA : Hid (w1.heap[BA]? = some (.cells #[.int .u64 a, .int .u64 b, .int .u64 c, .int .u64 d] 33 (0, 0))) := Lib.hid (by rw [hw1, hBA]; exact heap_alloc_new _ _)
  have Lm : Hid (RLiv w F w1 g s) := Lib.hid (L.out.later (by rw [hw1]; exact below_new _ _))
  clear hw1 hBA L
  have L := Lm
  clear Lm
  go_wp2_with fail
  refine (rgood_any t x _).mono ?_
  rw [← HG.out.1]
  rintro e _ ⟨rfl, rfl⟩
  cases g1 with
  | false =>
    have HE : Hid (payE s t x y m = 2) := Lib.hid (by unfold payE; rw [if_pos (.inl HG.out.1.symm)])
    have HS : Hid (s.pay t x y m = s) := Lib.hid (by unfold PS.pay; rw [if_pos (.inl HG.out.1.symm)])
    go_wp2_with fail
    go_ret
    rw [HE.out, HS.out]; exact L.out.ret
  | true =>
    go_wp2_with fail
    refine (rgood_any t y _).mono ?_
    rw [← HG.out.2]
    rintro e _ ⟨rfl, rfl⟩
    cases g2 with
    | false =>
      have HE : Hid (payE s t x y m = 2) := Lib.hid (by unfold payE; rw [if_pos (.inr HG.out.2.symm)])
      have HS : Hid (s.pay t x y m = s) := Lib.hid (by unfold PS.pay; rw [if_pos (.inr HG.out.2.symm)])
      go_wp2_with fail
      go_ret
      rw [HE.out, HS.out]; exact L.out.ret
    | true =>
      have hno : ¬ (goodB t x = false ∨ goodB t y = false) := fun e => by
        rcases e with e | e
        · have := HG.out.1; rw [e] at this; cases this
        · have := HG.out.2; rw [e] at this; cases this
      have HE : Hid (payE s t x y m = moveE (getP s.t) (kAcc t x) (kAcc t y) m) := Lib.hid (by unfold payE; rw [if_neg hno])
      have HS : Hid (s.pay t x y m = s.moveA (kAcc t x) (kAcc t y) m) := Lib.hid (by unfold PS.pay; rw [if_neg hno])
      clear hno HG
      go_wp2_with fail
      obtain ⟨a1, hwz⟩ : ∃ wz, wz = w1.drew := ⟨_, rfl⟩
      have hbz : Below w1.heap.size w1 a1 := by rw [hwz]; exact (Below.refl _ _).drew
      have Lm := Lib.hid (L.out.later hbz)
      have HBAm := Lib.hid (below_at' hbz HBA.out)
      clear hbz L HBA
      have L := Lm
      have HBA := HBAm
      clear Lm HBAm
      have hS : a1.heap[BA]? = some (.cells #[.int .u64 a, .int .u64 b, .int .u64 c, .int .u64 d] 33 (0, 0)) := HBA.out
      refine wp_region_till (fun w' => w'.heap[BA]? = some (.cells #[.int .u64 a, .int .u64 b, .int .u64 c, .int .u64 d] 33 (0, 0))) 10 10 (by kernel_rfl) rfl ?_
      rw [← hwz]
      clear hwz
      refine till_take 0 (some 21) rfl rfl (by kernel_rfl) (by kernel_rfl) (by kernel_rfl) (by kernel_rfl) (by kernel_rfl) (by kernel_rfl) (fun _ _ _ h => h) (.inl ⟨by rfl, fun w' _ => (by go_simp; rfl)⟩) hS ?_
      go_frame
      refine till_take 1 (some 22) rfl rfl (by kernel_rfl) (by kernel_rfl) (by kernel_rfl) (by kernel_rfl) (by kernel_rfl) (by kernel_rfl) (fun _ _ _ h => h) (.inl ⟨by rfl, fun w' _ => (by go_simp; rfl)⟩) hS ?_
      go_frame
      refine till_take 2 (some 23) rfl rfl (by kernel_rfl) (by kernel_rfl) (by kernel_rfl) (by kernel_rfl) (by kernel_rfl) (by kernel_rfl) (fun _ _ _ h => h) (.inl ⟨by rfl, fun w' _ => (by go_simp; rfl)⟩) hS ?_
      go_frame
      refine till_take 4 (some 25) rfl rfl (by kernel_rfl) (by kernel_rfl) (by kernel_rfl) (by kernel_rfl) (by kernel_rfl) (by kernel_rfl) (fun _ _ _ h => h) (.inl ⟨by rfl, fun w' _ => (by go_simp; rfl)⟩) hS ?_
      go_frame
      refine till_take 5 (some 26) rfl rfl (by kernel_rfl) (by kernel_rfl) (by kernel_rfl) (by kernel_rfl) (by kernel_rfl) (by kernel_rfl) (fun _ _ _ h => h) (.inl ⟨by rfl, fun w' _ => (by go_simp; rfl)⟩) hS ?_
      go_frame
      refine till_take 7 (some 28) rfl rfl (by kernel_rfl) (by kernel_rfl) (by kernel_rfl) (by kernel_rfl) (by kernel_rfl) (by kernel_rfl) (fun _ _ _ h => h) (yields_load (by rfl) 33 _ rfl (.pointer (some ⟨BA, 0, none⟩)) rfl (.agg #[.int .u64 a, .int .u64 b, .int .u64 c, .int .u64 d]) (fun w' hS' => load_heap (hS') Tryz.underlying33 rfl Tryz.sizeU)) hS ?_
      go_frame
      refine till_one 3 rfl (by kernel_rfl) fun K hK => ?_
      simp only [List.getElem_toArray, List.getElem_cons_succ, List.getElem_cons_zero]
      rw [if_pos (by rfl)]
      go_simp
      refine (rbAcc_any HT.out HX.out _).mono ?_
      rintro e a2 ⟨rfl, hb⟩
      have Lm := Lib.hid (L.out.later hb)
      have HBAm := Lib.hid (below_at' hb HBA.out)
      clear hb L HBA
      have L := Lm
      have HBA := HBAm
      clear Lm HBAm
      have hS2 : a2.heap[BA]? = some (.cells #[.int .u64 a, .int .u64 b, .int .u64 c, .int .u64 d] 33 (0, 0)) := HBA.out
      refine hK _ _ (fun _ _ => hS2) ?_
      clear hK hS
      have hS := hS2
      clear hS2
      refine till_one 6 rfl (by kernel_rfl) fun K hK => ?_
      simp only [List.getElem_toArray, List.getElem_cons_succ, List.getElem_cons_zero]
      rw [if_pos (by rfl)]
      go_simp
      refine (rbAcc_any HT.out HY.out _).mono ?_
      rintro e a3 ⟨rfl, hb⟩
      have Lm := Lib.hid (L.out.later hb)
      have HBAm := Lib.hid (below_at' hb HBA.out)
      clear hb L HBA
      have L := Lm
      have HBA := HBAm
      clear Lm HBAm
      have hS2 : a3.heap[BA]? = some (.cells #[.int .u64 a, .int .u64 b, .int .u64 c, .int .u64 d] 33 (0, 0)) := HBA.out
      refine hK _ _ (fun _ _ => hS2) ?_
      clear hK hS
      have hS := hS2
      clear hS2
      refine till_one 8 rfl (by kernel_rfl) fun K hK => ?_
      simp only [List.getElem_toArray, List.getElem_cons_succ, List.getElem_cons_zero]
      rw [if_pos (by rfl)]
      go_simp
      refine (L.out.call fun F hs => rmove10_any hs (by have := HZ.out; omega) HF.out (kAcc t x) (kAcc t y) HU.out).mono ?_
      rintro e a4 ⟨rfl, o, hoth⟩
      have Lm := Lib.hid o
      have HBAm := Lib.hid (hoth.2 BA _ HBA.out rfl rfl)
      clear o hoth L HBA
      have L := Lm
      have HBA := HBAm
      clear Lm HBAm
      have hS2 : a4.heap[BA]? = some (.cells #[.int .u64 a, .int .u64 b, .int .u64 c, .int .u64 d] 33 (0, 0)) := HBA.out
      refine hK _ _ (fun _ _ => hS2) ?_
      clear hK hS
      have hS := hS2
      clear hS2
      refine till_take 9 (some 10) rfl rfl (by kernel_rfl) (by kernel_rfl) (by kernel_rfl) (by kernel_rfl) (by kernel_rfl) (by kernel_rfl) (fun _ _ _ h => h) (.inl ⟨by rfl, fun w' _ => (by go_simp; rfl)⟩) hS ?_
      go_frame
      refine till_done (by kernel_rfl) ?_ _
      clear hS
      go_wp2_with fail
      go_ret
      rw [HE.out, HS.out]; exact L.out.ret

set_option maxHeartbeats 8000000 in
set_option maxRecDepth 100000 in
theorem rbalance_any {w : World} {g : Nat} {s : PS} {F : List Nat} (h : RS w g s F) (hz : s.sz < 100000000) (hf : Fit s) {t n : Int} (ht : I64 t) (hn : I64 n) :
    Calls Tryz.prog 13 #[.pointer (some ⟨g, 0, none⟩), .int .i64 t, .int .i64 n] w (URet w (amtV (getP s.t) (kAcc t n))) := by
  have H := Lib.hid h; have HZ := Lib.hid hz; have HF := Lib.hid hf; have HT := Lib.hid ht; have HN := Lib.hid hn
  obtain ⟨v, hv⟩ : ∃ v, v = amtV (getP s.t) (kAcc t n) := ⟨_, rfl⟩
  rw [← hv]
  have HV := Lib.hid hv
  clear h hz hf ht hn hv
  have HB : Hid (Below w.heap.size w w) := Lib.hid (Below.refl _ _)
  go_enter Tryz.func13, Tryz.ntmps13
  go_wp2_with (refine wpList_alloc_g rfl _ rfl _ _ Tryz.zeroUz rfl ?_)
  intro R a1 hR
  have WR : Hid (w.heap.size ≤ R) := Lib.hid (by rw [hR.out.eq]; exact (HB.out).size)
  have HRz := Lib.hid hR.out.cells; have hbR := hR.out.below
  clear hR
  have HBm := Lib.hid (HB.out.trans (hbR.mono HB.out.size))
  clear hbR HB
  have HB := HBm
  clear HBm
  have HR := HRz
  clear HRz
  go_wp2_with fail
  refine (rbAcc_any HT.out HN.out _).mono ?_
  rintro e a2 ⟨rfl, hb⟩
  have HBm := Lib.hid (HB.out.trans (hb.mono HB.out.size))
  have HRm := Lib.hid (below_at' hb HR.out)
  clear hb HB HR
  have HB := HBm
  have HR := HRm
  clear HBm HRm
  go_wp2_with fail
  refine (ramount_any (H.out.later HB.out) (by have := HZ.out; omega) HF.out (kAcc t n)).mono ?_
  rw [← HV.out]
  rintro e a3 ⟨ya, yb, yc, yd, hu1, rfl, hb⟩
  have HYU := Lib.hid hu1
  clear hu1
  have HBm := Lib.hid (HB.out.trans (hb.mono HB.out.size))
  have HRm := Lib.hid (below_at' hb HR.out)
  clear hb HB HR
  have HB := HBm
  have HR := HRm
  clear HBm HRm
  go_wp2_with (refine wpList_store_row_g (t := 33) (old := u0) rfl 33 _ _ rfl R #[.int .u64 ya, .int .u64 yb, .int .u64 yc, .int .u64 yd] rfl rfl HR.out Tryz.sizeU rfl (one_u64 _ _ _ _) ?_)
  intro a4 hxR kR zR
  clear zR
  have HBm := Lib.hid (HB.out.trans (kR.below (B := w.heap.size) (fun y hy e => by have := WR.out; omega) HB.out.size))
  have HRm := Lib.hid hxR
  clear hxR kR HB HR
  have HB := HBm
  have HR := HRm
  clear HBm HRm
  go_wp2_with fail
  exact bodyPost_ret (results_cell_row rfl _ _ _ _ _ _ _ rfl HR.out Tryz.underlying33 rfl Tryz.sizeU) rfl ⟨_, _, _, _, HYU.out, rfl, HB.out⟩

theorem idx4_any (t : Int) (i : Nat) (h : i < 4) : ∃ tb : Int, (1 ≤ tb ∧ tb ≤ 255) ∧ (∃ hl : i < (begs t).length, (begs t)[i] = keyF tb [t]) ∧ ∀ w, (Instr.index 95 (.agg #[.int .i64 1, .int .i64 3, .int .i64 4, .int .i64 6]) (.int .i64 (i : Int))).run Tryz.prog w = .ok (.int .i64 tb) w := by
  rcases (show i = 0 ∨ i = 1 ∨ i = 2 ∨ i = 3 by omega) with rfl | rfl | rfl | rfl
  · exact ⟨1, by decide, ⟨by simp [begs], rfl⟩, fun w => by kernel_rfl⟩
  · exact ⟨3, by decide, ⟨by simp [begs], rfl⟩, fun w => by kernel_rfl⟩
  · exact ⟨4, by decide, ⟨by simp [begs], rfl⟩, fun w => by kernel_rfl⟩
  · exact ⟨6, by decide, ⟨by simp [begs], rfl⟩, fun w => by kernel_rfl⟩
/-- What the document's store tells of the pairs under a beginning. -/
def RUndB (w : World) (g : Nat) (Tb : Txt → Tab) : Prop := ∀ W, Below w.heap.size w W → ∀ b, Calls Tryz.prog 61 #[.pointer (some ⟨g, 0, none⟩), .string (bs b)] W (CloneRet W 100 pairE 2 (Tb b))
theorem RUndB.rs {w : World} {g : Nat} {s : PS} {F : List Nat} (h : RS w g s F) (htl : s.t.length < 1099511627776) : RUndB w g (underP s.t) := fun _ hW b => runder_any (h.later hW) htl b
theorem RUndB.later {w w' : World} {g : Nat} {Tb : Txt → Tab} (h : RUndB w g Tb) (hb : Below w.heap.size w w') : RUndB w' g Tb := fun W hW b => h W (hb.trans (hW.mono hb.size)) b

set_option maxHeartbeats 16000000 in
set_option maxRecDepth 100000 in
theorem rtotal_any {w : World} {g : Nat} {Tb : Txt → Tab} (hU : RUndB w g Tb) (hT : ∀ b, (Tb b).length < 1099511627776) (hs : ∀ b, ∀ p ∈ Tb b, p.2.length ≤ 1000000) {t : Int} (ht : I64 t) :
    Calls Tryz.prog 15 #[.pointer (some ⟨g, 0, none⟩), .int .i64 t] w (UOk w (totF Tb t) (totB Tb t)) := by
  have HU := Lib.hid hU; have HT := Lib.hid hT; have HSV := Lib.hid hs; have HTT := Lib.hid ht
  obtain ⟨qq, hqq⟩ : ∃ q, q = totB Tb t := ⟨_, rfl⟩
  obtain ⟨tot, htot⟩ : ∃ q, q = totF Tb t := ⟨_, rfl⟩
  have HQQ : Hid (qq = decide ((1 ≤ t ∧ t ≤ 1000) ∧ tot < uMax)) := Lib.hid (by rw [hqq, htot]; rfl)
  rw [← hqq, ← htot]
  have HTOT : Hid (tot = totT Tb (begs t)) := Lib.hid htot
  clear hU hT hs ht hqq htot
  have HB : Hid (Below w.heap.size w w) := Lib.hid (Below.refl _ _)
  go_enter Tryz.func15, Tryz.ntmps15
  go_wp2_with (refine wpList_alloc_g rfl _ rfl _ _ Tryz.zeroUz rfl ?_)
  intro A a1 hA
  have WA : Hid (w.heap.size ≤ A) := Lib.hid (by rw [hA.out.eq]; exact (HB.out).size)
  have HAz := Lib.hid hA.out.cells; have hbA := hA.out.below
  clear hA
  have HBm := Lib.hid (HB.out.trans (hbA.mono HB.out.size))
  clear hbA HB
  have HB := HBm
  clear HBm
  have HA := HAz
  clear HAz
  go_wp2_with (refine wpList_alloc_g rfl _ rfl _ _ Tryz.zeroUz rfl ?_)
  intro S a2 hS
  have WS : Hid (w.heap.size ≤ S) := Lib.hid (by rw [hS.out.eq]; exact (HB.out).size)
  have NAS : Hid (A ≠ S) := Lib.hid (by have := hS.out.eq; have := heap_lt HA.out; omega)
  have HSz := Lib.hid hS.out.cells; have hbS := hS.out.below
  clear hS
  have HBm := Lib.hid (HB.out.trans (hbS.mono HB.out.size))
  have HAm := Lib.hid (below_at' hbS HA.out)
  clear hbS HB HA
  have HB := HBm
  have HA := HAm
  clear HBm HAm
  have HS := HSz
  clear HSz
  go_wp2_with (refine wpList_store_row_g (t := 33) (old := u0) rfl 33 _ _ rfl S u0 rfl rfl HS.out Tryz.sizeU rfl (one_u64 _ _ _ _) ?_)
  intro a3 hxS kS zS
  clear zS
  have HBm := Lib.hid (HB.out.trans (kS.below (B := w.heap.size) (fun y hy e => by have := WS.out; omega) HB.out.size))
  have HAm := Lib.hid (kS.at HA.out NAS.out)
  have HSm := Lib.hid hxS
  clear hxS kS HB HA HS
  have HB := HBm
  have HA := HAm
  have HS := HSm
  clear HBm HAm HSm
  by_cases t1 : 1 ≤ t
  · by_cases t2 : t ≤ 1000
    · have HRNG : Hid (1 ≤ t ∧ t ≤ 1000) := Lib.hid ⟨t1, t2⟩
      go_wp2_with fail
      clear t1 t2
      go_loopw [27] (fun vi wr => ∃ i : Nat, vi = .int .i64 i ∧ i ≤ 4 ∧ Hid (∃ a b c d, UIs a b c d (totT Tb ((begs t).take i)) ∧ wr.heap[S]? = some (.cells #[.int .u64 a, .int .u64 b, .int .u64 c, .int .u64 d] 33 (0, 0))) ∧ Hid (wr.heap[A]? = some (.cells u0 33 (0, 0))) ∧ Hid (Below w.heap.size w wr)) (fun vi _ => 4 - (intOf vi).toNat)
      case atStart => exact ⟨0, rfl, by omega, Lib.hid ⟨0, 0, 0, 0, UIs.zero, HS.out⟩, HA, HB⟩
      case round =>
        clear HS HA HB
        obtain ⟨i, rfl, hi, HSX, HA, HB⟩ := hrel
        by_cases hlt : i < 4
        · obtain ⟨tb, htb, ⟨hib, hbk⟩, hix⟩ := idx4_any t i hlt
          have hle := totT_le (Tb := Tb) hib
          have htk := totT_take (Tb := Tb) hib
          obtain ⟨b, hb0⟩ : ∃ b, b = (begs t)[i] := ⟨_, rfl⟩
          have HBK : Hid (keyF tb [t] = b) := Lib.hid (by rw [hb0, hbk])
          rw [← hb0] at hle htk
          have HLE := Lib.hid hle; have HTK := Lib.hid htk; have HLT := Lib.hid hlt; have HTBB := Lib.hid htb
          clear hle htk hb0 hib hbk htb
          go_wp2_with fail
          clear hix
          obtain ⟨wb, hwb⟩ : ∃ wb, wb = World.alloc wr (.cells #[.int .i64 t] 3) := ⟨_, rfl⟩
          obtain ⟨gi, hgi⟩ : ∃ gi, gi = (World.heap wr).size := ⟨_, rfl⟩
          rw [← hwb, ← hgi]
          have HOI : Hid (Own wb 0 3 intE 1 (.slice (some ⟨gi, 0, none⟩) 1 1) [t]) := Lib.hid (own_lit (l := [t]) (by rw [hwb, hgi]; exact heap_alloc_new _ _) (Nat.zero_le _) (by unfold maxLen; simp))
          have hb : Below (World.heap wr).size wr wb := by rw [hwb]; exact below_new _ _
          have HAm := Lib.hid (below_at' hb HA.out); have HBm := Lib.hid (HB.out.trans (hb.mono HB.out.size))
          have HSXm : Hid (∃ a b c d, UIs a b c d (totT Tb ((begs t).take i)) ∧ wb.heap[S]? = some (.cells #[.int .u64 a, .int .u64 b, .int .u64 c, .int .u64 d] 33 (0, 0))) := Lib.hid (by obtain ⟨a, b, c, d, h1, h2⟩ := HSX.out; exact ⟨a, b, c, d, h1, below_at' hb h2⟩)
          clear hwb hgi hb HA HB HSX
          refine (refKey_any tb [t] _ _ (by simp) (I64s.one HTT.out) (HOI.out.rd fun _ => rfl)).mono ?_
          rintro e wc ⟨rfl, hb⟩
          rw [HBK.out]
          have HA := Lib.hid (below_at' hb HAm.out); have HB := Lib.hid (HBm.out.trans (hb.mono HBm.out.size))
          have HSX : Hid (∃ a b c d, UIs a b c d (totT Tb ((begs t).take i)) ∧ wc.heap[S]? = some (.cells #[.int .u64 a, .int .u64 b, .int .u64 c, .int .u64 d] 33 (0, 0))) := Lib.hid (by obtain ⟨a, b, c, d, h1, h2⟩ := HSXm.out; exact ⟨a, b, c, d, h1, below_at' hb h2⟩)
          clear hb HAm HBm HSXm HOI
          go_wp2_with fail
          refine (HU.out _ HB.out b).mono ?_
          rintro e w5 ⟨v, rfl, hl, hb, hown⟩
          obtain ⟨ad, cap, rfl, z1, z2⟩ := hl.shape
          have hTb := HT.out b
          have hSS := HSV.out b
          obtain ⟨TT, hTT⟩ : ∃ q, q = Tb b := ⟨_, rfl⟩
          rw [← hTT] at hl z1 hTb hSS HLE HTK ⊢
          obtain ⟨N, hN⟩ : ∃ N, N = TT.length := ⟨_, rfl⟩
          rw [← hN] at hl z1 hTb ⊢
          have HLO := Lib.hid hl; have HNN := Lib.hid hN; have HSS := Lib.hid hSS
          obtain ⟨sa, sb, sc, sd, hsu, hsh⟩ := HSX.out
          have HOWN : Hid (∀ k, (Value.slice ad N cap).ownBlock = some k → k ≠ S ∧ k ≠ A) := Lib.hid (fun k e => by
            have h9 := hown k (by rw [← hTT, ← hN]; exact e)
            have := heap_lt hsh; have := heap_lt HA.out
            omega)
          obtain ⟨base, hbase⟩ : ∃ q, q = totT Tb ((begs t).take i) := ⟨_, rfl⟩
          rw [← hbase] at HLE HTK hsu
          have HSm : Hid (∃ a b c d, UIs a b c d (base + sumL (TT.take 0)) ∧ w5.heap[S]? = some (.cells #[.int .u64 a, .int .u64 b, .int .u64 c, .int .u64 d] 33 (0, 0))) := Lib.hid ⟨sa, sb, sc, sd, hsu, below_at' hb hsh⟩
          have HAm := Lib.hid (below_at' hb HA.out)
          have HBm := Lib.hid (HB.out.trans (hb.mono HB.out.size))
          clear hb hl hN hTT hown hsu hsh hbase hSS HSX HA HB
          go_wp2_with fail
          go_loopw [37] (fun vi wr => ∃ j : Nat, vi = .int .i64 j ∧ j ≤ N ∧ Hid (∃ a b c d, UIs a b c d (base + sumL (TT.take j)) ∧ wr.heap[S]? = some (.cells #[.int .u64 a, .int .u64 b, .int .u64 c, .int .u64 d] 33 (0, 0))) ∧ Hid (wr.heap[A]? = some (.cells u0 33 (0, 0))) ∧ Hid (LO wr 100 pairE 2 (.slice ad N cap) TT) ∧ Hid (Below w.heap.size w wr)) (fun vi _ => N - (intOf vi).toNat)
          case atStart => exact ⟨0, rfl, Nat.zero_le _, HSm, HAm, HLO, HBm⟩
          case round =>
            clear HSm HAm HLO HBm
            obtain ⟨j, rfl, hjn, HSX, HA, HLO, HB⟩ := hrel
            by_cases hjl : j < N
            · have hjt : j < TT.length := by rw [← HNN.out]; exact hjl
              obtain ⟨gL, rfl, hgL, q0, q1⟩ := LO.pair HLO.out j hjt
              have hss := HSS.out _ (List.getElem_mem hjt)
              have hst := sumL_take hjt
              have hstl := sumL_take_le TT (j + 1)
              obtain ⟨⟨kk, vv⟩, hp⟩ : ∃ p, p = TT[j] := ⟨_, rfl⟩
              rw [← hp] at q0 q1 hss hst
              have hst : sumL (TT.take (j + 1)) = sumL (TT.take j) + amtF vv := hst
              have q0' : wr.cell? ⟨gL, j * 2, none⟩ = some (.string (bs kk)) := q0
              have q1' : wr.cell? ⟨gL, j * 2 + 1, none⟩ = some (.string (bs vv)) := q1
              have HVL : Hid (vv.length ≤ 1000000) := Lib.hid hss
              obtain ⟨sa, sb, sc, sd, hsu, hsh⟩ := HSX.out
              obtain ⟨cur, hcur⟩ : ∃ q, q = base + sumL (TT.take j) := ⟨_, rfl⟩
              rw [← hcur] at hsu
              have HSU := Lib.hid hsu; have HS := Lib.hid hsh
              have HNX : Hid (base + sumL (TT.take (j + 1)) = cur + amtF vv) := Lib.hid (by rw [hst, hcur]; omega)
              have HCT : Hid (cur + amtF vv ≤ tot) := Lib.hid (by have h8 := HLE.out; have h9 := HTOT.out; rw [hst] at hstl; rw [hcur]; omega)
              have HJL := Lib.hid hjl
              clear q0 q1 hss hst hstl hp hgL hjt hjl hsu hsh hcur HSX
              go_wp2_with (refine wpList_alloc_g rfl _ rfl _ _ Tryz.zeroPairE rfl ?_)
              intro P d1 hP
              go_wp2_with (refine wpList_store_row_g (t := 100) (old := #[.string (bs []), .string (bs [])]) rfl 100 _ _ rfl P #[.string (bs kk), .string (bs vv)] rfl rfl hP.out.cells Tryz.sizePair rfl (one_strB _ _) ?_)
              intro d2 hxP kP zP
              clear zP
              have hbP : Below wr.heap.size wr d2 := hP.out.below.trans (kP.below (B := wr.heap.size) (fun x hx e => by have := hP.out.eq; omega) hP.out.below.size)
              have WP : Hid (w.heap.size ≤ P) := Lib.hid (by rw [hP.out.eq]; exact (HB.out).size)
              have NAP : Hid (A ≠ P) := Lib.hid (by have := hP.out.eq; have := heap_lt HA.out; omega)
              have NSP : Hid (S ≠ P) := Lib.hid (by have := hP.out.eq; have := heap_lt HS.out; omega)
              have HPz := Lib.hid hxP
              clear hP hxP kP
              have HBm := Lib.hid (HB.out.trans (hbP.mono HB.out.size))
              have HAm := Lib.hid (below_at' hbP HA.out)
              have HSm := Lib.hid (below_at' hbP HS.out)
              have HLOm := Lib.hid (HLO.out.later hbP)
              clear hbP HB HA HS HLO
              have HB := HBm
              have HA := HAm
              have HS := HSm
              have HLO := HLOm
              clear HBm HAm HSm HLOm
              have HP := HPz
              clear HPz
              clear q0' q1'
              have c0 : d2.cell? ⟨P, 1, none⟩ = some (.string (bs vv)) := Lib.cell_of_heap HP.out 1
              go_wp2_with fail
              clear c0
              clear HP
              refine (rtoAmt_any vv _ (by have := HVL.out; omega)).mono ?_
              rintro e d3 ⟨xa, xb, xc, xd, hxu, rfl, hb⟩
              have HXU := Lib.hid hxu
              clear hxu
              have HBm := Lib.hid (HB.out.trans (hb.mono HB.out.size))
              have HAm := Lib.hid (below_at' hb HA.out)
              have HSm := Lib.hid (below_at' hb HS.out)
              have HLOm := Lib.hid (HLO.out.later hb)
              clear hb HB HA HS HLO
              have HB := HBm
              have HA := HAm
              have HS := HSm
              have HLO := HLOm
              clear HBm HAm HSm HLOm
              go_wp2_with (refine wpList_alloc_g rfl _ rfl _ _ Tryz.zeroUz rfl ?_)
              intro V d4 hV
              go_wp2_with (refine wpList_store_row_g (t := 33) (old := u0) rfl 33 _ _ rfl V #[.int .u64 xa, .int .u64 xb, .int .u64 xc, .int .u64 xd] rfl rfl hV.out.cells Tryz.sizeU rfl (one_u64 _ _ _ _) ?_)
              intro d5 hxV kV zV
              clear zV
              have hbV : Below d3.heap.size d3 d5 := hV.out.below.trans (kV.below (B := d3.heap.size) (fun x hx e => by have := hV.out.eq; omega) hV.out.below.size)
              have WV : Hid (w.heap.size ≤ V) := Lib.hid (by rw [hV.out.eq]; exact (HB.out).size)
              have NAV : Hid (A ≠ V) := Lib.hid (by have := hV.out.eq; have := heap_lt HA.out; omega)
              have NSV : Hid (S ≠ V) := Lib.hid (by have := hV.out.eq; have := heap_lt HS.out; omega)
              have HVz := Lib.hid hxV
              clear hV hxV kV
              have HBm := Lib.hid (HB.out.trans (hbV.mono HB.out.size))
              have HAm := Lib.hid (below_at' hbV HA.out)
              have HSm := Lib.hid (below_at' hbV HS.out)
              have HLOm := Lib.hid (HLO.out.later hbV)
              clear hbV HB HA HS HLO
              have HB := HBm
              have HA := HAm
              have HS := HSm
              have HLO := HLOm
              clear HBm HAm HSm HLOm
              have HV := HVz
              clear HVz
              go_wp2_with (first
                | (refine wpList_load_row rfl 33 _ rfl S rfl 33 _ _ _ HS.out Tryz.underlying33 rfl Tryz.sizeU ?_)
                | (refine wpList_load_row rfl 33 _ rfl V rfl 33 _ _ _ HV.out Tryz.underlying33 rfl Tryz.sizeU ?_))
              obtain ⟨q, hq⟩ : ∃ q, q = decide (cur + amtF vv < uMax) := ⟨_, rfl⟩
              refine (radd_any HSU.out HXU.out _).mono ?_
              rw [← hq]
              rintro e d6 ⟨ya, yb, yc, yd, hyu, rfl, hb⟩
              have HYU := Lib.hid hyu
              have HQ := Lib.hid hq
              clear hyu hq
              have HBm := Lib.hid (HB.out.trans (hb.mono HB.out.size))
              have HAm := Lib.hid (below_at' hb HA.out)
              have HSm := Lib.hid (below_at' hb HS.out)
              have HLOm := Lib.hid (HLO.out.later hb)
              have HVm := Lib.hid (below_at' hb HV.out)
              clear hb HB HA HS HLO HV
              have HB := HBm
              have HA := HAm
              have HS := HSm
              have HLO := HLOm
              have HV := HVm
              clear HBm HAm HSm HLOm HVm
              go_wp2_with (refine wpList_alloc_g rfl _ rfl _ _ Tryz.zeroUz rfl ?_)
              intro Z d7 hZ
              go_wp2_with (refine wpList_store_row_g (t := 33) (old := u0) rfl 33 _ _ rfl Z #[.int .u64 ya, .int .u64 yb, .int .u64 yc, .int .u64 yd] rfl rfl hZ.out.cells Tryz.sizeU rfl (one_u64 _ _ _ _) ?_)
              intro d8 hxZ kZ zZ
              clear zZ
              have hbZ : Below d6.heap.size d6 d8 := hZ.out.below.trans (kZ.below (B := d6.heap.size) (fun x hx e => by have := hZ.out.eq; omega) hZ.out.below.size)
              have WZ : Hid (w.heap.size ≤ Z) := Lib.hid (by rw [hZ.out.eq]; exact (HB.out).size)
              have NAZ : Hid (A ≠ Z) := Lib.hid (by have := hZ.out.eq; have := heap_lt HA.out; omega)
              have NSZ : Hid (S ≠ Z) := Lib.hid (by have := hZ.out.eq; have := heap_lt HS.out; omega)
              have NVZ : Hid (V ≠ Z) := Lib.hid (by have := hZ.out.eq; have := heap_lt HV.out; omega)
              have HZz := Lib.hid hxZ
              clear hZ hxZ kZ
              have HBm := Lib.hid (HB.out.trans (hbZ.mono HB.out.size))
              have HAm := Lib.hid (below_at' hbZ HA.out)
              have HSm := Lib.hid (below_at' hbZ HS.out)
              have HLOm := Lib.hid (HLO.out.later hbZ)
              have HVm := Lib.hid (below_at' hbZ HV.out)
              clear hbZ HB HA HS HLO HV
              have HB := HBm
              have HA := HAm
              have HS := HSm
              have HLO := HLOm
              have HV := HVm
              clear HBm HAm HSm HLOm HVm
              have HZ := HZz
              clear HZz
              cases q with
              | false =>
                clear HLO
                have HOK : Hid (qq = false) := Lib.hid (by rw [HQQ.out]; exact decide_eq_false fun e2 => of_decide_eq_false HQ.out.symm (by have := HCT.out; have := e2.2; omega))
                clear HYU HQ
                go_wp2_with (refine wpList_store_row_g (t := 33) (old := u0) rfl 33 _ _ rfl A u0 rfl rfl HA.out Tryz.sizeU rfl (one_u64 _ _ _ _) ?_)
                intro d9 hxA kA zA
                clear zA
                have HBm := Lib.hid (HB.out.trans (kA.below (B := w.heap.size) (fun y hy e => by have := WA.out; omega) HB.out.size))
                have HSm := Lib.hid (kA.at HS.out (fun e => NAS.out e.symm))
                have HVm := Lib.hid (kA.at HV.out (fun e => NAV.out e.symm))
                have HZm := Lib.hid (kA.at HZ.out (fun e => NAZ.out e.symm))
                have HAm := Lib.hid hxA
                clear hxA kA HB HA HS HV HZ
                have HB := HBm
                have HA := HAm
                have HS := HSm
                have HV := HVm
                have HZ := HZm
                clear HBm HAm HSm HVm HZm
                go_wp2_with fail
                exact bodyPost_ret (res_row_val rfl _ _ A _ u0 _ _ rfl HA.out Tryz.underlying33 rfl Tryz.sizeU _ rfl) rfl ⟨0, 0, 0, 0, by rw [HOK.out]; exact UIs.zero, by rw [HOK.out]; rfl, HB.out⟩
              | true =>
                have hy9 := HYU.out
                first | rw [if_pos trivial] at hy9 | rw [if_pos rfl] at hy9
                have HY := Lib.hid hy9
                clear hy9 HYU HQ
                go_wp2_with (first
                  | (refine wpList_load_row rfl 33 _ rfl Z rfl 33 _ _ _ HZ.out Tryz.underlying33 rfl Tryz.sizeU ?_)
                  | (refine wpList_store_row_g (t := 33) (old := #[.int .u64 sa, .int .u64 sb, .int .u64 sc, .int .u64 sd]) rfl 33 _ _ rfl S #[.int .u64 ya, .int .u64 yb, .int .u64 yc, .int .u64 yd] rfl rfl HS.out Tryz.sizeU rfl (one_u64 _ _ _ _) ?_))
                intro d9 hxS kS zS
                clear zS
                have HBm := Lib.hid (HB.out.trans (kS.below (B := w.heap.size) (fun y hy e => by have := WS.out; omega) HB.out.size))
                have HAm := Lib.hid (kS.at HA.out NAS.out)
                have HLOm := Lib.hid (HLO.out.keep kS (fun k e h9 => (HOWN.out k e).1 h9))
                have HVm := Lib.hid (kS.at HV.out (fun e => NSV.out e.symm))
                have HZm := Lib.hid (kS.at HZ.out (fun e => NSZ.out e.symm))
                have HSm := Lib.hid hxS
                clear hxS kS HB HA HS HLO HV HZ
                have HB := HBm
                have HA := HAm
                have HS := HSm
                have HLO := HLOm
                have HV := HVm
                have HZ := HZm
                clear HBm HAm HSm HLOm HVm HZm
                go_wp2_with fail
                go_roundw
                case rel => exact ⟨j + 1, by go_num, by have := HJL.out; omega, Lib.hid ⟨ya, yb, yc, yd, by rw [HNX.out]; exact HY.out, HS.out⟩, HA, HLO, HB⟩
                case measure => have := HJL.out; simp only [intOf]; omega
            · obtain rfl : j = N := by omega
              obtain ⟨sa, sb, sc, sd, hsu, hsh⟩ := HSX.out
              have HSF : Hid (UIs sa sb sc sd (totT Tb ((begs t).take (i + 1))) ∧ wr.heap[S]? = some (.cells #[.int .u64 sa, .int .u64 sb, .int .u64 sc, .int .u64 sd] 33 (0, 0))) := Lib.hid ⟨by rw [HTK.out]; rw [HNN.out, List.take_of_length_le (Nat.le_refl _)] at hsu; exact hsu, hsh⟩
              clear hsu hsh HSX HLO
              go_wp2_with fail
              go_roundw
              case rel => exact ⟨i + 1, by go_num, by omega, Lib.hid ⟨sa, sb, sc, sd, HSF.out.1, HSF.out.2⟩, HA, HB⟩
              case measure => simp only [intOf]; omega
        · obtain rfl : i = 4 := by omega
          obtain ⟨sa, sb, sc, sd, hsu, hsh⟩ := HSX.out
          rw [List.take_of_length_le (by simp [begs]), ← HTOT.out] at hsu
          have HSU := Lib.hid hsu; have HS := Lib.hid hsh
          have HOK : Hid (tot < uMax) := Lib.hid hsu.lt
          clear hsu hsh HSX
          go_wp2_with (first
            | (refine wpList_load_row rfl 33 _ rfl S rfl 33 _ _ _ HS.out Tryz.underlying33 rfl Tryz.sizeU ?_)
            | (refine wpList_store_row_g (t := 33) (old := u0) rfl 33 _ _ rfl A #[.int .u64 sa, .int .u64 sb, .int .u64 sc, .int .u64 sd] rfl rfl HA.out Tryz.sizeU rfl (one_u64 _ _ _ _) ?_))
          intro d1 hxA kA zA
          clear zA
          have HBm := Lib.hid (HB.out.trans (kA.below (B := w.heap.size) (fun y hy e => by have := WA.out; omega) HB.out.size))
          have HSm := Lib.hid (kA.at HS.out (fun e => NAS.out e.symm))
          have HAm := Lib.hid hxA
          clear hxA kA HB HA HS
          have HB := HBm
          have HA := HAm
          have HS := HSm
          clear HBm HAm HSm
          go_wp2_with fail
          exact bodyPost_ret (res_row_val rfl _ _ A _ _ _ _ rfl HA.out Tryz.underlying33 rfl Tryz.sizeU _ rfl) rfl ⟨_, _, _, _, by rw [show qq = true by rw [HQQ.out]; exact decide_eq_true ⟨HRNG.out, HOK.out⟩]; exact HSU.out, by rw [show qq = true by rw [HQQ.out]; exact decide_eq_true ⟨HRNG.out, HOK.out⟩]; rfl, HB.out⟩
    · have HOF : Hid (qq = false) := Lib.hid (by rw [HQQ.out]; exact decide_eq_false fun e => t2 e.1.2)
      go_wp2_with (first
        | (refine wpList_load_row rfl 33 _ rfl S rfl 33 _ _ _ HS.out Tryz.underlying33 rfl Tryz.sizeU ?_)
        | (refine wpList_store_row_g (t := 33) (old := u0) rfl 33 _ _ rfl A u0 rfl rfl HA.out Tryz.sizeU rfl (one_u64 _ _ _ _) ?_))
      intro a4 hxA kA zA
      clear zA
      have HBm := Lib.hid (HB.out.trans (kA.below (B := w.heap.size) (fun y hy e => by have := WA.out; omega) HB.out.size))
      have HSm := Lib.hid (kA.at HS.out (fun e => NAS.out e.symm))
      have HAm := Lib.hid hxA
      clear hxA kA HB HA HS
      have HB := HBm
      have HA := HAm
      have HS := HSm
      clear HBm HAm HSm
      go_wp2_with fail
      exact bodyPost_ret (res_row_val rfl _ _ A _ u0 _ _ rfl HA.out Tryz.underlying33 rfl Tryz.sizeU _ rfl) rfl ⟨0, 0, 0, 0, by rw [HOF.out]; exact UIs.zero, by rw [HOF.out]; rfl, HB.out⟩
  · have t3 : t < 1 := by omega
    have HOF : Hid (qq = false) := Lib.hid (by rw [HQQ.out]; exact decide_eq_false fun e => t1 e.1.1)
    go_wp2_with (first
      | (refine wpList_load_row rfl 33 _ rfl S rfl 33 _ _ _ HS.out Tryz.underlying33 rfl Tryz.sizeU ?_)
      | (refine wpList_store_row_g (t := 33) (old := u0) rfl 33 _ _ rfl A u0 rfl rfl HA.out Tryz.sizeU rfl (one_u64 _ _ _ _) ?_))
    intro a4 hxA kA zA
    clear zA
    have HBm := Lib.hid (HB.out.trans (kA.below (B := w.heap.size) (fun y hy e => by have := WA.out; omega) HB.out.size))
    have HSm := Lib.hid (kA.at HS.out (fun e => NAS.out e.symm))
    have HAm := Lib.hid hxA
    clear hxA kA HB HA HS
    have HB := HBm
    have HA := HAm
    have HS := HSm
    clear HBm HAm HSm
    go_wp2_with fail
    exact bodyPost_ret (res_row_val rfl _ _ A _ u0 _ _ rfl HA.out Tryz.underlying33 rfl Tryz.sizeU _ rfl) rfl ⟨0, 0, 0, 0, by rw [HOF.out]; exact UIs.zero, by rw [HOF.out]; rfl, HB.out⟩
end Go.Proofs.YthnjakomkdlglaaGreat
