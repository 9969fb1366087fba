/- Law 10: acts on a store that no call made, beside the reference's; CellNone. No condition. -/
import Derived.Test.YtnoocidoblndgaaGreatCelQ
import Derived.Test.YtnoocidoblndgaaGreatCelS
import Derived.Deep.Cut
namespace Go.Proofs.YtnoocidoblndgaaGreat
open Go.RowKit

set_option maxHeartbeats 4000000 in
set_option maxRecDepth 100000 in
theorem own10_any (n : Int) (w : World) : Calls Tryz.prog 46 #[.int .i64 n] w (Ret w (.string (bs (ckey n)))) := by
  by_cases h0 : n < 0
  · have hk : bs (ckey n) = ByteArray.mk #[] := by unfold ckey; rw [if_pos (.inl h0)]; rfl
    have HK := Lib.hid hk
    clear hk
    go_enter Tryz.func46, Tryz.ntmps46
    go_wp2_with fail
    go_ret
    refine ⟨?_, Below.refl _ _⟩
    rw [HK.out]
    rfl
  by_cases h9 : 9 < n
  · have hk : bs (ckey n) = ByteArray.mk #[] := by unfold ckey; rw [if_pos (.inr h9)]; rfl
    have HK := Lib.hid hk
    clear hk
    go_enter Tryz.func46, Tryz.ntmps46
    go_wp2_with fail
    go_ret
    refine ⟨?_, Below.refl _ _⟩
    rw [HK.out]
    rfl
  have HB : Hid (0 ≤ n ∧ n ≤ 9) := Lib.hid (by omega)
  go_enter Tryz.func46, Tryz.ntmps46
  go_wp2_with fail
  obtain ⟨w1, hwl⟩ : ∃ w2, w2 = w.alloc (.cells #[.int .i64 n] 3) := ⟨_, rfl⟩
  obtain ⟨gi, hgi⟩ : ∃ gi, gi = w.heap.size := ⟨_, rfl⟩
  rw [← hwl, ← hgi]
  have hbl : Below w.heap.size w w1 := by rw [hwl]; exact below_new _ _
  have HOI : Hid (Own w1 0 3 intE 1 (.slice (some ⟨gi, 0, none⟩) 1 1) [n]) := Lib.hid (own_lit (l := [n]) (by rw [hwl, hgi]; exact heap_alloc_new _ _) (Nat.zero_le _) (by unfold maxLen; simp))
  have HBL := Lib.hid hbl
  clear hwl hgi hbl h0 h9
  refine (refKey_any 200 [n] _ _ (by simp) (I64s.one (by have := HB.out; omega)) (own_rd HOI.out)).mono ?_
  rw [← ckey_good HB.out.1 HB.out.2]
  rintro e w2 ⟨rfl, hb⟩
  have HBF := Lib.hid (HBL.out.trans (hb.mono HBL.out.size))
  clear hb
  go_wp2_with fail
  go_ret
  exact ⟨rfl, HBF.out⟩

/-- The reference's store alone, whose blocks are new since w0. -/
def ROne (w0 w : World) (g : Nat) (s : PS) : Prop := ∃ F, RS w g s F ∧ (∀ x ∈ F, w0.heap.size ≤ x) ∧ Below w0.heap.size w0 w
theorem ROne.below {w0 w : World} {g : Nat} {s : PS} (t : ROne w0 w g s) : Below w0.heap.size w0 w := by obtain ⟨F, h1, h2, h3⟩ := t; exact h3
theorem ROne.later {w0 w w' : World} {g : Nat} {s : PS} (t : ROne w0 w g s) (hk : Below w.heap.size w w') : ROne w0 w' g s := by
  obtain ⟨F, h1, h2, h3⟩ := t
  exact ⟨F, h1.later hk, h2, h3.trans (hk.mono h3.size)⟩
theorem ROne.rs {P : Program} {f : FuncId} {args : Array Value} {w0 w : World} {g : Nat} {s s' : PS} {v : Value} (t : ROne w0 w g s) (hc : ∀ F, RS w g s F → Calls P f args w (RRet w g F s' v)) :
    Calls P f args w (fun e w' => e = .returned v ∧ ROne w0 w' g s' ∧ Oth w w') := by
  obtain ⟨F, h1, h2, h3⟩ := t
  refine (hc F h1).mono ?_
  rintro e w' ⟨he, F', q1, q2, q3⟩
  refine ⟨he, ⟨F', q1, fun x hx => ?_, h3.trans (q2.below (B := w0.heap.size) (fun q hq e => by have := h2 q e; omega) h3.size)⟩, Oth.of_rs h1 q2⟩
  rcases q3 x hx with h | h
  · exact h2 x h
  · exact Nat.le_trans h3.size h
/-- What an act says here. -/
def ActN (w0 : World) (e : Ending) (w' : World) : Prop := ∃ b : Bool, e = .returned (.bool b) ∧ Below w0.heap.size w0 w'

set_option maxHeartbeats 16000000 in
set_option maxRecDepth 100000 in
theorem act10_not {w0 w : World} {x : Option Addr} (hN : NotMade w0 x) {h : Nat} (hR : ROne w0 w h PS.new) {a : Act10} (hg : Good10 w a) (hl : a.l.length ≤ 20) :
    Calls Tryz.prog 10 #[.pointer x, .pointer (some ⟨h, 0, none⟩), .agg #[.int .i64 a.kd, .int .i64 a.k, .int .i64 a.q, .int .i64 a.n, .int .u64 (uw0 a.m), .int .u64 (uw1 a.m), .int .u64 (uw2 a.m), .int .u64 (uw3 a.m), .slice a.ld a.l.length a.lc]] w (ActN w0) := by
  have NN := Lib.hid hN; have O := Lib.hid hR; have HGX := Lib.hid hg; have HL := Lib.hid hl
  clear hN hR hg hl
  go_enter Tryz.func10, Tryz.ntmps10
  go_upto_region 1 with fail
  obtain ⟨w1, hw1⟩ : ∃ wq, wq = w.alloc (.cells #[.int .i64 a.kd, .int .i64 a.k, .int .i64 a.q, .int .i64 a.n, .int .u64 (uw0 a.m), .int .u64 (uw1 a.m), .int .u64 (uw2 a.m), .int .u64 (uw3 a.m), .slice a.ld a.l.length a.lc] 27) := ⟨_, rfl⟩
  obtain ⟨R, hR⟩ : ∃ x, x = w.heap.size := ⟨_, rfl⟩
  rw [← hw1, ← hR]
  have HR : Hid (w1.heap[R]? = some (.cells #[.int .i64 a.kd, .int .i64 a.k, .int .i64 a.q, .int .i64 a.n, .int .u64 (uw0 a.m), .int .u64 (uw1 a.m), .int .u64 (uw2 a.m), .int .u64 (uw3 a.m), .slice a.ld a.l.length a.lc] 27 (0, 0))) := Lib.hid (by rw [hw1, hR]; exact heap_alloc_new _ _)
  have hb : Below w.heap.size w w1 := by rw [hw1]; exact below_new _ _
  have Om := Lib.hid (O.out.later hb); have Gm := Lib.hid (HGX.out.later hb)
  clear hb hw1 hR O HGX
  have O := Om
  have HGX := Gm
  clear Om Gm
  by_cases e0 : a.kd = 0
  · have c0 : w1.cell? ⟨R, 0, none⟩ = some (.int .i64 0) := by rw [← e0]; exact Lib.cell_of_heap HR.out 0
    clear e0
    go_wp2_with fail
    clear c0
    obtain ⟨d1, hwz⟩ : ∃ wz, wz = w1.drew := ⟨_, rfl⟩
    have hbz : Below w1.heap.size w1 d1 := by rw [hwz]; exact (Below.refl _ _).drew
    have Om := Lib.hid (O.out.later hbz)
    have HGXm := Lib.hid (HGX.out.later hbz)
    have HRm := Lib.hid (below_at' hbz HR.out)
    clear hbz O HGX HR
    have O := Om
    have HGX := HGXm
    have HR := HRm
    clear Om HGXm HRm
    have hS : d1.heap[R]? = some (.cells #[.int .i64 a.kd, .int .i64 a.k, .int .i64 a.q, .int .i64 a.n, .int .u64 (uw0 a.m), .int .u64 (uw1 a.m), .int .u64 (uw2 a.m), .int .u64 (uw3 a.m), .slice a.ld a.l.length a.lc] 27 (0, 0)) := HR.out
    refine wp_region_till (fun w' => w'.heap[R]? = some (.cells #[.int .i64 a.kd, .int .i64 a.k, .int .i64 a.q, .int .i64 a.n, .int .u64 (uw0 a.m), .int .u64 (uw1 a.m), .int .u64 (uw2 a.m), .int .u64 (uw3 a.m), .slice a.ld a.l.length a.lc] 27 (0, 0))) 7 7 (by kernel_rfl) rfl ?_
    rw [← hwz]
    clear hwz
    refine till_take 0 (some 11) rfl rfl (by kernel_rfl) (by kernel_rfl) (by kernel_rfl) (by kernel_rfl) (by kernel_rfl) (by kernel_rfl) (fun _ _ _ h => h) (.inl ⟨by rfl, fun w' _ => (by go_simp; rfl)⟩) hS ?_
    go_frame
    refine till_take 1 (some 12) rfl rfl (by kernel_rfl) (by kernel_rfl) (by kernel_rfl) (by kernel_rfl) (by kernel_rfl) (by kernel_rfl) (fun _ _ _ h => h) (.inl ⟨by rfl, fun w' _ => (by go_simp; rfl)⟩) hS ?_
    go_frame
    refine till_take 2 (some 13) rfl rfl (by kernel_rfl) (by kernel_rfl) (by kernel_rfl) (by kernel_rfl) (by kernel_rfl) (by kernel_rfl) (fun _ _ _ h => h) (.inl ⟨by rfl, fun w' hS' => (by have hc : w'.cell? ⟨R, 1, none⟩ = some (.int .i64 a.k) := Lib.cell_of_heap (hS') 1; go_simp; rfl)⟩) hS ?_
    go_frame
    refine till_take 4 (some 15) rfl rfl (by kernel_rfl) (by kernel_rfl) (by kernel_rfl) (by kernel_rfl) (by kernel_rfl) (by kernel_rfl) (fun _ _ _ h => h) (.inl ⟨by rfl, fun w' _ => (by go_simp; rfl)⟩) hS ?_
    go_frame
    refine till_take 5 (some 16) rfl rfl (by kernel_rfl) (by kernel_rfl) (by kernel_rfl) (by kernel_rfl) (by kernel_rfl) (by kernel_rfl) (fun _ _ _ h => h) (.inl ⟨by rfl, fun w' hS' => (by have hc : w'.cell? ⟨R, 3, none⟩ = some (.int .i64 a.n) := Lib.cell_of_heap (hS') 3; go_simp; rfl)⟩) hS ?_
    go_frame
    refine till_one 3 rfl (by kernel_rfl) fun K hK => ?_
    simp only [List.getElem_toArray, List.getElem_cons_succ, List.getElem_cons_zero]
    rw [if_pos (by rfl)]
    go_simp
    refine (ckey_any a.k _).mono ?_
    rintro e d2 ⟨rfl, hb⟩
    have Om := Lib.hid (O.out.later hb)
    have HGXm := Lib.hid (HGX.out.later hb)
    have HRm := Lib.hid (below_at' hb HR.out)
    clear hb O HGX HR
    have O := Om
    have HGX := HGXm
    have HR := HRm
    clear Om HGXm HRm
    have hS2 : d2.heap[R]? = some (.cells #[.int .i64 a.kd, .int .i64 a.k, .int .i64 a.q, .int .i64 a.n, .int .u64 (uw0 a.m), .int .u64 (uw1 a.m), .int .u64 (uw2 a.m), .int .u64 (uw3 a.m), .slice a.ld a.l.length a.lc] 27 (0, 0)) := HR.out
    refine hK _ _ (fun _ _ => hS2) ?_
    clear hK hS
    have hS := hS2
    clear hS2
    refine till_one 6 rfl (by kernel_rfl) fun K hK => ?_
    simp only [List.getElem_toArray, List.getElem_cons_succ, List.getElem_cons_zero]
    rw [if_pos (by rfl)]
    go_simp
    refine (setInt_not (NN.out.later O.out.below) (ckey a.k) a.n HGX.out.b_n.2).mono ?_
    rintro e d3 ⟨rfl, hb⟩
    have Om := Lib.hid (O.out.later hb)
    have HGXm := Lib.hid (HGX.out.later hb)
    have HRm := Lib.hid (below_at' hb HR.out)
    clear hb O HGX HR
    have O := Om
    have HGX := HGXm
    have HR := HRm
    clear Om HGXm HRm
    have hS2 : d3.heap[R]? = some (.cells #[.int .i64 a.kd, .int .i64 a.k, .int .i64 a.q, .int .i64 a.n, .int .u64 (uw0 a.m), .int .u64 (uw1 a.m), .int .u64 (uw2 a.m), .int .u64 (uw3 a.m), .slice a.ld a.l.length a.lc] 27 (0, 0)) := HR.out
    refine hK _ _ (fun _ _ => hS2) ?_
    clear hK hS
    have hS := hS2
    clear hS2
    refine till_done (by kernel_rfl) ?_ _
    clear hS
    go_wp2_with fail
    obtain ⟨d4, hwz⟩ : ∃ wz, wz = d3.drew := ⟨_, rfl⟩
    have hbz : Below d3.heap.size d3 d4 := by rw [hwz]; exact (Below.refl _ _).drew
    have Om := Lib.hid (O.out.later hbz)
    have HGXm := Lib.hid (HGX.out.later hbz)
    have HRm := Lib.hid (below_at' hbz HR.out)
    clear hbz O HGX HR
    have O := Om
    have HGX := HGXm
    have HR := HRm
    clear Om HGXm HRm
    have hS : d4.heap[R]? = some (.cells #[.int .i64 a.kd, .int .i64 a.k, .int .i64 a.q, .int .i64 a.n, .int .u64 (uw0 a.m), .int .u64 (uw1 a.m), .int .u64 (uw2 a.m), .int .u64 (uw3 a.m), .slice a.ld a.l.length a.lc] 27 (0, 0)) := HR.out
    refine wp_region_till (fun w' => w'.heap[R]? = some (.cells #[.int .i64 a.kd, .int .i64 a.k, .int .i64 a.q, .int .i64 a.n, .int .u64 (uw0 a.m), .int .u64 (uw1 a.m), .int .u64 (uw2 a.m), .int .u64 (uw3 a.m), .slice a.ld a.l.length a.lc] 27 (0, 0))) 7 7 (by kernel_rfl) rfl ?_
    rw [← hwz]
    clear hwz
    refine till_take 0 (some 18) rfl rfl (by kernel_rfl) (by kernel_rfl) (by kernel_rfl) (by kernel_rfl) (by kernel_rfl) (by kernel_rfl) (fun _ _ _ h => h) (.inl ⟨by rfl, fun w' _ => (by go_simp; rfl)⟩) hS ?_
    go_frame
    refine till_take 1 (some 19) rfl rfl (by kernel_rfl) (by kernel_rfl) (by kernel_rfl) (by kernel_rfl) (by kernel_rfl) (by kernel_rfl) (fun _ _ _ h => h) (.inl ⟨by rfl, fun w' _ => (by go_simp; rfl)⟩) hS ?_
    go_frame
    refine till_take 2 (some 20) rfl rfl (by kernel_rfl) (by kernel_rfl) (by kernel_rfl) (by kernel_rfl) (by kernel_rfl) (by kernel_rfl) (fun _ _ _ h => h) (.inl ⟨by rfl, fun w' hS' => (by have hc : w'.cell? ⟨R, 1, none⟩ = some (.int .i64 a.k) := Lib.cell_of_heap (hS') 1; go_simp; rfl)⟩) hS ?_
    go_frame
    refine till_take 4 (some 22) rfl rfl (by kernel_rfl) (by kernel_rfl) (by kernel_rfl) (by kernel_rfl) (by kernel_rfl) (by kernel_rfl) (fun _ _ _ h => h) (.inl ⟨by rfl, fun w' _ => (by go_simp; rfl)⟩) hS ?_
    go_frame
    refine till_take 5 (some 23) rfl rfl (by kernel_rfl) (by kernel_rfl) (by kernel_rfl) (by kernel_rfl) (by kernel_rfl) (by kernel_rfl) (fun _ _ _ h => h) (.inl ⟨by rfl, fun w' hS' => (by have hc : w'.cell? ⟨R, 3, none⟩ = some (.int .i64 a.n) := Lib.cell_of_heap (hS') 3; go_simp; rfl)⟩) hS ?_
    go_frame
    refine till_one 3 rfl (by kernel_rfl) fun K hK => ?_
    simp only [List.getElem_toArray, List.getElem_cons_succ, List.getElem_cons_zero]
    rw [if_pos (by rfl)]
    go_simp
    refine (own10_any a.k _).mono ?_
    rintro e d5 ⟨rfl, hb⟩
    have Om := Lib.hid (O.out.later hb)
    have HGXm := Lib.hid (HGX.out.later hb)
    have HRm := Lib.hid (below_at' hb HR.out)
    clear hb O HGX HR
    have O := Om
    have HGX := HGXm
    have HR := HRm
    clear Om HGXm HRm
    have hS2 : d5.heap[R]? = some (.cells #[.int .i64 a.kd, .int .i64 a.k, .int .i64 a.q, .int .i64 a.n, .int .u64 (uw0 a.m), .int .u64 (uw1 a.m), .int .u64 (uw2 a.m), .int .u64 (uw3 a.m), .slice a.ld a.l.length a.lc] 27 (0, 0)) := HR.out
    refine hK _ _ (fun _ _ => hS2) ?_
    clear hK hS
    have hS := hS2
    clear hS2
    refine till_one 6 rfl (by kernel_rfl) fun K hK => ?_
    simp only [List.getElem_toArray, List.getElem_cons_succ, List.getElem_cons_zero]
    rw [if_pos (by rfl)]
    go_simp
    refine (O.out.rs fun F hs => rsetInt_any hs (by decide) (ckey a.k) a.n HGX.out.b_n.2).mono ?_
    rintro e d6 ⟨rfl, o, hoth⟩
    have Om := Lib.hid o
    have HRm := Lib.hid (hoth.2 R _ HR.out rfl rfl)
    clear o hoth O HR
    have O := Om
    have HR := HRm
    clear Om HRm
    have hS2 : d6.heap[R]? = some (.cells #[.int .i64 a.kd, .int .i64 a.k, .int .i64 a.q, .int .i64 a.n, .int .u64 (uw0 a.m), .int .u64 (uw1 a.m), .int .u64 (uw2 a.m), .int .u64 (uw3 a.m), .slice a.ld a.l.length a.lc] 27 (0, 0)) := HR.out
    refine hK _ _ (fun _ _ => hS2) ?_
    clear hK hS
    have hS := hS2
    clear hS2
    refine till_done (by kernel_rfl) ?_ _
    clear hS
    go_wp2_with fail
    go_ret
    exact ⟨_, rfl, O.out.below⟩
  have f0 : (a.kd == 0) = false := by simpa using e0
  clear e0
  by_cases e1 : a.kd = 1
  · have c0 : w1.cell? ⟨R, 0, none⟩ = some (.int .i64 1) := by rw [← e1]; exact Lib.cell_of_heap HR.out 0
    clear e1
    go_wp2_with fail
    clear c0
    obtain ⟨d1, hwz⟩ : ∃ wz, wz = w1.drew := ⟨_, rfl⟩
    have hbz : Below w1.heap.size w1 d1 := by rw [hwz]; exact (Below.refl _ _).drew
    have Om := Lib.hid (O.out.later hbz)
    have HGXm := Lib.hid (HGX.out.later hbz)
    have HRm := Lib.hid (below_at' hbz HR.out)
    clear hbz O HGX HR
    have O := Om
    have HGX := HGXm
    have HR := HRm
    clear Om HGXm HRm
    have hS : d1.heap[R]? = some (.cells #[.int .i64 a.kd, .int .i64 a.k, .int .i64 a.q, .int .i64 a.n, .int .u64 (uw0 a.m), .int .u64 (uw1 a.m), .int .u64 (uw2 a.m), .int .u64 (uw3 a.m), .slice a.ld a.l.length a.lc] 27 (0, 0)) := HR.out
    refine wp_region_till (fun w' => w'.heap[R]? = some (.cells #[.int .i64 a.kd, .int .i64 a.k, .int .i64 a.q, .int .i64 a.n, .int .u64 (uw0 a.m), .int .u64 (uw1 a.m), .int .u64 (uw2 a.m), .int .u64 (uw3 a.m), .slice a.ld a.l.length a.lc] 27 (0, 0))) 7 7 (by kernel_rfl) rfl ?_
    rw [← hwz]
    clear hwz
    refine till_take 0 (some 27) rfl rfl (by kernel_rfl) (by kernel_rfl) (by kernel_rfl) (by kernel_rfl) (by kernel_rfl) (by kernel_rfl) (fun _ _ _ h => h) (.inl ⟨by rfl, fun w' _ => (by go_simp; rfl)⟩) hS ?_
    go_frame
    refine till_take 1 (some 28) rfl rfl (by kernel_rfl) (by kernel_rfl) (by kernel_rfl) (by kernel_rfl) (by kernel_rfl) (by kernel_rfl) (fun _ _ _ h => h) (.inl ⟨by rfl, fun w' _ => (by go_simp; rfl)⟩) hS ?_
    go_frame
    refine till_take 2 (some 29) rfl rfl (by kernel_rfl) (by kernel_rfl) (by kernel_rfl) (by kernel_rfl) (by kernel_rfl) (by kernel_rfl) (fun _ _ _ h => h) (.inl ⟨by rfl, fun w' hS' => (by have hc : w'.cell? ⟨R, 1, none⟩ = some (.int .i64 a.k) := Lib.cell_of_heap (hS') 1; go_simp; rfl)⟩) hS ?_
    go_frame
    refine till_take 4 (some 31) rfl rfl (by kernel_rfl) (by kernel_rfl) (by kernel_rfl) (by kernel_rfl) (by kernel_rfl) (by kernel_rfl) (fun _ _ _ h => h) (.inl ⟨by rfl, fun w' _ => (by go_simp; rfl)⟩) hS ?_
    go_frame
    refine till_take 5 (some 32) rfl rfl (by kernel_rfl) (by kernel_rfl) (by kernel_rfl) (by kernel_rfl) (by kernel_rfl) (by kernel_rfl) (fun _ _ _ h => h) (yields_load (by rfl) 24 _ rfl (.pointer (some ⟨R, 4, none⟩)) rfl (.agg #[.int .u64 (uw0 a.m), .int .u64 (uw1 a.m), .int .u64 (uw2 a.m), .int .u64 (uw3 a.m)]) (fun w' hS' => run_loadAt_mid w' R 4 24 [.int .u64 (uw0 a.m), .int .u64 (uw1 a.m), .int .u64 (uw2 a.m), .int .u64 (uw3 a.m)] _ (range_of_heap (hS') 4 _ rfl) Tryz.underlying24 rfl Tryz.sizeU)) hS ?_
    go_frame
    refine till_one 3 rfl (by kernel_rfl) fun K hK => ?_
    simp only [List.getElem_toArray, List.getElem_cons_succ, List.getElem_cons_zero]
    rw [if_pos (by rfl)]
    go_simp
    refine (ckey_any a.k _).mono ?_
    rintro e d2 ⟨rfl, hb⟩
    have Om := Lib.hid (O.out.later hb)
    have HGXm := Lib.hid (HGX.out.later hb)
    have HRm := Lib.hid (below_at' hb HR.out)
    clear hb O HGX HR
    have O := Om
    have HGX := HGXm
    have HR := HRm
    clear Om HGXm HRm
    have hS2 : d2.heap[R]? = some (.cells #[.int .i64 a.kd, .int .i64 a.k, .int .i64 a.q, .int .i64 a.n, .int .u64 (uw0 a.m), .int .u64 (uw1 a.m), .int .u64 (uw2 a.m), .int .u64 (uw3 a.m), .slice a.ld a.l.length a.lc] 27 (0, 0)) := HR.out
    refine hK _ _ (fun _ _ => hS2) ?_
    clear hK hS
    have hS := hS2
    clear hS2
    refine till_one 6 rfl (by kernel_rfl) fun K hK => ?_
    simp only [List.getElem_toArray, List.getElem_cons_succ, List.getElem_cons_zero]
    rw [if_pos (by rfl)]
    go_simp
    refine (csetAmount_not (NN.out.later O.out.below) (ckey a.k) (uw_is HGX.out.lt_m)).mono ?_
    rintro e d3 ⟨rfl, hb⟩
    have Om := Lib.hid (O.out.later hb)
    have HGXm := Lib.hid (HGX.out.later hb)
    have HRm := Lib.hid (below_at' hb HR.out)
    clear hb O HGX HR
    have O := Om
    have HGX := HGXm
    have HR := HRm
    clear Om HGXm HRm
    have hS2 : d3.heap[R]? = some (.cells #[.int .i64 a.kd, .int .i64 a.k, .int .i64 a.q, .int .i64 a.n, .int .u64 (uw0 a.m), .int .u64 (uw1 a.m), .int .u64 (uw2 a.m), .int .u64 (uw3 a.m), .slice a.ld a.l.length a.lc] 27 (0, 0)) := HR.out
    refine hK _ _ (fun _ _ => hS2) ?_
    clear hK hS
    have hS := hS2
    clear hS2
    refine till_done (by kernel_rfl) ?_ _
    clear hS
    go_wp2_with fail
    obtain ⟨d4, hwz⟩ : ∃ wz, wz = d3.drew := ⟨_, rfl⟩
    have hbz : Below d3.heap.size d3 d4 := by rw [hwz]; exact (Below.refl _ _).drew
    have Om := Lib.hid (O.out.later hbz)
    have HGXm := Lib.hid (HGX.out.later hbz)
    have HRm := Lib.hid (below_at' hbz HR.out)
    clear hbz O HGX HR
    have O := Om
    have HGX := HGXm
    have HR := HRm
    clear Om HGXm HRm
    have hS : d4.heap[R]? = some (.cells #[.int .i64 a.kd, .int .i64 a.k, .int .i64 a.q, .int .i64 a.n, .int .u64 (uw0 a.m), .int .u64 (uw1 a.m), .int .u64 (uw2 a.m), .int .u64 (uw3 a.m), .slice a.ld a.l.length a.lc] 27 (0, 0)) := HR.out
    refine wp_region_till (fun w' => w'.heap[R]? = some (.cells #[.int .i64 a.kd, .int .i64 a.k, .int .i64 a.q, .int .i64 a.n, .int .u64 (uw0 a.m), .int .u64 (uw1 a.m), .int .u64 (uw2 a.m), .int .u64 (uw3 a.m), .slice a.ld a.l.length a.lc] 27 (0, 0))) 7 7 (by kernel_rfl) rfl ?_
    rw [← hwz]
    clear hwz
    refine till_take 0 (some 34) rfl rfl (by kernel_rfl) (by kernel_rfl) (by kernel_rfl) (by kernel_rfl) (by kernel_rfl) (by kernel_rfl) (fun _ _ _ h => h) (.inl ⟨by rfl, fun w' _ => (by go_simp; rfl)⟩) hS ?_
    go_frame
    refine till_take 1 (some 35) rfl rfl (by kernel_rfl) (by kernel_rfl) (by kernel_rfl) (by kernel_rfl) (by kernel_rfl) (by kernel_rfl) (fun _ _ _ h => h) (.inl ⟨by rfl, fun w' _ => (by go_simp; rfl)⟩) hS ?_
    go_frame
    refine till_take 2 (some 36) rfl rfl (by kernel_rfl) (by kernel_rfl) (by kernel_rfl) (by kernel_rfl) (by kernel_rfl) (by kernel_rfl) (fun _ _ _ h => h) (.inl ⟨by rfl, fun w' hS' => (by have hc : w'.cell? ⟨R, 1, none⟩ = some (.int .i64 a.k) := Lib.cell_of_heap (hS') 1; go_simp; rfl)⟩) hS ?_
    go_frame
    refine till_take 4 (some 38) rfl rfl (by kernel_rfl) (by kernel_rfl) (by kernel_rfl) (by kernel_rfl) (by kernel_rfl) (by kernel_rfl) (fun _ _ _ h => h) (.inl ⟨by rfl, fun w' _ => (by go_simp; rfl)⟩) hS ?_
    go_frame
    refine till_take 5 (some 39) rfl rfl (by kernel_rfl) (by kernel_rfl) (by kernel_rfl) (by kernel_rfl) (by kernel_rfl) (by kernel_rfl) (fun _ _ _ h => h) (yields_load (by rfl) 24 _ rfl (.pointer (some ⟨R, 4, none⟩)) rfl (.agg #[.int .u64 (uw0 a.m), .int .u64 (uw1 a.m), .int .u64 (uw2 a.m), .int .u64 (uw3 a.m)]) (fun w' hS' => run_loadAt_mid w' R 4 24 [.int .u64 (uw0 a.m), .int .u64 (uw1 a.m), .int .u64 (uw2 a.m), .int .u64 (uw3 a.m)] _ (range_of_heap (hS') 4 _ rfl) Tryz.underlying24 rfl Tryz.sizeU)) hS ?_
    go_frame
    refine till_one 3 rfl (by kernel_rfl) fun K hK => ?_
    simp only [List.getElem_toArray, List.getElem_cons_succ, List.getElem_cons_zero]
    rw [if_pos (by rfl)]
    go_simp
    refine (own10_any a.k _).mono ?_
    rintro e d5 ⟨rfl, hb⟩
    have Om := Lib.hid (O.out.later hb)
    have HGXm := Lib.hid (HGX.out.later hb)
    have HRm := Lib.hid (below_at' hb HR.out)
    clear hb O HGX HR
    have O := Om
    have HGX := HGXm
    have HR := HRm
    clear Om HGXm HRm
    have hS2 : d5.heap[R]? = some (.cells #[.int .i64 a.kd, .int .i64 a.k, .int .i64 a.q, .int .i64 a.n, .int .u64 (uw0 a.m), .int .u64 (uw1 a.m), .int .u64 (uw2 a.m), .int .u64 (uw3 a.m), .slice a.ld a.l.length a.lc] 27 (0, 0)) := HR.out
    refine hK _ _ (fun _ _ => hS2) ?_
    clear hK hS
    have hS := hS2
    clear hS2
    refine till_one 6 rfl (by kernel_rfl) fun K hK => ?_
    simp only [List.getElem_toArray, List.getElem_cons_succ, List.getElem_cons_zero]
    rw [if_pos (by rfl)]
    go_simp
    refine (O.out.rs fun F hs => rsetAmount_any hs (by decide) (ckey a.k) (uw_is HGX.out.lt_m)).mono ?_
    rintro e d6 ⟨rfl, o, hoth⟩
    have Om := Lib.hid o
    have HRm := Lib.hid (hoth.2 R _ HR.out rfl rfl)
    clear o hoth O HR
    have O := Om
    have HR := HRm
    clear Om HRm
    have hS2 : d6.heap[R]? = some (.cells #[.int .i64 a.kd, .int .i64 a.k, .int .i64 a.q, .int .i64 a.n, .int .u64 (uw0 a.m), .int .u64 (uw1 a.m), .int .u64 (uw2 a.m), .int .u64 (uw3 a.m), .slice a.ld a.l.length a.lc] 27 (0, 0)) := HR.out
    refine hK _ _ (fun _ _ => hS2) ?_
    clear hK hS
    have hS := hS2
    clear hS2
    refine till_done (by kernel_rfl) ?_ _
    clear hS
    go_wp2_with fail
    go_ret
    exact ⟨_, rfl, O.out.below⟩
  have f1 : (a.kd == 1) = false := by simpa using e1
  clear e1
  by_cases e2 : a.kd = 2
  · have c0 : w1.cell? ⟨R, 0, none⟩ = some (.int .i64 2) := by rw [← e2]; exact Lib.cell_of_heap HR.out 0
    clear e2
    go_wp2_with fail
    clear c0
    obtain ⟨d1, hwz⟩ : ∃ wz, wz = w1.drew := ⟨_, rfl⟩
    have hbz : Below w1.heap.size w1 d1 := by rw [hwz]; exact (Below.refl _ _).drew
    have Om := Lib.hid (O.out.later hbz)
    have HGXm := Lib.hid (HGX.out.later hbz)
    have HRm := Lib.hid (below_at' hbz HR.out)
    clear hbz O HGX HR
    have O := Om
    have HGX := HGXm
    have HR := HRm
    clear Om HGXm HRm
    have hS : d1.heap[R]? = some (.cells #[.int .i64 a.kd, .int .i64 a.k, .int .i64 a.q, .int .i64 a.n, .int .u64 (uw0 a.m), .int .u64 (uw1 a.m), .int .u64 (uw2 a.m), .int .u64 (uw3 a.m), .slice a.ld a.l.length a.lc] 27 (0, 0)) := HR.out
    refine wp_region_till (fun w' => w'.heap[R]? = some (.cells #[.int .i64 a.kd, .int .i64 a.k, .int .i64 a.q, .int .i64 a.n, .int .u64 (uw0 a.m), .int .u64 (uw1 a.m), .int .u64 (uw2 a.m), .int .u64 (uw3 a.m), .slice a.ld a.l.length a.lc] 27 (0, 0))) 16 16 (by kernel_rfl) rfl ?_
    rw [← hwz]
    clear hwz
    refine till_take 0 (some 43) rfl rfl (by kernel_rfl) (by kernel_rfl) (by kernel_rfl) (by kernel_rfl) (by kernel_rfl) (by kernel_rfl) (fun _ _ _ h => h) (.inl ⟨by rfl, fun w' _ => (by go_simp; rfl)⟩) hS ?_
    go_frame
    refine till_take 1 (some 44) rfl rfl (by kernel_rfl) (by kernel_rfl) (by kernel_rfl) (by kernel_rfl) (by kernel_rfl) (by kernel_rfl) (fun _ _ _ h => h) (.inl ⟨by rfl, fun w' _ => (by go_simp; rfl)⟩) hS ?_
    go_frame
    refine till_take 2 (some 45) rfl rfl (by kernel_rfl) (by kernel_rfl) (by kernel_rfl) (by kernel_rfl) (by kernel_rfl) (by kernel_rfl) (fun _ _ _ h => h) (.inl ⟨by rfl, fun w' hS' => (by have hc : w'.cell? ⟨R, 1, none⟩ = some (.int .i64 a.k) := Lib.cell_of_heap (hS') 1; go_simp; rfl)⟩) hS ?_
    go_frame
    refine till_take 4 (some 47) rfl rfl (by kernel_rfl) (by kernel_rfl) (by kernel_rfl) (by kernel_rfl) (by kernel_rfl) (by kernel_rfl) (fun _ _ _ h => h) (.inl ⟨by rfl, fun w' _ => (by go_simp; rfl)⟩) hS ?_
    go_frame
    refine till_take 5 (some 48) rfl rfl (by kernel_rfl) (by kernel_rfl) (by kernel_rfl) (by kernel_rfl) (by kernel_rfl) (by kernel_rfl) (fun _ _ _ h => h) (yields_load (by rfl) 24 _ rfl (.pointer (some ⟨R, 4, none⟩)) rfl (.agg #[.int .u64 (uw0 a.m), .int .u64 (uw1 a.m), .int .u64 (uw2 a.m), .int .u64 (uw3 a.m)]) (fun w' hS' => run_loadAt_mid w' R 4 24 [.int .u64 (uw0 a.m), .int .u64 (uw1 a.m), .int .u64 (uw2 a.m), .int .u64 (uw3 a.m)] _ (range_of_heap (hS') 4 _ rfl) Tryz.underlying24 rfl Tryz.sizeU)) hS ?_
    go_frame
    refine till_take 7 (some 50) rfl rfl (by kernel_rfl) (by kernel_rfl) (by kernel_rfl) (by kernel_rfl) (by kernel_rfl) (by kernel_rfl) (fun _ _ _ h => h) (.inl ⟨by rfl, fun w' _ => (by go_simp; rfl)⟩) hS ?_
    go_frame
    refine till_take 8 (some 51) rfl rfl (by kernel_rfl) (by kernel_rfl) (by kernel_rfl) (by kernel_rfl) (by kernel_rfl) (by kernel_rfl) (fun _ _ _ h => h) (.inl ⟨by rfl, fun w' _ => (by go_simp; rfl)⟩) hS ?_
    go_frame
    refine till_take 9 (some 52) rfl rfl (by kernel_rfl) (by kernel_rfl) (by kernel_rfl) (by kernel_rfl) (by kernel_rfl) (by kernel_rfl) (fun _ _ _ h => h) (.inl ⟨by rfl, fun w' hS' => (by have hc : w'.cell? ⟨R, 1, none⟩ = some (.int .i64 a.k) := Lib.cell_of_heap (hS') 1; go_simp; rfl)⟩) hS ?_
    go_frame
    refine till_take 11 (some 54) rfl rfl (by kernel_rfl) (by kernel_rfl) (by kernel_rfl) (by kernel_rfl) (by kernel_rfl) (by kernel_rfl) (fun _ _ _ h => h) (.inl ⟨by rfl, fun w' _ => (by go_simp; rfl)⟩) hS ?_
    go_frame
    refine till_take 12 (some 55) rfl rfl (by kernel_rfl) (by kernel_rfl) (by kernel_rfl) (by kernel_rfl) (by kernel_rfl) (by kernel_rfl) (fun _ _ _ h => h) (yields_load (by rfl) 24 _ rfl (.pointer (some ⟨R, 4, none⟩)) rfl (.agg #[.int .u64 (uw0 a.m), .int .u64 (uw1 a.m), .int .u64 (uw2 a.m), .int .u64 (uw3 a.m)]) (fun w' hS' => run_loadAt_mid w' R 4 24 [.int .u64 (uw0 a.m), .int .u64 (uw1 a.m), .int .u64 (uw2 a.m), .int .u64 (uw3 a.m)] _ (range_of_heap (hS') 4 _ rfl) Tryz.underlying24 rfl Tryz.sizeU)) hS ?_
    go_frame
    refine till_one 3 rfl (by kernel_rfl) fun K hK => ?_
    simp only [List.getElem_toArray, List.getElem_cons_succ, List.getElem_cons_zero]
    rw [if_pos (by rfl)]
    go_simp
    refine (ckey_any a.k _).mono ?_
    rintro e d2 ⟨rfl, hb⟩
    have Om := Lib.hid (O.out.later hb)
    have HGXm := Lib.hid (HGX.out.later hb)
    have HRm := Lib.hid (below_at' hb HR.out)
    clear hb O HGX HR
    have O := Om
    have HGX := HGXm
    have HR := HRm
    clear Om HGXm HRm
    have hS2 : d2.heap[R]? = some (.cells #[.int .i64 a.kd, .int .i64 a.k, .int .i64 a.q, .int .i64 a.n, .int .u64 (uw0 a.m), .int .u64 (uw1 a.m), .int .u64 (uw2 a.m), .int .u64 (uw3 a.m), .slice a.ld a.l.length a.lc] 27 (0, 0)) := HR.out
    refine hK _ _ (fun _ _ => hS2) ?_
    clear hK hS
    have hS := hS2
    clear hS2
    refine till_one 6 rfl (by kernel_rfl) fun K hK => ?_
    simp only [List.getElem_toArray, List.getElem_cons_succ, List.getElem_cons_zero]
    rw [if_pos (by rfl)]
    go_simp
    refine (cadd_not (NN.out.later O.out.below) (ckey a.k) (uw_is HGX.out.lt_m)).mono ?_
    rintro e d3 ⟨rfl, hb⟩
    have Om := Lib.hid (O.out.later hb)
    have HGXm := Lib.hid (HGX.out.later hb)
    have HRm := Lib.hid (below_at' hb HR.out)
    clear hb O HGX HR
    have O := Om
    have HGX := HGXm
    have HR := HRm
    clear Om HGXm HRm
    have hS2 : d3.heap[R]? = some (.cells #[.int .i64 a.kd, .int .i64 a.k, .int .i64 a.q, .int .i64 a.n, .int .u64 (uw0 a.m), .int .u64 (uw1 a.m), .int .u64 (uw2 a.m), .int .u64 (uw3 a.m), .slice a.ld a.l.length a.lc] 27 (0, 0)) := HR.out
    refine hK _ _ (fun _ _ => hS2) ?_
    clear hK hS
    have hS := hS2
    clear hS2
    refine till_one 10 rfl (by kernel_rfl) fun K hK => ?_
    simp only [List.getElem_toArray, List.getElem_cons_succ, List.getElem_cons_zero]
    rw [if_pos (by rfl)]
    go_simp
    refine (own10_any a.k _).mono ?_
    rintro e d4 ⟨rfl, hb⟩
    have Om := Lib.hid (O.out.later hb)
    have HGXm := Lib.hid (HGX.out.later hb)
    have HRm := Lib.hid (below_at' hb HR.out)
    clear hb O HGX HR
    have O := Om
    have HGX := HGXm
    have HR := HRm
    clear Om HGXm HRm
    have hS2 : d4.heap[R]? = some (.cells #[.int .i64 a.kd, .int .i64 a.k, .int .i64 a.q, .int .i64 a.n, .int .u64 (uw0 a.m), .int .u64 (uw1 a.m), .int .u64 (uw2 a.m), .int .u64 (uw3 a.m), .slice a.ld a.l.length a.lc] 27 (0, 0)) := HR.out
    refine hK _ _ (fun _ _ => hS2) ?_
    clear hK hS
    have hS := hS2
    clear hS2
    refine till_one 13 rfl (by kernel_rfl) fun K hK => ?_
    simp only [List.getElem_toArray, List.getElem_cons_succ, List.getElem_cons_zero]
    rw [if_pos (by rfl)]
    go_simp
    refine (O.out.rs fun F hs => radd10_any hs (by decide) Fit.new (ckey a.k) (uw_is HGX.out.lt_m)).mono ?_
    rintro e d5 ⟨rfl, o, hoth⟩
    have Om := Lib.hid o
    have HRm := Lib.hid (hoth.2 R _ HR.out rfl rfl)
    clear o hoth O HR
    have O := Om
    have HR := HRm
    clear Om HRm
    have hS2 : d5.heap[R]? = some (.cells #[.int .i64 a.kd, .int .i64 a.k, .int .i64 a.q, .int .i64 a.n, .int .u64 (uw0 a.m), .int .u64 (uw1 a.m), .int .u64 (uw2 a.m), .int .u64 (uw3 a.m), .slice a.ld a.l.length a.lc] 27 (0, 0)) := HR.out
    refine hK _ _ (fun _ _ => hS2) ?_
    clear hK hS
    have hS := hS2
    clear hS2
    refine till_take 14 (some 57) rfl rfl (by kernel_rfl) (by kernel_rfl) (by kernel_rfl) (by kernel_rfl) (by kernel_rfl) (by kernel_rfl) (fun _ _ _ h => h) (.inl ⟨by rfl, fun w' _ => (by go_simp; rfl)⟩) hS ?_
    go_frame
    refine till_take 15 (some 6) rfl rfl (by kernel_rfl) (by kernel_rfl) (by kernel_rfl) (by kernel_rfl) (by kernel_rfl) (by kernel_rfl) (fun _ _ _ h => h) (.inl ⟨by rfl, fun w' _ => (by go_simp; rfl)⟩) hS ?_
    go_frame
    refine till_done (by kernel_rfl) ?_ _
    clear hS
    go_wp2_with fail
    go_ret
    exact ⟨_, rfl, O.out.below⟩
  have f2 : (a.kd == 2) = false := by simpa using e2
  clear e2
  by_cases e3 : a.kd = 3
  · have c0 : w1.cell? ⟨R, 0, none⟩ = some (.int .i64 3) := by rw [← e3]; exact Lib.cell_of_heap HR.out 0
    clear e3
    go_wp2_with fail
    clear c0
    obtain ⟨d1, hwz⟩ : ∃ wz, wz = w1.drew := ⟨_, rfl⟩
    have hbz : Below w1.heap.size w1 d1 := by rw [hwz]; exact (Below.refl _ _).drew
    have Om := Lib.hid (O.out.later hbz)
    have HGXm := Lib.hid (HGX.out.later hbz)
    have HRm := Lib.hid (below_at' hbz HR.out)
    clear hbz O HGX HR
    have O := Om
    have HGX := HGXm
    have HR := HRm
    clear Om HGXm HRm
    have hS : d1.heap[R]? = some (.cells #[.int .i64 a.kd, .int .i64 a.k, .int .i64 a.q, .int .i64 a.n, .int .u64 (uw0 a.m), .int .u64 (uw1 a.m), .int .u64 (uw2 a.m), .int .u64 (uw3 a.m), .slice a.ld a.l.length a.lc] 27 (0, 0)) := HR.out
    refine wp_region_till (fun w' => w'.heap[R]? = some (.cells #[.int .i64 a.kd, .int .i64 a.k, .int .i64 a.q, .int .i64 a.n, .int .u64 (uw0 a.m), .int .u64 (uw1 a.m), .int .u64 (uw2 a.m), .int .u64 (uw3 a.m), .slice a.ld a.l.length a.lc] 27 (0, 0))) 16 16 (by kernel_rfl) rfl ?_
    rw [← hwz]
    clear hwz
    refine till_take 0 (some 60) rfl rfl (by kernel_rfl) (by kernel_rfl) (by kernel_rfl) (by kernel_rfl) (by kernel_rfl) (by kernel_rfl) (fun _ _ _ h => h) (.inl ⟨by rfl, fun w' _ => (by go_simp; rfl)⟩) hS ?_
    go_frame
    refine till_take 1 (some 61) rfl rfl (by kernel_rfl) (by kernel_rfl) (by kernel_rfl) (by kernel_rfl) (by kernel_rfl) (by kernel_rfl) (fun _ _ _ h => h) (.inl ⟨by rfl, fun w' _ => (by go_simp; rfl)⟩) hS ?_
    go_frame
    refine till_take 2 (some 62) rfl rfl (by kernel_rfl) (by kernel_rfl) (by kernel_rfl) (by kernel_rfl) (by kernel_rfl) (by kernel_rfl) (fun _ _ _ h => h) (.inl ⟨by rfl, fun w' hS' => (by have hc : w'.cell? ⟨R, 1, none⟩ = some (.int .i64 a.k) := Lib.cell_of_heap (hS') 1; go_simp; rfl)⟩) hS ?_
    go_frame
    refine till_take 4 (some 64) rfl rfl (by kernel_rfl) (by kernel_rfl) (by kernel_rfl) (by kernel_rfl) (by kernel_rfl) (by kernel_rfl) (fun _ _ _ h => h) (.inl ⟨by rfl, fun w' _ => (by go_simp; rfl)⟩) hS ?_
    go_frame
    refine till_take 5 (some 65) rfl rfl (by kernel_rfl) (by kernel_rfl) (by kernel_rfl) (by kernel_rfl) (by kernel_rfl) (by kernel_rfl) (fun _ _ _ h => h) (yields_load (by rfl) 24 _ rfl (.pointer (some ⟨R, 4, none⟩)) rfl (.agg #[.int .u64 (uw0 a.m), .int .u64 (uw1 a.m), .int .u64 (uw2 a.m), .int .u64 (uw3 a.m)]) (fun w' hS' => run_loadAt_mid w' R 4 24 [.int .u64 (uw0 a.m), .int .u64 (uw1 a.m), .int .u64 (uw2 a.m), .int .u64 (uw3 a.m)] _ (range_of_heap (hS') 4 _ rfl) Tryz.underlying24 rfl Tryz.sizeU)) hS ?_
    go_frame
    refine till_take 7 (some 67) rfl rfl (by kernel_rfl) (by kernel_rfl) (by kernel_rfl) (by kernel_rfl) (by kernel_rfl) (by kernel_rfl) (fun _ _ _ h => h) (.inl ⟨by rfl, fun w' _ => (by go_simp; rfl)⟩) hS ?_
    go_frame
    refine till_take 8 (some 68) rfl rfl (by kernel_rfl) (by kernel_rfl) (by kernel_rfl) (by kernel_rfl) (by kernel_rfl) (by kernel_rfl) (fun _ _ _ h => h) (.inl ⟨by rfl, fun w' _ => (by go_simp; rfl)⟩) hS ?_
    go_frame
    refine till_take 9 (some 69) rfl rfl (by kernel_rfl) (by kernel_rfl) (by kernel_rfl) (by kernel_rfl) (by kernel_rfl) (by kernel_rfl) (fun _ _ _ h => h) (.inl ⟨by rfl, fun w' hS' => (by have hc : w'.cell? ⟨R, 1, none⟩ = some (.int .i64 a.k) := Lib.cell_of_heap (hS') 1; go_simp; rfl)⟩) hS ?_
    go_frame
    refine till_take 11 (some 71) rfl rfl (by kernel_rfl) (by kernel_rfl) (by kernel_rfl) (by kernel_rfl) (by kernel_rfl) (by kernel_rfl) (fun _ _ _ h => h) (.inl ⟨by rfl, fun w' _ => (by go_simp; rfl)⟩) hS ?_
    go_frame
    refine till_take 12 (some 72) rfl rfl (by kernel_rfl) (by kernel_rfl) (by kernel_rfl) (by kernel_rfl) (by kernel_rfl) (by kernel_rfl) (fun _ _ _ h => h) (yields_load (by rfl) 24 _ rfl (.pointer (some ⟨R, 4, none⟩)) rfl (.agg #[.int .u64 (uw0 a.m), .int .u64 (uw1 a.m), .int .u64 (uw2 a.m), .int .u64 (uw3 a.m)]) (fun w' hS' => run_loadAt_mid w' R 4 24 [.int .u64 (uw0 a.m), .int .u64 (uw1 a.m), .int .u64 (uw2 a.m), .int .u64 (uw3 a.m)] _ (range_of_heap (hS') 4 _ rfl) Tryz.underlying24 rfl Tryz.sizeU)) hS ?_
    go_frame
    refine till_one 3 rfl (by kernel_rfl) fun K hK => ?_
    simp only [List.getElem_toArray, List.getElem_cons_succ, List.getElem_cons_zero]
    rw [if_pos (by rfl)]
    go_simp
    refine (ckey_any a.k _).mono ?_
    rintro e d2 ⟨rfl, hb⟩
    have Om := Lib.hid (O.out.later hb)
    have HGXm := Lib.hid (HGX.out.later hb)
    have HRm := Lib.hid (below_at' hb HR.out)
    clear hb O HGX HR
    have O := Om
    have HGX := HGXm
    have HR := HRm
    clear Om HGXm HRm
    have hS2 : d2.heap[R]? = some (.cells #[.int .i64 a.kd, .int .i64 a.k, .int .i64 a.q, .int .i64 a.n, .int .u64 (uw0 a.m), .int .u64 (uw1 a.m), .int .u64 (uw2 a.m), .int .u64 (uw3 a.m), .slice a.ld a.l.length a.lc] 27 (0, 0)) := HR.out
    refine hK _ _ (fun _ _ => hS2) ?_
    clear hK hS
    have hS := hS2
    clear hS2
    refine till_one 6 rfl (by kernel_rfl) fun K hK => ?_
    simp only [List.getElem_toArray, List.getElem_cons_succ, List.getElem_cons_zero]
    rw [if_pos (by rfl)]
    go_simp
    refine (csub_not (NN.out.later O.out.below) (ckey a.k) (uw_is HGX.out.lt_m)).mono ?_
    rintro e d3 ⟨rfl, hb⟩
    have Om := Lib.hid (O.out.later hb)
    have HGXm := Lib.hid (HGX.out.later hb)
    have HRm := Lib.hid (below_at' hb HR.out)
    clear hb O HGX HR
    have O := Om
    have HGX := HGXm
    have HR := HRm
    clear Om HGXm HRm
    have hS2 : d3.heap[R]? = some (.cells #[.int .i64 a.kd, .int .i64 a.k, .int .i64 a.q, .int .i64 a.n, .int .u64 (uw0 a.m), .int .u64 (uw1 a.m), .int .u64 (uw2 a.m), .int .u64 (uw3 a.m), .slice a.ld a.l.length a.lc] 27 (0, 0)) := HR.out
    refine hK _ _ (fun _ _ => hS2) ?_
    clear hK hS
    have hS := hS2
    clear hS2
    refine till_one 10 rfl (by kernel_rfl) fun K hK => ?_
    simp only [List.getElem_toArray, List.getElem_cons_succ, List.getElem_cons_zero]
    rw [if_pos (by rfl)]
    go_simp
    refine (own10_any a.k _).mono ?_
    rintro e d4 ⟨rfl, hb⟩
    have Om := Lib.hid (O.out.later hb)
    have HGXm := Lib.hid (HGX.out.later hb)
    have HRm := Lib.hid (below_at' hb HR.out)
    clear hb O HGX HR
    have O := Om
    have HGX := HGXm
    have HR := HRm
    clear Om HGXm HRm
    have hS2 : d4.heap[R]? = some (.cells #[.int .i64 a.kd, .int .i64 a.k, .int .i64 a.q, .int .i64 a.n, .int .u64 (uw0 a.m), .int .u64 (uw1 a.m), .int .u64 (uw2 a.m), .int .u64 (uw3 a.m), .slice a.ld a.l.length a.lc] 27 (0, 0)) := HR.out
    refine hK _ _ (fun _ _ => hS2) ?_
    clear hK hS
    have hS := hS2
    clear hS2
    refine till_one 13 rfl (by kernel_rfl) fun K hK => ?_
    simp only [List.getElem_toArray, List.getElem_cons_succ, List.getElem_cons_zero]
    rw [if_pos (by rfl)]
    go_simp
    refine (O.out.rs fun F hs => rsub10_any hs (by decide) Fit.new (ckey a.k) (uw_is HGX.out.lt_m)).mono ?_
    rintro e d5 ⟨rfl, o, hoth⟩
    have Om := Lib.hid o
    have HRm := Lib.hid (hoth.2 R _ HR.out rfl rfl)
    clear o hoth O HR
    have O := Om
    have HR := HRm
    clear Om HRm
    have hS2 : d5.heap[R]? = some (.cells #[.int .i64 a.kd, .int .i64 a.k, .int .i64 a.q, .int .i64 a.n, .int .u64 (uw0 a.m), .int .u64 (uw1 a.m), .int .u64 (uw2 a.m), .int .u64 (uw3 a.m), .slice a.ld a.l.length a.lc] 27 (0, 0)) := HR.out
    refine hK _ _ (fun _ _ => hS2) ?_
    clear hK hS
    have hS := hS2
    clear hS2
    refine till_take 14 (some 74) rfl rfl (by kernel_rfl) (by kernel_rfl) (by kernel_rfl) (by kernel_rfl) (by kernel_rfl) (by kernel_rfl) (fun _ _ _ h => h) (.inl ⟨by rfl, fun w' _ => (by go_simp; rfl)⟩) hS ?_
    go_frame
    refine till_take 15 (some 6) rfl rfl (by kernel_rfl) (by kernel_rfl) (by kernel_rfl) (by kernel_rfl) (by kernel_rfl) (by kernel_rfl) (fun _ _ _ h => h) (.inl ⟨by rfl, fun w' _ => (by go_simp; rfl)⟩) hS ?_
    go_frame
    refine till_done (by kernel_rfl) ?_ _
    clear hS
    go_wp2_with fail
    go_ret
    exact ⟨_, rfl, O.out.below⟩
  have f3 : (a.kd == 3) = false := by simpa using e3
  clear e3
  by_cases e4 : a.kd = 4
  · have c0 : w1.cell? ⟨R, 0, none⟩ = some (.int .i64 4) := by rw [← e4]; exact Lib.cell_of_heap HR.out 0
    clear e4
    go_wp2_with fail
    clear c0
    obtain ⟨d1, hwz⟩ : ∃ wz, wz = w1.drew := ⟨_, rfl⟩
    have hbz : Below w1.heap.size w1 d1 := by rw [hwz]; exact (Below.refl _ _).drew
    have Om := Lib.hid (O.out.later hbz)
    have HGXm := Lib.hid (HGX.out.later hbz)
    have HRm := Lib.hid (below_at' hbz HR.out)
    clear hbz O HGX HR
    have O := Om
    have HGX := HGXm
    have HR := HRm
    clear Om HGXm HRm
    have hS : d1.heap[R]? = some (.cells #[.int .i64 a.kd, .int .i64 a.k, .int .i64 a.q, .int .i64 a.n, .int .u64 (uw0 a.m), .int .u64 (uw1 a.m), .int .u64 (uw2 a.m), .int .u64 (uw3 a.m), .slice a.ld a.l.length a.lc] 27 (0, 0)) := HR.out
    refine wp_region_till (fun w' => w'.heap[R]? = some (.cells #[.int .i64 a.kd, .int .i64 a.k, .int .i64 a.q, .int .i64 a.n, .int .u64 (uw0 a.m), .int .u64 (uw1 a.m), .int .u64 (uw2 a.m), .int .u64 (uw3 a.m), .slice a.ld a.l.length a.lc] 27 (0, 0))) 22 22 (by kernel_rfl) rfl ?_
    rw [← hwz]
    clear hwz
    refine till_take 0 (some 77) rfl rfl (by kernel_rfl) (by kernel_rfl) (by kernel_rfl) (by kernel_rfl) (by kernel_rfl) (by kernel_rfl) (fun _ _ _ h => h) (.inl ⟨by rfl, fun w' _ => (by go_simp; rfl)⟩) hS ?_
    go_frame
    refine till_take 1 (some 78) rfl rfl (by kernel_rfl) (by kernel_rfl) (by kernel_rfl) (by kernel_rfl) (by kernel_rfl) (by kernel_rfl) (fun _ _ _ h => h) (.inl ⟨by rfl, fun w' _ => (by go_simp; rfl)⟩) hS ?_
    go_frame
    refine till_take 2 (some 79) rfl rfl (by kernel_rfl) (by kernel_rfl) (by kernel_rfl) (by kernel_rfl) (by kernel_rfl) (by kernel_rfl) (fun _ _ _ h => h) (.inl ⟨by rfl, fun w' hS' => (by have hc : w'.cell? ⟨R, 1, none⟩ = some (.int .i64 a.k) := Lib.cell_of_heap (hS') 1; go_simp; rfl)⟩) hS ?_
    go_frame
    refine till_take 4 (some 81) rfl rfl (by kernel_rfl) (by kernel_rfl) (by kernel_rfl) (by kernel_rfl) (by kernel_rfl) (by kernel_rfl) (fun _ _ _ h => h) (.inl ⟨by rfl, fun w' _ => (by go_simp; rfl)⟩) hS ?_
    go_frame
    refine till_take 5 (some 82) rfl rfl (by kernel_rfl) (by kernel_rfl) (by kernel_rfl) (by kernel_rfl) (by kernel_rfl) (by kernel_rfl) (fun _ _ _ h => h) (.inl ⟨by rfl, fun w' hS' => (by have hc : w'.cell? ⟨R, 2, none⟩ = some (.int .i64 a.q) := Lib.cell_of_heap (hS') 2; go_simp; rfl)⟩) hS ?_
    go_frame
    refine till_take 7 (some 84) rfl rfl (by kernel_rfl) (by kernel_rfl) (by kernel_rfl) (by kernel_rfl) (by kernel_rfl) (by kernel_rfl) (fun _ _ _ h => h) (.inl ⟨by rfl, fun w' _ => (by go_simp; rfl)⟩) hS ?_
    go_frame
    refine till_take 8 (some 85) rfl rfl (by kernel_rfl) (by kernel_rfl) (by kernel_rfl) (by kernel_rfl) (by kernel_rfl) (by kernel_rfl) (fun _ _ _ h => h) (yields_load (by rfl) 24 _ rfl (.pointer (some ⟨R, 4, none⟩)) rfl (.agg #[.int .u64 (uw0 a.m), .int .u64 (uw1 a.m), .int .u64 (uw2 a.m), .int .u64 (uw3 a.m)]) (fun w' hS' => run_loadAt_mid w' R 4 24 [.int .u64 (uw0 a.m), .int .u64 (uw1 a.m), .int .u64 (uw2 a.m), .int .u64 (uw3 a.m)] _ (range_of_heap (hS') 4 _ rfl) Tryz.underlying24 rfl Tryz.sizeU)) hS ?_
    go_frame
    refine till_take 10 (some 87) rfl rfl (by kernel_rfl) (by kernel_rfl) (by kernel_rfl) (by kernel_rfl) (by kernel_rfl) (by kernel_rfl) (fun _ _ _ h => h) (.inl ⟨by rfl, fun w' _ => (by go_simp; rfl)⟩) hS ?_
    go_frame
    refine till_take 11 (some 88) rfl rfl (by kernel_rfl) (by kernel_rfl) (by kernel_rfl) (by kernel_rfl) (by kernel_rfl) (by kernel_rfl) (fun _ _ _ h => h) (.inl ⟨by rfl, fun w' _ => (by go_simp; rfl)⟩) hS ?_
    go_frame
    refine till_take 12 (some 89) rfl rfl (by kernel_rfl) (by kernel_rfl) (by kernel_rfl) (by kernel_rfl) (by kernel_rfl) (by kernel_rfl) (fun _ _ _ h => h) (.inl ⟨by rfl, fun w' hS' => (by have hc : w'.cell? ⟨R, 1, none⟩ = some (.int .i64 a.k) := Lib.cell_of_heap (hS') 1; go_simp; rfl)⟩) hS ?_
    go_frame
    refine till_take 14 (some 91) rfl rfl (by kernel_rfl) (by kernel_rfl) (by kernel_rfl) (by kernel_rfl) (by kernel_rfl) (by kernel_rfl) (fun _ _ _ h => h) (.inl ⟨by rfl, fun w' _ => (by go_simp; rfl)⟩) hS ?_
    go_frame
    refine till_take 15 (some 92) rfl rfl (by kernel_rfl) (by kernel_rfl) (by kernel_rfl) (by kernel_rfl) (by kernel_rfl) (by kernel_rfl) (fun _ _ _ h => h) (.inl ⟨by rfl, fun w' hS' => (by have hc : w'.cell? ⟨R, 2, none⟩ = some (.int .i64 a.q) := Lib.cell_of_heap (hS') 2; go_simp; rfl)⟩) hS ?_
    go_frame
    refine till_take 17 (some 94) rfl rfl (by kernel_rfl) (by kernel_rfl) (by kernel_rfl) (by kernel_rfl) (by kernel_rfl) (by kernel_rfl) (fun _ _ _ h => h) (.inl ⟨by rfl, fun w' _ => (by go_simp; rfl)⟩) hS ?_
    go_frame
    refine till_take 18 (some 95) rfl rfl (by kernel_rfl) (by kernel_rfl) (by kernel_rfl) (by kernel_rfl) (by kernel_rfl) (by kernel_rfl) (fun _ _ _ h => h) (yields_load (by rfl) 24 _ rfl (.pointer (some ⟨R, 4, none⟩)) rfl (.agg #[.int .u64 (uw0 a.m), .int .u64 (uw1 a.m), .int .u64 (uw2 a.m), .int .u64 (uw3 a.m)]) (fun w' hS' => run_loadAt_mid w' R 4 24 [.int .u64 (uw0 a.m), .int .u64 (uw1 a.m), .int .u64 (uw2 a.m), .int .u64 (uw3 a.m)] _ (range_of_heap (hS') 4 _ rfl) Tryz.underlying24 rfl Tryz.sizeU)) hS ?_
    go_frame
    refine till_one 3 rfl (by kernel_rfl) fun K hK => ?_
    simp only [List.getElem_toArray, List.getElem_cons_succ, List.getElem_cons_zero]
    rw [if_pos (by rfl)]
    go_simp
    refine (ckey_any a.k _).mono ?_
    rintro e d2 ⟨rfl, hb⟩
    have Om := Lib.hid (O.out.later hb)
    have HGXm := Lib.hid (HGX.out.later hb)
    have HRm := Lib.hid (below_at' hb HR.out)
    clear hb O HGX HR
    have O := Om
    have HGX := HGXm
    have HR := HRm
    clear Om HGXm HRm
    have hS2 : d2.heap[R]? = some (.cells #[.int .i64 a.kd, .int .i64 a.k, .int .i64 a.q, .int .i64 a.n, .int .u64 (uw0 a.m), .int .u64 (uw1 a.m), .int .u64 (uw2 a.m), .int .u64 (uw3 a.m), .slice a.ld a.l.length a.lc] 27 (0, 0)) := HR.out
    refine hK _ _ (fun _ _ => hS2) ?_
    clear hK hS
    have hS := hS2
    clear hS2
    refine till_one 6 rfl (by kernel_rfl) fun K hK => ?_
    simp only [List.getElem_toArray, List.getElem_cons_succ, List.getElem_cons_zero]
    rw [if_pos (by rfl)]
    go_simp
    refine (ckey_any a.q _).mono ?_
    rintro e d3 ⟨rfl, hb⟩
    have Om := Lib.hid (O.out.later hb)
    have HGXm := Lib.hid (HGX.out.later hb)
    have HRm := Lib.hid (below_at' hb HR.out)
    clear hb O HGX HR
    have O := Om
    have HGX := HGXm
    have HR := HRm
    clear Om HGXm HRm
    have hS2 : d3.heap[R]? = some (.cells #[.int .i64 a.kd, .int .i64 a.k, .int .i64 a.q, .int .i64 a.n, .int .u64 (uw0 a.m), .int .u64 (uw1 a.m), .int .u64 (uw2 a.m), .int .u64 (uw3 a.m), .slice a.ld a.l.length a.lc] 27 (0, 0)) := HR.out
    refine hK _ _ (fun _ _ => hS2) ?_
    clear hK hS
    have hS := hS2
    clear hS2
    refine till_one 9 rfl (by kernel_rfl) fun K hK => ?_
    simp only [List.getElem_toArray, List.getElem_cons_succ, List.getElem_cons_zero]
    rw [if_pos (by rfl)]
    go_simp
    refine (cmove_not (NN.out.later O.out.below) (ckey a.k) (ckey a.q) (uw_is HGX.out.lt_m)).mono ?_
    rintro e d4 ⟨rfl, hb⟩
    have Om := Lib.hid (O.out.later hb)
    have HGXm := Lib.hid (HGX.out.later hb)
    have HRm := Lib.hid (below_at' hb HR.out)
    clear hb O HGX HR
    have O := Om
    have HGX := HGXm
    have HR := HRm
    clear Om HGXm HRm
    have hS2 : d4.heap[R]? = some (.cells #[.int .i64 a.kd, .int .i64 a.k, .int .i64 a.q, .int .i64 a.n, .int .u64 (uw0 a.m), .int .u64 (uw1 a.m), .int .u64 (uw2 a.m), .int .u64 (uw3 a.m), .slice a.ld a.l.length a.lc] 27 (0, 0)) := HR.out
    refine hK _ _ (fun _ _ => hS2) ?_
    clear hK hS
    have hS := hS2
    clear hS2
    refine till_one 13 rfl (by kernel_rfl) fun K hK => ?_
    simp only [List.getElem_toArray, List.getElem_cons_succ, List.getElem_cons_zero]
    rw [if_pos (by rfl)]
    go_simp
    refine (own10_any a.k _).mono ?_
    rintro e d5 ⟨rfl, hb⟩
    have Om := Lib.hid (O.out.later hb)
    have HGXm := Lib.hid (HGX.out.later hb)
    have HRm := Lib.hid (below_at' hb HR.out)
    clear hb O HGX HR
    have O := Om
    have HGX := HGXm
    have HR := HRm
    clear Om HGXm HRm
    have hS2 : d5.heap[R]? = some (.cells #[.int .i64 a.kd, .int .i64 a.k, .int .i64 a.q, .int .i64 a.n, .int .u64 (uw0 a.m), .int .u64 (uw1 a.m), .int .u64 (uw2 a.m), .int .u64 (uw3 a.m), .slice a.ld a.l.length a.lc] 27 (0, 0)) := HR.out
    refine hK _ _ (fun _ _ => hS2) ?_
    clear hK hS
    have hS := hS2
    clear hS2
    refine till_one 16 rfl (by kernel_rfl) fun K hK => ?_
    simp only [List.getElem_toArray, List.getElem_cons_succ, List.getElem_cons_zero]
    rw [if_pos (by rfl)]
    go_simp
    refine (own10_any a.q _).mono ?_
    rintro e d6 ⟨rfl, hb⟩
    have Om := Lib.hid (O.out.later hb)
    have HGXm := Lib.hid (HGX.out.later hb)
    have HRm := Lib.hid (below_at' hb HR.out)
    clear hb O HGX HR
    have O := Om
    have HGX := HGXm
    have HR := HRm
    clear Om HGXm HRm
    have hS2 : d6.heap[R]? = some (.cells #[.int .i64 a.kd, .int .i64 a.k, .int .i64 a.q, .int .i64 a.n, .int .u64 (uw0 a.m), .int .u64 (uw1 a.m), .int .u64 (uw2 a.m), .int .u64 (uw3 a.m), .slice a.ld a.l.length a.lc] 27 (0, 0)) := HR.out
    refine hK _ _ (fun _ _ => hS2) ?_
    clear hK hS
    have hS := hS2
    clear hS2
    refine till_one 19 rfl (by kernel_rfl) fun K hK => ?_
    simp only [List.getElem_toArray, List.getElem_cons_succ, List.getElem_cons_zero]
    rw [if_pos (by rfl)]
    go_simp
    refine (O.out.rs fun F hs => rmove10_any hs (by decide) Fit.new (ckey a.k) (ckey a.q) (uw_is HGX.out.lt_m)).mono ?_
    rintro e d7 ⟨rfl, o, hoth⟩
    have Om := Lib.hid o
    have HRm := Lib.hid (hoth.2 R _ HR.out rfl rfl)
    clear o hoth O HR
    have O := Om
    have HR := HRm
    clear Om HRm
    have hS2 : d7.heap[R]? = some (.cells #[.int .i64 a.kd, .int .i64 a.k, .int .i64 a.q, .int .i64 a.n, .int .u64 (uw0 a.m), .int .u64 (uw1 a.m), .int .u64 (uw2 a.m), .int .u64 (uw3 a.m), .slice a.ld a.l.length a.lc] 27 (0, 0)) := HR.out
    refine hK _ _ (fun _ _ => hS2) ?_
    clear hK hS
    have hS := hS2
    clear hS2
    refine till_take 20 (some 97) rfl rfl (by kernel_rfl) (by kernel_rfl) (by kernel_rfl) (by kernel_rfl) (by kernel_rfl) (by kernel_rfl) (fun _ _ _ h => h) (.inl ⟨by rfl, fun w' _ => (by go_simp; rfl)⟩) hS ?_
    go_frame
    refine till_take 21 (some 6) rfl rfl (by kernel_rfl) (by kernel_rfl) (by kernel_rfl) (by kernel_rfl) (by kernel_rfl) (by kernel_rfl) (fun _ _ _ h => h) (.inl ⟨by rfl, fun w' _ => (by go_simp; rfl)⟩) hS ?_
    go_frame
    refine till_done (by kernel_rfl) ?_ _
    clear hS
    go_wp2_with fail
    go_ret
    exact ⟨_, rfl, O.out.below⟩
  have f4 : (a.kd == 4) = false := by simpa using e4
  clear e4
  by_cases e5 : a.kd = 5
  · have c0 : w1.cell? ⟨R, 0, none⟩ = some (.int .i64 5) := by rw [← e5]; exact Lib.cell_of_heap HR.out 0
    clear e5
    go_wp2_with fail
    clear c0
    obtain ⟨d1, hwz⟩ : ∃ wz, wz = w1.drew := ⟨_, rfl⟩
    have hbz : Below w1.heap.size w1 d1 := by rw [hwz]; exact (Below.refl _ _).drew
    have Om := Lib.hid (O.out.later hbz)
    have HGXm := Lib.hid (HGX.out.later hbz)
    have HRm := Lib.hid (below_at' hbz HR.out)
    clear hbz O HGX HR
    have O := Om
    have HGX := HGXm
    have HR := HRm
    clear Om HGXm HRm
    have hS : d1.heap[R]? = some (.cells #[.int .i64 a.kd, .int .i64 a.k, .int .i64 a.q, .int .i64 a.n, .int .u64 (uw0 a.m), .int .u64 (uw1 a.m), .int .u64 (uw2 a.m), .int .u64 (uw3 a.m), .slice a.ld a.l.length a.lc] 27 (0, 0)) := HR.out
    refine wp_region_till (fun w' => w'.heap[R]? = some (.cells #[.int .i64 a.kd, .int .i64 a.k, .int .i64 a.q, .int .i64 a.n, .int .u64 (uw0 a.m), .int .u64 (uw1 a.m), .int .u64 (uw2 a.m), .int .u64 (uw3 a.m), .slice a.ld a.l.length a.lc] 27 (0, 0))) 7 7 (by kernel_rfl) rfl ?_
    rw [← hwz]
    clear hwz
    refine till_take 0 (some 100) rfl rfl (by kernel_rfl) (by kernel_rfl) (by kernel_rfl) (by kernel_rfl) (by kernel_rfl) (by kernel_rfl) (fun _ _ _ h => h) (.inl ⟨by rfl, fun w' _ => (by go_simp; rfl)⟩) hS ?_
    go_frame
    refine till_take 1 (some 101) rfl rfl (by kernel_rfl) (by kernel_rfl) (by kernel_rfl) (by kernel_rfl) (by kernel_rfl) (by kernel_rfl) (fun _ _ _ h => h) (.inl ⟨by rfl, fun w' _ => (by go_simp; rfl)⟩) hS ?_
    go_frame
    refine till_take 2 (some 102) rfl rfl (by kernel_rfl) (by kernel_rfl) (by kernel_rfl) (by kernel_rfl) (by kernel_rfl) (by kernel_rfl) (fun _ _ _ h => h) (.inl ⟨by rfl, fun w' hS' => (by have hc : w'.cell? ⟨R, 1, none⟩ = some (.int .i64 a.k) := Lib.cell_of_heap (hS') 1; go_simp; rfl)⟩) hS ?_
    go_frame
    refine till_take 4 (some 104) rfl rfl (by kernel_rfl) (by kernel_rfl) (by kernel_rfl) (by kernel_rfl) (by kernel_rfl) (by kernel_rfl) (fun _ _ _ h => h) (.inl ⟨by rfl, fun w' _ => (by go_simp; rfl)⟩) hS ?_
    go_frame
    refine till_take 5 (some 105) rfl rfl (by kernel_rfl) (by kernel_rfl) (by kernel_rfl) (by kernel_rfl) (by kernel_rfl) (by kernel_rfl) (fun _ _ _ h => h) (.inl ⟨by rfl, fun w' hS' => (by have hc : w'.cell? ⟨R, 8, none⟩ = some (.slice a.ld a.l.length a.lc) := Lib.cell_of_heap (hS') 8; go_simp; rfl)⟩) hS ?_
    go_frame
    refine till_one 3 rfl (by kernel_rfl) fun K hK => ?_
    simp only [List.getElem_toArray, List.getElem_cons_succ, List.getElem_cons_zero]
    rw [if_pos (by rfl)]
    go_simp
    refine (ckey_any a.k _).mono ?_
    rintro e d2 ⟨rfl, hb⟩
    have Om := Lib.hid (O.out.later hb)
    have HGXm := Lib.hid (HGX.out.later hb)
    have HRm := Lib.hid (below_at' hb HR.out)
    clear hb O HGX HR
    have O := Om
    have HGX := HGXm
    have HR := HRm
    clear Om HGXm HRm
    have hS2 : d2.heap[R]? = some (.cells #[.int .i64 a.kd, .int .i64 a.k, .int .i64 a.q, .int .i64 a.n, .int .u64 (uw0 a.m), .int .u64 (uw1 a.m), .int .u64 (uw2 a.m), .int .u64 (uw3 a.m), .slice a.ld a.l.length a.lc] 27 (0, 0)) := HR.out
    refine hK _ _ (fun _ _ => hS2) ?_
    clear hK hS
    have hS := hS2
    clear hS2
    refine till_one 6 rfl (by kernel_rfl) fun K hK => ?_
    simp only [List.getElem_toArray, List.getElem_cons_succ, List.getElem_cons_zero]
    rw [if_pos (by rfl)]
    go_simp
    refine (setRow_not (NN.out.later O.out.below) (ckey a.k) (by have := HL.out; omega) HGX.out.i64_l HGX.out.rd_l).mono ?_
    rintro e d3 ⟨rfl, hb⟩
    have Om := Lib.hid (O.out.later hb)
    have HGXm := Lib.hid (HGX.out.later hb)
    have HRm := Lib.hid (below_at' hb HR.out)
    clear hb O HGX HR
    have O := Om
    have HGX := HGXm
    have HR := HRm
    clear Om HGXm HRm
    have hS2 : d3.heap[R]? = some (.cells #[.int .i64 a.kd, .int .i64 a.k, .int .i64 a.q, .int .i64 a.n, .int .u64 (uw0 a.m), .int .u64 (uw1 a.m), .int .u64 (uw2 a.m), .int .u64 (uw3 a.m), .slice a.ld a.l.length a.lc] 27 (0, 0)) := HR.out
    refine hK _ _ (fun _ _ => hS2) ?_
    clear hK hS
    have hS := hS2
    clear hS2
    refine till_done (by kernel_rfl) ?_ _
    clear hS
    go_wp2_with fail
    obtain ⟨d4, hwz⟩ : ∃ wz, wz = d3.drew := ⟨_, rfl⟩
    have hbz : Below d3.heap.size d3 d4 := by rw [hwz]; exact (Below.refl _ _).drew
    have Om := Lib.hid (O.out.later hbz)
    have HGXm := Lib.hid (HGX.out.later hbz)
    have HRm := Lib.hid (below_at' hbz HR.out)
    clear hbz O HGX HR
    have O := Om
    have HGX := HGXm
    have HR := HRm
    clear Om HGXm HRm
    have hS : d4.heap[R]? = some (.cells #[.int .i64 a.kd, .int .i64 a.k, .int .i64 a.q, .int .i64 a.n, .int .u64 (uw0 a.m), .int .u64 (uw1 a.m), .int .u64 (uw2 a.m), .int .u64 (uw3 a.m), .slice a.ld a.l.length a.lc] 27 (0, 0)) := HR.out
    refine wp_region_till (fun w' => w'.heap[R]? = some (.cells #[.int .i64 a.kd, .int .i64 a.k, .int .i64 a.q, .int .i64 a.n, .int .u64 (uw0 a.m), .int .u64 (uw1 a.m), .int .u64 (uw2 a.m), .int .u64 (uw3 a.m), .slice a.ld a.l.length a.lc] 27 (0, 0))) 7 7 (by kernel_rfl) rfl ?_
    rw [← hwz]
    clear hwz
    refine till_take 0 (some 107) rfl rfl (by kernel_rfl) (by kernel_rfl) (by kernel_rfl) (by kernel_rfl) (by kernel_rfl) (by kernel_rfl) (fun _ _ _ h => h) (.inl ⟨by rfl, fun w' _ => (by go_simp; rfl)⟩) hS ?_
    go_frame
    refine till_take 1 (some 108) rfl rfl (by kernel_rfl) (by kernel_rfl) (by kernel_rfl) (by kernel_rfl) (by kernel_rfl) (by kernel_rfl) (fun _ _ _ h => h) (.inl ⟨by rfl, fun w' _ => (by go_simp; rfl)⟩) hS ?_
    go_frame
    refine till_take 2 (some 109) rfl rfl (by kernel_rfl) (by kernel_rfl) (by kernel_rfl) (by kernel_rfl) (by kernel_rfl) (by kernel_rfl) (fun _ _ _ h => h) (.inl ⟨by rfl, fun w' hS' => (by have hc : w'.cell? ⟨R, 1, none⟩ = some (.int .i64 a.k) := Lib.cell_of_heap (hS') 1; go_simp; rfl)⟩) hS ?_
    go_frame
    refine till_take 4 (some 111) rfl rfl (by kernel_rfl) (by kernel_rfl) (by kernel_rfl) (by kernel_rfl) (by kernel_rfl) (by kernel_rfl) (fun _ _ _ h => h) (.inl ⟨by rfl, fun w' _ => (by go_simp; rfl)⟩) hS ?_
    go_frame
    refine till_take 5 (some 112) rfl rfl (by kernel_rfl) (by kernel_rfl) (by kernel_rfl) (by kernel_rfl) (by kernel_rfl) (by kernel_rfl) (fun _ _ _ h => h) (.inl ⟨by rfl, fun w' hS' => (by have hc : w'.cell? ⟨R, 8, none⟩ = some (.slice a.ld a.l.length a.lc) := Lib.cell_of_heap (hS') 8; go_simp; rfl)⟩) hS ?_
    go_frame
    refine till_one 3 rfl (by kernel_rfl) fun K hK => ?_
    simp only [List.getElem_toArray, List.getElem_cons_succ, List.getElem_cons_zero]
    rw [if_pos (by rfl)]
    go_simp
    refine (own10_any a.k _).mono ?_
    rintro e d5 ⟨rfl, hb⟩
    have Om := Lib.hid (O.out.later hb)
    have HGXm := Lib.hid (HGX.out.later hb)
    have HRm := Lib.hid (below_at' hb HR.out)
    clear hb O HGX HR
    have O := Om
    have HGX := HGXm
    have HR := HRm
    clear Om HGXm HRm
    have hS2 : d5.heap[R]? = some (.cells #[.int .i64 a.kd, .int .i64 a.k, .int .i64 a.q, .int .i64 a.n, .int .u64 (uw0 a.m), .int .u64 (uw1 a.m), .int .u64 (uw2 a.m), .int .u64 (uw3 a.m), .slice a.ld a.l.length a.lc] 27 (0, 0)) := HR.out
    refine hK _ _ (fun _ _ => hS2) ?_
    clear hK hS
    have hS := hS2
    clear hS2
    refine till_one 6 rfl (by kernel_rfl) fun K hK => ?_
    simp only [List.getElem_toArray, List.getElem_cons_succ, List.getElem_cons_zero]
    rw [if_pos (by rfl)]
    go_simp
    refine (O.out.rs fun F hs => rsetRow_any hs (by decide) (ckey a.k) (by have := HL.out; omega) HGX.out.i64_l HGX.out.rd_l).mono ?_
    rintro e d6 ⟨rfl, o, hoth⟩
    have Om := Lib.hid o
    have HRm := Lib.hid (hoth.2 R _ HR.out rfl rfl)
    clear o hoth O HR
    have O := Om
    have HR := HRm
    clear Om HRm
    have hS2 : d6.heap[R]? = some (.cells #[.int .i64 a.kd, .int .i64 a.k, .int .i64 a.q, .int .i64 a.n, .int .u64 (uw0 a.m), .int .u64 (uw1 a.m), .int .u64 (uw2 a.m), .int .u64 (uw3 a.m), .slice a.ld a.l.length a.lc] 27 (0, 0)) := HR.out
    refine hK _ _ (fun _ _ => hS2) ?_
    clear hK hS
    have hS := hS2
    clear hS2
    refine till_done (by kernel_rfl) ?_ _
    clear hS
    go_wp2_with fail
    go_ret
    exact ⟨_, rfl, O.out.below⟩
  have f5 : (a.kd == 5) = false := by simpa using e5
  clear e5
  by_cases e6 : a.kd = 6
  · have c0 : w1.cell? ⟨R, 0, none⟩ = some (.int .i64 6) := by rw [← e6]; exact Lib.cell_of_heap HR.out 0
    clear e6
    go_wp2_with fail
    clear c0
    obtain ⟨d1, hwz⟩ : ∃ wz, wz = w1.drew := ⟨_, rfl⟩
    have hbz : Below w1.heap.size w1 d1 := by rw [hwz]; exact (Below.refl _ _).drew
    have Om := Lib.hid (O.out.later hbz)
    have HGXm := Lib.hid (HGX.out.later hbz)
    have HRm := Lib.hid (below_at' hbz HR.out)
    clear hbz O HGX HR
    have O := Om
    have HGX := HGXm
    have HR := HRm
    clear Om HGXm HRm
    have hS : d1.heap[R]? = some (.cells #[.int .i64 a.kd, .int .i64 a.k, .int .i64 a.q, .int .i64 a.n, .int .u64 (uw0 a.m), .int .u64 (uw1 a.m), .int .u64 (uw2 a.m), .int .u64 (uw3 a.m), .slice a.ld a.l.length a.lc] 27 (0, 0)) := HR.out
    refine wp_region_till (fun w' => w'.heap[R]? = some (.cells #[.int .i64 a.kd, .int .i64 a.k, .int .i64 a.q, .int .i64 a.n, .int .u64 (uw0 a.m), .int .u64 (uw1 a.m), .int .u64 (uw2 a.m), .int .u64 (uw3 a.m), .slice a.ld a.l.length a.lc] 27 (0, 0))) 12 12 (by kernel_rfl) rfl ?_
    rw [← hwz]
    clear hwz
    refine till_take 0 (some 116) rfl rfl (by kernel_rfl) (by kernel_rfl) (by kernel_rfl) (by kernel_rfl) (by kernel_rfl) (by kernel_rfl) (fun _ _ _ h => h) (.inl ⟨by rfl, fun w' _ => (by go_simp; rfl)⟩) hS ?_
    go_frame
    refine till_take 1 (some 117) rfl rfl (by kernel_rfl) (by kernel_rfl) (by kernel_rfl) (by kernel_rfl) (by kernel_rfl) (by kernel_rfl) (fun _ _ _ h => h) (.inl ⟨by rfl, fun w' _ => (by go_simp; rfl)⟩) hS ?_
    go_frame
    refine till_take 2 (some 118) rfl rfl (by kernel_rfl) (by kernel_rfl) (by kernel_rfl) (by kernel_rfl) (by kernel_rfl) (by kernel_rfl) (fun _ _ _ h => h) (.inl ⟨by rfl, fun w' hS' => (by have hc : w'.cell? ⟨R, 1, none⟩ = some (.int .i64 a.k) := Lib.cell_of_heap (hS') 1; go_simp; rfl)⟩) hS ?_
    go_frame
    refine till_take 5 (some 121) rfl rfl (by kernel_rfl) (by kernel_rfl) (by kernel_rfl) (by kernel_rfl) (by kernel_rfl) (by kernel_rfl) (fun _ _ _ h => h) (.inl ⟨by rfl, fun w' _ => (by go_simp; rfl)⟩) hS ?_
    go_frame
    refine till_take 6 (some 122) rfl rfl (by kernel_rfl) (by kernel_rfl) (by kernel_rfl) (by kernel_rfl) (by kernel_rfl) (by kernel_rfl) (fun _ _ _ h => h) (.inl ⟨by rfl, fun w' _ => (by go_simp; rfl)⟩) hS ?_
    go_frame
    refine till_take 7 (some 123) rfl rfl (by kernel_rfl) (by kernel_rfl) (by kernel_rfl) (by kernel_rfl) (by kernel_rfl) (by kernel_rfl) (fun _ _ _ h => h) (.inl ⟨by rfl, fun w' hS' => (by have hc : w'.cell? ⟨R, 1, none⟩ = some (.int .i64 a.k) := Lib.cell_of_heap (hS') 1; go_simp; rfl)⟩) hS ?_
    go_frame
    refine till_one 3 rfl (by kernel_rfl) fun K hK => ?_
    simp only [List.getElem_toArray, List.getElem_cons_succ, List.getElem_cons_zero]
    rw [if_pos (by rfl)]
    go_simp
    refine (ckey_any a.k _).mono ?_
    rintro e d2 ⟨rfl, hb⟩
    have Om := Lib.hid (O.out.later hb)
    have HGXm := Lib.hid (HGX.out.later hb)
    have HRm := Lib.hid (below_at' hb HR.out)
    clear hb O HGX HR
    have O := Om
    have HGX := HGXm
    have HR := HRm
    clear Om HGXm HRm
    have hS2 : d2.heap[R]? = some (.cells #[.int .i64 a.kd, .int .i64 a.k, .int .i64 a.q, .int .i64 a.n, .int .u64 (uw0 a.m), .int .u64 (uw1 a.m), .int .u64 (uw2 a.m), .int .u64 (uw3 a.m), .slice a.ld a.l.length a.lc] 27 (0, 0)) := HR.out
    refine hK _ _ (fun _ _ => hS2) ?_
    clear hK hS
    have hS := hS2
    clear hS2
    refine till_one 4 rfl (by kernel_rfl) fun K hK => ?_
    simp only [List.getElem_toArray, List.getElem_cons_succ, List.getElem_cons_zero]
    rw [if_pos (by rfl)]
    go_simp
    refine (next_not (NN.out.later O.out.below) (ckey a.k)).mono ?_
    rintro e d3 ⟨rfl, hb⟩
    have Om := Lib.hid (O.out.later hb)
    have HGXm := Lib.hid (HGX.out.later hb)
    have HRm := Lib.hid (below_at' hb HR.out)
    clear hb O HGX HR
    have O := Om
    have HGX := HGXm
    have HR := HRm
    clear Om HGXm HRm
    have hS2 : d3.heap[R]? = some (.cells #[.int .i64 a.kd, .int .i64 a.k, .int .i64 a.q, .int .i64 a.n, .int .u64 (uw0 a.m), .int .u64 (uw1 a.m), .int .u64 (uw2 a.m), .int .u64 (uw3 a.m), .slice a.ld a.l.length a.lc] 27 (0, 0)) := HR.out
    refine hK _ _ (fun _ _ => hS2) ?_
    clear hK hS
    have hS := hS2
    clear hS2
    refine till_one 8 rfl (by kernel_rfl) fun K hK => ?_
    simp only [List.getElem_toArray, List.getElem_cons_succ, List.getElem_cons_zero]
    rw [if_pos (by rfl)]
    go_simp
    refine (own10_any a.k _).mono ?_
    rintro e d4 ⟨rfl, hb⟩
    have Om := Lib.hid (O.out.later hb)
    have HGXm := Lib.hid (HGX.out.later hb)
    have HRm := Lib.hid (below_at' hb HR.out)
    clear hb O HGX HR
    have O := Om
    have HGX := HGXm
    have HR := HRm
    clear Om HGXm HRm
    have hS2 : d4.heap[R]? = some (.cells #[.int .i64 a.kd, .int .i64 a.k, .int .i64 a.q, .int .i64 a.n, .int .u64 (uw0 a.m), .int .u64 (uw1 a.m), .int .u64 (uw2 a.m), .int .u64 (uw3 a.m), .slice a.ld a.l.length a.lc] 27 (0, 0)) := HR.out
    refine hK _ _ (fun _ _ => hS2) ?_
    clear hK hS
    have hS := hS2
    clear hS2
    refine till_one 9 rfl (by kernel_rfl) fun K hK => ?_
    simp only [List.getElem_toArray, List.getElem_cons_succ, List.getElem_cons_zero]
    rw [if_pos (by rfl)]
    go_simp
    refine (O.out.rs fun F hs => rnext_any hs (by decide) Fit.new (ckey a.k)).mono ?_
    rintro e d5 ⟨rfl, o, hoth⟩
    have Om := Lib.hid o
    have HRm := Lib.hid (hoth.2 R _ HR.out rfl rfl)
    clear o hoth O HR
    have O := Om
    have HR := HRm
    clear Om HRm
    have hS2 : d5.heap[R]? = some (.cells #[.int .i64 a.kd, .int .i64 a.k, .int .i64 a.q, .int .i64 a.n, .int .u64 (uw0 a.m), .int .u64 (uw1 a.m), .int .u64 (uw2 a.m), .int .u64 (uw3 a.m), .slice a.ld a.l.length a.lc] 27 (0, 0)) := HR.out
    refine hK _ _ (fun _ _ => hS2) ?_
    clear hK hS
    have hS := hS2
    clear hS2
    refine till_take 10 (some 126) rfl rfl (by kernel_rfl) (by kernel_rfl) (by kernel_rfl) (by kernel_rfl) (by kernel_rfl) (by kernel_rfl) (fun _ _ _ h => h) (.inl ⟨by rfl, fun w' _ => (by go_simp; rfl)⟩) hS ?_
    go_frame
    refine till_take 11 (some 6) rfl rfl (by kernel_rfl) (by kernel_rfl) (by kernel_rfl) (by kernel_rfl) (by kernel_rfl) (by kernel_rfl) (fun _ _ _ h => h) (.inl ⟨by rfl, fun w' _ => (by go_simp; rfl)⟩) hS ?_
    go_frame
    refine till_done (by kernel_rfl) ?_ _
    clear hS
    go_wp2_with fail
    go_ret
    exact ⟨_, rfl, O.out.below⟩
  have f6 : (a.kd == 6) = false := by simpa using e6
  clear e6
  have c0 : w1.cell? ⟨R, 0, none⟩ = some (.int .i64 a.kd) := Lib.cell_of_heap HR.out 0
  go_wp2_with fail
  go_ret
  exact ⟨_, rfl, O.out.below⟩

theorem Tryz.idxSt0 (p q : Value) (w : World) : (Instr.index 37 (.agg #[p, q]) (.int .i64 0)).run Tryz.prog w = .ok p w := by kernel_rfl
theorem Tryz.idxSt1 (p q : Value) (w : World) : (Instr.index 37 (.agg #[p, q]) (.int .i64 1)).run Tryz.prog w = .ok q w := by kernel_rfl
theorem getI_f0 (k : Txt) : getI f0 k = 0 := by
  show intF (rowF []) = 0
  decide +kernel
theorem rowF_f0 (k : Txt) : rowF (valF f0 k) = [] := by
  show rowF [] = []
  decide +kernel
theorem subE_f0 (k : Txt) : subE f0 k 1 = 13 := by unfold subE; rw [amtV_f0]; rfl

set_option maxHeartbeats 16000000 in
set_option maxRecDepth 100000 in
theorem none10_any {w : World} (a : Act10) (hga : Good10 w a) : Calls Tryz.prog 3 #[.agg #[.int .i64 a.kd, .int .i64 a.k, .int .i64 a.q, .int .i64 a.n, .int .u64 (uw0 a.m), .int .u64 (uw1 a.m), .int .u64 (uw2 a.m), .int .u64 (uw3 a.m), .slice a.ld a.l.length a.lc]] w (Ret w (.bool true)) := by
  have HGA := Lib.hid hga
  clear hga
  go_enter Tryz.func3, Tryz.ntmps3
  go_upto_region 1 with fail
  obtain ⟨w0, hw0⟩ : ∃ w0, w0 = w.alloc (.cells #[.int .i64 a.kd, .int .i64 a.k, .int .i64 a.q, .int .i64 a.n, .int .u64 (uw0 a.m), .int .u64 (uw1 a.m), .int .u64 (uw2 a.m), .int .u64 (uw3 a.m), .slice a.ld a.l.length a.lc] 27) := ⟨_, rfl⟩
  obtain ⟨R, hR⟩ : ∃ R, R = w.heap.size := ⟨_, rfl⟩
  rw [← hw0, ← hR]
  have HX : Hid (w0.heap[R]? = some (.cells #[.int .i64 a.kd, .int .i64 a.k, .int .i64 a.q, .int .i64 a.n, .int .u64 (uw0 a.m), .int .u64 (uw1 a.m), .int .u64 (uw2 a.m), .int .u64 (uw3 a.m), .slice a.ld a.l.length a.lc] 27 (0, 0))) := Lib.hid (by rw [hw0, hR]; exact heap_alloc_new _ _)
  have HB : Hid (Below w.heap.size w w0) := Lib.hid (by rw [hw0]; exact below_new _ _)
  clear hw0 hR
  go_wp2_with (refine wpList_load_row rfl 27 _ rfl R rfl 27 _ _ _ HX.out Tryz.underlying27 rfl Tryz.sizeAct10 ?_)
  have hla := litA10 w0 a
  obtain ⟨w1, hw1⟩ : ∃ w1, w1 = w0.alloc (.cells #[.int .i64 a.kd, .int .i64 a.k, .int .i64 a.q, .int .i64 a.n, .int .u64 (uw0 a.m), .int .u64 (uw1 a.m), .int .u64 (uw2 a.m), .int .u64 (uw3 a.m), .slice a.ld a.l.length a.lc] 27) := ⟨_, rfl⟩
  obtain ⟨gj, hgj⟩ : ∃ gi, gi = w0.heap.size := ⟨_, rfl⟩
  rw [← hw1, ← hgj] at hla ⊢
  have hb : Below w0.heap.size w0 w1 := by rw [hw1]; exact below_new _ _
  have HX1 := Lib.hid (below_at' hb HX.out); have HB1 := Lib.hid (HB.out.trans (hb.mono HB.out.size)); have HLA := Lib.hid hla
  clear hb hw1 hgj hla HX HB
  refine (light10_any HLA.out).mono ?_
  rintro e w2 ⟨r, rfl, hr, hb⟩
  have HX2 := Lib.hid (below_at' hb HX1.out); have HB2 := Lib.hid (HB1.out.trans (hb.mono HB1.out.size))
  clear hb HX1 HB1 HLA
  cases r with
  | false =>
    go_wp2_with fail
    refine (lives10_any _).mono ?_
    rintro e w3 ⟨rfl, hb⟩
    have HB3 := Lib.hid (HB2.out.trans (hb.mono HB2.out.size))
    clear hb
    go_wp2_with fail
    go_ret
    exact ⟨rfl, HB3.out⟩
  | true =>
  have HL20 : Hid (a.l.length ≤ 20) := Lib.hid ((hr rfl).2 a (by simp))
  clear hr
  go_wp2_with fail
  obtain ⟨w3, hw3⟩ : ∃ w3, w3 = w2.alloc (.cells #[.bool false, .map none, .slice none 0 0, .slice none 0 0] 35) := ⟨_, rfl⟩
  obtain ⟨gz, hgz⟩ : ∃ gz, gz = w2.heap.size := ⟨_, rfl⟩
  rw [← hw3, ← hgz]
  have hz3 : w3.heap[gz]? = some (.cells #[.bool false, .map none, .slice none 0 0, .slice none 0 0] 35 (0, 0)) := by rw [hw3, hgz]; exact heap_alloc_new _ _
  have hb3 : Below w2.heap.size w2 w3 := by rw [hw3]; exact below_new _ _
  have HB3 := Lib.hid (HB2.out.trans (hb3.mono HB2.out.size))
  have HX3 := Lib.hid (below_at' hb3 HX2.out)
  have HN0 : Hid (NotMade w3 none) := Lib.hid (.inl rfl)
  have HN1 : Hid (NotMade w3 (some ⟨gz, 0, none⟩)) := Lib.hid (.inr ⟨gz, _, _, rfl, hz3, rfl⟩)
  clear hw3 hgz hz3 hb3 HX2 HB2
  go_loopw [12] (fun vi wr => (vi = .int .i64 0 ∨ vi = .int .i64 1 ∨ vi = .int .i64 2) ∧ Hid (Below w3.heap.size w3 wr)) (fun vi _ => 2 - (intOf vi).toNat)
  case atStart => exact ⟨.inl rfl, Lib.hid (Below.refl _ _)⟩
  case round =>
    obtain ⟨hv, BW⟩ := hrel
    have hi0 := fun w => Tryz.idxSt0 (.pointer none) (.pointer (some ⟨gz, 0, none⟩)) w
    have hi1 := fun w => Tryz.idxSt1 (.pointer none) (.pointer (some ⟨gz, 0, none⟩)) w
    rcases hv with rfl | rfl | rfl
    · go_upto_region 7 with fail
      have HXL := Lib.hid (below_at' ((below_new wr (.cells #[.slice none 0 0, .slice none 0 0] 43))) (below_at' BW.out HX3.out))
      go_wp2_with (refine wpList_load_row rfl 27 _ rfl R rfl 27 _ _ _ HXL.out Tryz.underlying27 rfl Tryz.sizeAct10 ?_)
      obtain ⟨wz, hwz⟩ : ∃ w1, w1 = wr.alloc (.cells #[.slice none 0 0, .slice none 0 0] 43) := ⟨_, rfl⟩
      obtain ⟨h, hh⟩ : ∃ h, h = wr.heap.size := ⟨_, rfl⟩
      rw [← hwz, ← hh]
      have hb4 : Below wr.heap.size wr wz := by rw [hwz]; exact below_new _ _
      have hx4 : wz.heap[h]? = some (.cells #[.slice none 0 0, .slice none 0 0] 43 (0, 0)) := by rw [hwz, hh]; exact heap_alloc_new _ _
      have hrs : RS wz h PS.new (rfoot h (.slice none 0 0) (.slice none 0 0)) := ⟨_, _, ⟨hx4, LO.nil _ _ _ _, LO.nil _ _ _ _, List.Pairwise.nil⟩, rfl⟩
      have hfx : ∀ x ∈ rfoot h (.slice none 0 0) (.slice none 0 0), w3.heap.size ≤ x := by
        intro x hx
        rw [rfoot_eq] at hx
        rcases hx with e | e | e
        · rw [e, hh]; exact BW.out.size
        · cases e
        · cases e
      have HRO : Hid (ROne w3 wz h PS.new) := Lib.hid ⟨_, hrs, hfx, BW.out.trans (hb4.mono BW.out.size)⟩
      have HG4 : Hid (Good10 wz a) := Lib.hid (HGA.out.later (HB3.out.trans ((BW.out.trans (hb4.mono BW.out.size)).mono HB3.out.size)))
      clear hwz hh hb4 hx4 hrs hfx HXL BW
      refine (act10_not HN0.out HRO.out HG4.out HL20.out).mono ?_
      rintro e wy ⟨bb, rfl, hb⟩
      have BW := Lib.hid hb
      clear hb HRO HG4
      have q1 : wy.cell? ⟨R, 1, none⟩ = some (.int .i64 a.k) := Lib.cell_of_heap (below_at' BW.out HX3.out) 1
      go_wp2_with fail
      clear q1
      refine (ckey_any a.k _).mono ?_
      rintro e d1 ⟨rfl, hb⟩
      have BWm := Lib.hid (BW.out.trans (hb.mono BW.out.size))
      clear hb BW
      have BW := BWm
      clear BWm
      go_wp2_with fail
      refine (int_any (f := f0) (Look.of_not (HN0.out.later BW.out)) f0_fit (ckey a.k)).mono ?_
      rw [getI_f0]
      rintro e d2 ⟨rfl, hb⟩
      have BWm := Lib.hid (BW.out.trans (hb.mono BW.out.size))
      clear hb BW
      have BW := BWm
      clear BWm
      have q1 : d2.cell? ⟨R, 1, none⟩ = some (.int .i64 a.k) := Lib.cell_of_heap (below_at' BW.out HX3.out) 1
      go_wp2_with fail
      clear q1
      refine (ckey_any a.k _).mono ?_
      rintro e d3 ⟨rfl, hb⟩
      have BWm := Lib.hid (BW.out.trans (hb.mono BW.out.size))
      clear hb BW
      have BW := BWm
      clear BWm
      go_wp2_with fail
      refine (camount_any (f := f0) (Look.of_not (HN0.out.later BW.out)) f0_fit (ckey a.k)).mono ?_
      rw [amtV_f0]
      rintro e d4 ⟨ya, yb, yc, yd, hu, rfl, hb⟩
      have HYU := Lib.hid hu
      clear hu
      have BWm := Lib.hid (BW.out.trans (hb.mono BW.out.size))
      clear hb BW
      have BW := BWm
      clear BWm
      have e1 := Tryz.eqUn HYU.out UIs.zero
      rw [decide_eq_true rfl] at e1
      have q1 : d4.cell? ⟨R, 1, none⟩ = some (.int .i64 a.k) := Lib.cell_of_heap (below_at' BW.out HX3.out) 1
      go_wp2_with fail
      clear q1 e1
      refine (ckey_any a.k _).mono ?_
      rintro e d5 ⟨rfl, hb⟩
      have BWm := Lib.hid (BW.out.trans (hb.mono BW.out.size))
      clear hb BW
      have BW := BWm
      clear BWm
      go_wp2_with fail
      refine (row_any (f := f0) (Look.of_not (HN0.out.later BW.out)) f0_fit (ckey a.k)).mono ?_
      rw [rowF_f0]
      rintro e d6 ⟨v, rfl, hv, hb⟩
      obtain ⟨rad, rcap, rfl, _, _⟩ := (own_rd hv).shape
      clear hv
      have BWm := Lib.hid (BW.out.trans (hb.mono BW.out.size))
      clear hb BW
      have BW := BWm
      clear BWm
      go_wp2_with fail
      refine (ckey_any 1 _).mono ?_
      rintro e d7 ⟨rfl, hb⟩
      have BWm := Lib.hid (BW.out.trans (hb.mono BW.out.size))
      clear hb BW
      have BW := BWm
      clear BWm
      go_wp2_with fail
      refine (csub_not (HN0.out.later BW.out) (ckey 1) (m := 1) (by unfold UIs; omega)).mono ?_
      rw [subE_f0]
      rintro e d8 ⟨rfl, hb⟩
      have BWm := Lib.hid (BW.out.trans (hb.mono BW.out.size))
      clear hb BW
      have BW := BWm
      clear BWm
      go_wp2_with fail
      refine (slen_not (HN0.out.later BW.out)).mono ?_
      rintro e _ ⟨rfl, rfl⟩
      go_wp2_with fail
      go_roundw
      case rel => exact ⟨.inr (.inl rfl), BW⟩
      case measure => simp [intOf]
    · go_upto_region 7 with fail
      have HXL := Lib.hid (below_at' ((below_new wr (.cells #[.slice none 0 0, .slice none 0 0] 43))) (below_at' BW.out HX3.out))
      go_wp2_with (refine wpList_load_row rfl 27 _ rfl R rfl 27 _ _ _ HXL.out Tryz.underlying27 rfl Tryz.sizeAct10 ?_)
      obtain ⟨wz, hwz⟩ : ∃ w1, w1 = wr.alloc (.cells #[.slice none 0 0, .slice none 0 0] 43) := ⟨_, rfl⟩
      obtain ⟨h, hh⟩ : ∃ h, h = wr.heap.size := ⟨_, rfl⟩
      rw [← hwz, ← hh]
      have hb4 : Below wr.heap.size wr wz := by rw [hwz]; exact below_new _ _
      have hx4 : wz.heap[h]? = some (.cells #[.slice none 0 0, .slice none 0 0] 43 (0, 0)) := by rw [hwz, hh]; exact heap_alloc_new _ _
      have hrs : RS wz h PS.new (rfoot h (.slice none 0 0) (.slice none 0 0)) := ⟨_, _, ⟨hx4, LO.nil _ _ _ _, LO.nil _ _ _ _, List.Pairwise.nil⟩, rfl⟩
      have hfx : ∀ x ∈ rfoot h (.slice none 0 0) (.slice none 0 0), w3.heap.size ≤ x := by
        intro x hx
        rw [rfoot_eq] at hx
        rcases hx with e | e | e
        · rw [e, hh]; exact BW.out.size
        · cases e
        · cases e
      have HRO : Hid (ROne w3 wz h PS.new) := Lib.hid ⟨_, hrs, hfx, BW.out.trans (hb4.mono BW.out.size)⟩
      have HG4 : Hid (Good10 wz a) := Lib.hid (HGA.out.later (HB3.out.trans ((BW.out.trans (hb4.mono BW.out.size)).mono HB3.out.size)))
      clear hwz hh hb4 hx4 hrs hfx HXL BW
      refine (act10_not HN1.out HRO.out HG4.out HL20.out).mono ?_
      rintro e wy ⟨bb, rfl, hb⟩
      have BW := Lib.hid hb
      clear hb HRO HG4
      have q1 : wy.cell? ⟨R, 1, none⟩ = some (.int .i64 a.k) := Lib.cell_of_heap (below_at' BW.out HX3.out) 1
      go_wp2_with fail
      clear q1
      refine (ckey_any a.k _).mono ?_
      rintro e d1 ⟨rfl, hb⟩
      have BWm := Lib.hid (BW.out.trans (hb.mono BW.out.size))
      clear hb BW
      have BW := BWm
      clear BWm
      go_wp2_with fail
      refine (int_any (f := f0) (Look.of_not (HN1.out.later BW.out)) f0_fit (ckey a.k)).mono ?_
      rw [getI_f0]
      rintro e d2 ⟨rfl, hb⟩
      have BWm := Lib.hid (BW.out.trans (hb.mono BW.out.size))
      clear hb BW
      have BW := BWm
      clear BWm
      have q1 : d2.cell? ⟨R, 1, none⟩ = some (.int .i64 a.k) := Lib.cell_of_heap (below_at' BW.out HX3.out) 1
      go_wp2_with fail
      clear q1
      refine (ckey_any a.k _).mono ?_
      rintro e d3 ⟨rfl, hb⟩
      have BWm := Lib.hid (BW.out.trans (hb.mono BW.out.size))
      clear hb BW
      have BW := BWm
      clear BWm
      go_wp2_with fail
      refine (camount_any (f := f0) (Look.of_not (HN1.out.later BW.out)) f0_fit (ckey a.k)).mono ?_
      rw [amtV_f0]
      rintro e d4 ⟨ya, yb, yc, yd, hu, rfl, hb⟩
      have HYU := Lib.hid hu
      clear hu
      have BWm := Lib.hid (BW.out.trans (hb.mono BW.out.size))
      clear hb BW
      have BW := BWm
      clear BWm
      have e1 := Tryz.eqUn HYU.out UIs.zero
      rw [decide_eq_true rfl] at e1
      have q1 : d4.cell? ⟨R, 1, none⟩ = some (.int .i64 a.k) := Lib.cell_of_heap (below_at' BW.out HX3.out) 1
      go_wp2_with fail
      clear q1 e1
      refine (ckey_any a.k _).mono ?_
      rintro e d5 ⟨rfl, hb⟩
      have BWm := Lib.hid (BW.out.trans (hb.mono BW.out.size))
      clear hb BW
      have BW := BWm
      clear BWm
      go_wp2_with fail
      refine (row_any (f := f0) (Look.of_not (HN1.out.later BW.out)) f0_fit (ckey a.k)).mono ?_
      rw [rowF_f0]
      rintro e d6 ⟨v, rfl, hv, hb⟩
      obtain ⟨rad, rcap, rfl, _, _⟩ := (own_rd hv).shape
      clear hv
      have BWm := Lib.hid (BW.out.trans (hb.mono BW.out.size))
      clear hb BW
      have BW := BWm
      clear BWm
      go_wp2_with fail
      refine (ckey_any 1 _).mono ?_
      rintro e d7 ⟨rfl, hb⟩
      have BWm := Lib.hid (BW.out.trans (hb.mono BW.out.size))
      clear hb BW
      have BW := BWm
      clear BWm
      go_wp2_with fail
      refine (csub_not (HN1.out.later BW.out) (ckey 1) (m := 1) (by unfold UIs; omega)).mono ?_
      rw [subE_f0]
      rintro e d8 ⟨rfl, hb⟩
      have BWm := Lib.hid (BW.out.trans (hb.mono BW.out.size))
      clear hb BW
      have BW := BWm
      clear BWm
      go_wp2_with fail
      refine (slen_not (HN1.out.later BW.out)).mono ?_
      rintro e _ ⟨rfl, rfl⟩
      go_wp2_with fail
      go_roundw
      case rel => exact ⟨.inr (.inr rfl), BW⟩
      case measure => simp [intOf]
    · go_wp2_with fail
      refine (lives10_any _).mono ?_
      rintro e w4 ⟨rfl, hb⟩
      have BX := Lib.hid (HB3.out.trans ((BW.out.trans (hb.mono BW.out.size)).mono HB3.out.size))
      clear hb BW
      go_wp2_with fail
      go_ret
      exact ⟨rfl, BX.out⟩
end Go.Proofs.YtnoocidoblndgaaGreat
