/- Banks: Total; law 17's example; where tokens are (code). No condition. -/
import Derived.Test.YteaigmoldlbjdaaBnkB
namespace Go.Proofs.Yteaigmoldlbjdaa
open Go.RowKit

/-- The beginnings of a token's keys. -/
def begs (t : Int) : List Txt := [keyF 1 [t], keyF 3 [t], keyF 4 [t], keyF 6 [t]]
def totF (Tb : Txt → Tab) (t : Int) : Nat := totT Tb (begs t)
def totB (Tb : Txt → Tab) (t : Int) : Bool := decide ((1 ≤ t ∧ t ≤ 1000) ∧ totF Tb t < uMax)
theorem cells_txt {w : World} {g : Nat} {l : List Txt} {cs : Array Value} (h : w.heap[g]? = some (.cells cs 9 (0, 0))) (he : cs = (l.map fun b => Value.string (bs b)).toArray) : ∀ (i : Nat) (hi : i < l.length), w.cell? ⟨g, i, none⟩ = some (.string (bs l[i])) := by
  subst he
  intro i hi
  have h8 := Lib.cell_of_heap h i
  have hz : i < ((l.map fun b => Value.string (bs b)).toArray).size := by simpa using hi
  simpa [hi] using h8

set_option maxHeartbeats 8000000 in
set_option maxRecDepth 100000 in
theorem total_any {w : World} {x : Option Addr} {Tb : Txt → Tab} (hU : UndB w x Tb) (hT : ∀ b, (Tb b).length < 1099511627776) (hs : ∀ b, ∀ p ∈ Tb b, p.2.length ≤ 1000000) {t : Int} (ht : I64 t) :
    Calls Try.prog 18 #[.pointer x, .int .i64 t] w (UOk w (totF Tb t) (totB Tb t)) := by
  have HU := Lib.hid hU; have HT := Lib.hid hT; have HSV := Lib.hid hs; have HTT := Lib.hid ht
  obtain ⟨q1, hq1⟩ : ∃ q, q = decide (1 ≤ t ∧ t ≤ 1000) := ⟨_, rfl⟩
  obtain ⟨q2, hq2⟩ : ∃ q, q = decide (totF Tb t < uMax) := ⟨_, rfl⟩
  obtain ⟨qq, hqq⟩ : ∃ q, q = totB Tb t := ⟨_, rfl⟩
  obtain ⟨tot, htot⟩ : ∃ q, q = totF Tb t := ⟨_, rfl⟩
  have HQQ : Hid (qq = (q1 && q2)) := Lib.hid (by rw [hqq, hq1, hq2]; unfold totB; rw [Bool.decide_and])
  rw [← hqq, ← htot]
  rw [← htot] at hq2
  have HQ1 := Lib.hid hq1; have HQ2 := Lib.hid hq2; have HTOT := Lib.hid htot
  clear hU hT hs ht hq1 hq2 hqq htot
  have HB : Hid (Below w.heap.size w w) := Lib.hid (Below.refl _ _)
  go_enter Try.func18, Try.ntmps18
  go_wp2_with (refine wpList_alloc_g rfl _ rfl _ _ Try.zeroUz rfl ?_)
  intro A a1 hA
  have WA : Hid (w.heap.size ≤ A) := Lib.hid (by rw [hA.out.eq]; exact (HB.out).size)
  have HAz := Lib.hid hA.out.cells; have hbA := hA.out.below
  clear hA
  have HBm := Lib.hid (HB.out.trans (hbA.mono HB.out.size))
  clear hbA HB
  have HB := HBm
  clear HBm
  have HA := HAz
  clear HAz
  go_wp2_with fail
  refine (within_any t 1000 _).mono ?_
  rw [← HQ1.out]
  rintro e _ ⟨rfl, rfl⟩
  cases q1 with
  | false =>
    have HF : Hid (qq = false) := Lib.hid (by rw [HQQ.out]; rfl)
    go_wp2_with (refine wpList_store_row_g (t := 24) (old := u0) rfl 24 _ _ rfl A u0 rfl rfl HA.out Try.sizeU rfl (one_u64 _ _ _ _) ?_)
    intro a2 hxA kA zA
    clear zA
    have HBm := Lib.hid (HB.out.trans (kA.below (B := w.heap.size) (fun y hy e => by have := WA.out; omega) HB.out.size))
    have HAm := Lib.hid hxA
    clear hxA kA HB HA
    have HB := HBm
    have HA := HAm
    clear HBm HAm
    go_wp2_with fail
    exact bodyPost_ret (res_row_val rfl _ _ A _ u0 _ _ rfl HA.out Try.underlying24 rfl Try.sizeU _ rfl) rfl ⟨0, 0, 0, 0, by rw [HF.out]; exact UIs.zero, by rw [HF.out]; rfl, HB.out⟩
  | true =>
    have HF : Hid (qq = q2) := Lib.hid (by rw [HQQ.out]; rfl)
    go_wp2_with fail
    obtain ⟨a2, hw1⟩ : ∃ w1, w1 = World.alloc a1 (.cells #[.int .i64 t] 3) := ⟨_, rfl⟩
    obtain ⟨gi, hgi⟩ : ∃ gi, gi = (World.heap a1).size := ⟨_, rfl⟩
    rw [← hw1, ← hgi]
    have HOI : Hid (Own a2 0 3 intE 1 (.slice (some ⟨gi, 0, none⟩) 1 1) [t]) := Lib.hid (own_lit (l := [t]) (by rw [hw1, hgi]; exact heap_alloc_new _ _) (Nat.zero_le _) (by unfold maxLen; simp))
    have hb : Below (World.heap a1).size a1 a2 := by rw [hw1]; exact below_new _ _
    clear hw1 hgi
    have HBm := Lib.hid (HB.out.trans (hb.mono HB.out.size))
    have HAm := Lib.hid (below_at' hb HA.out)
    clear hb HB HA
    have HB := HBm
    have HA := HAm
    clear HBm HAm
    refine (key_any 1 [t] _ _ (by simp) (I64s.one HTT.out) (HOI.out.rd fun _ => rfl)).mono ?_
    rintro e a3 ⟨rfl, hb⟩
    have HBm := Lib.hid (HB.out.trans (hb.mono HB.out.size))
    have HAm := Lib.hid (below_at' hb HA.out)
    clear hb HB HA
    have HB := HBm
    have HA := HAm
    clear HBm HAm
    clear HOI
    go_wp2_with fail
    refine (bSink_any HTT.out _).mono ?_
    rintro e a4 ⟨rfl, hb⟩
    have HBm := Lib.hid (HB.out.trans (hb.mono HB.out.size))
    have HAm := Lib.hid (below_at' hb HA.out)
    clear hb HB HA
    have HB := HBm
    have HA := HAm
    clear HBm HAm
    go_wp2_with fail
    refine (bPool_any HTT.out _).mono ?_
    rintro e a5 ⟨rfl, hb⟩
    have HBm := Lib.hid (HB.out.trans (hb.mono HB.out.size))
    have HAm := Lib.hid (below_at' hb HA.out)
    clear hb HB HA
    have HB := HBm
    have HA := HAm
    clear HBm HAm
    go_wp2_with fail
    obtain ⟨a6, hw1⟩ : ∃ w1, w1 = World.alloc a5 (.cells #[.int .i64 t] 3) := ⟨_, rfl⟩
    obtain ⟨gi, hgi⟩ : ∃ gi, gi = (World.heap a5).size := ⟨_, rfl⟩
    rw [← hw1, ← hgi]
    have HOI : Hid (Own a6 0 3 intE 1 (.slice (some ⟨gi, 0, none⟩) 1 1) [t]) := Lib.hid (own_lit (l := [t]) (by rw [hw1, hgi]; exact heap_alloc_new _ _) (Nat.zero_le _) (by unfold maxLen; simp))
    have hb : Below (World.heap a5).size a5 a6 := by rw [hw1]; exact below_new _ _
    clear hw1 hgi
    have HBm := Lib.hid (HB.out.trans (hb.mono HB.out.size))
    have HAm := Lib.hid (below_at' hb HA.out)
    clear hb HB HA
    have HB := HBm
    have HA := HAm
    clear HBm HAm
    refine (key_any 6 [t] _ _ (by simp) (I64s.one HTT.out) (HOI.out.rd fun _ => rfl)).mono ?_
    rintro e a7 ⟨rfl, hb⟩
    have HBm := Lib.hid (HB.out.trans (hb.mono HB.out.size))
    have HAm := Lib.hid (below_at' hb HA.out)
    clear hb HB HA
    have HB := HBm
    have HA := HAm
    clear HBm HAm
    clear HOI
    go_wp2_with fail
    obtain ⟨a8, hw1⟩ : ∃ w1, w1 = World.alloc a7 (.cells #[.string (bs (keyF 1 [t])), .string (bs (keyF 3 [t])), .string (bs (keyF 4 [t])), .string (bs (keyF 6 [t]))] 9) := ⟨_, rfl⟩
    obtain ⟨L0, hL0⟩ : ∃ gi, gi = (World.heap a7).size := ⟨_, rfl⟩
    rw [← hw1, ← hL0]
    have HL0 : Hid ((World.heap a8)[L0]? = some (.cells #[.string (bs (keyF 1 [t])), .string (bs (keyF 3 [t])), .string (bs (keyF 4 [t])), .string (bs (keyF 6 [t]))] 9 (0, 0))) := Lib.hid (by rw [hw1, hL0]; exact heap_alloc_new _ _)
    have hb : Below (World.heap a7).size a7 a8 := by rw [hw1]; exact below_new _ _
    clear hw1 hL0
    have HBm := Lib.hid (HB.out.trans (hb.mono HB.out.size))
    have HAm := Lib.hid (below_at' hb HA.out)
    clear hb HB HA
    have HB := HBm
    have HA := HAm
    clear HBm HAm
    refine (sum_any (bl := begs t) (HU.out.later HB.out) HT.out HSV.out rfl (by show 4 < 1000; decide) (heap_lt HL0.out) (cells_txt HL0.out rfl)).mono ?_
    rw [show totT Tb (begs t) = tot from HTOT.out.symm, ← HQ2.out]
    rintro e a9 ⟨ya, yb, yc, yd, hu, rfl, hb⟩
    have HYU := Lib.hid hu
    clear hu
    have HBm := Lib.hid (HB.out.trans (hb.mono HB.out.size))
    have HAm := Lib.hid (below_at' hb HA.out)
    clear hb HB HA
    have HB := HBm
    have HA := HAm
    clear HBm HAm
    go_wp2_with (refine wpList_store_row_g (t := 24) (old := u0) rfl 24 _ _ rfl A #[.int .u64 ya, .int .u64 yb, .int .u64 yc, .int .u64 yd] rfl rfl HA.out Try.sizeU rfl (one_u64 _ _ _ _) ?_)
    intro a10 hxA kA zA
    clear zA
    have HBm := Lib.hid (HB.out.trans (kA.below (B := w.heap.size) (fun y hy e => by have := WA.out; omega) HB.out.size))
    have HAm := Lib.hid hxA
    clear hxA kA HB HA
    have HB := HBm
    have HA := HAm
    clear HBm HAm
    go_wp2_with fail
    exact bodyPost_ret (res_row_val rfl _ _ A _ _ _ _ rfl HA.out Try.underlying24 rfl Try.sizeU _ rfl) rfl ⟨_, _, _, _, by rw [HF.out]; exact HYU.out, by rw [HF.out]; rfl, HB.out⟩

set_option maxHeartbeats 8000000 in
set_option maxRecDepth 100000 in
theorem lives17_any (w : World) : Calls Try.prog 14 #[] w (Ret w (.bool true)) := by
  have a1 : mintE PS.new 1 7 100 = 0 := by decide +kernel
  have a2 : payE (PS.new.mint 1 7 100) 1 7 8 30 = 0 := by decide +kernel
  have a3 : totF (underP ((PS.new.mint 1 7 100).pay 1 7 8 30).t) 1 = 100 := by decide +kernel
  have a4 : totB (underP ((PS.new.mint 1 7 100).pay 1 7 8 30).t) 1 = true := by decide +kernel
  have a5 : amtV (getP ((PS.new.mint 1 7 100).pay 1 7 8 30).t) (kAcc 1 7) = 70 := by decide +kernel
  have a6 : ∀ p ∈ ((PS.new.mint 1 7 100).pay 1 7 8 30).t, p.2.length ≤ 1000000 := by decide +kernel
  have a7 : (PS.new.mint 1 7 100).sz < 100000000 := by decide +kernel
  have a8 : ∀ p ∈ (PS.new.mint 1 7 100).t, p.2.length ≤ 1000000 := by decide +kernel
  have a9 : ((PS.new.mint 1 7 100).pay 1 7 8 30).t.length < 1099511627776 := by decide +kernel
  obtain ⟨s1, hs1⟩ : ∃ s, s = PS.new.mint 1 7 100 := ⟨_, rfl⟩
  obtain ⟨s2, hs2⟩ : ∃ s, s = s1.pay 1 7 8 30 := ⟨_, rfl⟩
  rw [← hs1, ← hs2] at a3 a4 a5 a6 a9
  rw [← hs1] at a2 a7 a8
  have A1 := Lib.hid a1; have A2 := Lib.hid a2; have A3 := Lib.hid a3; have A4 := Lib.hid a4; have A5 := Lib.hid a5; have A6 := Lib.hid a6; have A7 := Lib.hid a7; have A8 := Lib.hid a8; have A9 := Lib.hid a9; have S1 := Lib.hid hs1; have S2 := Lib.hid hs2
  clear a1 a2 a3 a4 a5 a6 a7 a8 a9 hs1 hs2
  go_enter Try.func14, Try.ntmps14
  go_wp2_with fail
  refine (snew_any _).mono ?_
  rintro e w1 ⟨g, F, rfl, h1, hb1, hf1⟩
  have O : Hid (One w w1 g PS.new) := Lib.hid ⟨F, h1, hf1, hb1⟩
  clear h1 hb1 hf1
  go_wp2_with fail
  refine (O.out.st fun F hs => mint_any hs (by decide) Fit.new (t := 1) (n := 7) (by unfold I64; omega) (by unfold I64; omega) (m := 100) (by unfold UIs; omega)).mono ?_
  rw [A1.out, ← S1.out]
  rintro e a1 ⟨rfl, o, _⟩
  have Om := Lib.hid o
  clear o O
  have O := Om
  clear Om
  go_wp2_with fail
  refine (O.out.st fun F hs => pay_any hs A7.out A8.out (t := 1) (x := 7) (y := 8) (by unfold I64; omega) (by unfold I64; omega) (by unfold I64; omega) (m := 30) (by unfold UIs; omega)).mono ?_
  rw [A2.out, ← S2.out]
  rintro e a2 ⟨rfl, o, _⟩
  have Om := Lib.hid o
  clear o O
  have O := Om
  clear Om
  go_wp2_with fail
  obtain ⟨F3, h3⟩ := O.out.get
  refine (total_any (UndB.st h3 A9.out) (fun b => Nat.lt_of_le_of_lt (List.length_filter_le _ _) A9.out) (fun b p hp => A6.out p (List.mem_filter.1 hp).1) (t := 1) (by unfold I64; omega)).mono ?_
  rw [A3.out, A4.out]
  rintro e a3 ⟨ya, yb, yc, yd, hu, rfl, hb⟩
  first | rw [if_pos trivial] at hu | rw [if_pos rfl] at hu
  have HYU := Lib.hid hu
  clear hu h3
  have Om := Lib.hid (O.out.later hb)
  clear hb O
  have O := Om
  clear Om
  go_wp2_with (refine wpList_alloc_g rfl _ rfl _ _ Try.zeroUz rfl ?_)
  intro X a4 hX
  go_wp2_with (refine wpList_store_row_g (t := 24) (old := u0) rfl 24 _ _ rfl X #[.int .u64 ya, .int .u64 yb, .int .u64 yc, .int .u64 yd] rfl rfl hX.out.cells Try.sizeU rfl (one_u64 _ _ _ _) ?_)
  intro a5 hxX kX zX
  clear zX
  have hbX : Below a3.heap.size a3 a5 := hX.out.below.trans (kX.below (B := a3.heap.size) (fun x hx e => by have := hX.out.eq; omega) hX.out.below.size)
  have WX : Hid (w.heap.size ≤ X) := Lib.hid (by rw [hX.out.eq]; exact (O.out.below).size)
  have HXz := Lib.hid hxX
  clear hX hxX kX
  have Om := Lib.hid (O.out.later hbX)
  clear hbX O
  have O := Om
  clear Om
  have HX := HXz
  clear HXz
  go_wp2_with fail
  obtain ⟨F3, h3⟩ := O.out.get
  refine (balance_any (Look.of_st h3) (Fit.f (s := s2) A6.out) (t := 1) (n := 7) (by unfold I64; omega) (by unfold I64; omega)).mono ?_
  rw [A5.out]
  rintro e a6 ⟨za, zb, zc, zd, hu, rfl, hb⟩
  have HZU := Lib.hid hu
  clear hu h3
  have Om := Lib.hid (O.out.later hb)
  have HXm := Lib.hid (below_at' hb HX.out)
  clear hb O HX
  have O := Om
  have HX := HXm
  clear Om HXm
  have q1 := Try.eqUn HZU.out (a' := 70) (b' := 0) (c' := 0) (d' := 0) (m := 70) (by unfold UIs; omega)
  have q2 := Try.eqUn HYU.out (a' := 100) (b' := 0) (c' := 0) (d' := 0) (m := 100) (by unfold UIs; omega)
  rw [decide_eq_true rfl] at q1 q2
  have cX0 : a6.cell? ⟨X, 0, none⟩ = some (.int .u64 ya) := Lib.cell_of_heap HX.out 0
  have cX1 : a6.cell? ⟨X, 1, none⟩ = some (.int .u64 yb) := Lib.cell_of_heap HX.out 1
  have cX2 : a6.cell? ⟨X, 2, none⟩ = some (.int .u64 yc) := Lib.cell_of_heap HX.out 2
  have cX3 : a6.cell? ⟨X, 3, none⟩ = some (.int .u64 yd) := Lib.cell_of_heap HX.out 3
  go_wp2_with fail
  go_ret
  exact ⟨rfl, O.out.below⟩

set_option maxHeartbeats 8000000 in
set_option maxRecDepth 100000 in
theorem keys17_any {t n : Int} (ht : I64 t) (hn : I64 n) (w : World) : Calls Try.prog 6 #[.int .i64 t, .int .i64 n] w (Ret w (.bool true)) := by
  have HT := Lib.hid ht; have HN := Lib.hid hn
  clear ht hn
  obtain ⟨k1, hk1⟩ : ∃ k, k = bs (keyF 1 [t, n]) := ⟨_, rfl⟩
  obtain ⟨k2, hk2⟩ : ∃ k, k = bs (keyF 2 [t]) := ⟨_, rfl⟩
  obtain ⟨k3, hk3⟩ : ∃ k, k = bs (keyF 3 [t]) := ⟨_, rfl⟩
  obtain ⟨k4, hk4⟩ : ∃ k, k = bs (keyF 4 [t]) := ⟨_, rfl⟩
  obtain ⟨k6, hk6⟩ : ∃ k, k = bs (keyF 6 [t, n]) := ⟨_, rfl⟩
  have K1 := Lib.hid hk1; have K2 := Lib.hid hk2; have K3 := Lib.hid hk3; have K4 := Lib.hid hk4; have K6 := Lib.hid hk6
  clear hk1 hk2 hk3 hk4 hk6
  have HB : Hid (Below w.heap.size w w) := Lib.hid (Below.refl _ _)
  go_enter Try.func6, Try.ntmps6
  go_wp2_with fail
  refine (bAcc_any HT.out HN.out _).mono ?_
  rw [← K1.out]
  rintro e a1 ⟨rfl, hb⟩
  have HBm := Lib.hid (HB.out.trans (hb.mono HB.out.size))
  clear hb HB
  have HB := HBm
  clear HBm
  go_wp2_with fail
  refine (rbAcc_any HT.out HN.out _).mono ?_
  rw [← K1.out]
  rintro e a2 ⟨rfl, hb⟩
  have HBm := Lib.hid (HB.out.trans (hb.mono HB.out.size))
  clear hb HB
  have HB := HBm
  clear HBm
  go_wp2_with fail
  refine (bSup_any HT.out _).mono ?_
  rw [← K2.out]
  rintro e a3 ⟨rfl, hb⟩
  have HBm := Lib.hid (HB.out.trans (hb.mono HB.out.size))
  clear hb HB
  have HB := HBm
  clear HBm
  go_wp2_with fail
  refine (rbSup_any HT.out _).mono ?_
  rw [← K2.out]
  rintro e a4 ⟨rfl, hb⟩
  have HBm := Lib.hid (HB.out.trans (hb.mono HB.out.size))
  clear hb HB
  have HB := HBm
  clear HBm
  go_wp2_with fail
  refine (bSink_any HT.out _).mono ?_
  rw [← K3.out]
  rintro e a5 ⟨rfl, hb⟩
  have HBm := Lib.hid (HB.out.trans (hb.mono HB.out.size))
  clear hb HB
  have HB := HBm
  clear HBm
  go_wp2_with fail
  refine (rbSink_any HT.out _).mono ?_
  rw [← K3.out]
  rintro e a6 ⟨rfl, hb⟩
  have HBm := Lib.hid (HB.out.trans (hb.mono HB.out.size))
  clear hb HB
  have HB := HBm
  clear HBm
  go_wp2_with fail
  refine (bPool_any HT.out _).mono ?_
  rw [← K4.out]
  rintro e a7 ⟨rfl, hb⟩
  have HBm := Lib.hid (HB.out.trans (hb.mono HB.out.size))
  clear hb HB
  have HB := HBm
  clear HBm
  go_wp2_with fail
  refine (rbPool_any HT.out _).mono ?_
  rw [← K4.out]
  rintro e a8 ⟨rfl, hb⟩
  have HBm := Lib.hid (HB.out.trans (hb.mono HB.out.size))
  clear hb HB
  have HB := HBm
  clear HBm
  go_wp2_with fail
  refine (bStock_any HT.out HN.out _).mono ?_
  rw [← K6.out]
  rintro e a9 ⟨rfl, hb⟩
  have HBm := Lib.hid (HB.out.trans (hb.mono HB.out.size))
  clear hb HB
  have HB := HBm
  clear HBm
  go_wp2_with fail
  refine (rbStock_any HT.out HN.out _).mono ?_
  rw [← K6.out]
  rintro e a10 ⟨rfl, hb⟩
  have HBm := Lib.hid (HB.out.trans (hb.mono HB.out.size))
  clear hb HB
  have HB := HBm
  clear HBm
  go_wp2_with fail
  refine (lives17_any _).mono ?_
  rintro e a11 ⟨rfl, hb⟩
  have HBm := Lib.hid (HB.out.trans (hb.mono HB.out.size))
  clear hb HB
  have HB := HBm
  clear HBm
  go_wp2_with fail
  go_ret
  exact ⟨rfl, HB.out⟩
end Go.Proofs.Yteaigmoldlbjdaa
