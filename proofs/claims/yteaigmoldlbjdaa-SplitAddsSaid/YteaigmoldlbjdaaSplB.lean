/- Law 34: lives, SplitAdds. No condition. -/
import Derived.Test.YteaigmoldlbjdaaSplA
import Derived.Test.YteaigmoldlbjdaaAriJ
import Derived.Deep.Cut
namespace Go.Proofs.Yteaigmoldlbjdaa
open Go.RowKit

theorem upper_words {m : Nat} (h : m < uMax) : (m < uHalf → uw2 m = 0 ∧ uw3 m = 0) ∧ (¬ m < uHalf → (bits BinOp.or IntKind.u64 (uw2 m) (uw3 m) == 0) = false ∧ (bits BinOp.or IntKind.u64 (uw2 m) (uw3 m) != 0) = true) := by
  obtain ⟨A, B, C, E, e0, e1, e2, e3, ha, hb, hc, he, hn⟩ := (uw_is h).nats
  rw [e2, e3]
  constructor
  · intro hm
    unfold uHalf at hm
    constructor <;> omega
  · intro hm
    have hne : ¬ (C ||| E = 0) := fun h0 => by
      have := (or_zero_iff C E).1 h0
      unfold uHalf at hm
      omega
    have h2 : bits BinOp.or IntKind.u64 (C : Int) (E : Int) = ((C ||| E : Nat) : Int) := u64_or_nat C E hc he
    have h3 : (bits BinOp.or IntKind.u64 (C : Int) (E : Int) == 0) = false := by
      rw [h2]
      simpa using hne
    exact ⟨h3, by rw [bne, h3]; rfl⟩

theorem prt_zero (x : Nat) : prt 0 x = 0 := by unfold prt; rw [Nat.mul_zero, Nat.zero_div]
theorem prt_all (x : Nat) : prt 10000 x = x := by unfold prt; exact Nat.mul_div_cancel x (by decide)
theorem prt_mono (n x : Nat) : prt n x ≤ prt (n + 1) x := Nat.div_le_div_right (Nat.mul_le_mul_left x (Nat.le_succ n))

set_option maxHeartbeats 8000000 in
set_option maxRecDepth 100000 in
theorem lives34_any (w : World) : Calls Try.prog 11 #[] w (Ret w (.bool true)) := by
  have HB : Hid (Below w.heap.size w w) := Lib.hid (Below.refl _ _)
  go_enter Try.func11, Try.ntmps11
  go_wp2_with fail
  refine (parts_any (n := 1000) (x := 99) (a := 99) (b := 0) (c := 0) (f := 0) (by unfold UIs; omega) (by decide) _).mono ?_
  rw [show (if 99 < uHalf then prt 1000 99 else 0) = 9 by decide, show (if 99 < uHalf then 99 - prt 1000 99 else 0) = 90 by decide, show decide (99 < uHalf) = true by decide]
  rintro e a1 ⟨ua, ub, uc, ud, va, vb, vc, vd, h1, h2, rfl, hb⟩
  have HPU := Lib.hid h1; have HQU := Lib.hid h2
  clear h1 h2
  have HBm := Lib.hid (HB.out.trans (hb.mono HB.out.size))
  clear hb HB
  have HB := HBm
  clear HBm
  go_wp2_with (refine wpList_alloc_g rfl _ rfl _ _ Try.zeroUz rfl ?_)
  intro P a2 hP
  have WP : Hid (w.heap.size ≤ P) := Lib.hid (by rw [hP.out.eq]; exact (HB.out).size)
  have HPz := Lib.hid hP.out.cells; have hbP := hP.out.below
  clear hP
  have HBm := Lib.hid (HB.out.trans (hbP.mono HB.out.size))
  clear hbP HB
  have HB := HBm
  clear HBm
  have HP := HPz
  clear HPz
  go_wp2_with (refine wpList_alloc_g rfl _ rfl _ _ Try.zeroUz rfl ?_)
  intro Q a3 hQ
  have WQ : Hid (w.heap.size ≤ Q) := Lib.hid (by rw [hQ.out.eq]; exact (HB.out).size)
  have NPQ : Hid (P ≠ Q) := Lib.hid (by have := hQ.out.eq; have := heap_lt HP.out; omega)
  have HQz := Lib.hid hQ.out.cells; have hbQ := hQ.out.below
  clear hQ
  have HBm := Lib.hid (HB.out.trans (hbQ.mono HB.out.size))
  have HPm := Lib.hid (below_at' hbQ HP.out)
  clear hbQ HB HP
  have HB := HBm
  have HP := HPm
  clear HBm HPm
  have HQ := HQz
  clear HQz
  go_wp2_with (refine wpList_store_row_g (t := 24) (old := u0) rfl 24 _ _ rfl P #[.int .u64 ua, .int .u64 ub, .int .u64 uc, .int .u64 ud] rfl rfl HP.out Try.sizeU rfl (one_u64 _ _ _ _) ?_)
  intro a4 hxP kP zP
  clear zP
  have HBm := Lib.hid (HB.out.trans (kP.below (B := w.heap.size) (fun y hy e => by have := WP.out; omega) HB.out.size))
  have HQm := Lib.hid (kP.at HQ.out (fun e => NPQ.out e.symm))
  have HPm := Lib.hid hxP
  clear hxP kP HB HP HQ
  have HB := HBm
  have HP := HPm
  have HQ := HQm
  clear HBm HPm HQm
  go_wp2_with (refine wpList_store_row_g (t := 24) (old := u0) rfl 24 _ _ rfl Q #[.int .u64 va, .int .u64 vb, .int .u64 vc, .int .u64 vd] rfl rfl HQ.out Try.sizeU rfl (one_u64 _ _ _ _) ?_)
  intro a5 hxQ kQ zQ
  clear zQ
  have HBm := Lib.hid (HB.out.trans (kQ.below (B := w.heap.size) (fun y hy e => by have := WQ.out; omega) HB.out.size))
  have HPm := Lib.hid (kQ.at HP.out NPQ.out)
  have HQm := Lib.hid hxQ
  clear hxQ kQ HB HP HQ
  have HB := HBm
  have HP := HPm
  have HQ := HQm
  clear HBm HPm HQm
  have e1 := Try.eqUn HPU.out (a' := 9) (b' := 0) (c' := 0) (d' := 0) (m := 9) (by unfold UIs; omega)
  have e2 := Try.eqUn HQU.out (a' := 90) (b' := 0) (c' := 0) (d' := 0) (m := 90) (by unfold UIs; omega)
  rw [decide_eq_true rfl] at e1 e2
  have cP0 : a5.cell? ⟨P, 0, none⟩ = some (.int .u64 ua) := Lib.cell_of_heap HP.out 0
  have cP1 : a5.cell? ⟨P, 1, none⟩ = some (.int .u64 ub) := Lib.cell_of_heap HP.out 1
  have cP2 : a5.cell? ⟨P, 2, none⟩ = some (.int .u64 uc) := Lib.cell_of_heap HP.out 2
  have cP3 : a5.cell? ⟨P, 3, none⟩ = some (.int .u64 ud) := Lib.cell_of_heap HP.out 3
  have cQ0 : a5.cell? ⟨Q, 0, none⟩ = some (.int .u64 va) := Lib.cell_of_heap HQ.out 0
  have cQ1 : a5.cell? ⟨Q, 1, none⟩ = some (.int .u64 vb) := Lib.cell_of_heap HQ.out 1
  have cQ2 : a5.cell? ⟨Q, 2, none⟩ = some (.int .u64 vc) := Lib.cell_of_heap HQ.out 2
  have cQ3 : a5.cell? ⟨Q, 3, none⟩ = some (.int .u64 vd) := Lib.cell_of_heap HQ.out 3
  go_wp2_with fail
  go_ret
  exact ⟨rfl, HB.out⟩

set_option maxHeartbeats 16000000 in
set_option maxRecDepth 100000 in
theorem adds34_any {x p : Nat} (hx : x < uMax) (_hp : p < 65536) (w : World) : Calls Try.prog 4 #[.int .u16 (p : Int), .agg #[.int .u64 (uw0 x), .int .u64 (uw1 x), .int .u64 (uw2 x), .int .u64 (uw3 x)]] w (Ret w (.bool true)) := by
  have HU := Lib.hid (uw_is hx); have HUP := Lib.hid (upper_words hx)
  obtain ⟨n, hn⟩ : ∃ n, n = p % 10001 := ⟨_, rfl⟩
  have HN : Hid (n ≤ 10000) := Lib.hid (by omega)
  have r1 : (p : Int) % 10001 = (n : Int) := by omega
  have r2 : (p : Int).tmod 10001 = (n : Int) := by rw [hn]; rfl
  have r3 : IntKind.u16.wrap (n : Int) = (n : Int) := by simp [IntKind.wrap, IntKind.bits, IntKind.signed]; omega
  have hn1 : n ≤ 10000 := HN.out
  clear hx hn
  go_enter Try.func4, Try.ntmps4
  go_upto_region 1 with fail
  obtain ⟨w1, hw1⟩ : ∃ wq, wq = w.alloc (.cells #[.int .u64 (uw0 x), .int .u64 (uw1 x), .int .u64 (uw2 x), .int .u64 (uw3 x)] 24) := ⟨_, rfl⟩
  obtain ⟨X, hX⟩ : ∃ x, x = w.heap.size := ⟨_, rfl⟩
  rw [← hw1, ← hX]
  have HX : Hid (w1.heap[X]? = some (.cells #[.int .u64 (uw0 x), .int .u64 (uw1 x), .int .u64 (uw2 x), .int .u64 (uw3 x)] 24 (0, 0))) := Lib.hid (by rw [hw1, hX]; exact heap_alloc_new _ _)
  have HB : Hid (Below w.heap.size w w1) := Lib.hid (by rw [hw1]; exact below_new _ _)
  clear hw1 hX
  go_wp2_with (refine wpList_load_row rfl 24 _ rfl X rfl 24 _ _ _ HX.out Try.underlying24 rfl Try.sizeU ?_)
  clear r1 r2 r3 hn1
  by_cases hlt : x < uHalf
  · have HXL := Lib.hid hlt
    clear hlt
    refine (parts_any (n := n) HU.out HN.out _).mono ?_
    rw [if_pos HXL.out, if_pos HXL.out, decide_eq_true HXL.out]
    rintro e a1 ⟨ua, ub, uc, ud, va, vb, vc, vd, h1, h2, rfl, hb⟩
    have HPU := Lib.hid h1; have HQU := Lib.hid h2
    clear h1 h2
    have HBm := Lib.hid (HB.out.trans (hb.mono HB.out.size))
    have HXm := Lib.hid (below_at' hb HX.out)
    clear hb HB HX
    have HB := HBm
    have HX := HXm
    clear HBm HXm
    go_wp2_with (refine wpList_alloc_g rfl _ rfl _ _ Try.zeroUz rfl ?_)
    intro P a2 hP
    have WP : Hid (w.heap.size ≤ P) := Lib.hid (by rw [hP.out.eq]; exact (HB.out).size)
    have NXP : Hid (X ≠ P) := Lib.hid (by have := hP.out.eq; have := heap_lt HX.out; omega)
    have HPz := Lib.hid hP.out.cells; have hbP := hP.out.below
    clear hP
    have HBm := Lib.hid (HB.out.trans (hbP.mono HB.out.size))
    have HXm := Lib.hid (below_at' hbP HX.out)
    clear hbP HB HX
    have HB := HBm
    have HX := HXm
    clear HBm HXm
    have HP := HPz
    clear HPz
    go_wp2_with (refine wpList_alloc_g rfl _ rfl _ _ Try.zeroUz rfl ?_)
    intro Q a3 hQ
    have WQ : Hid (w.heap.size ≤ Q) := Lib.hid (by rw [hQ.out.eq]; exact (HB.out).size)
    have NXQ : Hid (X ≠ Q) := Lib.hid (by have := hQ.out.eq; have := heap_lt HX.out; omega)
    have NPQ : Hid (P ≠ Q) := Lib.hid (by have := hQ.out.eq; have := heap_lt HP.out; omega)
    have HQz := Lib.hid hQ.out.cells; have hbQ := hQ.out.below
    clear hQ
    have HBm := Lib.hid (HB.out.trans (hbQ.mono HB.out.size))
    have HXm := Lib.hid (below_at' hbQ HX.out)
    have HPm := Lib.hid (below_at' hbQ HP.out)
    clear hbQ HB HX HP
    have HB := HBm
    have HX := HXm
    have HP := HPm
    clear HBm HXm HPm
    have HQ := HQz
    clear HQz
    go_wp2_with (refine wpList_store_row_g (t := 24) (old := u0) rfl 24 _ _ rfl P #[.int .u64 ua, .int .u64 ub, .int .u64 uc, .int .u64 ud] rfl rfl HP.out Try.sizeU rfl (one_u64 _ _ _ _) ?_)
    intro a4 hxP kP zP
    clear zP
    have HBm := Lib.hid (HB.out.trans (kP.below (B := w.heap.size) (fun y hy e => by have := WP.out; omega) HB.out.size))
    have HXm := Lib.hid (kP.at HX.out NXP.out)
    have HQm := Lib.hid (kP.at HQ.out (fun e => NPQ.out e.symm))
    have HPm := Lib.hid hxP
    clear hxP kP HB HX HP HQ
    have HB := HBm
    have HX := HXm
    have HP := HPm
    have HQ := HQm
    clear HBm HXm HPm HQm
    go_wp2_with (refine wpList_store_row_g (t := 24) (old := u0) rfl 24 _ _ rfl Q #[.int .u64 va, .int .u64 vb, .int .u64 vc, .int .u64 vd] rfl rfl HQ.out Try.sizeU rfl (one_u64 _ _ _ _) ?_)
    intro a5 hxQ kQ zQ
    clear zQ
    have HBm := Lib.hid (HB.out.trans (kQ.below (B := w.heap.size) (fun y hy e => by have := WQ.out; omega) HB.out.size))
    have HXm := Lib.hid (kQ.at HX.out NXQ.out)
    have HPm := Lib.hid (kQ.at HP.out NPQ.out)
    have HQm := Lib.hid hxQ
    clear hxQ kQ HB HX HP HQ
    have HB := HBm
    have HX := HXm
    have HP := HPm
    have HQ := HQm
    clear HBm HXm HPm HQm
    go_wp2_with (first
      | (refine wpList_load_row rfl 24 _ rfl P rfl 24 _ _ _ HP.out Try.underlying24 rfl Try.sizeU ?_)
      | (refine wpList_load_row rfl 24 _ rfl Q rfl 24 _ _ _ HQ.out Try.underlying24 rfl Try.sizeU ?_))
    refine (radd_any HPU.out HQU.out _).mono ?_
    rw [show prt n x + (x - prt n x) = x by have := prt_le (a := x) HN.out; omega, decide_eq_true (HU.out.lt)]
    rintro e a6 ⟨sa, sb, sc, sd, hs, rfl, hb⟩
    first | rw [if_pos trivial] at hs | rw [if_pos rfl] at hs
    have HSU := Lib.hid hs
    clear hs
    have HBm := Lib.hid (HB.out.trans (hb.mono HB.out.size))
    have HXm := Lib.hid (below_at' hb HX.out)
    have HPm := Lib.hid (below_at' hb HP.out)
    have HQm := Lib.hid (below_at' hb HQ.out)
    clear hb HB HX HP HQ
    have HB := HBm
    have HX := HXm
    have HP := HPm
    have HQ := HQm
    clear HBm HXm HPm HQm
    go_wp2_with (refine wpList_alloc_g rfl _ rfl _ _ Try.zeroUz rfl ?_)
    intro S a7 hS
    go_wp2_with (refine wpList_store_row_g (t := 24) (old := u0) rfl 24 _ _ rfl S #[.int .u64 sa, .int .u64 sb, .int .u64 sc, .int .u64 sd] rfl rfl hS.out.cells Try.sizeU rfl (one_u64 _ _ _ _) ?_)
    intro a8 hxS kS zS
    clear zS
    have hbS : Below a6.heap.size a6 a8 := hS.out.below.trans (kS.below (B := a6.heap.size) (fun x hx e => by have := hS.out.eq; omega) hS.out.below.size)
    have WS : Hid (w.heap.size ≤ S) := Lib.hid (by rw [hS.out.eq]; exact (HB.out).size)
    have NXS : Hid (X ≠ S) := Lib.hid (by have := hS.out.eq; have := heap_lt HX.out; omega)
    have NPS : Hid (P ≠ S) := Lib.hid (by have := hS.out.eq; have := heap_lt HP.out; omega)
    have NQS : Hid (Q ≠ S) := Lib.hid (by have := hS.out.eq; have := heap_lt HQ.out; omega)
    have HSz := Lib.hid hxS
    clear hS hxS kS
    have HBm := Lib.hid (HB.out.trans (hbS.mono HB.out.size))
    have HXm := Lib.hid (below_at' hbS HX.out)
    have HPm := Lib.hid (below_at' hbS HP.out)
    have HQm := Lib.hid (below_at' hbS HQ.out)
    clear hbS HB HX HP HQ
    have HB := HBm
    have HX := HXm
    have HP := HPm
    have HQ := HQm
    clear HBm HXm HPm HQm
    have HS := HSz
    clear HSz
    go_wp2_with (refine wpList_load_row rfl 24 _ rfl X rfl 24 _ _ _ HX.out Try.underlying24 rfl Try.sizeU ?_)
    refine (parts_any (n := 0) HU.out (by decide) _).mono ?_
    rw [if_pos HXL.out, if_pos HXL.out, decide_eq_true HXL.out, prt_zero, Nat.sub_zero]
    rintro e a9 ⟨ia, ib, ic, id, ja, jb, jc, jd, h1, h2, rfl, hb⟩
    have HCU := Lib.hid h1; have HEU := Lib.hid h2
    clear h1 h2
    have HBm := Lib.hid (HB.out.trans (hb.mono HB.out.size))
    have HXm := Lib.hid (below_at' hb HX.out)
    have HPm := Lib.hid (below_at' hb HP.out)
    have HQm := Lib.hid (below_at' hb HQ.out)
    have HSm := Lib.hid (below_at' hb HS.out)
    clear hb HB HX HP HQ HS
    have HB := HBm
    have HX := HXm
    have HP := HPm
    have HQ := HQm
    have HS := HSm
    clear HBm HXm HPm HQm HSm
    go_wp2_with (refine wpList_alloc_g rfl _ rfl _ _ Try.zeroUz rfl ?_)
    intro C a10 hC
    have WC : Hid (w.heap.size ≤ C) := Lib.hid (by rw [hC.out.eq]; exact (HB.out).size)
    have NXC : Hid (X ≠ C) := Lib.hid (by have := hC.out.eq; have := heap_lt HX.out; omega)
    have NPC : Hid (P ≠ C) := Lib.hid (by have := hC.out.eq; have := heap_lt HP.out; omega)
    have NQC : Hid (Q ≠ C) := Lib.hid (by have := hC.out.eq; have := heap_lt HQ.out; omega)
    have NSC : Hid (S ≠ C) := Lib.hid (by have := hC.out.eq; have := heap_lt HS.out; omega)
    have HCz := Lib.hid hC.out.cells; have hbC := hC.out.below
    clear hC
    have HBm := Lib.hid (HB.out.trans (hbC.mono HB.out.size))
    have HXm := Lib.hid (below_at' hbC HX.out)
    have HPm := Lib.hid (below_at' hbC HP.out)
    have HQm := Lib.hid (below_at' hbC HQ.out)
    have HSm := Lib.hid (below_at' hbC HS.out)
    clear hbC HB HX HP HQ HS
    have HB := HBm
    have HX := HXm
    have HP := HPm
    have HQ := HQm
    have HS := HSm
    clear HBm HXm HPm HQm HSm
    have HC := HCz
    clear HCz
    go_wp2_with (refine wpList_alloc_g rfl _ rfl _ _ Try.zeroUz rfl ?_)
    intro E a11 hE
    have WE : Hid (w.heap.size ≤ E) := Lib.hid (by rw [hE.out.eq]; exact (HB.out).size)
    have NXE : Hid (X ≠ E) := Lib.hid (by have := hE.out.eq; have := heap_lt HX.out; omega)
    have NPE : Hid (P ≠ E) := Lib.hid (by have := hE.out.eq; have := heap_lt HP.out; omega)
    have NQE : Hid (Q ≠ E) := Lib.hid (by have := hE.out.eq; have := heap_lt HQ.out; omega)
    have NSE : Hid (S ≠ E) := Lib.hid (by have := hE.out.eq; have := heap_lt HS.out; omega)
    have NCE : Hid (C ≠ E) := Lib.hid (by have := hE.out.eq; have := heap_lt HC.out; omega)
    have HEz := Lib.hid hE.out.cells; have hbE := hE.out.below
    clear hE
    have HBm := Lib.hid (HB.out.trans (hbE.mono HB.out.size))
    have HXm := Lib.hid (below_at' hbE HX.out)
    have HPm := Lib.hid (below_at' hbE HP.out)
    have HQm := Lib.hid (below_at' hbE HQ.out)
    have HSm := Lib.hid (below_at' hbE HS.out)
    have HCm := Lib.hid (below_at' hbE HC.out)
    clear hbE HB HX HP HQ HS HC
    have HB := HBm
    have HX := HXm
    have HP := HPm
    have HQ := HQm
    have HS := HSm
    have HC := HCm
    clear HBm HXm HPm HQm HSm HCm
    have HE := HEz
    clear HEz
    go_wp2_with (refine wpList_store_row_g (t := 24) (old := u0) rfl 24 _ _ rfl C #[.int .u64 ia, .int .u64 ib, .int .u64 ic, .int .u64 id] rfl rfl HC.out Try.sizeU rfl (one_u64 _ _ _ _) ?_)
    intro a12 hxC kC zC
    clear zC
    have HBm := Lib.hid (HB.out.trans (kC.below (B := w.heap.size) (fun y hy e => by have := WC.out; omega) HB.out.size))
    have HXm := Lib.hid (kC.at HX.out NXC.out)
    have HPm := Lib.hid (kC.at HP.out NPC.out)
    have HQm := Lib.hid (kC.at HQ.out NQC.out)
    have HSm := Lib.hid (kC.at HS.out NSC.out)
    have HEm := Lib.hid (kC.at HE.out (fun e => NCE.out e.symm))
    have HCm := Lib.hid hxC
    clear hxC kC HB HX HP HQ HS HC HE
    have HB := HBm
    have HX := HXm
    have HP := HPm
    have HQ := HQm
    have HS := HSm
    have HC := HCm
    have HE := HEm
    clear HBm HXm HPm HQm HSm HCm HEm
    go_wp2_with (refine wpList_store_row_g (t := 24) (old := u0) rfl 24 _ _ rfl E #[.int .u64 ja, .int .u64 jb, .int .u64 jc, .int .u64 jd] rfl rfl HE.out Try.sizeU rfl (one_u64 _ _ _ _) ?_)
    intro a13 hxE kE zE
    clear zE
    have HBm := Lib.hid (HB.out.trans (kE.below (B := w.heap.size) (fun y hy e => by have := WE.out; omega) HB.out.size))
    have HXm := Lib.hid (kE.at HX.out NXE.out)
    have HPm := Lib.hid (kE.at HP.out NPE.out)
    have HQm := Lib.hid (kE.at HQ.out NQE.out)
    have HSm := Lib.hid (kE.at HS.out NSE.out)
    have HCm := Lib.hid (kE.at HC.out NCE.out)
    have HEm := Lib.hid hxE
    clear hxE kE HB HX HP HQ HS HC HE
    have HB := HBm
    have HX := HXm
    have HP := HPm
    have HQ := HQm
    have HS := HSm
    have HC := HCm
    have HE := HEm
    clear HBm HXm HPm HQm HSm HCm HEm
    go_wp2_with (refine wpList_load_row rfl 24 _ rfl X rfl 24 _ _ _ HX.out Try.underlying24 rfl Try.sizeU ?_)
    refine (parts_any (n := 10000) HU.out (by decide) _).mono ?_
    rw [if_pos HXL.out, if_pos HXL.out, decide_eq_true HXL.out, prt_all, Nat.sub_self]
    rintro e a14 ⟨ka, kb, kc, kd, la, lb, lc, ld, h1, h2, rfl, hb⟩
    have HFU := Lib.hid h1; have HGU := Lib.hid h2
    clear h1 h2
    have HBm := Lib.hid (HB.out.trans (hb.mono HB.out.size))
    have HXm := Lib.hid (below_at' hb HX.out)
    have HPm := Lib.hid (below_at' hb HP.out)
    have HQm := Lib.hid (below_at' hb HQ.out)
    have HSm := Lib.hid (below_at' hb HS.out)
    have HCm := Lib.hid (below_at' hb HC.out)
    have HEm := Lib.hid (below_at' hb HE.out)
    clear hb HB HX HP HQ HS HC HE
    have HB := HBm
    have HX := HXm
    have HP := HPm
    have HQ := HQm
    have HS := HSm
    have HC := HCm
    have HE := HEm
    clear HBm HXm HPm HQm HSm HCm HEm
    go_wp2_with (refine wpList_alloc_g rfl _ rfl _ _ Try.zeroUz rfl ?_)
    intro F a15 hF
    have WF : Hid (w.heap.size ≤ F) := Lib.hid (by rw [hF.out.eq]; exact (HB.out).size)
    have NXF : Hid (X ≠ F) := Lib.hid (by have := hF.out.eq; have := heap_lt HX.out; omega)
    have NPF : Hid (P ≠ F) := Lib.hid (by have := hF.out.eq; have := heap_lt HP.out; omega)
    have NQF : Hid (Q ≠ F) := Lib.hid (by have := hF.out.eq; have := heap_lt HQ.out; omega)
    have NSF : Hid (S ≠ F) := Lib.hid (by have := hF.out.eq; have := heap_lt HS.out; omega)
    have NCF : Hid (C ≠ F) := Lib.hid (by have := hF.out.eq; have := heap_lt HC.out; omega)
    have NEF : Hid (E ≠ F) := Lib.hid (by have := hF.out.eq; have := heap_lt HE.out; omega)
    have HFz := Lib.hid hF.out.cells; have hbF := hF.out.below
    clear hF
    have HBm := Lib.hid (HB.out.trans (hbF.mono HB.out.size))
    have HXm := Lib.hid (below_at' hbF HX.out)
    have HPm := Lib.hid (below_at' hbF HP.out)
    have HQm := Lib.hid (below_at' hbF HQ.out)
    have HSm := Lib.hid (below_at' hbF HS.out)
    have HCm := Lib.hid (below_at' hbF HC.out)
    have HEm := Lib.hid (below_at' hbF HE.out)
    clear hbF HB HX HP HQ HS HC HE
    have HB := HBm
    have HX := HXm
    have HP := HPm
    have HQ := HQm
    have HS := HSm
    have HC := HCm
    have HE := HEm
    clear HBm HXm HPm HQm HSm HCm HEm
    have HF := HFz
    clear HFz
    go_wp2_with (refine wpList_alloc_g rfl _ rfl _ _ Try.zeroUz rfl ?_)
    intro G a16 hG
    have WG : Hid (w.heap.size ≤ G) := Lib.hid (by rw [hG.out.eq]; exact (HB.out).size)
    have NXG : Hid (X ≠ G) := Lib.hid (by have := hG.out.eq; have := heap_lt HX.out; omega)
    have NPG : Hid (P ≠ G) := Lib.hid (by have := hG.out.eq; have := heap_lt HP.out; omega)
    have NQG : Hid (Q ≠ G) := Lib.hid (by have := hG.out.eq; have := heap_lt HQ.out; omega)
    have NSG : Hid (S ≠ G) := Lib.hid (by have := hG.out.eq; have := heap_lt HS.out; omega)
    have NCG : Hid (C ≠ G) := Lib.hid (by have := hG.out.eq; have := heap_lt HC.out; omega)
    have NEG : Hid (E ≠ G) := Lib.hid (by have := hG.out.eq; have := heap_lt HE.out; omega)
    have NFG : Hid (F ≠ G) := Lib.hid (by have := hG.out.eq; have := heap_lt HF.out; omega)
    have HGz := Lib.hid hG.out.cells; have hbG := hG.out.below
    clear hG
    have HBm := Lib.hid (HB.out.trans (hbG.mono HB.out.size))
    have HXm := Lib.hid (below_at' hbG HX.out)
    have HPm := Lib.hid (below_at' hbG HP.out)
    have HQm := Lib.hid (below_at' hbG HQ.out)
    have HSm := Lib.hid (below_at' hbG HS.out)
    have HCm := Lib.hid (below_at' hbG HC.out)
    have HEm := Lib.hid (below_at' hbG HE.out)
    have HFm := Lib.hid (below_at' hbG HF.out)
    clear hbG HB HX HP HQ HS HC HE HF
    have HB := HBm
    have HX := HXm
    have HP := HPm
    have HQ := HQm
    have HS := HSm
    have HC := HCm
    have HE := HEm
    have HF := HFm
    clear HBm HXm HPm HQm HSm HCm HEm HFm
    have HG := HGz
    clear HGz
    go_wp2_with (refine wpList_store_row_g (t := 24) (old := u0) rfl 24 _ _ rfl F #[.int .u64 ka, .int .u64 kb, .int .u64 kc, .int .u64 kd] rfl rfl HF.out Try.sizeU rfl (one_u64 _ _ _ _) ?_)
    intro a17 hxF kF zF
    clear zF
    have HBm := Lib.hid (HB.out.trans (kF.below (B := w.heap.size) (fun y hy e => by have := WF.out; omega) HB.out.size))
    have HXm := Lib.hid (kF.at HX.out NXF.out)
    have HPm := Lib.hid (kF.at HP.out NPF.out)
    have HQm := Lib.hid (kF.at HQ.out NQF.out)
    have HSm := Lib.hid (kF.at HS.out NSF.out)
    have HCm := Lib.hid (kF.at HC.out NCF.out)
    have HEm := Lib.hid (kF.at HE.out NEF.out)
    have HGm := Lib.hid (kF.at HG.out (fun e => NFG.out e.symm))
    have HFm := Lib.hid hxF
    clear hxF kF HB HX HP HQ HS HC HE HF HG
    have HB := HBm
    have HX := HXm
    have HP := HPm
    have HQ := HQm
    have HS := HSm
    have HC := HCm
    have HE := HEm
    have HF := HFm
    have HG := HGm
    clear HBm HXm HPm HQm HSm HCm HEm HFm HGm
    go_wp2_with (refine wpList_store_row_g (t := 24) (old := u0) rfl 24 _ _ rfl G #[.int .u64 la, .int .u64 lb, .int .u64 lc, .int .u64 ld] rfl rfl HG.out Try.sizeU rfl (one_u64 _ _ _ _) ?_)
    intro a18 hxG kG zG
    clear zG
    have HBm := Lib.hid (HB.out.trans (kG.below (B := w.heap.size) (fun y hy e => by have := WG.out; omega) HB.out.size))
    have HXm := Lib.hid (kG.at HX.out NXG.out)
    have HPm := Lib.hid (kG.at HP.out NPG.out)
    have HQm := Lib.hid (kG.at HQ.out NQG.out)
    have HSm := Lib.hid (kG.at HS.out NSG.out)
    have HCm := Lib.hid (kG.at HC.out NCG.out)
    have HEm := Lib.hid (kG.at HE.out NEG.out)
    have HFm := Lib.hid (kG.at HF.out NFG.out)
    have HGm := Lib.hid hxG
    clear hxG kG HB HX HP HQ HS HC HE HF HG
    have HB := HBm
    have HX := HXm
    have HP := HPm
    have HQ := HQm
    have HS := HSm
    have HC := HCm
    have HE := HEm
    have HF := HFm
    have HG := HGm
    clear HBm HXm HPm HQm HSm HCm HEm HFm HGm
    have e1 := Try.eqUn HSU.out HU.out
    have e2 := Try.eqUn HCU.out UIs.zero
    have e3 := Try.eqUn HEU.out HU.out
    have e4 := Try.eqUn HFU.out HU.out
    have e5 := Try.eqUn HGU.out UIs.zero
    rw [decide_eq_true rfl] at e1 e2 e3 e4 e5
    have cS0 : a18.cell? ⟨S, 0, none⟩ = some (.int .u64 sa) := Lib.cell_of_heap HS.out 0
    have cS1 : a18.cell? ⟨S, 1, none⟩ = some (.int .u64 sb) := Lib.cell_of_heap HS.out 1
    have cS2 : a18.cell? ⟨S, 2, none⟩ = some (.int .u64 sc) := Lib.cell_of_heap HS.out 2
    have cS3 : a18.cell? ⟨S, 3, none⟩ = some (.int .u64 sd) := Lib.cell_of_heap HS.out 3
    have cX0 : a18.cell? ⟨X, 0, none⟩ = some (.int .u64 (uw0 x)) := Lib.cell_of_heap HX.out 0
    have cX1 : a18.cell? ⟨X, 1, none⟩ = some (.int .u64 (uw1 x)) := Lib.cell_of_heap HX.out 1
    have cX2 : a18.cell? ⟨X, 2, none⟩ = some (.int .u64 (uw2 x)) := Lib.cell_of_heap HX.out 2
    have cX3 : a18.cell? ⟨X, 3, none⟩ = some (.int .u64 (uw3 x)) := Lib.cell_of_heap HX.out 3
    have cC0 : a18.cell? ⟨C, 0, none⟩ = some (.int .u64 ia) := Lib.cell_of_heap HC.out 0
    have cC1 : a18.cell? ⟨C, 1, none⟩ = some (.int .u64 ib) := Lib.cell_of_heap HC.out 1
    have cC2 : a18.cell? ⟨C, 2, none⟩ = some (.int .u64 ic) := Lib.cell_of_heap HC.out 2
    have cC3 : a18.cell? ⟨C, 3, none⟩ = some (.int .u64 id) := Lib.cell_of_heap HC.out 3
    have cE0 : a18.cell? ⟨E, 0, none⟩ = some (.int .u64 ja) := Lib.cell_of_heap HE.out 0
    have cE1 : a18.cell? ⟨E, 1, none⟩ = some (.int .u64 jb) := Lib.cell_of_heap HE.out 1
    have cE2 : a18.cell? ⟨E, 2, none⟩ = some (.int .u64 jc) := Lib.cell_of_heap HE.out 2
    have cE3 : a18.cell? ⟨E, 3, none⟩ = some (.int .u64 jd) := Lib.cell_of_heap HE.out 3
    have cF0 : a18.cell? ⟨F, 0, none⟩ = some (.int .u64 ka) := Lib.cell_of_heap HF.out 0
    have cF1 : a18.cell? ⟨F, 1, none⟩ = some (.int .u64 kb) := Lib.cell_of_heap HF.out 1
    have cF2 : a18.cell? ⟨F, 2, none⟩ = some (.int .u64 kc) := Lib.cell_of_heap HF.out 2
    have cF3 : a18.cell? ⟨F, 3, none⟩ = some (.int .u64 kd) := Lib.cell_of_heap HF.out 3
    have cG0 : a18.cell? ⟨G, 0, none⟩ = some (.int .u64 la) := Lib.cell_of_heap HG.out 0
    have cG1 : a18.cell? ⟨G, 1, none⟩ = some (.int .u64 lb) := Lib.cell_of_heap HG.out 1
    have cG2 : a18.cell? ⟨G, 2, none⟩ = some (.int .u64 lc) := Lib.cell_of_heap HG.out 2
    have cG3 : a18.cell? ⟨G, 3, none⟩ = some (.int .u64 ld) := Lib.cell_of_heap HG.out 3
    by_cases hl : n < 10000
    · go_wp2_with (refine wpList_load_row rfl 24 _ rfl X rfl 24 _ _ _ HX.out Try.underlying24 rfl Try.sizeU ?_)
      clear e1 e2 e3 e4 e5 cS0 cS1 cS2 cS3 cX0 cX1 cX2 cX3 cC0 cC1 cC2 cC3 cE0 cE1 cE2 cE3 cF0 cF1 cF2 cF3 cG0 cG1 cG2 cG3
      have HLN := Lib.hid hl
      clear hl
      have hpa := parts_any (n := n + 1) HU.out (by have := HLN.out; omega) a18
      rw [show (((n + 1 : Nat)) : Int) = (n : Int) + 1 from rfl] at hpa
      refine (hpa).mono ?_
      rw [if_pos HXL.out, if_pos HXL.out, decide_eq_true HXL.out]
      rintro e a19 ⟨ma, mb, mc, md, na, nb, nc, nd, h1, h2, rfl, hb⟩
      have HHU := Lib.hid h1; have HJU := Lib.hid h2
      clear h1 h2 hpa
      have HBm := Lib.hid (HB.out.trans (hb.mono HB.out.size))
      have HXm := Lib.hid (below_at' hb HX.out)
      have HPm := Lib.hid (below_at' hb HP.out)
      have HQm := Lib.hid (below_at' hb HQ.out)
      have HSm := Lib.hid (below_at' hb HS.out)
      have HCm := Lib.hid (below_at' hb HC.out)
      have HEm := Lib.hid (below_at' hb HE.out)
      have HFm := Lib.hid (below_at' hb HF.out)
      have HGm := Lib.hid (below_at' hb HG.out)
      clear hb HB HX HP HQ HS HC HE HF HG
      have HB := HBm
      have HX := HXm
      have HP := HPm
      have HQ := HQm
      have HS := HSm
      have HC := HCm
      have HE := HEm
      have HF := HFm
      have HG := HGm
      clear HBm HXm HPm HQm HSm HCm HEm HFm HGm
      go_wp2_with (refine wpList_alloc_g rfl _ rfl _ _ Try.zeroUz rfl ?_)
      intro H a20 hH
      have WH : Hid (w.heap.size ≤ H) := Lib.hid (by rw [hH.out.eq]; exact (HB.out).size)
      have NXH : Hid (X ≠ H) := Lib.hid (by have := hH.out.eq; have := heap_lt HX.out; omega)
      have NPH : Hid (P ≠ H) := Lib.hid (by have := hH.out.eq; have := heap_lt HP.out; omega)
      have NQH : Hid (Q ≠ H) := Lib.hid (by have := hH.out.eq; have := heap_lt HQ.out; omega)
      have NSH : Hid (S ≠ H) := Lib.hid (by have := hH.out.eq; have := heap_lt HS.out; omega)
      have NCH : Hid (C ≠ H) := Lib.hid (by have := hH.out.eq; have := heap_lt HC.out; omega)
      have NEH : Hid (E ≠ H) := Lib.hid (by have := hH.out.eq; have := heap_lt HE.out; omega)
      have NFH : Hid (F ≠ H) := Lib.hid (by have := hH.out.eq; have := heap_lt HF.out; omega)
      have NGH : Hid (G ≠ H) := Lib.hid (by have := hH.out.eq; have := heap_lt HG.out; omega)
      have HHz := Lib.hid hH.out.cells; have hbH := hH.out.below
      clear hH
      have HBm := Lib.hid (HB.out.trans (hbH.mono HB.out.size))
      have HXm := Lib.hid (below_at' hbH HX.out)
      have HPm := Lib.hid (below_at' hbH HP.out)
      have HQm := Lib.hid (below_at' hbH HQ.out)
      have HSm := Lib.hid (below_at' hbH HS.out)
      have HCm := Lib.hid (below_at' hbH HC.out)
      have HEm := Lib.hid (below_at' hbH HE.out)
      have HFm := Lib.hid (below_at' hbH HF.out)
      have HGm := Lib.hid (below_at' hbH HG.out)
      clear hbH HB HX HP HQ HS HC HE HF HG
      have HB := HBm
      have HX := HXm
      have HP := HPm
      have HQ := HQm
      have HS := HSm
      have HC := HCm
      have HE := HEm
      have HF := HFm
      have HG := HGm
      clear HBm HXm HPm HQm HSm HCm HEm HFm HGm
      have HH := HHz
      clear HHz
      go_wp2_with (refine wpList_alloc_g rfl _ rfl _ _ Try.zeroUz rfl ?_)
      intro J a21 hJ
      have WJ : Hid (w.heap.size ≤ J) := Lib.hid (by rw [hJ.out.eq]; exact (HB.out).size)
      have NXJ : Hid (X ≠ J) := Lib.hid (by have := hJ.out.eq; have := heap_lt HX.out; omega)
      have NPJ : Hid (P ≠ J) := Lib.hid (by have := hJ.out.eq; have := heap_lt HP.out; omega)
      have NQJ : Hid (Q ≠ J) := Lib.hid (by have := hJ.out.eq; have := heap_lt HQ.out; omega)
      have NSJ : Hid (S ≠ J) := Lib.hid (by have := hJ.out.eq; have := heap_lt HS.out; omega)
      have NCJ : Hid (C ≠ J) := Lib.hid (by have := hJ.out.eq; have := heap_lt HC.out; omega)
      have NEJ : Hid (E ≠ J) := Lib.hid (by have := hJ.out.eq; have := heap_lt HE.out; omega)
      have NFJ : Hid (F ≠ J) := Lib.hid (by have := hJ.out.eq; have := heap_lt HF.out; omega)
      have NGJ : Hid (G ≠ J) := Lib.hid (by have := hJ.out.eq; have := heap_lt HG.out; omega)
      have NHJ : Hid (H ≠ J) := Lib.hid (by have := hJ.out.eq; have := heap_lt HH.out; omega)
      have HJz := Lib.hid hJ.out.cells; have hbJ := hJ.out.below
      clear hJ
      have HBm := Lib.hid (HB.out.trans (hbJ.mono HB.out.size))
      have HXm := Lib.hid (below_at' hbJ HX.out)
      have HPm := Lib.hid (below_at' hbJ HP.out)
      have HQm := Lib.hid (below_at' hbJ HQ.out)
      have HSm := Lib.hid (below_at' hbJ HS.out)
      have HCm := Lib.hid (below_at' hbJ HC.out)
      have HEm := Lib.hid (below_at' hbJ HE.out)
      have HFm := Lib.hid (below_at' hbJ HF.out)
      have HGm := Lib.hid (below_at' hbJ HG.out)
      have HHm := Lib.hid (below_at' hbJ HH.out)
      clear hbJ HB HX HP HQ HS HC HE HF HG HH
      have HB := HBm
      have HX := HXm
      have HP := HPm
      have HQ := HQm
      have HS := HSm
      have HC := HCm
      have HE := HEm
      have HF := HFm
      have HG := HGm
      have HH := HHm
      clear HBm HXm HPm HQm HSm HCm HEm HFm HGm HHm
      have HJ := HJz
      clear HJz
      go_wp2_with (refine wpList_store_row_g (t := 24) (old := u0) rfl 24 _ _ rfl H #[.int .u64 ma, .int .u64 mb, .int .u64 mc, .int .u64 md] rfl rfl HH.out Try.sizeU rfl (one_u64 _ _ _ _) ?_)
      intro a22 hxH kH zH
      clear zH
      have HBm := Lib.hid (HB.out.trans (kH.below (B := w.heap.size) (fun y hy e => by have := WH.out; omega) HB.out.size))
      have HXm := Lib.hid (kH.at HX.out NXH.out)
      have HPm := Lib.hid (kH.at HP.out NPH.out)
      have HQm := Lib.hid (kH.at HQ.out NQH.out)
      have HSm := Lib.hid (kH.at HS.out NSH.out)
      have HCm := Lib.hid (kH.at HC.out NCH.out)
      have HEm := Lib.hid (kH.at HE.out NEH.out)
      have HFm := Lib.hid (kH.at HF.out NFH.out)
      have HGm := Lib.hid (kH.at HG.out NGH.out)
      have HJm := Lib.hid (kH.at HJ.out (fun e => NHJ.out e.symm))
      have HHm := Lib.hid hxH
      clear hxH kH HB HX HP HQ HS HC HE HF HG HH HJ
      have HB := HBm
      have HX := HXm
      have HP := HPm
      have HQ := HQm
      have HS := HSm
      have HC := HCm
      have HE := HEm
      have HF := HFm
      have HG := HGm
      have HH := HHm
      have HJ := HJm
      clear HBm HXm HPm HQm HSm HCm HEm HFm HGm HHm HJm
      go_wp2_with (refine wpList_store_row_g (t := 24) (old := u0) rfl 24 _ _ rfl J #[.int .u64 na, .int .u64 nb, .int .u64 nc, .int .u64 nd] rfl rfl HJ.out Try.sizeU rfl (one_u64 _ _ _ _) ?_)
      intro a23 hxJ kJ zJ
      clear zJ
      have HBm := Lib.hid (HB.out.trans (kJ.below (B := w.heap.size) (fun y hy e => by have := WJ.out; omega) HB.out.size))
      have HXm := Lib.hid (kJ.at HX.out NXJ.out)
      have HPm := Lib.hid (kJ.at HP.out NPJ.out)
      have HQm := Lib.hid (kJ.at HQ.out NQJ.out)
      have HSm := Lib.hid (kJ.at HS.out NSJ.out)
      have HCm := Lib.hid (kJ.at HC.out NCJ.out)
      have HEm := Lib.hid (kJ.at HE.out NEJ.out)
      have HFm := Lib.hid (kJ.at HF.out NFJ.out)
      have HGm := Lib.hid (kJ.at HG.out NGJ.out)
      have HHm := Lib.hid (kJ.at HH.out NHJ.out)
      have HJm := Lib.hid hxJ
      clear hxJ kJ HB HX HP HQ HS HC HE HF HG HH HJ
      have HB := HBm
      have HX := HXm
      have HP := HPm
      have HQ := HQm
      have HS := HSm
      have HC := HCm
      have HE := HEm
      have HF := HFm
      have HG := HGm
      have HH := HHm
      have HJ := HJm
      clear HBm HXm HPm HQm HSm HCm HEm HFm HGm HHm HJm
      have cP0 : a23.cell? ⟨P, 0, none⟩ = some (.int .u64 ua) := Lib.cell_of_heap HP.out 0
      have cP1 : a23.cell? ⟨P, 1, none⟩ = some (.int .u64 ub) := Lib.cell_of_heap HP.out 1
      have cP2 : a23.cell? ⟨P, 2, none⟩ = some (.int .u64 uc) := Lib.cell_of_heap HP.out 2
      have cP3 : a23.cell? ⟨P, 3, none⟩ = some (.int .u64 ud) := Lib.cell_of_heap HP.out 3
      have cH0 : a23.cell? ⟨H, 0, none⟩ = some (.int .u64 ma) := Lib.cell_of_heap HH.out 0
      have cH1 : a23.cell? ⟨H, 1, none⟩ = some (.int .u64 mb) := Lib.cell_of_heap HH.out 1
      have cH2 : a23.cell? ⟨H, 2, none⟩ = some (.int .u64 mc) := Lib.cell_of_heap HH.out 2
      have cH3 : a23.cell? ⟨H, 3, none⟩ = some (.int .u64 md) := Lib.cell_of_heap HH.out 3
      go_wp2_with fail
      clear cP0 cP1 cP2 cP3 cH0 cH1 cH2 cH3
      refine (ucmp_any HPU.out HHU.out _).mono ?_
      obtain ⟨cv, hcv⟩ : ∃ q, q = cmpV (prt n x) (prt (n + 1) x) := ⟨_, rfl⟩
      rw [← hcv]
      have hc0 : cv ≤ 0 := by rw [hcv]; have := prt_mono n x; unfold cmpV; split; omega; split <;> omega
      clear hcv
      rintro e a24 ⟨rfl, hb⟩
      have HBm := Lib.hid (HB.out.trans (hb.mono HB.out.size))
      have HXm := Lib.hid (below_at' hb HX.out)
      have HPm := Lib.hid (below_at' hb HP.out)
      have HQm := Lib.hid (below_at' hb HQ.out)
      have HSm := Lib.hid (below_at' hb HS.out)
      have HCm := Lib.hid (below_at' hb HC.out)
      have HEm := Lib.hid (below_at' hb HE.out)
      have HFm := Lib.hid (below_at' hb HF.out)
      have HGm := Lib.hid (below_at' hb HG.out)
      have HHm := Lib.hid (below_at' hb HH.out)
      have HJm := Lib.hid (below_at' hb HJ.out)
      clear hb HB HX HP HQ HS HC HE HF HG HH HJ
      have HB := HBm
      have HX := HXm
      have HP := HPm
      have HQ := HQm
      have HS := HSm
      have HC := HCm
      have HE := HEm
      have HF := HFm
      have HG := HGm
      have HH := HHm
      have HJ := HJm
      clear HBm HXm HPm HQm HSm HCm HEm HFm HGm HHm HJm
      have hc1 : decide (cv ≤ 0) = true := decide_eq_true hc0
      go_wp2_with fail
      refine (lives34_any _).mono ?_
      rintro e wz ⟨rfl, hb⟩
      have HBF := Lib.hid (HB.out.trans (hb.mono HB.out.size))
      clear hb
      go_wp2_with fail
      go_ret
      exact ⟨rfl, HBF.out⟩
    · go_wp2_with fail
      refine (lives34_any _).mono ?_
      rintro e wz ⟨rfl, hb⟩
      have HBF := Lib.hid (HB.out.trans (hb.mono HB.out.size))
      clear hb
      go_wp2_with fail
      go_ret
      exact ⟨rfl, HBF.out⟩
  · refine (parts_any HU.out HN.out _).mono ?_
    rw [decide_eq_false hlt]
    rintro e a1 ⟨ua, ub, uc, ud, va, vb, vc, vd, h1, h2, rfl, hb⟩
    clear h1 h2
    have HBm := Lib.hid (HB.out.trans (hb.mono HB.out.size))
    have HXm := Lib.hid (below_at' hb HX.out)
    clear hb HB HX
    have HB := HBm
    have HX := HXm
    clear HBm HXm
    have z1 := (HUP.out.2 hlt).1
    have z2 := (HUP.out.2 hlt).2
    clear hlt
    go_wp2_with (refine wpList_alloc_g rfl _ rfl _ _ Try.zeroUz rfl ?_)
    intro P a2 hP
    have WP : Hid (w.heap.size ≤ P) := Lib.hid (by rw [hP.out.eq]; exact (HB.out).size)
    have NXP : Hid (X ≠ P) := Lib.hid (by have := hP.out.eq; have := heap_lt HX.out; omega)
    have HPz := Lib.hid hP.out.cells; have hbP := hP.out.below
    clear hP
    have HBm := Lib.hid (HB.out.trans (hbP.mono HB.out.size))
    have HXm := Lib.hid (below_at' hbP HX.out)
    clear hbP HB HX
    have HB := HBm
    have HX := HXm
    clear HBm HXm
    have HP := HPz
    clear HPz
    go_wp2_with (refine wpList_alloc_g rfl _ rfl _ _ Try.zeroUz rfl ?_)
    intro Q a3 hQ
    have WQ : Hid (w.heap.size ≤ Q) := Lib.hid (by rw [hQ.out.eq]; exact (HB.out).size)
    have NXQ : Hid (X ≠ Q) := Lib.hid (by have := hQ.out.eq; have := heap_lt HX.out; omega)
    have NPQ : Hid (P ≠ Q) := Lib.hid (by have := hQ.out.eq; have := heap_lt HP.out; omega)
    have HQz := Lib.hid hQ.out.cells; have hbQ := hQ.out.below
    clear hQ
    have HBm := Lib.hid (HB.out.trans (hbQ.mono HB.out.size))
    have HXm := Lib.hid (below_at' hbQ HX.out)
    have HPm := Lib.hid (below_at' hbQ HP.out)
    clear hbQ HB HX HP
    have HB := HBm
    have HX := HXm
    have HP := HPm
    clear HBm HXm HPm
    have HQ := HQz
    clear HQz
    go_wp2_with (refine wpList_store_row_g (t := 24) (old := u0) rfl 24 _ _ rfl P #[.int .u64 ua, .int .u64 ub, .int .u64 uc, .int .u64 ud] rfl rfl HP.out Try.sizeU rfl (one_u64 _ _ _ _) ?_)
    intro a4 hxP kP zP
    clear zP
    have HBm := Lib.hid (HB.out.trans (kP.below (B := w.heap.size) (fun y hy e => by have := WP.out; omega) HB.out.size))
    have HXm := Lib.hid (kP.at HX.out NXP.out)
    have HQm := Lib.hid (kP.at HQ.out (fun e => NPQ.out e.symm))
    have HPm := Lib.hid hxP
    clear hxP kP HB HX HP HQ
    have HB := HBm
    have HX := HXm
    have HP := HPm
    have HQ := HQm
    clear HBm HXm HPm HQm
    go_wp2_with (refine wpList_store_row_g (t := 24) (old := u0) rfl 24 _ _ rfl Q #[.int .u64 va, .int .u64 vb, .int .u64 vc, .int .u64 vd] rfl rfl HQ.out Try.sizeU rfl (one_u64 _ _ _ _) ?_)
    intro a5 hxQ kQ zQ
    clear zQ
    have HBm := Lib.hid (HB.out.trans (kQ.below (B := w.heap.size) (fun y hy e => by have := WQ.out; omega) HB.out.size))
    have HXm := Lib.hid (kQ.at HX.out NXQ.out)
    have HPm := Lib.hid (kQ.at HP.out NPQ.out)
    have HQm := Lib.hid hxQ
    clear hxQ kQ HB HX HP HQ
    have HB := HBm
    have HX := HXm
    have HP := HPm
    have HQ := HQm
    clear HBm HXm HPm HQm
    have cX2 : a5.cell? ⟨X, 2, none⟩ = some (.int .u64 (uw2 x)) := Lib.cell_of_heap HX.out 2
    have cX3 : a5.cell? ⟨X, 3, none⟩ = some (.int .u64 (uw3 x)) := Lib.cell_of_heap HX.out 3
    go_wp2_with fail
    refine (lives34_any _).mono ?_
    rintro e wz ⟨rfl, hb⟩
    have HBF := Lib.hid (HB.out.trans (hb.mono HB.out.size))
    clear hb
    go_wp2_with fail
    go_ret
    exact ⟨rfl, HBF.out⟩
end Go.Proofs.Yteaigmoldlbjdaa
