/- Law 34: lives, SplitAdds. No condition. -/
import Derived.Test.YthnjakomkdlglaaGreatSplA
import Derived.Test.YthnjakomkdlglaaGreatAriJ
import Derived.Deep.Cut
namespace Go.Proofs.YthnjakomkdlglaaGreat
open Go.RowKit

theorem upper_words {m : Nat} (h : m < uMax) : (m < uHalf → uw2 m = 0 ∧ uw3 m = 0) ∧ (¬ m < uHalf → (bits BinOp.or IntKind.u64 (uw2 m) (uw3 m) == 0) = false ∧ (bits BinOp.or IntKind.u64 (uw2 m) (uw3 m) != 0) = true) := by
  obtain ⟨A, B, C, E, e0, e1, e2, e3, ha, hb, hc, he, hn⟩ := (uw_is h).nats
  rw [e2, e3]
  constructor
  · intro hm
    unfold uHalf at hm
    constructor <;> omega
  · intro hm
    have hne : ¬ (C ||| E = 0) := fun h0 => by
      have := (or_zero_iff C E).1 h0
      unfold uHalf at hm
      omega
    have h2 : bits BinOp.or IntKind.u64 (C : Int) (E : Int) = ((C ||| E : Nat) : Int) := u64_or_nat C E hc he
    have h3 : (bits BinOp.or IntKind.u64 (C : Int) (E : Int) == 0) = false := by
      rw [h2]
      simpa using hne
    exact ⟨h3, by rw [bne, h3]; rfl⟩

theorem prt_zero (x : Nat) : prt 0 x = 0 := by unfold prt; rw [Nat.mul_zero, Nat.zero_div]
theorem prt_all (x : Nat) : prt 10000 x = x := by unfold prt; exact Nat.mul_div_cancel x (by decide)
theorem prt_mono (n x : Nat) : prt n x ≤ prt (n + 1) x := Nat.div_le_div_right (Nat.mul_le_mul_left x (Nat.le_succ n))

set_option maxHeartbeats 8000000 in
set_option maxRecDepth 100000 in
theorem lives34_any (w : World) : Calls Tryz.prog 42 #[] w (Ret w (.bool true)) := by
  have HB : Hid (Below w.heap.size w w) := Lib.hid (Below.refl _ _)
  go_enter Tryz.func42, Tryz.ntmps42
  go_wp2_with fail
  refine (parts_any (n := 1000) (x := 99) (a := 99) (b := 0) (c := 0) (f := 0) (by unfold UIs; omega) (by decide) _).mono ?_
  rw [show (if 99 < uHalf then prt 1000 99 else 0) = 9 by decide, show (if 99 < uHalf then 99 - prt 1000 99 else 0) = 90 by decide, show decide (99 < uHalf) = true by decide]
  rintro e a1 ⟨ua, ub, uc, ud, va, vb, vc, vd, h1, h2, rfl, hb⟩
  have HPU := Lib.hid h1; have HQU := Lib.hid h2
  clear h1 h2
  have HBm := Lib.hid (HB.out.trans (hb.mono HB.out.size))
  clear hb HB
  have HB := HBm
  clear HBm
  go_wp2_with (refine wpList_alloc_g rfl _ rfl _ _ Tryz.zeroUz rfl ?_)
  intro P a2 hP
  have WP : Hid (w.heap.size ≤ P) := Lib.hid (by rw [hP.out.eq]; exact (HB.out).size)
  have HPz := Lib.hid hP.out.cells; have hbP := hP.out.below
  clear hP
  have HBm := Lib.hid (HB.out.trans (hbP.mono HB.out.size))
  clear hbP HB
  have HB := HBm
  clear HBm
  have HP := HPz
  clear HPz
  go_wp2_with (refine wpList_alloc_g rfl _ rfl _ _ Tryz.zeroUz rfl ?_)
  intro Q a3 hQ
  have WQ : Hid (w.heap.size ≤ Q) := Lib.hid (by rw [hQ.out.eq]; exact (HB.out).size)
  have NPQ : Hid (P ≠ Q) := Lib.hid (by have := hQ.out.eq; have := heap_lt HP.out; omega)
  have HQz := Lib.hid hQ.out.cells; have hbQ := hQ.out.below
  clear hQ
  have HBm := Lib.hid (HB.out.trans (hbQ.mono HB.out.size))
  have HPm := Lib.hid (below_at' hbQ HP.out)
  clear hbQ HB HP
  have HB := HBm
  have HP := HPm
  clear HBm HPm
  have HQ := HQz
  clear HQz
  go_wp2_with (refine wpList_store_row_g (t := 33) (old := u0) rfl 33 _ _ rfl P #[.int .u64 ua, .int .u64 ub, .int .u64 uc, .int .u64 ud] rfl rfl HP.out Tryz.sizeU rfl (one_u64 _ _ _ _) ?_)
  intro a4 hxP kP zP
  clear zP
  have HBm := Lib.hid (HB.out.trans (kP.below (B := w.heap.size) (fun y hy e => by have := WP.out; omega) HB.out.size))
  have HQm := Lib.hid (kP.at HQ.out (fun e => NPQ.out e.symm))
  have HPm := Lib.hid hxP
  clear hxP kP HB HP HQ
  have HB := HBm
  have HP := HPm
  have HQ := HQm
  clear HBm HPm HQm
  go_wp2_with (refine wpList_store_row_g (t := 33) (old := u0) rfl 33 _ _ rfl Q #[.int .u64 va, .int .u64 vb, .int .u64 vc, .int .u64 vd] rfl rfl HQ.out Tryz.sizeU rfl (one_u64 _ _ _ _) ?_)
  intro a5 hxQ kQ zQ
  clear zQ
  have HBm := Lib.hid (HB.out.trans (kQ.below (B := w.heap.size) (fun y hy e => by have := WQ.out; omega) HB.out.size))
  have HPm := Lib.hid (kQ.at HP.out NPQ.out)
  have HQm := Lib.hid hxQ
  clear hxQ kQ HB HP HQ
  have HB := HBm
  have HP := HPm
  have HQ := HQm
  clear HBm HPm HQm
  have e1 := Tryz.eqUn HPU.out (a' := 9) (b' := 0) (c' := 0) (d' := 0) (m := 9) (by unfold UIs; omega)
  have e2 := Tryz.eqUn HQU.out (a' := 90) (b' := 0) (c' := 0) (d' := 0) (m := 90) (by unfold UIs; omega)
  rw [decide_eq_true rfl] at e1 e2
  have cP0 : a5.cell? ⟨P, 0, none⟩ = some (.int .u64 ua) := Lib.cell_of_heap HP.out 0
  have cP1 : a5.cell? ⟨P, 1, none⟩ = some (.int .u64 ub) := Lib.cell_of_heap HP.out 1
  have cP2 : a5.cell? ⟨P, 2, none⟩ = some (.int .u64 uc) := Lib.cell_of_heap HP.out 2
  have cP3 : a5.cell? ⟨P, 3, none⟩ = some (.int .u64 ud) := Lib.cell_of_heap HP.out 3
  have cQ0 : a5.cell? ⟨Q, 0, none⟩ = some (.int .u64 va) := Lib.cell_of_heap HQ.out 0
  have cQ1 : a5.cell? ⟨Q, 1, none⟩ = some (.int .u64 vb) := Lib.cell_of_heap HQ.out 1
  have cQ2 : a5.cell? ⟨Q, 2, none⟩ = some (.int .u64 vc) := Lib.cell_of_heap HQ.out 2
  have cQ3 : a5.cell? ⟨Q, 3, none⟩ = some (.int .u64 vd) := Lib.cell_of_heap HQ.out 3
  go_wp2_with fail
  go_ret
  exact ⟨rfl, HB.out⟩

end Go.Proofs.YthnjakomkdlglaaGreat
