/- Numbers compared; divided by a number of 32 bits (code). No condition. -/
import Derived.Test.YteaigmoldlbjdaaMulC
import Derived.Deep.Cut
namespace Go.Proofs.Yteaigmoldlbjdaa
open Go.RowKit

def cmpW (n m : Nat) : Int := if n < m then -1 else if m < n then 1 else 0
theorem cmpW_neg (n m : Nat) : cmpW n m < 0 ↔ n < m := by unfold cmpW; split; simp [*]; split <;> simp_all <;> omega

set_option maxHeartbeats 16000000 in
set_option maxRecDepth 100000 in
theorem ucmpP_any {a b c f a' b' c' f' : Int} {n m : Nat} (h : UIs a b c f n) (h' : UIs a' b' c' f' m) (w : World) :
    Calls Try.prog 102 #[.agg #[.int .u64 a, .int .u64 b, .int .u64 c, .int .u64 f], .agg #[.int .u64 a', .int .u64 b', .int .u64 c', .int .u64 f']] w (Ret w (.int .i64 (cmpW n m))) := by
  obtain ⟨A0, A1, A2, A3, rfl, rfl, rfl, rfl, ha0, ha1, ha2, ha3, hn⟩ := h.nats
  obtain ⟨B0, B1, B2, B3, rfl, rfl, rfl, rfl, hb0, hb1, hb2, hb3, hm⟩ := h'.nats
  obtain ⟨cv, hcv⟩ : ∃ v, v = cmpW n m := ⟨_, rfl⟩
  rw [← hcv]
  have HN : Hid ((n < m → cv = -1) ∧ (m < n → cv = 1) ∧ (n = m → cv = 0)) := Lib.hid (by
    rw [hcv]; unfold cmpW
    refine ⟨fun h => if_pos h, fun h => by rw [if_neg (by omega), if_pos h], fun h => by rw [if_neg (by omega), if_neg (by omega)]⟩)
  have HA : Hid ((A0 < 18446744073709551616 ∧ A1 < 18446744073709551616 ∧ A2 < 18446744073709551616) ∧ (B0 < 18446744073709551616 ∧ B1 < 18446744073709551616 ∧ B2 < 18446744073709551616) ∧ n = A0 + A1 * 18446744073709551616 + A2 * 340282366920938463463374607431768211456 + A3 * 6277101735386680763835789423207666416102355444464034512896 ∧ m = B0 + B1 * 18446744073709551616 + B2 * 340282366920938463463374607431768211456 + B3 * 6277101735386680763835789423207666416102355444464034512896) := Lib.hid ⟨⟨ha0, ha1, ha2⟩, ⟨hb0, hb1, hb2⟩, hn, hm⟩
  clear h h' ha0 ha1 ha2 ha3 hn hb0 hb1 hb2 hb3 hm hcv
  go_enter Try.func102, Try.ntmps102
  go_upto_region 1 with fail
  obtain ⟨w1, hw1⟩ : ∃ wq, wq = (w.alloc (.cells #[.int .u64 (A0 : Int), .int .u64 (A1 : Int), .int .u64 (A2 : Int), .int .u64 (A3 : Int)] 24)).alloc (.cells #[.int .u64 (B0 : Int), .int .u64 (B1 : Int), .int .u64 (B2 : Int), .int .u64 (B3 : Int)] 24) := ⟨_, rfl⟩
  obtain ⟨X, hX⟩ : ∃ x, x = w.heap.size := ⟨_, rfl⟩
  obtain ⟨Y, hY⟩ : ∃ x, x = w.heap.size + 1 := ⟨_, rfl⟩
  rw [← hw1, ← hY, ← hX]
  have hbx := box2 w _ _ _ _ w1 hw1
  rw [← hY, ← hX] at hbx
  have HX := Lib.hid hbx.1; have HY := Lib.hid hbx.2.1
  have HB : Hid (Below w.heap.size w w1) := Lib.hid (by rw [← hX]; exact hbx.2.2.1)
  clear hbx hw1 hX hY
  go_wp2_with fail
  go_loopw [5] (fun vi wr => ∃ t : Nat, vi = .int .i64 ((t : Int) - 1) ∧ t ≤ 4 ∧ Hid ((t ≤ 3 → A3 = B3) ∧ (t ≤ 2 → A2 = B2) ∧ (t ≤ 1 → A1 = B1) ∧ (t ≤ 0 → A0 = B0)) ∧ Hid (wr.heap[X]? = some (.cells #[.int .u64 (A0 : Int), .int .u64 (A1 : Int), .int .u64 (A2 : Int), .int .u64 (A3 : Int)] 24 (0, 0))) ∧ Hid (wr.heap[Y]? = some (.cells #[.int .u64 (B0 : Int), .int .u64 (B1 : Int), .int .u64 (B2 : Int), .int .u64 (B3 : Int)] 24 (0, 0))) ∧ Hid (Below w.heap.size w wr)) (fun vi _ => (intOf vi + 1).toNat)
  case atStart => exact ⟨4, rfl, by omega, Lib.hid ⟨fun h => by omega, fun h => by omega, fun h => by omega, fun h => by omega⟩, HX, HY, HB⟩
  case round =>
    clear HX HY HB
    obtain ⟨t, rfl, ht4, HE, HX, HY, HB⟩ := hrel
    rcases (show t = 0 ∨ t = 1 ∨ t = 2 ∨ t = 3 ∨ t = 4 by omega) with rfl | rfl | rfl | rfl | rfl
    · have HV : Hid (cv = 0) := Lib.hid (HN.out.2.2 (by have := HE.out; have := HA.out; have e3 := HE.out.1 (by omega); have e2 := HE.out.2.1 (by omega); have e1 := HE.out.2.2.1 (by omega); have e0 := HE.out.2.2.2 (by omega); omega))
      go_wp2_with fail
      go_ret
      rw [HV.out]; exact ⟨rfl, HB.out⟩
    · have c0 : ¬ ((1 : Int) - 1 < 0) := by decide
      by_cases h1 : A0 < B0
      · have q1 : decide (A0 < B0) = true := decide_eq_true h1
        have HV : Hid (cv = -1) := Lib.hid (HN.out.1 (by have := HA.out; have e3 := HE.out.1 (by omega); have e2 := HE.out.2.1 (by omega); have e1 := HE.out.2.2.1 (by omega); omega))
        go_wp2_with fail
        obtain ⟨d1, hwz⟩ : ∃ wz, wz = wr.drew := ⟨_, rfl⟩
        have hbz : Below wr.heap.size wr d1 := by rw [hwz]; exact (Below.refl _ _).drew
        have HBm := Lib.hid (HB.out.trans (hbz.mono HB.out.size))
        have HXm := Lib.hid (below_at' hbz HX.out)
        have HYm := Lib.hid (below_at' hbz HY.out)
        clear hbz HB HX HY
        have HB := HBm
        have HX := HXm
        have HY := HYm
        clear HBm HXm HYm
        have hS : d1.heap[X]? = some (.cells #[.int .u64 (A0 : Int), .int .u64 (A1 : Int), .int .u64 (A2 : Int), .int .u64 (A3 : Int)] 24 (0, 0)) ∧ d1.heap[Y]? = some (.cells #[.int .u64 (B0 : Int), .int .u64 (B1 : Int), .int .u64 (B2 : Int), .int .u64 (B3 : Int)] 24 (0, 0)) := ⟨HX.out, HY.out⟩
        refine wp_region_till (fun w' => w'.heap[X]? = some (.cells #[.int .u64 (A0 : Int), .int .u64 (A1 : Int), .int .u64 (A2 : Int), .int .u64 (A3 : Int)] 24 (0, 0)) ∧ w'.heap[Y]? = some (.cells #[.int .u64 (B0 : Int), .int .u64 (B1 : Int), .int .u64 (B2 : Int), .int .u64 (B3 : Int)] 24 (0, 0))) 8 8 (by kernel_rfl) rfl ?_
        rw [← hwz]
        clear hwz
        refine till_take 0 (some 11) rfl rfl (by kernel_rfl) (by kernel_rfl) (by kernel_rfl) (by kernel_rfl) (by kernel_rfl) (by kernel_rfl) (fun _ _ _ h => h) (.inl ⟨by rfl, fun w' _ => (by go_simp; rfl)⟩) hS ?_
        go_frame
        refine till_take 1 (some 12) rfl rfl (by kernel_rfl) (by kernel_rfl) (by kernel_rfl) (by kernel_rfl) (by kernel_rfl) (by kernel_rfl) (fun _ _ _ h => h) (.inl ⟨by rfl, fun w' _ => (by go_simp; rfl)⟩) hS ?_
        go_frame
        refine till_take 2 (some 13) rfl rfl (by kernel_rfl) (by kernel_rfl) (by kernel_rfl) (by kernel_rfl) (by kernel_rfl) (by kernel_rfl) (fun _ _ _ h => h) (.inl ⟨by rfl, fun w' hS' => (by have hc : w'.cell? ⟨X, 0, none⟩ = some (.int .u64 (A0 : Int)) := Lib.cell_of_heap (hS'.1) 0; go_simp; rfl)⟩) hS ?_
        go_frame
        refine till_take 3 (some 14) rfl rfl (by kernel_rfl) (by kernel_rfl) (by kernel_rfl) (by kernel_rfl) (by kernel_rfl) (by kernel_rfl) (fun _ _ _ h => h) (.inl ⟨by rfl, fun w' _ => (by go_simp; rfl)⟩) hS ?_
        go_frame
        refine till_take 4 (some 15) rfl rfl (by kernel_rfl) (by kernel_rfl) (by kernel_rfl) (by kernel_rfl) (by kernel_rfl) (by kernel_rfl) (fun _ _ _ h => h) (.inl ⟨by rfl, fun w' _ => (by go_simp; rfl)⟩) hS ?_
        go_frame
        refine till_take 5 (some 16) rfl rfl (by kernel_rfl) (by kernel_rfl) (by kernel_rfl) (by kernel_rfl) (by kernel_rfl) (by kernel_rfl) (fun _ _ _ h => h) (.inl ⟨by rfl, fun w' hS' => (by have hc : w'.cell? ⟨Y, 0, none⟩ = some (.int .u64 (B0 : Int)) := Lib.cell_of_heap (hS'.2) 0; go_simp; rfl)⟩) hS ?_
        go_frame
        refine till_take 6 (some 17) rfl rfl (by kernel_rfl) (by kernel_rfl) (by kernel_rfl) (by kernel_rfl) (by kernel_rfl) (by kernel_rfl) (fun _ _ _ h => h) (.inl ⟨by rfl, fun w' _ => (by go_simp; rfl)⟩) hS ?_
        go_frame
        refine till_take 7 (some 10) rfl rfl (by kernel_rfl) (by kernel_rfl) (by kernel_rfl) (by kernel_rfl) (by kernel_rfl) (by kernel_rfl) (fun _ _ _ h => h) (.inl ⟨by rfl, fun w' _ => (by go_simp; rfl)⟩) hS ?_
        go_frame
        refine till_done (by kernel_rfl) ?_ _
        clear hS
        go_wp2_with fail
        go_ret
        rw [HV.out]; exact ⟨rfl, HB.out⟩
      · have q1 : decide (A0 < B0) = false := decide_eq_false h1
        go_wp2_with fail
        obtain ⟨d1, hwz⟩ : ∃ wz, wz = wr.drew := ⟨_, rfl⟩
        have hbz : Below wr.heap.size wr d1 := by rw [hwz]; exact (Below.refl _ _).drew
        have HBm := Lib.hid (HB.out.trans (hbz.mono HB.out.size))
        have HXm := Lib.hid (below_at' hbz HX.out)
        have HYm := Lib.hid (below_at' hbz HY.out)
        clear hbz HB HX HY
        have HB := HBm
        have HX := HXm
        have HY := HYm
        clear HBm HXm HYm
        have hS : d1.heap[X]? = some (.cells #[.int .u64 (A0 : Int), .int .u64 (A1 : Int), .int .u64 (A2 : Int), .int .u64 (A3 : Int)] 24 (0, 0)) ∧ d1.heap[Y]? = some (.cells #[.int .u64 (B0 : Int), .int .u64 (B1 : Int), .int .u64 (B2 : Int), .int .u64 (B3 : Int)] 24 (0, 0)) := ⟨HX.out, HY.out⟩
        refine wp_region_till (fun w' => w'.heap[X]? = some (.cells #[.int .u64 (A0 : Int), .int .u64 (A1 : Int), .int .u64 (A2 : Int), .int .u64 (A3 : Int)] 24 (0, 0)) ∧ w'.heap[Y]? = some (.cells #[.int .u64 (B0 : Int), .int .u64 (B1 : Int), .int .u64 (B2 : Int), .int .u64 (B3 : Int)] 24 (0, 0))) 8 8 (by kernel_rfl) rfl ?_
        rw [← hwz]
        clear hwz
        refine till_take 0 (some 11) rfl rfl (by kernel_rfl) (by kernel_rfl) (by kernel_rfl) (by kernel_rfl) (by kernel_rfl) (by kernel_rfl) (fun _ _ _ h => h) (.inl ⟨by rfl, fun w' _ => (by go_simp; rfl)⟩) hS ?_
        go_frame
        refine till_take 1 (some 12) rfl rfl (by kernel_rfl) (by kernel_rfl) (by kernel_rfl) (by kernel_rfl) (by kernel_rfl) (by kernel_rfl) (fun _ _ _ h => h) (.inl ⟨by rfl, fun w' _ => (by go_simp; rfl)⟩) hS ?_
        go_frame
        refine till_take 2 (some 13) rfl rfl (by kernel_rfl) (by kernel_rfl) (by kernel_rfl) (by kernel_rfl) (by kernel_rfl) (by kernel_rfl) (fun _ _ _ h => h) (.inl ⟨by rfl, fun w' hS' => (by have hc : w'.cell? ⟨X, 0, none⟩ = some (.int .u64 (A0 : Int)) := Lib.cell_of_heap (hS'.1) 0; go_simp; rfl)⟩) hS ?_
        go_frame
        refine till_take 3 (some 14) rfl rfl (by kernel_rfl) (by kernel_rfl) (by kernel_rfl) (by kernel_rfl) (by kernel_rfl) (by kernel_rfl) (fun _ _ _ h => h) (.inl ⟨by rfl, fun w' _ => (by go_simp; rfl)⟩) hS ?_
        go_frame
        refine till_take 4 (some 15) rfl rfl (by kernel_rfl) (by kernel_rfl) (by kernel_rfl) (by kernel_rfl) (by kernel_rfl) (by kernel_rfl) (fun _ _ _ h => h) (.inl ⟨by rfl, fun w' _ => (by go_simp; rfl)⟩) hS ?_
        go_frame
        refine till_take 5 (some 16) rfl rfl (by kernel_rfl) (by kernel_rfl) (by kernel_rfl) (by kernel_rfl) (by kernel_rfl) (by kernel_rfl) (fun _ _ _ h => h) (.inl ⟨by rfl, fun w' hS' => (by have hc : w'.cell? ⟨Y, 0, none⟩ = some (.int .u64 (B0 : Int)) := Lib.cell_of_heap (hS'.2) 0; go_simp; rfl)⟩) hS ?_
        go_frame
        refine till_take 6 (some 17) rfl rfl (by kernel_rfl) (by kernel_rfl) (by kernel_rfl) (by kernel_rfl) (by kernel_rfl) (by kernel_rfl) (fun _ _ _ h => h) (.inl ⟨by rfl, fun w' _ => (by go_simp; rfl)⟩) hS ?_
        go_frame
        refine till_take 7 (some 10) rfl rfl (by kernel_rfl) (by kernel_rfl) (by kernel_rfl) (by kernel_rfl) (by kernel_rfl) (by kernel_rfl) (fun _ _ _ h => h) (.inl ⟨by rfl, fun w' _ => (by go_simp; rfl)⟩) hS ?_
        go_frame
        refine till_done (by kernel_rfl) ?_ _
        clear hS
        go_wp2_with fail
        by_cases h2 : B0 < A0
        · have q2 : decide (B0 < A0) = true := decide_eq_true h2
          have HV : Hid (cv = 1) := Lib.hid (HN.out.2.1 (by have := HA.out; have e3 := HE.out.1 (by omega); have e2 := HE.out.2.1 (by omega); have e1 := HE.out.2.2.1 (by omega); omega))
          obtain ⟨d2, hwz⟩ : ∃ wz, wz = d1.drew := ⟨_, rfl⟩
          have hbz : Below d1.heap.size d1 d2 := by rw [hwz]; exact (Below.refl _ _).drew
          have HBm := Lib.hid (HB.out.trans (hbz.mono HB.out.size))
          have HXm := Lib.hid (below_at' hbz HX.out)
          have HYm := Lib.hid (below_at' hbz HY.out)
          clear hbz HB HX HY
          have HB := HBm
          have HX := HXm
          have HY := HYm
          clear HBm HXm HYm
          have hS : d2.heap[X]? = some (.cells #[.int .u64 (A0 : Int), .int .u64 (A1 : Int), .int .u64 (A2 : Int), .int .u64 (A3 : Int)] 24 (0, 0)) ∧ d2.heap[Y]? = some (.cells #[.int .u64 (B0 : Int), .int .u64 (B1 : Int), .int .u64 (B2 : Int), .int .u64 (B3 : Int)] 24 (0, 0)) := ⟨HX.out, HY.out⟩
          refine wp_region_till (fun w' => w'.heap[X]? = some (.cells #[.int .u64 (A0 : Int), .int .u64 (A1 : Int), .int .u64 (A2 : Int), .int .u64 (A3 : Int)] 24 (0, 0)) ∧ w'.heap[Y]? = some (.cells #[.int .u64 (B0 : Int), .int .u64 (B1 : Int), .int .u64 (B2 : Int), .int .u64 (B3 : Int)] 24 (0, 0))) 8 8 (by kernel_rfl) rfl ?_
          rw [← hwz]
          clear hwz
          refine till_take 0 (some 19) rfl rfl (by kernel_rfl) (by kernel_rfl) (by kernel_rfl) (by kernel_rfl) (by kernel_rfl) (by kernel_rfl) (fun _ _ _ h => h) (.inl ⟨by rfl, fun w' _ => (by go_simp; rfl)⟩) hS ?_
          go_frame
          refine till_take 1 (some 20) rfl rfl (by kernel_rfl) (by kernel_rfl) (by kernel_rfl) (by kernel_rfl) (by kernel_rfl) (by kernel_rfl) (fun _ _ _ h => h) (.inl ⟨by rfl, fun w' _ => (by go_simp; rfl)⟩) hS ?_
          go_frame
          refine till_take 2 (some 21) rfl rfl (by kernel_rfl) (by kernel_rfl) (by kernel_rfl) (by kernel_rfl) (by kernel_rfl) (by kernel_rfl) (fun _ _ _ h => h) (.inl ⟨by rfl, fun w' hS' => (by have hc : w'.cell? ⟨X, 0, none⟩ = some (.int .u64 (A0 : Int)) := Lib.cell_of_heap (hS'.1) 0; go_simp; rfl)⟩) hS ?_
          go_frame
          refine till_take 3 (some 22) rfl rfl (by kernel_rfl) (by kernel_rfl) (by kernel_rfl) (by kernel_rfl) (by kernel_rfl) (by kernel_rfl) (fun _ _ _ h => h) (.inl ⟨by rfl, fun w' _ => (by go_simp; rfl)⟩) hS ?_
          go_frame
          refine till_take 4 (some 23) rfl rfl (by kernel_rfl) (by kernel_rfl) (by kernel_rfl) (by kernel_rfl) (by kernel_rfl) (by kernel_rfl) (fun _ _ _ h => h) (.inl ⟨by rfl, fun w' _ => (by go_simp; rfl)⟩) hS ?_
          go_frame
          refine till_take 5 (some 24) rfl rfl (by kernel_rfl) (by kernel_rfl) (by kernel_rfl) (by kernel_rfl) (by kernel_rfl) (by kernel_rfl) (fun _ _ _ h => h) (.inl ⟨by rfl, fun w' hS' => (by have hc : w'.cell? ⟨Y, 0, none⟩ = some (.int .u64 (B0 : Int)) := Lib.cell_of_heap (hS'.2) 0; go_simp; rfl)⟩) hS ?_
          go_frame
          refine till_take 6 (some 25) rfl rfl (by kernel_rfl) (by kernel_rfl) (by kernel_rfl) (by kernel_rfl) (by kernel_rfl) (by kernel_rfl) (fun _ _ _ h => h) (.inl ⟨by rfl, fun w' _ => (by go_simp; rfl)⟩) hS ?_
          go_frame
          refine till_take 7 (some 18) rfl rfl (by kernel_rfl) (by kernel_rfl) (by kernel_rfl) (by kernel_rfl) (by kernel_rfl) (by kernel_rfl) (fun _ _ _ h => h) (.inl ⟨by rfl, fun w' _ => (by go_simp; rfl)⟩) hS ?_
          go_frame
          refine till_done (by kernel_rfl) ?_ _
          clear hS
          go_wp2_with fail
          go_ret
          rw [HV.out]; exact ⟨rfl, HB.out⟩
        · have q2 : decide (B0 < A0) = false := decide_eq_false h2
          have HE2 : Hid ((0 ≤ 3 → A3 = B3) ∧ (0 ≤ 2 → A2 = B2) ∧ (0 ≤ 1 → A1 = B1) ∧ (0 ≤ 0 → A0 = B0)) := Lib.hid ⟨fun h => by first | exact HE.out.1 (by omega) | omega, fun h => by first | exact HE.out.2.1 (by omega) | omega, fun h => by first | exact HE.out.2.2.1 (by omega) | omega, fun h => by first | exact HE.out.2.2.2 (by omega) | omega⟩
          obtain ⟨d2, hwz⟩ : ∃ wz, wz = d1.drew := ⟨_, rfl⟩
          have hbz : Below d1.heap.size d1 d2 := by rw [hwz]; exact (Below.refl _ _).drew
          have HBm := Lib.hid (HB.out.trans (hbz.mono HB.out.size))
          have HXm := Lib.hid (below_at' hbz HX.out)
          have HYm := Lib.hid (below_at' hbz HY.out)
          clear hbz HB HX HY
          have HB := HBm
          have HX := HXm
          have HY := HYm
          clear HBm HXm HYm
          have hS : d2.heap[X]? = some (.cells #[.int .u64 (A0 : Int), .int .u64 (A1 : Int), .int .u64 (A2 : Int), .int .u64 (A3 : Int)] 24 (0, 0)) ∧ d2.heap[Y]? = some (.cells #[.int .u64 (B0 : Int), .int .u64 (B1 : Int), .int .u64 (B2 : Int), .int .u64 (B3 : Int)] 24 (0, 0)) := ⟨HX.out, HY.out⟩
          refine wp_region_till (fun w' => w'.heap[X]? = some (.cells #[.int .u64 (A0 : Int), .int .u64 (A1 : Int), .int .u64 (A2 : Int), .int .u64 (A3 : Int)] 24 (0, 0)) ∧ w'.heap[Y]? = some (.cells #[.int .u64 (B0 : Int), .int .u64 (B1 : Int), .int .u64 (B2 : Int), .int .u64 (B3 : Int)] 24 (0, 0))) 8 8 (by kernel_rfl) rfl ?_
          rw [← hwz]
          clear hwz
          refine till_take 0 (some 19) rfl rfl (by kernel_rfl) (by kernel_rfl) (by kernel_rfl) (by kernel_rfl) (by kernel_rfl) (by kernel_rfl) (fun _ _ _ h => h) (.inl ⟨by rfl, fun w' _ => (by go_simp; rfl)⟩) hS ?_
          go_frame
          refine till_take 1 (some 20) rfl rfl (by kernel_rfl) (by kernel_rfl) (by kernel_rfl) (by kernel_rfl) (by kernel_rfl) (by kernel_rfl) (fun _ _ _ h => h) (.inl ⟨by rfl, fun w' _ => (by go_simp; rfl)⟩) hS ?_
          go_frame
          refine till_take 2 (some 21) rfl rfl (by kernel_rfl) (by kernel_rfl) (by kernel_rfl) (by kernel_rfl) (by kernel_rfl) (by kernel_rfl) (fun _ _ _ h => h) (.inl ⟨by rfl, fun w' hS' => (by have hc : w'.cell? ⟨X, 0, none⟩ = some (.int .u64 (A0 : Int)) := Lib.cell_of_heap (hS'.1) 0; go_simp; rfl)⟩) hS ?_
          go_frame
          refine till_take 3 (some 22) rfl rfl (by kernel_rfl) (by kernel_rfl) (by kernel_rfl) (by kernel_rfl) (by kernel_rfl) (by kernel_rfl) (fun _ _ _ h => h) (.inl ⟨by rfl, fun w' _ => (by go_simp; rfl)⟩) hS ?_
          go_frame
          refine till_take 4 (some 23) rfl rfl (by kernel_rfl) (by kernel_rfl) (by kernel_rfl) (by kernel_rfl) (by kernel_rfl) (by kernel_rfl) (fun _ _ _ h => h) (.inl ⟨by rfl, fun w' _ => (by go_simp; rfl)⟩) hS ?_
          go_frame
          refine till_take 5 (some 24) rfl rfl (by kernel_rfl) (by kernel_rfl) (by kernel_rfl) (by kernel_rfl) (by kernel_rfl) (by kernel_rfl) (fun _ _ _ h => h) (.inl ⟨by rfl, fun w' hS' => (by have hc : w'.cell? ⟨Y, 0, none⟩ = some (.int .u64 (B0 : Int)) := Lib.cell_of_heap (hS'.2) 0; go_simp; rfl)⟩) hS ?_
          go_frame
          refine till_take 6 (some 25) rfl rfl (by kernel_rfl) (by kernel_rfl) (by kernel_rfl) (by kernel_rfl) (by kernel_rfl) (by kernel_rfl) (fun _ _ _ h => h) (.inl ⟨by rfl, fun w' _ => (by go_simp; rfl)⟩) hS ?_
          go_frame
          refine till_take 7 (some 18) rfl rfl (by kernel_rfl) (by kernel_rfl) (by kernel_rfl) (by kernel_rfl) (by kernel_rfl) (by kernel_rfl) (fun _ _ _ h => h) (.inl ⟨by rfl, fun w' _ => (by go_simp; rfl)⟩) hS ?_
          go_frame
          refine till_done (by kernel_rfl) ?_ _
          clear hS
          go_wp2_with fail
          go_roundw
          case rel => exact ⟨0, by first | rfl | trivial, by omega, HE2, HX, HY, HB⟩
          case measure => simp [intOf]
    · have c0 : ¬ ((2 : Int) - 1 < 0) := by decide
      by_cases h1 : A1 < B1
      · have q1 : decide (A1 < B1) = true := decide_eq_true h1
        have HV : Hid (cv = -1) := Lib.hid (HN.out.1 (by have := HA.out; have e3 := HE.out.1 (by omega); have e2 := HE.out.2.1 (by omega); omega))
        go_wp2_with fail
        obtain ⟨d1, hwz⟩ : ∃ wz, wz = wr.drew := ⟨_, rfl⟩
        have hbz : Below wr.heap.size wr d1 := by rw [hwz]; exact (Below.refl _ _).drew
        have HBm := Lib.hid (HB.out.trans (hbz.mono HB.out.size))
        have HXm := Lib.hid (below_at' hbz HX.out)
        have HYm := Lib.hid (below_at' hbz HY.out)
        clear hbz HB HX HY
        have HB := HBm
        have HX := HXm
        have HY := HYm
        clear HBm HXm HYm
        have hS : d1.heap[X]? = some (.cells #[.int .u64 (A0 : Int), .int .u64 (A1 : Int), .int .u64 (A2 : Int), .int .u64 (A3 : Int)] 24 (0, 0)) ∧ d1.heap[Y]? = some (.cells #[.int .u64 (B0 : Int), .int .u64 (B1 : Int), .int .u64 (B2 : Int), .int .u64 (B3 : Int)] 24 (0, 0)) := ⟨HX.out, HY.out⟩
        refine wp_region_till (fun w' => w'.heap[X]? = some (.cells #[.int .u64 (A0 : Int), .int .u64 (A1 : Int), .int .u64 (A2 : Int), .int .u64 (A3 : Int)] 24 (0, 0)) ∧ w'.heap[Y]? = some (.cells #[.int .u64 (B0 : Int), .int .u64 (B1 : Int), .int .u64 (B2 : Int), .int .u64 (B3 : Int)] 24 (0, 0))) 8 8 (by kernel_rfl) rfl ?_
        rw [← hwz]
        clear hwz
        refine till_take 0 (some 11) rfl rfl (by kernel_rfl) (by kernel_rfl) (by kernel_rfl) (by kernel_rfl) (by kernel_rfl) (by kernel_rfl) (fun _ _ _ h => h) (.inl ⟨by rfl, fun w' _ => (by go_simp; rfl)⟩) hS ?_
        go_frame
        refine till_take 1 (some 12) rfl rfl (by kernel_rfl) (by kernel_rfl) (by kernel_rfl) (by kernel_rfl) (by kernel_rfl) (by kernel_rfl) (fun _ _ _ h => h) (.inl ⟨by rfl, fun w' _ => (by go_simp; rfl)⟩) hS ?_
        go_frame
        refine till_take 2 (some 13) rfl rfl (by kernel_rfl) (by kernel_rfl) (by kernel_rfl) (by kernel_rfl) (by kernel_rfl) (by kernel_rfl) (fun _ _ _ h => h) (.inl ⟨by rfl, fun w' hS' => (by have hc : w'.cell? ⟨X, 1, none⟩ = some (.int .u64 (A1 : Int)) := Lib.cell_of_heap (hS'.1) 1; go_simp; rfl)⟩) hS ?_
        go_frame
        refine till_take 3 (some 14) rfl rfl (by kernel_rfl) (by kernel_rfl) (by kernel_rfl) (by kernel_rfl) (by kernel_rfl) (by kernel_rfl) (fun _ _ _ h => h) (.inl ⟨by rfl, fun w' _ => (by go_simp; rfl)⟩) hS ?_
        go_frame
        refine till_take 4 (some 15) rfl rfl (by kernel_rfl) (by kernel_rfl) (by kernel_rfl) (by kernel_rfl) (by kernel_rfl) (by kernel_rfl) (fun _ _ _ h => h) (.inl ⟨by rfl, fun w' _ => (by go_simp; rfl)⟩) hS ?_
        go_frame
        refine till_take 5 (some 16) rfl rfl (by kernel_rfl) (by kernel_rfl) (by kernel_rfl) (by kernel_rfl) (by kernel_rfl) (by kernel_rfl) (fun _ _ _ h => h) (.inl ⟨by rfl, fun w' hS' => (by have hc : w'.cell? ⟨Y, 1, none⟩ = some (.int .u64 (B1 : Int)) := Lib.cell_of_heap (hS'.2) 1; go_simp; rfl)⟩) hS ?_
        go_frame
        refine till_take 6 (some 17) rfl rfl (by kernel_rfl) (by kernel_rfl) (by kernel_rfl) (by kernel_rfl) (by kernel_rfl) (by kernel_rfl) (fun _ _ _ h => h) (.inl ⟨by rfl, fun w' _ => (by go_simp; rfl)⟩) hS ?_
        go_frame
        refine till_take 7 (some 10) rfl rfl (by kernel_rfl) (by kernel_rfl) (by kernel_rfl) (by kernel_rfl) (by kernel_rfl) (by kernel_rfl) (fun _ _ _ h => h) (.inl ⟨by rfl, fun w' _ => (by go_simp; rfl)⟩) hS ?_
        go_frame
        refine till_done (by kernel_rfl) ?_ _
        clear hS
        go_wp2_with fail
        go_ret
        rw [HV.out]; exact ⟨rfl, HB.out⟩
      · have q1 : decide (A1 < B1) = false := decide_eq_false h1
        go_wp2_with fail
        obtain ⟨d1, hwz⟩ : ∃ wz, wz = wr.drew := ⟨_, rfl⟩
        have hbz : Below wr.heap.size wr d1 := by rw [hwz]; exact (Below.refl _ _).drew
        have HBm := Lib.hid (HB.out.trans (hbz.mono HB.out.size))
        have HXm := Lib.hid (below_at' hbz HX.out)
        have HYm := Lib.hid (below_at' hbz HY.out)
        clear hbz HB HX HY
        have HB := HBm
        have HX := HXm
        have HY := HYm
        clear HBm HXm HYm
        have hS : d1.heap[X]? = some (.cells #[.int .u64 (A0 : Int), .int .u64 (A1 : Int), .int .u64 (A2 : Int), .int .u64 (A3 : Int)] 24 (0, 0)) ∧ d1.heap[Y]? = some (.cells #[.int .u64 (B0 : Int), .int .u64 (B1 : Int), .int .u64 (B2 : Int), .int .u64 (B3 : Int)] 24 (0, 0)) := ⟨HX.out, HY.out⟩
        refine wp_region_till (fun w' => w'.heap[X]? = some (.cells #[.int .u64 (A0 : Int), .int .u64 (A1 : Int), .int .u64 (A2 : Int), .int .u64 (A3 : Int)] 24 (0, 0)) ∧ w'.heap[Y]? = some (.cells #[.int .u64 (B0 : Int), .int .u64 (B1 : Int), .int .u64 (B2 : Int), .int .u64 (B3 : Int)] 24 (0, 0))) 8 8 (by kernel_rfl) rfl ?_
        rw [← hwz]
        clear hwz
        refine till_take 0 (some 11) rfl rfl (by kernel_rfl) (by kernel_rfl) (by kernel_rfl) (by kernel_rfl) (by kernel_rfl) (by kernel_rfl) (fun _ _ _ h => h) (.inl ⟨by rfl, fun w' _ => (by go_simp; rfl)⟩) hS ?_
        go_frame
        refine till_take 1 (some 12) rfl rfl (by kernel_rfl) (by kernel_rfl) (by kernel_rfl) (by kernel_rfl) (by kernel_rfl) (by kernel_rfl) (fun _ _ _ h => h) (.inl ⟨by rfl, fun w' _ => (by go_simp; rfl)⟩) hS ?_
        go_frame
        refine till_take 2 (some 13) rfl rfl (by kernel_rfl) (by kernel_rfl) (by kernel_rfl) (by kernel_rfl) (by kernel_rfl) (by kernel_rfl) (fun _ _ _ h => h) (.inl ⟨by rfl, fun w' hS' => (by have hc : w'.cell? ⟨X, 1, none⟩ = some (.int .u64 (A1 : Int)) := Lib.cell_of_heap (hS'.1) 1; go_simp; rfl)⟩) hS ?_
        go_frame
        refine till_take 3 (some 14) rfl rfl (by kernel_rfl) (by kernel_rfl) (by kernel_rfl) (by kernel_rfl) (by kernel_rfl) (by kernel_rfl) (fun _ _ _ h => h) (.inl ⟨by rfl, fun w' _ => (by go_simp; rfl)⟩) hS ?_
        go_frame
        refine till_take 4 (some 15) rfl rfl (by kernel_rfl) (by kernel_rfl) (by kernel_rfl) (by kernel_rfl) (by kernel_rfl) (by kernel_rfl) (fun _ _ _ h => h) (.inl ⟨by rfl, fun w' _ => (by go_simp; rfl)⟩) hS ?_
        go_frame
        refine till_take 5 (some 16) rfl rfl (by kernel_rfl) (by kernel_rfl) (by kernel_rfl) (by kernel_rfl) (by kernel_rfl) (by kernel_rfl) (fun _ _ _ h => h) (.inl ⟨by rfl, fun w' hS' => (by have hc : w'.cell? ⟨Y, 1, none⟩ = some (.int .u64 (B1 : Int)) := Lib.cell_of_heap (hS'.2) 1; go_simp; rfl)⟩) hS ?_
        go_frame
        refine till_take 6 (some 17) rfl rfl (by kernel_rfl) (by kernel_rfl) (by kernel_rfl) (by kernel_rfl) (by kernel_rfl) (by kernel_rfl) (fun _ _ _ h => h) (.inl ⟨by rfl, fun w' _ => (by go_simp; rfl)⟩) hS ?_
        go_frame
        refine till_take 7 (some 10) rfl rfl (by kernel_rfl) (by kernel_rfl) (by kernel_rfl) (by kernel_rfl) (by kernel_rfl) (by kernel_rfl) (fun _ _ _ h => h) (.inl ⟨by rfl, fun w' _ => (by go_simp; rfl)⟩) hS ?_
        go_frame
        refine till_done (by kernel_rfl) ?_ _
        clear hS
        go_wp2_with fail
        by_cases h2 : B1 < A1
        · have q2 : decide (B1 < A1) = true := decide_eq_true h2
          have HV : Hid (cv = 1) := Lib.hid (HN.out.2.1 (by have := HA.out; have e3 := HE.out.1 (by omega); have e2 := HE.out.2.1 (by omega); omega))
          obtain ⟨d2, hwz⟩ : ∃ wz, wz = d1.drew := ⟨_, rfl⟩
          have hbz : Below d1.heap.size d1 d2 := by rw [hwz]; exact (Below.refl _ _).drew
          have HBm := Lib.hid (HB.out.trans (hbz.mono HB.out.size))
          have HXm := Lib.hid (below_at' hbz HX.out)
          have HYm := Lib.hid (below_at' hbz HY.out)
          clear hbz HB HX HY
          have HB := HBm
          have HX := HXm
          have HY := HYm
          clear HBm HXm HYm
          have hS : d2.heap[X]? = some (.cells #[.int .u64 (A0 : Int), .int .u64 (A1 : Int), .int .u64 (A2 : Int), .int .u64 (A3 : Int)] 24 (0, 0)) ∧ d2.heap[Y]? = some (.cells #[.int .u64 (B0 : Int), .int .u64 (B1 : Int), .int .u64 (B2 : Int), .int .u64 (B3 : Int)] 24 (0, 0)) := ⟨HX.out, HY.out⟩
          refine wp_region_till (fun w' => w'.heap[X]? = some (.cells #[.int .u64 (A0 : Int), .int .u64 (A1 : Int), .int .u64 (A2 : Int), .int .u64 (A3 : Int)] 24 (0, 0)) ∧ w'.heap[Y]? = some (.cells #[.int .u64 (B0 : Int), .int .u64 (B1 : Int), .int .u64 (B2 : Int), .int .u64 (B3 : Int)] 24 (0, 0))) 8 8 (by kernel_rfl) rfl ?_
          rw [← hwz]
          clear hwz
          refine till_take 0 (some 19) rfl rfl (by kernel_rfl) (by kernel_rfl) (by kernel_rfl) (by kernel_rfl) (by kernel_rfl) (by kernel_rfl) (fun _ _ _ h => h) (.inl ⟨by rfl, fun w' _ => (by go_simp; rfl)⟩) hS ?_
          go_frame
          refine till_take 1 (some 20) rfl rfl (by kernel_rfl) (by kernel_rfl) (by kernel_rfl) (by kernel_rfl) (by kernel_rfl) (by kernel_rfl) (fun _ _ _ h => h) (.inl ⟨by rfl, fun w' _ => (by go_simp; rfl)⟩) hS ?_
          go_frame
          refine till_take 2 (some 21) rfl rfl (by kernel_rfl) (by kernel_rfl) (by kernel_rfl) (by kernel_rfl) (by kernel_rfl) (by kernel_rfl) (fun _ _ _ h => h) (.inl ⟨by rfl, fun w' hS' => (by have hc : w'.cell? ⟨X, 1, none⟩ = some (.int .u64 (A1 : Int)) := Lib.cell_of_heap (hS'.1) 1; go_simp; rfl)⟩) hS ?_
          go_frame
          refine till_take 3 (some 22) rfl rfl (by kernel_rfl) (by kernel_rfl) (by kernel_rfl) (by kernel_rfl) (by kernel_rfl) (by kernel_rfl) (fun _ _ _ h => h) (.inl ⟨by rfl, fun w' _ => (by go_simp; rfl)⟩) hS ?_
          go_frame
          refine till_take 4 (some 23) rfl rfl (by kernel_rfl) (by kernel_rfl) (by kernel_rfl) (by kernel_rfl) (by kernel_rfl) (by kernel_rfl) (fun _ _ _ h => h) (.inl ⟨by rfl, fun w' _ => (by go_simp; rfl)⟩) hS ?_
          go_frame
          refine till_take 5 (some 24) rfl rfl (by kernel_rfl) (by kernel_rfl) (by kernel_rfl) (by kernel_rfl) (by kernel_rfl) (by kernel_rfl) (fun _ _ _ h => h) (.inl ⟨by rfl, fun w' hS' => (by have hc : w'.cell? ⟨Y, 1, none⟩ = some (.int .u64 (B1 : Int)) := Lib.cell_of_heap (hS'.2) 1; go_simp; rfl)⟩) hS ?_
          go_frame
          refine till_take 6 (some 25) rfl rfl (by kernel_rfl) (by kernel_rfl) (by kernel_rfl) (by kernel_rfl) (by kernel_rfl) (by kernel_rfl) (fun _ _ _ h => h) (.inl ⟨by rfl, fun w' _ => (by go_simp; rfl)⟩) hS ?_
          go_frame
          refine till_take 7 (some 18) rfl rfl (by kernel_rfl) (by kernel_rfl) (by kernel_rfl) (by kernel_rfl) (by kernel_rfl) (by kernel_rfl) (fun _ _ _ h => h) (.inl ⟨by rfl, fun w' _ => (by go_simp; rfl)⟩) hS ?_
          go_frame
          refine till_done (by kernel_rfl) ?_ _
          clear hS
          go_wp2_with fail
          go_ret
          rw [HV.out]; exact ⟨rfl, HB.out⟩
        · have q2 : decide (B1 < A1) = false := decide_eq_false h2
          have HE2 : Hid ((1 ≤ 3 → A3 = B3) ∧ (1 ≤ 2 → A2 = B2) ∧ (1 ≤ 1 → A1 = B1) ∧ (1 ≤ 0 → A0 = B0)) := Lib.hid ⟨fun h => by first | exact HE.out.1 (by omega) | omega, fun h => by first | exact HE.out.2.1 (by omega) | omega, fun h => by first | exact HE.out.2.2.1 (by omega) | omega, fun h => by first | exact HE.out.2.2.2 (by omega) | omega⟩
          obtain ⟨d2, hwz⟩ : ∃ wz, wz = d1.drew := ⟨_, rfl⟩
          have hbz : Below d1.heap.size d1 d2 := by rw [hwz]; exact (Below.refl _ _).drew
          have HBm := Lib.hid (HB.out.trans (hbz.mono HB.out.size))
          have HXm := Lib.hid (below_at' hbz HX.out)
          have HYm := Lib.hid (below_at' hbz HY.out)
          clear hbz HB HX HY
          have HB := HBm
          have HX := HXm
          have HY := HYm
          clear HBm HXm HYm
          have hS : d2.heap[X]? = some (.cells #[.int .u64 (A0 : Int), .int .u64 (A1 : Int), .int .u64 (A2 : Int), .int .u64 (A3 : Int)] 24 (0, 0)) ∧ d2.heap[Y]? = some (.cells #[.int .u64 (B0 : Int), .int .u64 (B1 : Int), .int .u64 (B2 : Int), .int .u64 (B3 : Int)] 24 (0, 0)) := ⟨HX.out, HY.out⟩
          refine wp_region_till (fun w' => w'.heap[X]? = some (.cells #[.int .u64 (A0 : Int), .int .u64 (A1 : Int), .int .u64 (A2 : Int), .int .u64 (A3 : Int)] 24 (0, 0)) ∧ w'.heap[Y]? = some (.cells #[.int .u64 (B0 : Int), .int .u64 (B1 : Int), .int .u64 (B2 : Int), .int .u64 (B3 : Int)] 24 (0, 0))) 8 8 (by kernel_rfl) rfl ?_
          rw [← hwz]
          clear hwz
          refine till_take 0 (some 19) rfl rfl (by kernel_rfl) (by kernel_rfl) (by kernel_rfl) (by kernel_rfl) (by kernel_rfl) (by kernel_rfl) (fun _ _ _ h => h) (.inl ⟨by rfl, fun w' _ => (by go_simp; rfl)⟩) hS ?_
          go_frame
          refine till_take 1 (some 20) rfl rfl (by kernel_rfl) (by kernel_rfl) (by kernel_rfl) (by kernel_rfl) (by kernel_rfl) (by kernel_rfl) (fun _ _ _ h => h) (.inl ⟨by rfl, fun w' _ => (by go_simp; rfl)⟩) hS ?_
          go_frame
          refine till_take 2 (some 21) rfl rfl (by kernel_rfl) (by kernel_rfl) (by kernel_rfl) (by kernel_rfl) (by kernel_rfl) (by kernel_rfl) (fun _ _ _ h => h) (.inl ⟨by rfl, fun w' hS' => (by have hc : w'.cell? ⟨X, 1, none⟩ = some (.int .u64 (A1 : Int)) := Lib.cell_of_heap (hS'.1) 1; go_simp; rfl)⟩) hS ?_
          go_frame
          refine till_take 3 (some 22) rfl rfl (by kernel_rfl) (by kernel_rfl) (by kernel_rfl) (by kernel_rfl) (by kernel_rfl) (by kernel_rfl) (fun _ _ _ h => h) (.inl ⟨by rfl, fun w' _ => (by go_simp; rfl)⟩) hS ?_
          go_frame
          refine till_take 4 (some 23) rfl rfl (by kernel_rfl) (by kernel_rfl) (by kernel_rfl) (by kernel_rfl) (by kernel_rfl) (by kernel_rfl) (fun _ _ _ h => h) (.inl ⟨by rfl, fun w' _ => (by go_simp; rfl)⟩) hS ?_
          go_frame
          refine till_take 5 (some 24) rfl rfl (by kernel_rfl) (by kernel_rfl) (by kernel_rfl) (by kernel_rfl) (by kernel_rfl) (by kernel_rfl) (fun _ _ _ h => h) (.inl ⟨by rfl, fun w' hS' => (by have hc : w'.cell? ⟨Y, 1, none⟩ = some (.int .u64 (B1 : Int)) := Lib.cell_of_heap (hS'.2) 1; go_simp; rfl)⟩) hS ?_
          go_frame
          refine till_take 6 (some 25) rfl rfl (by kernel_rfl) (by kernel_rfl) (by kernel_rfl) (by kernel_rfl) (by kernel_rfl) (by kernel_rfl) (fun _ _ _ h => h) (.inl ⟨by rfl, fun w' _ => (by go_simp; rfl)⟩) hS ?_
          go_frame
          refine till_take 7 (some 18) rfl rfl (by kernel_rfl) (by kernel_rfl) (by kernel_rfl) (by kernel_rfl) (by kernel_rfl) (by kernel_rfl) (fun _ _ _ h => h) (.inl ⟨by rfl, fun w' _ => (by go_simp; rfl)⟩) hS ?_
          go_frame
          refine till_done (by kernel_rfl) ?_ _
          clear hS
          go_wp2_with fail
          go_roundw
          case rel => exact ⟨1, by first | rfl | trivial, by omega, HE2, HX, HY, HB⟩
          case measure => simp [intOf]
    · have c0 : ¬ ((3 : Int) - 1 < 0) := by decide
      by_cases h1 : A2 < B2
      · have q1 : decide (A2 < B2) = true := decide_eq_true h1
        have HV : Hid (cv = -1) := Lib.hid (HN.out.1 (by have := HA.out; have e3 := HE.out.1 (by omega); omega))
        go_wp2_with fail
        obtain ⟨d1, hwz⟩ : ∃ wz, wz = wr.drew := ⟨_, rfl⟩
        have hbz : Below wr.heap.size wr d1 := by rw [hwz]; exact (Below.refl _ _).drew
        have HBm := Lib.hid (HB.out.trans (hbz.mono HB.out.size))
        have HXm := Lib.hid (below_at' hbz HX.out)
        have HYm := Lib.hid (below_at' hbz HY.out)
        clear hbz HB HX HY
        have HB := HBm
        have HX := HXm
        have HY := HYm
        clear HBm HXm HYm
        have hS : d1.heap[X]? = some (.cells #[.int .u64 (A0 : Int), .int .u64 (A1 : Int), .int .u64 (A2 : Int), .int .u64 (A3 : Int)] 24 (0, 0)) ∧ d1.heap[Y]? = some (.cells #[.int .u64 (B0 : Int), .int .u64 (B1 : Int), .int .u64 (B2 : Int), .int .u64 (B3 : Int)] 24 (0, 0)) := ⟨HX.out, HY.out⟩
        refine wp_region_till (fun w' => w'.heap[X]? = some (.cells #[.int .u64 (A0 : Int), .int .u64 (A1 : Int), .int .u64 (A2 : Int), .int .u64 (A3 : Int)] 24 (0, 0)) ∧ w'.heap[Y]? = some (.cells #[.int .u64 (B0 : Int), .int .u64 (B1 : Int), .int .u64 (B2 : Int), .int .u64 (B3 : Int)] 24 (0, 0))) 8 8 (by kernel_rfl) rfl ?_
        rw [← hwz]
        clear hwz
        refine till_take 0 (some 11) rfl rfl (by kernel_rfl) (by kernel_rfl) (by kernel_rfl) (by kernel_rfl) (by kernel_rfl) (by kernel_rfl) (fun _ _ _ h => h) (.inl ⟨by rfl, fun w' _ => (by go_simp; rfl)⟩) hS ?_
        go_frame
        refine till_take 1 (some 12) rfl rfl (by kernel_rfl) (by kernel_rfl) (by kernel_rfl) (by kernel_rfl) (by kernel_rfl) (by kernel_rfl) (fun _ _ _ h => h) (.inl ⟨by rfl, fun w' _ => (by go_simp; rfl)⟩) hS ?_
        go_frame
        refine till_take 2 (some 13) rfl rfl (by kernel_rfl) (by kernel_rfl) (by kernel_rfl) (by kernel_rfl) (by kernel_rfl) (by kernel_rfl) (fun _ _ _ h => h) (.inl ⟨by rfl, fun w' hS' => (by have hc : w'.cell? ⟨X, 2, none⟩ = some (.int .u64 (A2 : Int)) := Lib.cell_of_heap (hS'.1) 2; go_simp; rfl)⟩) hS ?_
        go_frame
        refine till_take 3 (some 14) rfl rfl (by kernel_rfl) (by kernel_rfl) (by kernel_rfl) (by kernel_rfl) (by kernel_rfl) (by kernel_rfl) (fun _ _ _ h => h) (.inl ⟨by rfl, fun w' _ => (by go_simp; rfl)⟩) hS ?_
        go_frame
        refine till_take 4 (some 15) rfl rfl (by kernel_rfl) (by kernel_rfl) (by kernel_rfl) (by kernel_rfl) (by kernel_rfl) (by kernel_rfl) (fun _ _ _ h => h) (.inl ⟨by rfl, fun w' _ => (by go_simp; rfl)⟩) hS ?_
        go_frame
        refine till_take 5 (some 16) rfl rfl (by kernel_rfl) (by kernel_rfl) (by kernel_rfl) (by kernel_rfl) (by kernel_rfl) (by kernel_rfl) (fun _ _ _ h => h) (.inl ⟨by rfl, fun w' hS' => (by have hc : w'.cell? ⟨Y, 2, none⟩ = some (.int .u64 (B2 : Int)) := Lib.cell_of_heap (hS'.2) 2; go_simp; rfl)⟩) hS ?_
        go_frame
        refine till_take 6 (some 17) rfl rfl (by kernel_rfl) (by kernel_rfl) (by kernel_rfl) (by kernel_rfl) (by kernel_rfl) (by kernel_rfl) (fun _ _ _ h => h) (.inl ⟨by rfl, fun w' _ => (by go_simp; rfl)⟩) hS ?_
        go_frame
        refine till_take 7 (some 10) rfl rfl (by kernel_rfl) (by kernel_rfl) (by kernel_rfl) (by kernel_rfl) (by kernel_rfl) (by kernel_rfl) (fun _ _ _ h => h) (.inl ⟨by rfl, fun w' _ => (by go_simp; rfl)⟩) hS ?_
        go_frame
        refine till_done (by kernel_rfl) ?_ _
        clear hS
        go_wp2_with fail
        go_ret
        rw [HV.out]; exact ⟨rfl, HB.out⟩
      · have q1 : decide (A2 < B2) = false := decide_eq_false h1
        go_wp2_with fail
        obtain ⟨d1, hwz⟩ : ∃ wz, wz = wr.drew := ⟨_, rfl⟩
        have hbz : Below wr.heap.size wr d1 := by rw [hwz]; exact (Below.refl _ _).drew
        have HBm := Lib.hid (HB.out.trans (hbz.mono HB.out.size))
        have HXm := Lib.hid (below_at' hbz HX.out)
        have HYm := Lib.hid (below_at' hbz HY.out)
        clear hbz HB HX HY
        have HB := HBm
        have HX := HXm
        have HY := HYm
        clear HBm HXm HYm
        have hS : d1.heap[X]? = some (.cells #[.int .u64 (A0 : Int), .int .u64 (A1 : Int), .int .u64 (A2 : Int), .int .u64 (A3 : Int)] 24 (0, 0)) ∧ d1.heap[Y]? = some (.cells #[.int .u64 (B0 : Int), .int .u64 (B1 : Int), .int .u64 (B2 : Int), .int .u64 (B3 : Int)] 24 (0, 0)) := ⟨HX.out, HY.out⟩
        refine wp_region_till (fun w' => w'.heap[X]? = some (.cells #[.int .u64 (A0 : Int), .int .u64 (A1 : Int), .int .u64 (A2 : Int), .int .u64 (A3 : Int)] 24 (0, 0)) ∧ w'.heap[Y]? = some (.cells #[.int .u64 (B0 : Int), .int .u64 (B1 : Int), .int .u64 (B2 : Int), .int .u64 (B3 : Int)] 24 (0, 0))) 8 8 (by kernel_rfl) rfl ?_
        rw [← hwz]
        clear hwz
        refine till_take 0 (some 11) rfl rfl (by kernel_rfl) (by kernel_rfl) (by kernel_rfl) (by kernel_rfl) (by kernel_rfl) (by kernel_rfl) (fun _ _ _ h => h) (.inl ⟨by rfl, fun w' _ => (by go_simp; rfl)⟩) hS ?_
        go_frame
        refine till_take 1 (some 12) rfl rfl (by kernel_rfl) (by kernel_rfl) (by kernel_rfl) (by kernel_rfl) (by kernel_rfl) (by kernel_rfl) (fun _ _ _ h => h) (.inl ⟨by rfl, fun w' _ => (by go_simp; rfl)⟩) hS ?_
        go_frame
        refine till_take 2 (some 13) rfl rfl (by kernel_rfl) (by kernel_rfl) (by kernel_rfl) (by kernel_rfl) (by kernel_rfl) (by kernel_rfl) (fun _ _ _ h => h) (.inl ⟨by rfl, fun w' hS' => (by have hc : w'.cell? ⟨X, 2, none⟩ = some (.int .u64 (A2 : Int)) := Lib.cell_of_heap (hS'.1) 2; go_simp; rfl)⟩) hS ?_
        go_frame
        refine till_take 3 (some 14) rfl rfl (by kernel_rfl) (by kernel_rfl) (by kernel_rfl) (by kernel_rfl) (by kernel_rfl) (by kernel_rfl) (fun _ _ _ h => h) (.inl ⟨by rfl, fun w' _ => (by go_simp; rfl)⟩) hS ?_
        go_frame
        refine till_take 4 (some 15) rfl rfl (by kernel_rfl) (by kernel_rfl) (by kernel_rfl) (by kernel_rfl) (by kernel_rfl) (by kernel_rfl) (fun _ _ _ h => h) (.inl ⟨by rfl, fun w' _ => (by go_simp; rfl)⟩) hS ?_
        go_frame
        refine till_take 5 (some 16) rfl rfl (by kernel_rfl) (by kernel_rfl) (by kernel_rfl) (by kernel_rfl) (by kernel_rfl) (by kernel_rfl) (fun _ _ _ h => h) (.inl ⟨by rfl, fun w' hS' => (by have hc : w'.cell? ⟨Y, 2, none⟩ = some (.int .u64 (B2 : Int)) := Lib.cell_of_heap (hS'.2) 2; go_simp; rfl)⟩) hS ?_
        go_frame
        refine till_take 6 (some 17) rfl rfl (by kernel_rfl) (by kernel_rfl) (by kernel_rfl) (by kernel_rfl) (by kernel_rfl) (by kernel_rfl) (fun _ _ _ h => h) (.inl ⟨by rfl, fun w' _ => (by go_simp; rfl)⟩) hS ?_
        go_frame
        refine till_take 7 (some 10) rfl rfl (by kernel_rfl) (by kernel_rfl) (by kernel_rfl) (by kernel_rfl) (by kernel_rfl) (by kernel_rfl) (fun _ _ _ h => h) (.inl ⟨by rfl, fun w' _ => (by go_simp; rfl)⟩) hS ?_
        go_frame
        refine till_done (by kernel_rfl) ?_ _
        clear hS
        go_wp2_with fail
        by_cases h2 : B2 < A2
        · have q2 : decide (B2 < A2) = true := decide_eq_true h2
          have HV : Hid (cv = 1) := Lib.hid (HN.out.2.1 (by have := HA.out; have e3 := HE.out.1 (by omega); omega))
          obtain ⟨d2, hwz⟩ : ∃ wz, wz = d1.drew := ⟨_, rfl⟩
          have hbz : Below d1.heap.size d1 d2 := by rw [hwz]; exact (Below.refl _ _).drew
          have HBm := Lib.hid (HB.out.trans (hbz.mono HB.out.size))
          have HXm := Lib.hid (below_at' hbz HX.out)
          have HYm := Lib.hid (below_at' hbz HY.out)
          clear hbz HB HX HY
          have HB := HBm
          have HX := HXm
          have HY := HYm
          clear HBm HXm HYm
          have hS : d2.heap[X]? = some (.cells #[.int .u64 (A0 : Int), .int .u64 (A1 : Int), .int .u64 (A2 : Int), .int .u64 (A3 : Int)] 24 (0, 0)) ∧ d2.heap[Y]? = some (.cells #[.int .u64 (B0 : Int), .int .u64 (B1 : Int), .int .u64 (B2 : Int), .int .u64 (B3 : Int)] 24 (0, 0)) := ⟨HX.out, HY.out⟩
          refine wp_region_till (fun w' => w'.heap[X]? = some (.cells #[.int .u64 (A0 : Int), .int .u64 (A1 : Int), .int .u64 (A2 : Int), .int .u64 (A3 : Int)] 24 (0, 0)) ∧ w'.heap[Y]? = some (.cells #[.int .u64 (B0 : Int), .int .u64 (B1 : Int), .int .u64 (B2 : Int), .int .u64 (B3 : Int)] 24 (0, 0))) 8 8 (by kernel_rfl) rfl ?_
          rw [← hwz]
          clear hwz
          refine till_take 0 (some 19) rfl rfl (by kernel_rfl) (by kernel_rfl) (by kernel_rfl) (by kernel_rfl) (by kernel_rfl) (by kernel_rfl) (fun _ _ _ h => h) (.inl ⟨by rfl, fun w' _ => (by go_simp; rfl)⟩) hS ?_
          go_frame
          refine till_take 1 (some 20) rfl rfl (by kernel_rfl) (by kernel_rfl) (by kernel_rfl) (by kernel_rfl) (by kernel_rfl) (by kernel_rfl) (fun _ _ _ h => h) (.inl ⟨by rfl, fun w' _ => (by go_simp; rfl)⟩) hS ?_
          go_frame
          refine till_take 2 (some 21) rfl rfl (by kernel_rfl) (by kernel_rfl) (by kernel_rfl) (by kernel_rfl) (by kernel_rfl) (by kernel_rfl) (fun _ _ _ h => h) (.inl ⟨by rfl, fun w' hS' => (by have hc : w'.cell? ⟨X, 2, none⟩ = some (.int .u64 (A2 : Int)) := Lib.cell_of_heap (hS'.1) 2; go_simp; rfl)⟩) hS ?_
          go_frame
          refine till_take 3 (some 22) rfl rfl (by kernel_rfl) (by kernel_rfl) (by kernel_rfl) (by kernel_rfl) (by kernel_rfl) (by kernel_rfl) (fun _ _ _ h => h) (.inl ⟨by rfl, fun w' _ => (by go_simp; rfl)⟩) hS ?_
          go_frame
          refine till_take 4 (some 23) rfl rfl (by kernel_rfl) (by kernel_rfl) (by kernel_rfl) (by kernel_rfl) (by kernel_rfl) (by kernel_rfl) (fun _ _ _ h => h) (.inl ⟨by rfl, fun w' _ => (by go_simp; rfl)⟩) hS ?_
          go_frame
          refine till_take 5 (some 24) rfl rfl (by kernel_rfl) (by kernel_rfl) (by kernel_rfl) (by kernel_rfl) (by kernel_rfl) (by kernel_rfl) (fun _ _ _ h => h) (.inl ⟨by rfl, fun w' hS' => (by have hc : w'.cell? ⟨Y, 2, none⟩ = some (.int .u64 (B2 : Int)) := Lib.cell_of_heap (hS'.2) 2; go_simp; rfl)⟩) hS ?_
          go_frame
          refine till_take 6 (some 25) rfl rfl (by kernel_rfl) (by kernel_rfl) (by kernel_rfl) (by kernel_rfl) (by kernel_rfl) (by kernel_rfl) (fun _ _ _ h => h) (.inl ⟨by rfl, fun w' _ => (by go_simp; rfl)⟩) hS ?_
          go_frame
          refine till_take 7 (some 18) rfl rfl (by kernel_rfl) (by kernel_rfl) (by kernel_rfl) (by kernel_rfl) (by kernel_rfl) (by kernel_rfl) (fun _ _ _ h => h) (.inl ⟨by rfl, fun w' _ => (by go_simp; rfl)⟩) hS ?_
          go_frame
          refine till_done (by kernel_rfl) ?_ _
          clear hS
          go_wp2_with fail
          go_ret
          rw [HV.out]; exact ⟨rfl, HB.out⟩
        · have q2 : decide (B2 < A2) = false := decide_eq_false h2
          have HE2 : Hid ((2 ≤ 3 → A3 = B3) ∧ (2 ≤ 2 → A2 = B2) ∧ (2 ≤ 1 → A1 = B1) ∧ (2 ≤ 0 → A0 = B0)) := Lib.hid ⟨fun h => by first | exact HE.out.1 (by omega) | omega, fun h => by first | exact HE.out.2.1 (by omega) | omega, fun h => by first | exact HE.out.2.2.1 (by omega) | omega, fun h => by first | exact HE.out.2.2.2 (by omega) | omega⟩
          obtain ⟨d2, hwz⟩ : ∃ wz, wz = d1.drew := ⟨_, rfl⟩
          have hbz : Below d1.heap.size d1 d2 := by rw [hwz]; exact (Below.refl _ _).drew
          have HBm := Lib.hid (HB.out.trans (hbz.mono HB.out.size))
          have HXm := Lib.hid (below_at' hbz HX.out)
          have HYm := Lib.hid (below_at' hbz HY.out)
          clear hbz HB HX HY
          have HB := HBm
          have HX := HXm
          have HY := HYm
          clear HBm HXm HYm
          have hS : d2.heap[X]? = some (.cells #[.int .u64 (A0 : Int), .int .u64 (A1 : Int), .int .u64 (A2 : Int), .int .u64 (A3 : Int)] 24 (0, 0)) ∧ d2.heap[Y]? = some (.cells #[.int .u64 (B0 : Int), .int .u64 (B1 : Int), .int .u64 (B2 : Int), .int .u64 (B3 : Int)] 24 (0, 0)) := ⟨HX.out, HY.out⟩
          refine wp_region_till (fun w' => w'.heap[X]? = some (.cells #[.int .u64 (A0 : Int), .int .u64 (A1 : Int), .int .u64 (A2 : Int), .int .u64 (A3 : Int)] 24 (0, 0)) ∧ w'.heap[Y]? = some (.cells #[.int .u64 (B0 : Int), .int .u64 (B1 : Int), .int .u64 (B2 : Int), .int .u64 (B3 : Int)] 24 (0, 0))) 8 8 (by kernel_rfl) rfl ?_
          rw [← hwz]
          clear hwz
          refine till_take 0 (some 19) rfl rfl (by kernel_rfl) (by kernel_rfl) (by kernel_rfl) (by kernel_rfl) (by kernel_rfl) (by kernel_rfl) (fun _ _ _ h => h) (.inl ⟨by rfl, fun w' _ => (by go_simp; rfl)⟩) hS ?_
          go_frame
          refine till_take 1 (some 20) rfl rfl (by kernel_rfl) (by kernel_rfl) (by kernel_rfl) (by kernel_rfl) (by kernel_rfl) (by kernel_rfl) (fun _ _ _ h => h) (.inl ⟨by rfl, fun w' _ => (by go_simp; rfl)⟩) hS ?_
          go_frame
          refine till_take 2 (some 21) rfl rfl (by kernel_rfl) (by kernel_rfl) (by kernel_rfl) (by kernel_rfl) (by kernel_rfl) (by kernel_rfl) (fun _ _ _ h => h) (.inl ⟨by rfl, fun w' hS' => (by have hc : w'.cell? ⟨X, 2, none⟩ = some (.int .u64 (A2 : Int)) := Lib.cell_of_heap (hS'.1) 2; go_simp; rfl)⟩) hS ?_
          go_frame
          refine till_take 3 (some 22) rfl rfl (by kernel_rfl) (by kernel_rfl) (by kernel_rfl) (by kernel_rfl) (by kernel_rfl) (by kernel_rfl) (fun _ _ _ h => h) (.inl ⟨by rfl, fun w' _ => (by go_simp; rfl)⟩) hS ?_
          go_frame
          refine till_take 4 (some 23) rfl rfl (by kernel_rfl) (by kernel_rfl) (by kernel_rfl) (by kernel_rfl) (by kernel_rfl) (by kernel_rfl) (fun _ _ _ h => h) (.inl ⟨by rfl, fun w' _ => (by go_simp; rfl)⟩) hS ?_
          go_frame
          refine till_take 5 (some 24) rfl rfl (by kernel_rfl) (by kernel_rfl) (by kernel_rfl) (by kernel_rfl) (by kernel_rfl) (by kernel_rfl) (fun _ _ _ h => h) (.inl ⟨by rfl, fun w' hS' => (by have hc : w'.cell? ⟨Y, 2, none⟩ = some (.int .u64 (B2 : Int)) := Lib.cell_of_heap (hS'.2) 2; go_simp; rfl)⟩) hS ?_
          go_frame
          refine till_take 6 (some 25) rfl rfl (by kernel_rfl) (by kernel_rfl) (by kernel_rfl) (by kernel_rfl) (by kernel_rfl) (by kernel_rfl) (fun _ _ _ h => h) (.inl ⟨by rfl, fun w' _ => (by go_simp; rfl)⟩) hS ?_
          go_frame
          refine till_take 7 (some 18) rfl rfl (by kernel_rfl) (by kernel_rfl) (by kernel_rfl) (by kernel_rfl) (by kernel_rfl) (by kernel_rfl) (fun _ _ _ h => h) (.inl ⟨by rfl, fun w' _ => (by go_simp; rfl)⟩) hS ?_
          go_frame
          refine till_done (by kernel_rfl) ?_ _
          clear hS
          go_wp2_with fail
          go_roundw
          case rel => exact ⟨2, by first | rfl | trivial, by omega, HE2, HX, HY, HB⟩
          case measure => simp [intOf]
    · have c0 : ¬ ((4 : Int) - 1 < 0) := by decide
      by_cases h1 : A3 < B3
      · have q1 : decide (A3 < B3) = true := decide_eq_true h1
        have HV : Hid (cv = -1) := Lib.hid (HN.out.1 (by have := HA.out; omega))
        go_wp2_with fail
        obtain ⟨d1, hwz⟩ : ∃ wz, wz = wr.drew := ⟨_, rfl⟩
        have hbz : Below wr.heap.size wr d1 := by rw [hwz]; exact (Below.refl _ _).drew
        have HBm := Lib.hid (HB.out.trans (hbz.mono HB.out.size))
        have HXm := Lib.hid (below_at' hbz HX.out)
        have HYm := Lib.hid (below_at' hbz HY.out)
        clear hbz HB HX HY
        have HB := HBm
        have HX := HXm
        have HY := HYm
        clear HBm HXm HYm
        have hS : d1.heap[X]? = some (.cells #[.int .u64 (A0 : Int), .int .u64 (A1 : Int), .int .u64 (A2 : Int), .int .u64 (A3 : Int)] 24 (0, 0)) ∧ d1.heap[Y]? = some (.cells #[.int .u64 (B0 : Int), .int .u64 (B1 : Int), .int .u64 (B2 : Int), .int .u64 (B3 : Int)] 24 (0, 0)) := ⟨HX.out, HY.out⟩
        refine wp_region_till (fun w' => w'.heap[X]? = some (.cells #[.int .u64 (A0 : Int), .int .u64 (A1 : Int), .int .u64 (A2 : Int), .int .u64 (A3 : Int)] 24 (0, 0)) ∧ w'.heap[Y]? = some (.cells #[.int .u64 (B0 : Int), .int .u64 (B1 : Int), .int .u64 (B2 : Int), .int .u64 (B3 : Int)] 24 (0, 0))) 8 8 (by kernel_rfl) rfl ?_
        rw [← hwz]
        clear hwz
        refine till_take 0 (some 11) rfl rfl (by kernel_rfl) (by kernel_rfl) (by kernel_rfl) (by kernel_rfl) (by kernel_rfl) (by kernel_rfl) (fun _ _ _ h => h) (.inl ⟨by rfl, fun w' _ => (by go_simp; rfl)⟩) hS ?_
        go_frame
        refine till_take 1 (some 12) rfl rfl (by kernel_rfl) (by kernel_rfl) (by kernel_rfl) (by kernel_rfl) (by kernel_rfl) (by kernel_rfl) (fun _ _ _ h => h) (.inl ⟨by rfl, fun w' _ => (by go_simp; rfl)⟩) hS ?_
        go_frame
        refine till_take 2 (some 13) rfl rfl (by kernel_rfl) (by kernel_rfl) (by kernel_rfl) (by kernel_rfl) (by kernel_rfl) (by kernel_rfl) (fun _ _ _ h => h) (.inl ⟨by rfl, fun w' hS' => (by have hc : w'.cell? ⟨X, 3, none⟩ = some (.int .u64 (A3 : Int)) := Lib.cell_of_heap (hS'.1) 3; go_simp; rfl)⟩) hS ?_
        go_frame
        refine till_take 3 (some 14) rfl rfl (by kernel_rfl) (by kernel_rfl) (by kernel_rfl) (by kernel_rfl) (by kernel_rfl) (by kernel_rfl) (fun _ _ _ h => h) (.inl ⟨by rfl, fun w' _ => (by go_simp; rfl)⟩) hS ?_
        go_frame
        refine till_take 4 (some 15) rfl rfl (by kernel_rfl) (by kernel_rfl) (by kernel_rfl) (by kernel_rfl) (by kernel_rfl) (by kernel_rfl) (fun _ _ _ h => h) (.inl ⟨by rfl, fun w' _ => (by go_simp; rfl)⟩) hS ?_
        go_frame
        refine till_take 5 (some 16) rfl rfl (by kernel_rfl) (by kernel_rfl) (by kernel_rfl) (by kernel_rfl) (by kernel_rfl) (by kernel_rfl) (fun _ _ _ h => h) (.inl ⟨by rfl, fun w' hS' => (by have hc : w'.cell? ⟨Y, 3, none⟩ = some (.int .u64 (B3 : Int)) := Lib.cell_of_heap (hS'.2) 3; go_simp; rfl)⟩) hS ?_
        go_frame
        refine till_take 6 (some 17) rfl rfl (by kernel_rfl) (by kernel_rfl) (by kernel_rfl) (by kernel_rfl) (by kernel_rfl) (by kernel_rfl) (fun _ _ _ h => h) (.inl ⟨by rfl, fun w' _ => (by go_simp; rfl)⟩) hS ?_
        go_frame
        refine till_take 7 (some 10) rfl rfl (by kernel_rfl) (by kernel_rfl) (by kernel_rfl) (by kernel_rfl) (by kernel_rfl) (by kernel_rfl) (fun _ _ _ h => h) (.inl ⟨by rfl, fun w' _ => (by go_simp; rfl)⟩) hS ?_
        go_frame
        refine till_done (by kernel_rfl) ?_ _
        clear hS
        go_wp2_with fail
        go_ret
        rw [HV.out]; exact ⟨rfl, HB.out⟩
      · have q1 : decide (A3 < B3) = false := decide_eq_false h1
        go_wp2_with fail
        obtain ⟨d1, hwz⟩ : ∃ wz, wz = wr.drew := ⟨_, rfl⟩
        have hbz : Below wr.heap.size wr d1 := by rw [hwz]; exact (Below.refl _ _).drew
        have HBm := Lib.hid (HB.out.trans (hbz.mono HB.out.size))
        have HXm := Lib.hid (below_at' hbz HX.out)
        have HYm := Lib.hid (below_at' hbz HY.out)
        clear hbz HB HX HY
        have HB := HBm
        have HX := HXm
        have HY := HYm
        clear HBm HXm HYm
        have hS : d1.heap[X]? = some (.cells #[.int .u64 (A0 : Int), .int .u64 (A1 : Int), .int .u64 (A2 : Int), .int .u64 (A3 : Int)] 24 (0, 0)) ∧ d1.heap[Y]? = some (.cells #[.int .u64 (B0 : Int), .int .u64 (B1 : Int), .int .u64 (B2 : Int), .int .u64 (B3 : Int)] 24 (0, 0)) := ⟨HX.out, HY.out⟩
        refine wp_region_till (fun w' => w'.heap[X]? = some (.cells #[.int .u64 (A0 : Int), .int .u64 (A1 : Int), .int .u64 (A2 : Int), .int .u64 (A3 : Int)] 24 (0, 0)) ∧ w'.heap[Y]? = some (.cells #[.int .u64 (B0 : Int), .int .u64 (B1 : Int), .int .u64 (B2 : Int), .int .u64 (B3 : Int)] 24 (0, 0))) 8 8 (by kernel_rfl) rfl ?_
        rw [← hwz]
        clear hwz
        refine till_take 0 (some 11) rfl rfl (by kernel_rfl) (by kernel_rfl) (by kernel_rfl) (by kernel_rfl) (by kernel_rfl) (by kernel_rfl) (fun _ _ _ h => h) (.inl ⟨by rfl, fun w' _ => (by go_simp; rfl)⟩) hS ?_
        go_frame
        refine till_take 1 (some 12) rfl rfl (by kernel_rfl) (by kernel_rfl) (by kernel_rfl) (by kernel_rfl) (by kernel_rfl) (by kernel_rfl) (fun _ _ _ h => h) (.inl ⟨by rfl, fun w' _ => (by go_simp; rfl)⟩) hS ?_
        go_frame
        refine till_take 2 (some 13) rfl rfl (by kernel_rfl) (by kernel_rfl) (by kernel_rfl) (by kernel_rfl) (by kernel_rfl) (by kernel_rfl) (fun _ _ _ h => h) (.inl ⟨by rfl, fun w' hS' => (by have hc : w'.cell? ⟨X, 3, none⟩ = some (.int .u64 (A3 : Int)) := Lib.cell_of_heap (hS'.1) 3; go_simp; rfl)⟩) hS ?_
        go_frame
        refine till_take 3 (some 14) rfl rfl (by kernel_rfl) (by kernel_rfl) (by kernel_rfl) (by kernel_rfl) (by kernel_rfl) (by kernel_rfl) (fun _ _ _ h => h) (.inl ⟨by rfl, fun w' _ => (by go_simp; rfl)⟩) hS ?_
        go_frame
        refine till_take 4 (some 15) rfl rfl (by kernel_rfl) (by kernel_rfl) (by kernel_rfl) (by kernel_rfl) (by kernel_rfl) (by kernel_rfl) (fun _ _ _ h => h) (.inl ⟨by rfl, fun w' _ => (by go_simp; rfl)⟩) hS ?_
        go_frame
        refine till_take 5 (some 16) rfl rfl (by kernel_rfl) (by kernel_rfl) (by kernel_rfl) (by kernel_rfl) (by kernel_rfl) (by kernel_rfl) (fun _ _ _ h => h) (.inl ⟨by rfl, fun w' hS' => (by have hc : w'.cell? ⟨Y, 3, none⟩ = some (.int .u64 (B3 : Int)) := Lib.cell_of_heap (hS'.2) 3; go_simp; rfl)⟩) hS ?_
        go_frame
        refine till_take 6 (some 17) rfl rfl (by kernel_rfl) (by kernel_rfl) (by kernel_rfl) (by kernel_rfl) (by kernel_rfl) (by kernel_rfl) (fun _ _ _ h => h) (.inl ⟨by rfl, fun w' _ => (by go_simp; rfl)⟩) hS ?_
        go_frame
        refine till_take 7 (some 10) rfl rfl (by kernel_rfl) (by kernel_rfl) (by kernel_rfl) (by kernel_rfl) (by kernel_rfl) (by kernel_rfl) (fun _ _ _ h => h) (.inl ⟨by rfl, fun w' _ => (by go_simp; rfl)⟩) hS ?_
        go_frame
        refine till_done (by kernel_rfl) ?_ _
        clear hS
        go_wp2_with fail
        by_cases h2 : B3 < A3
        · have q2 : decide (B3 < A3) = true := decide_eq_true h2
          have HV : Hid (cv = 1) := Lib.hid (HN.out.2.1 (by have := HA.out; omega))
          obtain ⟨d2, hwz⟩ : ∃ wz, wz = d1.drew := ⟨_, rfl⟩
          have hbz : Below d1.heap.size d1 d2 := by rw [hwz]; exact (Below.refl _ _).drew
          have HBm := Lib.hid (HB.out.trans (hbz.mono HB.out.size))
          have HXm := Lib.hid (below_at' hbz HX.out)
          have HYm := Lib.hid (below_at' hbz HY.out)
          clear hbz HB HX HY
          have HB := HBm
          have HX := HXm
          have HY := HYm
          clear HBm HXm HYm
          have hS : d2.heap[X]? = some (.cells #[.int .u64 (A0 : Int), .int .u64 (A1 : Int), .int .u64 (A2 : Int), .int .u64 (A3 : Int)] 24 (0, 0)) ∧ d2.heap[Y]? = some (.cells #[.int .u64 (B0 : Int), .int .u64 (B1 : Int), .int .u64 (B2 : Int), .int .u64 (B3 : Int)] 24 (0, 0)) := ⟨HX.out, HY.out⟩
          refine wp_region_till (fun w' => w'.heap[X]? = some (.cells #[.int .u64 (A0 : Int), .int .u64 (A1 : Int), .int .u64 (A2 : Int), .int .u64 (A3 : Int)] 24 (0, 0)) ∧ w'.heap[Y]? = some (.cells #[.int .u64 (B0 : Int), .int .u64 (B1 : Int), .int .u64 (B2 : Int), .int .u64 (B3 : Int)] 24 (0, 0))) 8 8 (by kernel_rfl) rfl ?_
          rw [← hwz]
          clear hwz
          refine till_take 0 (some 19) rfl rfl (by kernel_rfl) (by kernel_rfl) (by kernel_rfl) (by kernel_rfl) (by kernel_rfl) (by kernel_rfl) (fun _ _ _ h => h) (.inl ⟨by rfl, fun w' _ => (by go_simp; rfl)⟩) hS ?_
          go_frame
          refine till_take 1 (some 20) rfl rfl (by kernel_rfl) (by kernel_rfl) (by kernel_rfl) (by kernel_rfl) (by kernel_rfl) (by kernel_rfl) (fun _ _ _ h => h) (.inl ⟨by rfl, fun w' _ => (by go_simp; rfl)⟩) hS ?_
          go_frame
          refine till_take 2 (some 21) rfl rfl (by kernel_rfl) (by kernel_rfl) (by kernel_rfl) (by kernel_rfl) (by kernel_rfl) (by kernel_rfl) (fun _ _ _ h => h) (.inl ⟨by rfl, fun w' hS' => (by have hc : w'.cell? ⟨X, 3, none⟩ = some (.int .u64 (A3 : Int)) := Lib.cell_of_heap (hS'.1) 3; go_simp; rfl)⟩) hS ?_
          go_frame
          refine till_take 3 (some 22) rfl rfl (by kernel_rfl) (by kernel_rfl) (by kernel_rfl) (by kernel_rfl) (by kernel_rfl) (by kernel_rfl) (fun _ _ _ h => h) (.inl ⟨by rfl, fun w' _ => (by go_simp; rfl)⟩) hS ?_
          go_frame
          refine till_take 4 (some 23) rfl rfl (by kernel_rfl) (by kernel_rfl) (by kernel_rfl) (by kernel_rfl) (by kernel_rfl) (by kernel_rfl) (fun _ _ _ h => h) (.inl ⟨by rfl, fun w' _ => (by go_simp; rfl)⟩) hS ?_
          go_frame
          refine till_take 5 (some 24) rfl rfl (by kernel_rfl) (by kernel_rfl) (by kernel_rfl) (by kernel_rfl) (by kernel_rfl) (by kernel_rfl) (fun _ _ _ h => h) (.inl ⟨by rfl, fun w' hS' => (by have hc : w'.cell? ⟨Y, 3, none⟩ = some (.int .u64 (B3 : Int)) := Lib.cell_of_heap (hS'.2) 3; go_simp; rfl)⟩) hS ?_
          go_frame
          refine till_take 6 (some 25) rfl rfl (by kernel_rfl) (by kernel_rfl) (by kernel_rfl) (by kernel_rfl) (by kernel_rfl) (by kernel_rfl) (fun _ _ _ h => h) (.inl ⟨by rfl, fun w' _ => (by go_simp; rfl)⟩) hS ?_
          go_frame
          refine till_take 7 (some 18) rfl rfl (by kernel_rfl) (by kernel_rfl) (by kernel_rfl) (by kernel_rfl) (by kernel_rfl) (by kernel_rfl) (fun _ _ _ h => h) (.inl ⟨by rfl, fun w' _ => (by go_simp; rfl)⟩) hS ?_
          go_frame
          refine till_done (by kernel_rfl) ?_ _
          clear hS
          go_wp2_with fail
          go_ret
          rw [HV.out]; exact ⟨rfl, HB.out⟩
        · have q2 : decide (B3 < A3) = false := decide_eq_false h2
          have HE2 : Hid ((3 ≤ 3 → A3 = B3) ∧ (3 ≤ 2 → A2 = B2) ∧ (3 ≤ 1 → A1 = B1) ∧ (3 ≤ 0 → A0 = B0)) := Lib.hid ⟨fun h => by first | exact HE.out.1 (by omega) | omega, fun h => by first | exact HE.out.2.1 (by omega) | omega, fun h => by first | exact HE.out.2.2.1 (by omega) | omega, fun h => by first | exact HE.out.2.2.2 (by omega) | omega⟩
          obtain ⟨d2, hwz⟩ : ∃ wz, wz = d1.drew := ⟨_, rfl⟩
          have hbz : Below d1.heap.size d1 d2 := by rw [hwz]; exact (Below.refl _ _).drew
          have HBm := Lib.hid (HB.out.trans (hbz.mono HB.out.size))
          have HXm := Lib.hid (below_at' hbz HX.out)
          have HYm := Lib.hid (below_at' hbz HY.out)
          clear hbz HB HX HY
          have HB := HBm
          have HX := HXm
          have HY := HYm
          clear HBm HXm HYm
          have hS : d2.heap[X]? = some (.cells #[.int .u64 (A0 : Int), .int .u64 (A1 : Int), .int .u64 (A2 : Int), .int .u64 (A3 : Int)] 24 (0, 0)) ∧ d2.heap[Y]? = some (.cells #[.int .u64 (B0 : Int), .int .u64 (B1 : Int), .int .u64 (B2 : Int), .int .u64 (B3 : Int)] 24 (0, 0)) := ⟨HX.out, HY.out⟩
          refine wp_region_till (fun w' => w'.heap[X]? = some (.cells #[.int .u64 (A0 : Int), .int .u64 (A1 : Int), .int .u64 (A2 : Int), .int .u64 (A3 : Int)] 24 (0, 0)) ∧ w'.heap[Y]? = some (.cells #[.int .u64 (B0 : Int), .int .u64 (B1 : Int), .int .u64 (B2 : Int), .int .u64 (B3 : Int)] 24 (0, 0))) 8 8 (by kernel_rfl) rfl ?_
          rw [← hwz]
          clear hwz
          refine till_take 0 (some 19) rfl rfl (by kernel_rfl) (by kernel_rfl) (by kernel_rfl) (by kernel_rfl) (by kernel_rfl) (by kernel_rfl) (fun _ _ _ h => h) (.inl ⟨by rfl, fun w' _ => (by go_simp; rfl)⟩) hS ?_
          go_frame
          refine till_take 1 (some 20) rfl rfl (by kernel_rfl) (by kernel_rfl) (by kernel_rfl) (by kernel_rfl) (by kernel_rfl) (by kernel_rfl) (fun _ _ _ h => h) (.inl ⟨by rfl, fun w' _ => (by go_simp; rfl)⟩) hS ?_
          go_frame
          refine till_take 2 (some 21) rfl rfl (by kernel_rfl) (by kernel_rfl) (by kernel_rfl) (by kernel_rfl) (by kernel_rfl) (by kernel_rfl) (fun _ _ _ h => h) (.inl ⟨by rfl, fun w' hS' => (by have hc : w'.cell? ⟨X, 3, none⟩ = some (.int .u64 (A3 : Int)) := Lib.cell_of_heap (hS'.1) 3; go_simp; rfl)⟩) hS ?_
          go_frame
          refine till_take 3 (some 22) rfl rfl (by kernel_rfl) (by kernel_rfl) (by kernel_rfl) (by kernel_rfl) (by kernel_rfl) (by kernel_rfl) (fun _ _ _ h => h) (.inl ⟨by rfl, fun w' _ => (by go_simp; rfl)⟩) hS ?_
          go_frame
          refine till_take 4 (some 23) rfl rfl (by kernel_rfl) (by kernel_rfl) (by kernel_rfl) (by kernel_rfl) (by kernel_rfl) (by kernel_rfl) (fun _ _ _ h => h) (.inl ⟨by rfl, fun w' _ => (by go_simp; rfl)⟩) hS ?_
          go_frame
          refine till_take 5 (some 24) rfl rfl (by kernel_rfl) (by kernel_rfl) (by kernel_rfl) (by kernel_rfl) (by kernel_rfl) (by kernel_rfl) (fun _ _ _ h => h) (.inl ⟨by rfl, fun w' hS' => (by have hc : w'.cell? ⟨Y, 3, none⟩ = some (.int .u64 (B3 : Int)) := Lib.cell_of_heap (hS'.2) 3; go_simp; rfl)⟩) hS ?_
          go_frame
          refine till_take 6 (some 25) rfl rfl (by kernel_rfl) (by kernel_rfl) (by kernel_rfl) (by kernel_rfl) (by kernel_rfl) (by kernel_rfl) (fun _ _ _ h => h) (.inl ⟨by rfl, fun w' _ => (by go_simp; rfl)⟩) hS ?_
          go_frame
          refine till_take 7 (some 18) rfl rfl (by kernel_rfl) (by kernel_rfl) (by kernel_rfl) (by kernel_rfl) (by kernel_rfl) (by kernel_rfl) (fun _ _ _ h => h) (.inl ⟨by rfl, fun w' _ => (by go_simp; rfl)⟩) hS ?_
          go_frame
          refine till_done (by kernel_rfl) ?_ _
          clear hS
          go_wp2_with fail
          go_roundw
          case rel => exact ⟨3, by first | rfl | trivial, by omega, HE2, HX, HY, HB⟩
          case measure => simp [intOf]
end Go.Proofs.Yteaigmoldlbjdaa
