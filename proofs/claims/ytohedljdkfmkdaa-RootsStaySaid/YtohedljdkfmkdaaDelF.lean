/- light and lives of chapter 28. No condition. -/
import Derived.Test.YtohedljdkfmkdaaDelE
namespace Go.Proofs.Ytohedljdkfmkdaa
open Go.RowKit

/-- What light says. -/
def Light28 (w : World) (l : List Act28) (e : Ending) (w' : World) : Prop := ∃ r : Bool, e = .returned (.bool r) ∧ (r = true → l.length ≤ 100 ∧ ∀ a ∈ l, a.ids.length ≤ 5) ∧ Below w.heap.size w w'

set_option maxHeartbeats 8000000 in
set_option maxRecDepth 100000 in
theorem light28_any {w : World} {v : Value} {l : List Act28} (h : Rd w act28E 4 v l) : Calls Try.prog 27 #[v] w (Light28 w l) := by
  obtain ⟨ad, cap, e1, l1, l1'⟩ := h.shape
  obtain ⟨n, hn⟩ : ∃ n, n = l.length := ⟨_, rfl⟩
  rw [← hn] at e1 l1
  subst e1
  have H := Lib.hid h; have HN := Lib.hid hn
  clear h hn
  by_cases hl : n ≤ 100
  · have j0 : ¬ 100 < n := by omega
    go_enter Try.func27, Try.ntmps27
    go_wp2_with fail
    clear j0
    go_loopw [4, 10] (fun _ vi wr => ∃ (i : Nat), vi = .int .i64 i ∧ i ≤ n ∧ Hid (∀ a ∈ l.take i, a.ids.length ≤ 5) ∧ Hid (Below w.heap.size w wr)) (fun _ vi _ => n - (intOf vi).toNat)
    case atStart => exact ⟨0, rfl, Nat.zero_le _, Lib.hid (by simp), Lib.hid (Below.refl _ _)⟩
    case round =>
      obtain ⟨i, rfl, hin, SH, BW⟩ := hrel
      by_cases hlt : i < n
      · have hi : i < l.length := by rw [← HN.out]; exact hlt
        obtain ⟨gL, off, rfl, hgL, q0, q1, q2, q3⟩ := Rd.act28 H.out i hi
        have q0' := (BW.out.cell (p := ⟨gL, off + i * 4, none⟩) hgL).trans q0
        have q1' := (BW.out.cell (p := ⟨gL, off + i * 4 + 1, none⟩) hgL).trans q1
        have q2' := (BW.out.cell (p := ⟨gL, off + i * 4 + 2, none⟩) hgL).trans q2
        have q3' := (BW.out.cell (p := ⟨gL, off + i * 4 + 3, none⟩) hgL).trans q3
        have hsh : ∀ q : (l[i].ids.length ≤ 5), ∀ a ∈ l.take (i + 1), a.ids.length ≤ 5 := by
          intro q a ha
          rw [List.take_succ_eq_append_getElem hi] at ha
          rcases List.mem_append.1 ha with ha | ha
          · exact SH.out a ha
          · simp only [List.mem_singleton] at ha; rw [ha]; exact q
        obtain ⟨a, ha⟩ : ∃ a, a = l[i] := ⟨_, rfl⟩
        rw [← ha] at q0' q1' q2' q3' hsh
        have HLT := Lib.hid hlt; have HSH := Lib.hid hsh
        clear ha q0 q1 q2 q3 hgL hi hsh
        go_wp2_with (refine wpList_alloc_g rfl _ rfl _ _ Try.zeroAct28 rfl ?_)
        intro R w1 h1
        go_wp2_with (refine wpList_store_row_g (t := 45) (old := #[.slice none 0 0, .int .i64 0, .int .i64 0, .int .i64 0]) rfl 45 _ _ rfl R #[.slice a.ad a.ids.length a.cap, .int .i64 a.v, .int .i64 a.b, .int .i64 a.wt] rfl rfl h1.out.cells Try.sizeAct28 rfl (by simp [Value.oneCell']) ?_)
        intro w2 h2' k12 z12
        have hb12 : Below wr.heap.size wr w2 := h1.out.below.trans (k12.below (B := wr.heap.size) (fun x hx e => by have := h1.out.eq; omega) h1.out.below.size)
        have r0 : w2.cell? ⟨R, 0, none⟩ = some (.slice a.ad a.ids.length a.cap) := Lib.cell_of_heap h2' 0
        have r1 : w2.cell? ⟨R, 1, none⟩ = some (.int .i64 a.v) := Lib.cell_of_heap h2' 1
        have r2 : w2.cell? ⟨R, 2, none⟩ = some (.int .i64 a.b) := Lib.cell_of_heap h2' 2
        have r3 : w2.cell? ⟨R, 3, none⟩ = some (.int .i64 a.wt) := Lib.cell_of_heap h2' 3
        have HB2 := Lib.hid (BW.out.trans (hb12.mono BW.out.size))
        clear h1 h2' k12 z12 hb12 q0' q1' q2' q3'
        by_cases c0 : ¬ a.ids.length ≤ 5
        · have c0' : 5 < a.ids.length := by omega
          clear c0
          go_wp2_with fail
          go_ret
          exact ⟨false, rfl, fun h => (by cases h), HB2.out⟩
        have d0 : a.ids.length ≤ 5 := by omega
        have d0' : ¬ 5 < a.ids.length := by omega
        clear c0
        · skip
          go_wp2_with fail
          go_roundw
          case rel => exact ⟨i + 1, by go_num, Nat.succ_le_of_lt HLT.out, Lib.hid (HSH.out (by exact d0)), HB2⟩
          case measure => have hh : i < n := HLT.out; simp [intOf]; omega
      · have hfin : ∀ a ∈ l, a.ids.length ≤ 5 := by
          have h8 := SH.out
          rwa [List.take_of_length_le (by rw [← HN.out]; omega)] at h8
        have HF := Lib.hid hfin
        clear hfin SH
        go_wp2_with fail
        go_ret
        exact ⟨true, rfl, fun _ => ⟨by rw [← HN.out]; exact hl, HF.out⟩, BW.out⟩
  · have j0 : 100 < n := by omega
    clear hl
    go_enter Try.func27, Try.ntmps27
    go_wp2_with fail
    go_ret
    exact ⟨false, rfl, fun h => (by cases h), Below.refl _ _⟩

theorem I64s.one {n : Int} (h : -9223372036854775808 ≤ n ∧ n < 9223372036854775808) : I64s [n] := by
  intro x hx
  simp only [List.mem_singleton] at hx
  rw [hx]; exact h
/-- A literal slice of one number, newly laid. -/
theorem lit1 (w : World) (n : Int) : Rd (w.alloc (.cells #[.int .i64 n] 3)) intE 1 (.slice (some ⟨w.heap.size, 0, none⟩) 1 1) [n] :=
  RowRet.rd (w := w) (own_lit (l := [n]) (heap_alloc_new _ _) (Nat.le_refl _) (by unfold maxLen; simp))
theorem below_new (w : World) (o : Obj) : Below w.heap.size w (w.alloc o) := (Below.refl _ _).alloc (Nat.le_refl _) o

set_option maxHeartbeats 8000000 in
set_option maxRecDepth 100000 in
theorem lives28_any (w : World) : Calls Try.prog 28 #[] w fun e w' => e = .returned (.bool true) ∧ Below w.heap.size w w' := by
  go_enter Try.func28, Try.ntmps28
  go_wp2_with fail
  refine (snew_any _).mono ?_
  rintro e w1 ⟨g, F, rfl, h1, hb1, hf1⟩
  have O1 : Hid (One w w1 g PS.new) := Lib.hid ⟨F, h1, hf1, hb1⟩
  clear h1 hb1 hf1
  go_wp2_with fail
  have O2 := Lib.hid (O1.out.later (below_new w1 (.cells #[.int .i64 7] 3)))
  refine (O2.out.st fun F h => dset_any h (by decide) Fit.new 25 (ids := [7]) (by decide) (I64s.one (by decide)) (lit1 w1 7) 5 10 3).mono ?_
  rintro e w2 ⟨rfl, o3, _⟩
  rw [lvE]
  obtain ⟨s, hs⟩ : ∃ s, s = putD PS.new 25 [7] 5 10 3 := ⟨_, rfl⟩
  have hv : getD (getP s.t) 25 [7] = ⟨false, 0, 5, 13, true⟩ := by rw [hs]; exact lvD
  have hfit : Fit s := by rw [hs]; exact Fit.new.putD 25 [7] 5 10 3
  rw [← hs] at o3
  have O3 := Lib.hid o3; have HV := Lib.hid hv; have HF := Lib.hid hfit
  clear hs o3 hv hfit O1 O2
  go_wp2_with fail
  have O4 := Lib.hid (O3.out.later (below_new w2 (.cells #[.int .i64 7] 3)))
  obtain ⟨F4, p4⟩ := O4.out.get
  refine (dget_any (Look.of_st p4) HF.out.f 25 (ids := [7]) (by decide) (I64s.one (by decide)) (lit1 w2 7)).mono ?_
  rw [HV.out]
  rintro e w3 ⟨rfl, hb⟩
  have O5 := Lib.hid (O4.out.later hb)
  clear hb p4 O4 O3
  go_wp2_with fail
  refine (dof_any ⟨false, 0, 5, 13, true⟩ 12 _).mono ?_
  rw [show settleD ⟨false, 0, 5, 13, true⟩ 12 = ⟨false, 0, 5, 13, true⟩ from settleD_wait (by decide)]
  rintro e w4 ⟨rfl, hb⟩
  have O6 := Lib.hid (O5.out.later hb)
  clear hb O5
  go_wp2_with fail
  have O7 := Lib.hid (O6.out.later (below_new w4 (.cells #[.int .i64 7] 3)))
  obtain ⟨F4, p4⟩ := O7.out.get
  refine (dget_any (Look.of_st p4) HF.out.f 25 (ids := [7]) (by decide) (I64s.one (by decide)) (lit1 w4 7)).mono ?_
  rw [HV.out]
  rintro e w5 ⟨rfl, hb⟩
  have O8 := Lib.hid (O7.out.later hb)
  clear hb p4 O7 O6
  go_wp2_with fail
  refine (dof_any ⟨false, 0, 5, 13, true⟩ 13 _).mono ?_
  rw [show settleD ⟨false, 0, 5, 13, true⟩ 13 = ⟨true, 5, 0, 0, false⟩ from settleD_do rfl (by decide)]
  rintro e w6 ⟨rfl, hb⟩
  have O9 := Lib.hid (O8.out.later hb)
  clear hb O8
  go_wp2_with fail
  go_ret
  exact ⟨rfl, O9.out.below⟩
end Go.Proofs.Ytohedljdkfmkdaa
