/- Of Un. No condition. octet.Source: Amount. No condition. -/
import Derived.Test.YtmclmccgghnglaaGreatLfUn
import Derived.Test.YtmclmccgghnglaaGreatLf12
namespace Go.Proofs.YtmclmccgghnglaaGreat
section
open Go.RowKit

theorem Tryz.infoU64Z : (Tryz.prog.info? 53).map (fun i => (i.zero, i.size, i.bytes)) = some (some (.int .u64 0), 1, 8) := by kernel_rfl
theorem Tryz.eqUZ (a b c d a' b' c' d' : Int) (w : World) : (Op.equalIn 10000 55 (.agg #[.int .u64 a, .int .u64 b, .int .u64 c, .int .u64 d]) (.agg #[.int .u64 a', .int .u64 b', .int .u64 c', .int .u64 d'])).run Tryz.prog w = .ok (decide ([a, b, c, d] = [a', b', c', d'])) w := by
  obtain ⟨i, hi, _, hs, _⟩ := info_parts Tryz.infoU64Z
  exact run_equalIn_arr w 9998 _ _ .u64 4 Tryz.underlying55 Tryz.underlying53 i hi hs [a, b, c, d] [a', b', c', d'] rfl rfl
set_option maxHeartbeats 2000000 in
theorem fromBytes_yesZ (l : List UInt8) (v : Value) (w : World) (hl : l.length = 32) (hv : Rd w u8E 1 v l) :
    Calls Tryz.prog 254 #[v] w (Ret w (.tuple #[uOf l, .bool true])) := by
  obtain ⟨ad, cap, rfl, hc1, hc2⟩ := hv.shape
  rw [hl]; rw [hl] at hv
  have HL := Lib.hid hl; clear hl
  go_enter Tryz.func254, Tryz.ntmps254
  go_wp2
  go_loopw [14] (fun i wr => ∃ n : Nat, n ≤ 32 ∧ i = .int .i64 n ∧ wr.heap[w.heap.size + 1]? = some (.cells (uCells l n) 55 (0, 0)) ∧ wr.heap[w.heap.size]? = some (.cells u0 55 (0, 0)) ∧ Below w.heap.size w wr) (fun i _ => 32 - (intOf i).toNat)
  case atStart => exact ⟨0, by omega, rfl, by rw [uCells_zero]; exact heap_alloc2_new _ _ _, heap_alloc2_old _ _ _, ((Below.refl _ _).alloc (Nat.le_refl _) _).alloc (by simp) _⟩
  case round =>
    obtain ⟨n, hn, rfl, hblk, hres, hb⟩ := hrel
    by_cases hlt : n < 32
    · obtain ⟨b, off, rfl, hbb, hcell⟩ := (hv.later hb).at n (by rw [HL.out]; exact hlt)
      obtain ⟨x, hx⟩ : ∃ x, x = l[n]'(by rw [HL.out]; exact hlt) := ⟨_, rfl⟩
      rw [← hx] at hcell
      replace hcell : wr.cell? ⟨b, off + n, none⟩ = some (.int .u8 (x.toNat : Int)) := hcell
      have HX := Lib.hid hx; clear hx
      rcases (show n < 8 ∨ (8 ≤ n ∧ n < 16) ∨ (16 ≤ n ∧ n < 24) ∨ 24 ≤ n by omega) with hc | hc | hc | hc
      · have e1 : (31 - (n : Int)) / 8 = 3 := by omega
        have e2 : (31 - (n : Int)) % 8 = 7 - n := by omega
        have k1 := Lib.cell_of_heap hblk 3
        have k2 : wr.frozen? ⟨w.heap.size + 1, 3, none⟩ = false := Lib.frozen_of_heap hblk 3
        replace k1 : wr.cell? ⟨w.heap.size + 1, 3, none⟩ = some (.int .u64 (pw l n 3)) := k1
        go_wp2
        go_region
        go_wp2
        go_roundw
        case rel =>
          refine ⟨n + 1, by omega, by go_num, ?_, ?_, ?_⟩
          · rw [← uCells_set3 l n x (by omega) (by omega) (by rw [HL.out]; exact hlt) HX.out]
            exact heap_setCell_same _ _ _ _ _ _ hblk
          · exact (heap_setCell_other _ _ _ _ (by simp)).trans hres
          · exact Below.drew (hb.setCell (p := ⟨w.heap.size + 1, 3, none⟩) (by simp) _)
        case measure => simp [intOf]; omega
      · have e1 : (31 - (n : Int)) / 8 = 2 := by omega
        have e2 : (31 - (n : Int)) % 8 = 15 - n := by omega
        have k1 := Lib.cell_of_heap hblk 2
        have k2 : wr.frozen? ⟨w.heap.size + 1, 2, none⟩ = false := Lib.frozen_of_heap hblk 2
        replace k1 : wr.cell? ⟨w.heap.size + 1, 2, none⟩ = some (.int .u64 (pw l n 2)) := k1
        go_wp2
        go_region
        go_wp2
        go_roundw
        case rel =>
          refine ⟨n + 1, by omega, by go_num, ?_, ?_, ?_⟩
          · rw [← uCells_set2 l n x (by omega) (by omega) (by rw [HL.out]; exact hlt) HX.out]
            exact heap_setCell_same _ _ _ _ _ _ hblk
          · exact (heap_setCell_other _ _ _ _ (by simp)).trans hres
          · exact Below.drew (hb.setCell (p := ⟨w.heap.size + 1, 2, none⟩) (by simp) _)
        case measure => simp [intOf]; omega
      · have e1 : (31 - (n : Int)) / 8 = 1 := by omega
        have e2 : (31 - (n : Int)) % 8 = 23 - n := by omega
        have k1 := Lib.cell_of_heap hblk 1
        have k2 : wr.frozen? ⟨w.heap.size + 1, 1, none⟩ = false := Lib.frozen_of_heap hblk 1
        replace k1 : wr.cell? ⟨w.heap.size + 1, 1, none⟩ = some (.int .u64 (pw l n 1)) := k1
        go_wp2
        go_region
        go_wp2
        go_roundw
        case rel =>
          refine ⟨n + 1, by omega, by go_num, ?_, ?_, ?_⟩
          · rw [← uCells_set1 l n x (by omega) (by omega) (by rw [HL.out]; exact hlt) HX.out]
            exact heap_setCell_same _ _ _ _ _ _ hblk
          · exact (heap_setCell_other _ _ _ _ (by simp)).trans hres
          · exact Below.drew (hb.setCell (p := ⟨w.heap.size + 1, 1, none⟩) (by simp) _)
        case measure => simp [intOf]; omega
      · have e1 : (31 - (n : Int)) / 8 = 0 := by omega
        have e2 : (31 - (n : Int)) % 8 = 31 - n := by omega
        have k1 := Lib.cell_of_heap hblk 0
        have k2 : wr.frozen? ⟨w.heap.size + 1, 0, none⟩ = false := Lib.frozen_of_heap hblk 0
        replace k1 : wr.cell? ⟨w.heap.size + 1, 0, none⟩ = some (.int .u64 (pw l n 0)) := k1
        go_wp2
        go_region
        go_wp2
        go_roundw
        case rel =>
          refine ⟨n + 1, by omega, by go_num, ?_, ?_, ?_⟩
          · rw [← uCells_set0 l n x (by omega) (by omega) (by rw [HL.out]; exact hlt) HX.out]
            exact heap_setCell_same _ _ _ _ _ _ hblk
          · exact (heap_setCell_other _ _ _ _ (by simp)).trans hres
          · exact Below.drew (hb.setCell (p := ⟨w.heap.size + 1, 0, none⟩) (by simp) _)
        case measure => simp [intOf]; omega
    · obtain rfl : n = 32 := by omega
      rw [uCells_all] at hblk
      go_wp2_with (first | (refine wpList_load_row rfl _ _ rfl _ rfl _ _ _ _ hblk Tryz.underlying55 rfl Tryz.sizeU ?_) | (refine wpList_store_row (t := 55) (old := u0) rfl 55 (.tmp 2) _ rfl w.heap.size #[.int .u64 (wd l 0), .int .u64 (wd l 1), .int .u64 (wd l 2), .int .u64 (wd l 3)] rfl rfl hres Tryz.sizeU rfl (one_u64 _ _ _ _) ?_))
      refine bodyPost_ret (res_row_tmp rfl _ _ w.heap.size _ #[.int .u64 (wd l 0), .int .u64 (wd l 1), .int .u64 (wd l 2), .int .u64 (wd l 3)] _ _ rfl (setRow_heap _ _ _ _ _ _ hres) Tryz.underlying55 rfl Tryz.sizeU) rfl ⟨rfl, below_setRow hb (Nat.le_refl _) _⟩

set_option maxHeartbeats 1000000 in
theorem fromBytes_noZ (l : List UInt8) (v : Value) (w : World) (hl : l.length ≠ 32) (hv : Rd w u8E 1 v l) :
    Calls Tryz.prog 254 #[v] w (Ret w (.tuple #[.agg u0, .bool false])) := by
  obtain ⟨ad, cap, rfl, hc1, hc2⟩ := hv.shape
  have hne : ((l.length : Int) != 32) = true := by simp; omega
  go_enter Tryz.func254, Tryz.ntmps254
  go_wp2
  refine bodyPost_ret (res_row_tmp rfl _ _ w.heap.size _ u0 _ _ rfl (heap_alloc2_old _ _ _) Tryz.underlying55 rfl Tryz.sizeU) rfl ⟨rfl, ((Below.refl _ _).alloc (Nat.le_refl _) _).alloc (by simp) _⟩


theorem fromBytes_anyZ (l : List UInt8) (v : Value) (w : World) (hv : Rd w u8E 1 v l) :
    Calls Tryz.prog 254 #[v] w (Ret w (.tuple #[.agg (uArr l), .bool (decide (l.length = 32))])) := by
  by_cases h : l.length = 32
  · rw [uArr_yes h, decide_eq_true h]; exact fromBytes_yesZ l v w h hv
  · rw [uArr_no h, decide_eq_false h]; exact fromBytes_noZ l v w h hv
/-- '==' of two amounts. -/
theorem Tryz.eqUnZ {a b c d a' b' c' d' : Int} {n m : Nat} (h : UIs a b c d n) (h' : UIs a' b' c' d' m) (w : World) : (Op.equalIn 10000 55 (.agg #[.int .u64 a, .int .u64 b, .int .u64 c, .int .u64 d]) (.agg #[.int .u64 a', .int .u64 b', .int .u64 c', .int .u64 d'])).run Tryz.prog w = .ok (decide (n = m)) w := by
  rw [Tryz.eqUZ, h.eq h']
end
section
open Go.RowKit

/-- What Amount tells and leaves. -/
def amtO : Option (List UInt8) → Nat × Option (List UInt8)
  | none => (0, none)
  | some l => match amtR l with
    | some (m, r) => (m, some r)
    | none => (0, none)
theorem Tryz.zeroUn (w : World) : (zeroValue 55).run Tryz.prog w = .ok (.agg u0) w := by kernel_rfl
theorem Tryz.size32b : (Tryz.prog.info? 35).map (·.size) = some 32 := by kernel_rfl
theorem Tryz.zero32b (w : World) : (zeroValue 35).run Tryz.prog w = .ok (.agg (cB 32 [])) w := by kernel_rfl
/-- What is left is a source without an error; or there is an error. -/
theorem amt_bad {c : UInt8} {l : List UInt8} (h : 32 < c.toNat ∨ (0 < c.toNat ∧ l.head? = some 0)) : amtO (some (c :: l)) = (0, none) := by simp only [amtO, amtR, if_pos h]
theorem amt_short {c : UInt8} {l : List UInt8} (h : ¬ (32 < c.toNat ∨ (0 < c.toNat ∧ l.head? = some 0))) (h2 : l.length < c.toNat) : amtO (some (c :: l)) = (0, none) := by simp only [amtO, amtR, if_neg h, if_pos h2]
theorem amt_good {c : UInt8} {l : List UInt8} (h : ¬ (32 < c.toNat ∨ (0 < c.toNat ∧ l.head? = some 0))) (h2 : ¬ l.length < c.toNat) : amtO (some (c :: l)) = (be (l.take c.toNat), some (l.drop c.toNat)) := by simp only [amtO, amtR, if_neg h, if_neg h2]
def offN (N : Nat) : Nat := if N = 0 then 0 else 32 - N
theorem Tryz.slice32 (w : World) (A N : Nat) (hN : N ≤ 32) : (Instr.sliceAt 35 (.pointer (some ⟨A, 0, none⟩)) (some (.int .i64 (32 - (N : Int)))) none none).run Tryz.prog w = .ok (.slice (some ⟨A, offN N, none⟩) N N) w := by
  have ha : Tryz.prog.arrayLen 35 = 32 := by kernel_rfl
  have h := run_sliceAt_array_l (P := Tryz.prog) w 35 ⟨A, 0, none⟩ (by kernel_rfl) .i64 (32 - (N : Int)) (by omega) (by rw [ha]; omega)
  have hs : (sizeOf (Tryz.prog.elem 35)).run Tryz.prog w = .ok 1 w := by kernel_rfl
  rw [h, hs, ha]
  have e1 : ((32 : Int) - (N : Int)).toNat = 32 - N := by omega
  simp only [Result.andThen, slicedAt, e1, offN]
  by_cases h0 : N = 0
  · subst h0; rfl
  · rw [if_neg (by omega), if_neg h0]
    have e2 : 32 - (32 - N) = N := by omega
    rw [e2]
    have e3 : (⟨A, 0, none⟩ : Addr).add ((32 - N) * 1) = ⟨A, 32 - N, none⟩ := by
      unfold Addr.add
      rw [Nat.mul_one, Nat.zero_add]
      by_cases h32 : 32 - N = 0
      · rw [if_pos h32, h32]
      · rw [if_neg h32]
    rw [e3]
theorem cB_noneN (n : Nat) : cB n [] = c8 (List.replicate n 0) := by simp [cB, c8, byteV]
theorem amt_row {N : Nat} {t : List UInt8} (h : N ≤ 32) (hl : N ≤ t.length) : ((cB 32 []).toList.take (offN N) ++ ((t.take N).map byteV ++ (cB 32 []).toList.drop (offN N + (t.take N).length))).toArray = c8 (List.replicate (32 - N) 0 ++ t.take N) := by
  by_cases h0 : N = 0
  · subst h0
    show ([] ++ ([] ++ (cB 32 []).toList.drop 0)).toArray = _
    rw [List.drop_zero, List.nil_append, List.nil_append, Array.toArray_toList, cB_noneN, List.take_zero, List.append_nil, Nat.sub_zero]
  unfold offN
  rw [if_neg h0]
  have h1 : (t.take N).length = N := by rw [List.length_take]; omega
  rw [h1, cB_noneN, c8, List.toList_toArray, List.drop_eq_nil_of_le (by simp; omega), List.append_nil, List.map_replicate, List.take_replicate, Nat.min_eq_left (by omega), c8, List.map_append, List.map_replicate]
def SrcAmtRet (w : World) (g : Nat) (o : Option (List UInt8)) (n : Nat) (e : Ending) (w' : World) : Prop := ∃ a b c d : Int, UIs a b c d n ∧ e = .returned (.agg #[.int .u64 a, .int .u64 b, .int .u64 c, .int .u64 d]) ∧ Keep (· = g) w w' ∧ SrcO w' g o
theorem byte_i64 {N : Nat} (h : N < 256) : IntKind.i64.wrap (N : Int) = (N : Int) := IntWalk.i64_in _ (by omega)
set_option maxHeartbeats 16000000 in
set_option maxRecDepth 100000 in
theorem samt_any (w : World) (g : Nat) (o : Option (List UInt8)) (h : SrcO w g o) : Calls Tryz.prog 155 #[.pointer (some ⟨g, 0, none⟩)] w (SrcAmtRet w g (amtO o).2 (amtO o).1) := by
  obtain ⟨R, hR⟩ : ∃ R, R = amtO o := ⟨_, rfl⟩
  rw [← hR]
  have HV := Lib.hid hR
  clear hR
  obtain ⟨l, e, hs, hle⟩ : ∃ l e, Src w g l e ∧ ((e ≠ 0 ∧ o = none) ∨ (e = 0 ∧ o = some l)) := by
    cases o with
    | none => obtain ⟨l, e, he, hs⟩ := h; exact ⟨l, e, hs, .inl ⟨he, rfl⟩⟩
    | some l => exact ⟨l, 0, h, .inr ⟨rfl, rfl⟩⟩
  have HS := Lib.hid hs
  have HSlt : Hid (g < w.heap.size) := Lib.hid (by obtain ⟨_, _, _, h1, _⟩ := hs; exact heap_lt h1)
  clear h hs
  -- what Byte leaves: an error, or a first byte
  rcases (show (takeV l e 1 = [] ∧ (takeS l e 1).2 ≠ 0 ∧ R = (0, none)) ∨ (∃ c t, l = c :: t ∧ e = 0 ∧ o = some (c :: t)) by
    rcases hle with ⟨he, rfl⟩ | ⟨rfl, rfl⟩
    · left
      refine ⟨by unfold takeV; rw [if_pos he], by unfold takeS; rw [if_pos he]; exact he, HV.out⟩
    · cases l with
      | nil =>
        left
        refine ⟨rfl, by decide, HV.out⟩
      | cons c t => exact .inr ⟨c, t, rfl, rfl, rfl⟩) with ⟨hv, he2, hR0⟩ | ⟨c, t, rfl, rfl, rfl⟩
  · have HV0 := Lib.hid hv; have HE2 := Lib.hid he2; have HR0 := Lib.hid hR0
    clear hv he2 hR0 hle
    go_enter Tryz.func155, Tryz.ntmps155
    go_wp2_with (refine wpList_alloc_g rfl _ rfl _ _ Tryz.zeroUn rfl ?_)
    intro Q w1 hQ
    have HNQ : Hid (g < Q ∧ w.heap.size ≤ Q) := Lib.hid (by have := hQ.out.eq; have := HSlt.out; omega)
    have HQ := Lib.hid hQ.out.cells; have HB := Lib.hid hQ.out.below
    clear hQ
    go_wp2_with fail
    refine (sbyte_any w1 g l e (HS.out.later HB.out)).mono ?_
    rw [HV0.out]
    rintro r w2 ⟨rfl, hk, hs⟩
    have HQ2 := Lib.hid (hk.at HQ.out (Nat.ne_of_gt HNQ.out.1)); have HK2 := Lib.hid ((Keep.of_below HB.out).then hk fun x hx => .inl hx); have HS2 := Lib.hid hs
    clear hk hs HQ HB
    go_wp2_with fail
    refine (sok_any w2 g _ _ HS2.out).mono ?_
    rintro r w3 ⟨rfl, rfl⟩
    rw [decide_eq_false HE2.out]
    go_wp2_with (refine wpList_store_row_g (t := 55) (old := u0) rfl 55 _ _ rfl Q u0 rfl rfl HQ2.out Tryz.sizeU rfl (one_u64 _ _ _ _) ?_)
    intro w4 h4 k4 z4
    have H4 := Lib.hid h4; have HK4 := Lib.hid (HK2.out.then k4 fun x hx => .inr (by have := HNQ.out.2; omega)); have HS4 := Lib.hid (HS2.out.keep k4 HNQ.out.1)
    clear h4 k4 z4
    go_wp2_with fail
    exact bodyPost_ret (results_cell_row rfl _ _ Q _ u0 _ _ rfl H4.out Tryz.underlying55 rfl Tryz.sizeU) rfl ⟨0, 0, 0, 0, by rw [HR0.out]; exact UIs.zero, rfl, HK4.out, by rw [HR0.out]; exact ⟨_, _, HE2.out, HS4.out⟩⟩
  · have HL1 : Hid (takeS (c :: t) 0 1 = (t, 0) ∧ takeV (c :: t) 0 1 = [c]) := Lib.hid ⟨by unfold takeS; rw [if_neg (by decide), if_neg (by simp)]; rfl, by unfold takeV; rw [if_neg (by decide), if_neg (by simp)]; rfl⟩
    obtain ⟨N, hN⟩ : ∃ N, N = c.toNat := ⟨_, rfl⟩
    have hN2 : N < 256 := by rw [hN]; exact c.toNat_lt
    have hw8 := byte_i64 hN2
    have HNN := Lib.hid hN
    clear hle hN
    go_enter Tryz.func155, Tryz.ntmps155
    go_wp2_with (refine wpList_alloc_g rfl _ rfl _ _ Tryz.zeroUn rfl ?_)
    intro Q w1 hQ
    have HNQ : Hid (g < Q ∧ w.heap.size ≤ Q) := Lib.hid (by have := hQ.out.eq; have := HSlt.out; omega)
    have HQ := Lib.hid hQ.out.cells; have HB := Lib.hid hQ.out.below
    clear hQ
    go_wp2_with fail
    refine (sbyte_any w1 g (c :: t) 0 (HS.out.later HB.out)).mono ?_
    rw [HL1.out.1, HL1.out.2, List.headD_cons, ← HNN.out]
    rintro r w2 ⟨rfl, hk, hs⟩
    have HQ2 := Lib.hid (hk.at HQ.out (Nat.ne_of_gt HNQ.out.1)); have HK2 := Lib.hid ((Keep.of_below HB.out).then hk fun x hx => .inl hx); have HS2 := Lib.hid hs
    clear hk hs HQ HB
    go_wp2_with fail
    clear hw8
    refine (sok_any w2 g t 0 HS2.out).mono ?_
    rintro r w3 ⟨rfl, rfl⟩
    rw [decide_eq_true rfl]
    go_wp2_with (refine wpList_alloc_g rfl _ rfl _ _ Tryz.zero32b rfl ?_)
    intro A w4 hA
    have HNA : Hid (g < A ∧ w.heap.size ≤ A) := Lib.hid (by have := hA.out.eq; have := HK2.out.size; have := HSlt.out; omega)
    have HQA : Hid (Q ≠ A) := Lib.hid (by have := hA.out.eq; have := heap_lt HQ2.out; omega)
    have HQ4 := Lib.hid (below_at2 hA.out.below HQ2.out); have HA4 := Lib.hid hA.out.cells; have HK4 := Lib.hid (HK2.out.then_below hA.out.below); have HS4 := Lib.hid (HS2.out.later hA.out.below)
    clear hA HQ2 HK2 HS2
    obtain ⟨ad, m, cap, h1, h2, _⟩ := HS4.out
    have hm : m = t.length := h2.size
    have HM := Lib.hid hm; have HRD := Lib.hid h2
    have c0 : w4.cell? ⟨g, 0, none⟩ = some (.slice ad m cap) := Lib.cell_of_heap h1 0
    clear h1 h2 hm
    by_cases hN32 : 32 < N
    · have HBAD := Lib.hid (show R = (0, none) by rw [HV.out]; exact amt_bad (.inl (by rw [← HNN.out]; exact hN32)))
      go_wp2_with fail
      refine (sfail_any w4 g t 0 4 HS4.out).mono ?_
      rw [if_pos rfl, if_pos rfl]
      rintro r w5 ⟨rfl, hk, hs⟩
      have HQ5 := Lib.hid (hk.at HQ4.out (Nat.ne_of_gt HNQ.out.1)); have HK5 := Lib.hid (HK4.out.then hk fun x hx => .inl hx); have HS5 := Lib.hid hs
      clear hk hs c0
      go_wp2_with (refine wpList_store_row_g (t := 55) (old := u0) rfl 55 _ _ rfl Q u0 rfl rfl HQ5.out Tryz.sizeU rfl (one_u64 _ _ _ _) ?_)
      intro w6 h6 k6 z6
      have H6 := Lib.hid h6; have HK6 := Lib.hid (HK5.out.then k6 fun x hx => .inr (by have := HNQ.out.2; omega)); have HS6 := Lib.hid (HS5.out.keep k6 HNQ.out.1)
      clear h6 k6 z6
      go_wp2_with fail
      exact bodyPost_ret (results_cell_row rfl _ _ Q _ u0 _ _ rfl H6.out Tryz.underlying55 rfl Tryz.sizeU) rfl ⟨0, 0, 0, 0, by rw [HBAD.out]; exact UIs.zero, rfl, HK6.out, by rw [HBAD.out]; exact ⟨_, _, by decide, HS6.out⟩⟩
    · have hN33 : N ≤ 32 := by omega
      have n32 : decide (32 < (N : Int)) = false := decide_eq_false (by omega)
      by_cases hN0 : N = 0
      · have n0 : decide (0 < (N : Int)) = false := decide_eq_false (by omega)
        have n0p : ¬ 0 < N := by omega
        have HLN := Lib.hid (show ¬ t.length < N by omega)
        have HGOOD := Lib.hid (show R = (be (t.take c.toNat), some (t.drop c.toNat)) by rw [HV.out]; exact amt_good (by rw [← HNN.out]; rintro (h | ⟨h, _⟩) <;> omega) (by rw [← HNN.out]; exact HLN.out))
        clear hN0
        go_upto_region 8 with fail
        clear c0 n0 n32 n0p
        obtain ⟨wz, hwz⟩ : ∃ wz, wz = w4.drew := ⟨_, rfl⟩
        have hbz : Below w4.heap.size w4 wz := by rw [hwz]; exact (Below.refl _ _).drew
        have hS : wz.heap[A]? = some (.cells (cB 32 []) 35 (0, 0)) := below_at2 hbz HA4.out
        have HQz := Lib.hid (below_at2 hbz HQ4.out); have HKz := Lib.hid (HK4.out.then_below hbz); have HSz := Lib.hid (HS4.out.later hbz)
        have HTK : Hid (takeS t 0 N = (t.drop N, 0) ∧ takeV t 0 N = t.take N) := Lib.hid ⟨by unfold takeS; rw [if_neg (by decide), if_neg (by first | exact HLN.out | omega)], by unfold takeV; rw [if_neg (by decide), if_neg (by first | exact HLN.out | omega)]⟩
        have hsl := fun w' => Tryz.slice32 w' A N (by omega)
        have hof : offN N + N ≤ 32 := by unfold offN; split <;> omega
        have hwS : IntKind.i64.wrap (32 - (N : Int)) = 32 - (N : Int) := IntWalk.i64_in _ (by omega)
        clear hbz HQ4 HA4 HK4 HS4
        refine wp_region_till (fun w' => w'.heap[A]? = some (.cells (cB 32 []) 35 (0, 0))) 6 7 (by kernel_rfl) rfl ?_
        rw [← hwz]
        clear hwz
        refine till_take 0 (some 40) rfl rfl (by kernel_rfl) (by kernel_rfl) (by kernel_rfl) (by kernel_rfl) (by kernel_rfl) (by kernel_rfl) (fun _ _ _ h => h) (.inl ⟨by rfl, fun w' _ => (by go_simp; rfl)⟩) hS ?_
        go_frame
        refine till_take 1 (some 41) rfl rfl (by kernel_rfl) (by kernel_rfl) (by kernel_rfl) (by kernel_rfl) (by kernel_rfl) (by kernel_rfl) (fun _ _ _ h => h) (.inl ⟨by rfl, fun w' _ => (by go_simp; rfl)⟩) hS ?_
        go_frame
        refine till_take 2 (some 42) rfl rfl (by kernel_rfl) (by kernel_rfl) (by kernel_rfl) (by kernel_rfl) (by kernel_rfl) (by kernel_rfl) (fun _ _ _ h => h) (.inl ⟨by rfl, fun w' _ => (by go_simp; rfl)⟩) hS ?_
        go_frame
        refine till_take 3 (some 43) rfl rfl (by kernel_rfl) (by kernel_rfl) (by kernel_rfl) (by kernel_rfl) (by kernel_rfl) (by kernel_rfl) (fun _ _ _ h => h) (.inl ⟨by rfl, fun w' _ => (by go_simp; rfl)⟩) hS ?_
        go_frame
        refine till_take 4 (some 44) rfl rfl (by kernel_rfl) (by kernel_rfl) (by kernel_rfl) (by kernel_rfl) (by kernel_rfl) (by kernel_rfl) (fun _ _ _ h => h) (.inl ⟨by rfl, fun w' _ => (by go_simp; rfl)⟩) hS ?_
        go_frame
        refine till_one 5 rfl (by kernel_rfl) fun K hK => ?_
        simp only [List.getElem_toArray, List.getElem_cons_succ, List.getElem_cons_zero]
        rw [if_pos (by rfl)]
        go_simp
        refine (stake2_any _ g t 0 N HSz.out).mono ?_
        rw [HTK.out.1, HTK.out.2]
        rintro r w5 ⟨v5, rfl, hk5, hs5, hr5, _⟩
        obtain ⟨ad5, cap5, rfl, _, _⟩ := hr5.shape
        obtain ⟨n5, hn5⟩ : ∃ n, n = (t.take N : List UInt8).length := ⟨_, rfl⟩
        rw [← hn5] at hr5 ⊢
        have hS5 := hk5.at hS (Nat.ne_of_gt HNA.out.1)
        have HQ5 := Lib.hid (hk5.at HQz.out (Nat.ne_of_gt HNQ.out.1))
        have HK5 := Lib.hid (HKz.out.then hk5 fun x hx => .inl hx)
        have HS5 := Lib.hid hs5; have HRD5 := Lib.hid hr5; have HN5 := Lib.hid hn5
        refine hK _ _ (fun _ _ => hS5) ?_
        clear hK hS hk5 hs5 hr5 hn5 HQz HKz HSz
        have hS := hS5
        clear hS5
        refine till_one 6 rfl (by kernel_rfl) fun K hK => ?_
        simp only [List.getElem_toArray, List.getElem_cons_succ, List.getElem_cons_zero]
        rw [if_pos (by rfl)]
        refine wp_copy_b _ _ 100 100 rfl 5 Tryz.underlying100 Tryz.sizeU8 A (offN N) N N ad5 n5 cap5 (t.take N) rfl rfl HRD5.out (cB 32 []) 35 hS (by rw [HN5.out]; rw [List.length_take]; omega) (by rw [cB_size 32 [] (by simp), HN5.out]; rw [List.length_take]; omega) (c8 (List.replicate (32 - N) 0 ++ t.take N)) (amt_row (by omega) (by first | exact Nat.le_of_not_lt HLN.out | omega)) ?_
        intro w6 h6 k6 z6
        have HA6 := Lib.hid h6
        have HQ6 := Lib.hid (k6.at HQ5.out HQA.out)
        have HK6 := Lib.hid (HK5.out.then k6 fun x hx => .inr (by have := HNA.out.2; omega))
        have HS6 := Lib.hid (HS5.out.keep k6 HNA.out.1)
        refine hK _ _ (fun h => absurd rfl h) ?_
        clear hK hS h6 k6 z6 HQ5 HK5 HS5 HRD5
        refine till_done (by kernel_rfl) ?_ _
        go_wp2_with fail
        refine (sok_any w6 g _ _ HS6.out).mono ?_
        rintro r w7 ⟨rfl, rfl⟩
        rw [decide_eq_true rfl]
        obtain ⟨BL, hBL⟩ : ∃ x, x = List.replicate (32 - N) (0 : UInt8) ++ t.take N := ⟨_, rfl⟩
        rw [← hBL] at HA6
        have HBL : Hid (BL.length = 32 ∧ be BL = be (t.take N)) := Lib.hid (by
          rw [hBL]
          refine ⟨?_, be_zeros _ _⟩
          rw [List.length_append, List.length_replicate, List.length_take]
          have := HLN.out
          omega)
        clear hBL
        go_wp2_with fail
        refine (fromBytes_anyZ BL _ _ (rd_box HA6.out 32 HBL.out.1.symm (by omega))).mono ?_
        rw [uArr_yes HBL.out.1]
        rintro r w7 ⟨rfl, hb7⟩
        obtain ⟨ua, ub', uc, ud, hua⟩ : ∃ a b c d : Int, a = wd BL 0 ∧ b = wd BL 1 ∧ c = wd BL 2 ∧ d = wd BL 3 := ⟨_, _, _, _, rfl, rfl, rfl, rfl⟩
        have hU := wd_is HBL.out.1
        rw [HBL.out.2] at hU
        unfold uOf uV
        rw [← hua.1, ← hua.2.1, ← hua.2.2.1, ← hua.2.2.2] at hU ⊢
        have HU := Lib.hid hU
        have HQ7 := Lib.hid (below_at2 hb7 HQ6.out); have HK7 := Lib.hid (HK6.out.then_below hb7); have HS7 := Lib.hid (HS6.out.later hb7)
        clear hU hua hb7 HQ6 HK6 HS6 HA6
        go_wp2_with (refine wpList_alloc_g rfl _ rfl _ _ Tryz.zeroUn rfl ?_)
        intro E w8 hE
        have HNE : Hid (g < E ∧ w.heap.size ≤ E) := Lib.hid (by have := hE.out.eq; have := HK7.out.size; have := HSlt.out; omega)
        have HQE : Hid (Q ≠ E) := Lib.hid (by have := hE.out.eq; have := heap_lt HQ7.out; omega)
        go_wp2_with (refine wpList_store_row_g (t := 55) (old := u0) rfl 55 _ _ rfl E #[.int .u64 ua, .int .u64 ub', .int .u64 uc, .int .u64 ud] rfl rfl hE.out.cells Tryz.sizeU rfl (one_u64 _ _ _ _) ?_)
        intro w9 h9 k9 z9
        have HE9 := Lib.hid h9
        have hb9 : Below w7.heap.size w7 w9 := hE.out.below.trans (k9.below (B := w7.heap.size) (fun x hx e => by have := hE.out.eq; omega) hE.out.below.size)
        have HQ9 := Lib.hid (below_at2 hb9 HQ7.out); have HK9 := Lib.hid (HK7.out.then_below hb9); have HS9 := Lib.hid (HS7.out.later hb9)
        clear hE h9 k9 z9 hb9 HQ7 HK7 HS7
        go_wp2_with (first
          | (refine wpList_load_row rfl 55 _ rfl E rfl 55 _ _ _ HE9.out Tryz.underlying55 rfl Tryz.sizeU ?_)
          | (refine wpList_store_row_g (t := 55) (old := u0) rfl 55 _ _ rfl Q #[.int .u64 ua, .int .u64 ub', .int .u64 uc, .int .u64 ud] rfl rfl HQ9.out Tryz.sizeU rfl (one_u64 _ _ _ _) ?_))
        intro wa ha ka za
        have Ha := Lib.hid ha; have HKa := Lib.hid (HK9.out.then ka fun x hx => .inr (by have := HNQ.out.2; omega)); have HSa := Lib.hid (HS9.out.keep ka HNQ.out.1)
        clear ha ka za
        go_wp2_with fail
        exact bodyPost_ret (results_cell_row rfl _ _ Q _ _ _ _ rfl Ha.out Tryz.underlying55 rfl Tryz.sizeU) rfl ⟨_, _, _, _, by rw [HGOOD.out, ← HNN.out]; exact HU.out, rfl, HKa.out, by rw [HGOOD.out, ← HNN.out]; exact HSa.out⟩
      · have n0 : decide (0 < (N : Int)) = true := decide_eq_true (by omega)
        by_cases hm0 : m = 0
        · subst hm0
          have hNB0 : ¬ (32 < c.toNat ∨ (0 < c.toNat ∧ t.head? = some 0)) := by
            rw [← HNN.out]
            rintro (h | ⟨_, h⟩)
            · omega
            · have ht : t = [] := List.eq_nil_of_length_eq_zero HM.out.symm
              rw [ht] at h; simp at h
          have HSH := Lib.hid (show R = (0, none) by rw [HV.out]; exact amt_short hNB0 (by rw [← HNN.out, ← HM.out]; omega))
          clear hNB0
          have HSN := Lib.hid (show t.length < N by rw [← HM.out]; omega)
          have m0 : decide ((0 : Int) < 0) = false := by decide
          go_upto_region 8 with fail
          clear c0 n0 n32 m0
          obtain ⟨wz, hwz⟩ : ∃ wz, wz = w4.drew := ⟨_, rfl⟩
          have hbz : Below w4.heap.size w4 wz := by rw [hwz]; exact (Below.refl _ _).drew
          have hS : wz.heap[A]? = some (.cells (cB 32 []) 35 (0, 0)) := below_at2 hbz HA4.out
          have HQz := Lib.hid (below_at2 hbz HQ4.out); have HKz := Lib.hid (HK4.out.then_below hbz); have HSz := Lib.hid (HS4.out.later hbz)
          have HTK : Hid (takeS t 0 N = ([], 3) ∧ takeV t 0 N = []) := Lib.hid ⟨by unfold takeS; rw [if_neg (by decide), if_pos HSN.out], by unfold takeV; rw [if_neg (by decide), if_pos HSN.out]⟩
          have hsl := fun w' => Tryz.slice32 w' A N (by omega)
          have hof : offN N + N ≤ 32 := by unfold offN; split <;> omega
          have hwS : IntKind.i64.wrap (32 - (N : Int)) = 32 - (N : Int) := IntWalk.i64_in _ (by omega)
          clear hbz HQ4 HA4 HK4 HS4
          refine wp_region_till (fun w' => w'.heap[A]? = some (.cells (cB 32 []) 35 (0, 0))) 6 7 (by kernel_rfl) rfl ?_
          rw [← hwz]
          clear hwz
          refine till_take 0 (some 40) rfl rfl (by kernel_rfl) (by kernel_rfl) (by kernel_rfl) (by kernel_rfl) (by kernel_rfl) (by kernel_rfl) (fun _ _ _ h => h) (.inl ⟨by rfl, fun w' _ => (by go_simp; rfl)⟩) hS ?_
          go_frame
          refine till_take 1 (some 41) rfl rfl (by kernel_rfl) (by kernel_rfl) (by kernel_rfl) (by kernel_rfl) (by kernel_rfl) (by kernel_rfl) (fun _ _ _ h => h) (.inl ⟨by rfl, fun w' _ => (by go_simp; rfl)⟩) hS ?_
          go_frame
          refine till_take 2 (some 42) rfl rfl (by kernel_rfl) (by kernel_rfl) (by kernel_rfl) (by kernel_rfl) (by kernel_rfl) (by kernel_rfl) (fun _ _ _ h => h) (.inl ⟨by rfl, fun w' _ => (by go_simp; rfl)⟩) hS ?_
          go_frame
          refine till_take 3 (some 43) rfl rfl (by kernel_rfl) (by kernel_rfl) (by kernel_rfl) (by kernel_rfl) (by kernel_rfl) (by kernel_rfl) (fun _ _ _ h => h) (.inl ⟨by rfl, fun w' _ => (by go_simp; rfl)⟩) hS ?_
          go_frame
          refine till_take 4 (some 44) rfl rfl (by kernel_rfl) (by kernel_rfl) (by kernel_rfl) (by kernel_rfl) (by kernel_rfl) (by kernel_rfl) (fun _ _ _ h => h) (.inl ⟨by rfl, fun w' _ => (by go_simp; rfl)⟩) hS ?_
          go_frame
          refine till_one 5 rfl (by kernel_rfl) fun K hK => ?_
          simp only [List.getElem_toArray, List.getElem_cons_succ, List.getElem_cons_zero]
          rw [if_pos (by rfl)]
          go_simp
          refine (stake2_any _ g t 0 N HSz.out).mono ?_
          rw [HTK.out.1, HTK.out.2]
          rintro r w5 ⟨v5, rfl, hk5, hs5, hr5, _⟩
          obtain ⟨ad5, cap5, rfl, _, _⟩ := hr5.shape
          obtain ⟨n5, hn5⟩ : ∃ n, n = ([] : List UInt8).length := ⟨_, rfl⟩
          rw [← hn5] at hr5 ⊢
          have hS5 := hk5.at hS (Nat.ne_of_gt HNA.out.1)
          have HQ5 := Lib.hid (hk5.at HQz.out (Nat.ne_of_gt HNQ.out.1))
          have HK5 := Lib.hid (HKz.out.then hk5 fun x hx => .inl hx)
          have HS5 := Lib.hid hs5; have HRD5 := Lib.hid hr5; have HN5 := Lib.hid hn5
          refine hK _ _ (fun _ _ => hS5) ?_
          clear hK hS hk5 hs5 hr5 hn5 HQz HKz HSz
          have hS := hS5
          clear hS5
          refine till_one 6 rfl (by kernel_rfl) fun K hK => ?_
          simp only [List.getElem_toArray, List.getElem_cons_succ, List.getElem_cons_zero]
          rw [if_pos (by rfl)]
          refine wp_copy_b _ _ 100 100 rfl 5 Tryz.underlying100 Tryz.sizeU8 A (offN N) N N ad5 n5 cap5 ([]) rfl rfl HRD5.out (cB 32 []) 35 hS (by rw [HN5.out]; simp) (by rw [cB_size 32 [] (by simp), HN5.out]; show offN N + 0 ≤ 32; omega) (cB 32 []) (by simp) ?_
          intro w6 h6 k6 z6
          have HA6 := Lib.hid h6
          have HQ6 := Lib.hid (k6.at HQ5.out HQA.out)
          have HK6 := Lib.hid (HK5.out.then k6 fun x hx => .inr (by have := HNA.out.2; omega))
          have HS6 := Lib.hid (HS5.out.keep k6 HNA.out.1)
          refine hK _ _ (fun h => absurd rfl h) ?_
          clear hK hS h6 k6 z6 HQ5 HK5 HS5 HRD5
          refine till_done (by kernel_rfl) ?_ _
          go_wp2_with fail
          refine (sok_any w6 g _ _ HS6.out).mono ?_
          rintro r w7 ⟨rfl, rfl⟩
          rw [decide_eq_false (by decide)]
          go_wp2_with (refine wpList_store_row_g (t := 55) (old := u0) rfl 55 _ _ rfl Q u0 rfl rfl HQ6.out Tryz.sizeU rfl (one_u64 _ _ _ _) ?_)
          intro w8 h8 k8 z8
          have H8 := Lib.hid h8; have HK8 := Lib.hid (HK6.out.then k8 fun x hx => .inr (by have := HNQ.out.2; omega)); have HS8 := Lib.hid (HS6.out.keep k8 HNQ.out.1)
          clear h8 k8 z8
          go_wp2_with fail
          exact bodyPost_ret (results_cell_row rfl _ _ Q _ u0 _ _ rfl H8.out Tryz.underlying55 rfl Tryz.sizeU) rfl ⟨0, 0, 0, 0, by rw [HSH.out]; exact UIs.zero, rfl, HK8.out, by rw [HSH.out]; exact ⟨_, _, by decide, HS8.out⟩⟩
        · have m0 : decide (0 < (m : Int)) = true := decide_eq_true (by omega)
          have htl : 0 < t.length := by have := HM.out; omega
          obtain ⟨b, off, rfl, _, hc⟩ := HRD.out.at 0 htl
          obtain ⟨x, hx⟩ : ∃ x, x = t[0] := ⟨_, rfl⟩
          have hh : t.head? = some x := by rw [hx]; cases t with
            | nil => simp at htl
            | cons y ys => rfl
          have q : w4.cell? ⟨b, off, none⟩ = some (.int .u8 (x.toNat : Int)) := by rw [hx]; simpa [byteV, u8E] using hc
          clear hc hx
          by_cases hx0 : x = 0
          · have HBAD := Lib.hid (show R = (0, none) by rw [HV.out]; exact amt_bad (.inr ⟨by rw [← HNN.out]; omega, by rw [hh, hx0]⟩))
            have x0 : ((x.toNat : Int) == 0) = true := by rw [hx0]; rfl
            clear hx0 hh
            go_wp2_with fail
            clear q
            refine (sfail_any w4 g t 0 4 HS4.out).mono ?_
            rw [if_pos rfl, if_pos rfl]
            rintro r w5 ⟨rfl, hk, hs⟩
            have HQ5 := Lib.hid (hk.at HQ4.out (Nat.ne_of_gt HNQ.out.1)); have HK5 := Lib.hid (HK4.out.then hk fun x hx => .inl hx); have HS5 := Lib.hid hs
            clear hk hs c0
            go_wp2_with (refine wpList_store_row_g (t := 55) (old := u0) rfl 55 _ _ rfl Q u0 rfl rfl HQ5.out Tryz.sizeU rfl (one_u64 _ _ _ _) ?_)
            intro w6 h6 k6 z6
            have H6 := Lib.hid h6; have HK6 := Lib.hid (HK5.out.then k6 fun x hx => .inr (by have := HNQ.out.2; omega)); have HS6 := Lib.hid (HS5.out.keep k6 HNQ.out.1)
            clear h6 k6 z6
            go_wp2_with fail
            exact bodyPost_ret (results_cell_row rfl _ _ Q _ u0 _ _ rfl H6.out Tryz.underlying55 rfl Tryz.sizeU) rfl ⟨0, 0, 0, 0, by rw [HBAD.out]; exact UIs.zero, rfl, HK6.out, by rw [HBAD.out]; exact ⟨_, _, by decide, HS6.out⟩⟩
          · have x0 : ((x.toNat : Int) == 0) = false := by
              simp only [beq_eq_false_iff_ne, ne_eq]
              intro h
              have h2 : x.toNat = 0 := by omega
              exact hx0 (UInt8.toNat_inj.1 h2)
            have HNB : Hid (¬ (32 < c.toNat ∨ (0 < c.toNat ∧ t.head? = some 0))) := Lib.hid (by
              rw [← HNN.out, hh]
              rintro (h | ⟨_, h⟩)
              · omega
              · exact hx0 (Option.some.inj h))
            clear hx0 hh
            by_cases hlt : t.length < N
            · have HSH := Lib.hid (show R = (0, none) by rw [HV.out]; exact amt_short HNB.out (by rw [← HNN.out]; exact hlt))
              have HSN := Lib.hid hlt
              clear hlt
              go_upto_region 8 with fail
              clear c0 n0 n32 m0 q x0
              obtain ⟨wz, hwz⟩ : ∃ wz, wz = w4.drew := ⟨_, rfl⟩
              have hbz : Below w4.heap.size w4 wz := by rw [hwz]; exact (Below.refl _ _).drew
              have hS : wz.heap[A]? = some (.cells (cB 32 []) 35 (0, 0)) := below_at2 hbz HA4.out
              have HQz := Lib.hid (below_at2 hbz HQ4.out); have HKz := Lib.hid (HK4.out.then_below hbz); have HSz := Lib.hid (HS4.out.later hbz)
              have HTK : Hid (takeS t 0 N = ([], 3) ∧ takeV t 0 N = []) := Lib.hid ⟨by unfold takeS; rw [if_neg (by decide), if_pos HSN.out], by unfold takeV; rw [if_neg (by decide), if_pos HSN.out]⟩
              have hsl := fun w' => Tryz.slice32 w' A N (by omega)
              have hof : offN N + N ≤ 32 := by unfold offN; split <;> omega
              have hwS : IntKind.i64.wrap (32 - (N : Int)) = 32 - (N : Int) := IntWalk.i64_in _ (by omega)
              clear hbz HQ4 HA4 HK4 HS4
              refine wp_region_till (fun w' => w'.heap[A]? = some (.cells (cB 32 []) 35 (0, 0))) 6 7 (by kernel_rfl) rfl ?_
              rw [← hwz]
              clear hwz
              refine till_take 0 (some 40) rfl rfl (by kernel_rfl) (by kernel_rfl) (by kernel_rfl) (by kernel_rfl) (by kernel_rfl) (by kernel_rfl) (fun _ _ _ h => h) (.inl ⟨by rfl, fun w' _ => (by go_simp; rfl)⟩) hS ?_
              go_frame
              refine till_take 1 (some 41) rfl rfl (by kernel_rfl) (by kernel_rfl) (by kernel_rfl) (by kernel_rfl) (by kernel_rfl) (by kernel_rfl) (fun _ _ _ h => h) (.inl ⟨by rfl, fun w' _ => (by go_simp; rfl)⟩) hS ?_
              go_frame
              refine till_take 2 (some 42) rfl rfl (by kernel_rfl) (by kernel_rfl) (by kernel_rfl) (by kernel_rfl) (by kernel_rfl) (by kernel_rfl) (fun _ _ _ h => h) (.inl ⟨by rfl, fun w' _ => (by go_simp; rfl)⟩) hS ?_
              go_frame
              refine till_take 3 (some 43) rfl rfl (by kernel_rfl) (by kernel_rfl) (by kernel_rfl) (by kernel_rfl) (by kernel_rfl) (by kernel_rfl) (fun _ _ _ h => h) (.inl ⟨by rfl, fun w' _ => (by go_simp; rfl)⟩) hS ?_
              go_frame
              refine till_take 4 (some 44) rfl rfl (by kernel_rfl) (by kernel_rfl) (by kernel_rfl) (by kernel_rfl) (by kernel_rfl) (by kernel_rfl) (fun _ _ _ h => h) (.inl ⟨by rfl, fun w' _ => (by go_simp; rfl)⟩) hS ?_
              go_frame
              refine till_one 5 rfl (by kernel_rfl) fun K hK => ?_
              simp only [List.getElem_toArray, List.getElem_cons_succ, List.getElem_cons_zero]
              rw [if_pos (by rfl)]
              go_simp
              refine (stake2_any _ g t 0 N HSz.out).mono ?_
              rw [HTK.out.1, HTK.out.2]
              rintro r w5 ⟨v5, rfl, hk5, hs5, hr5, _⟩
              obtain ⟨ad5, cap5, rfl, _, _⟩ := hr5.shape
              obtain ⟨n5, hn5⟩ : ∃ n, n = ([] : List UInt8).length := ⟨_, rfl⟩
              rw [← hn5] at hr5 ⊢
              have hS5 := hk5.at hS (Nat.ne_of_gt HNA.out.1)
              have HQ5 := Lib.hid (hk5.at HQz.out (Nat.ne_of_gt HNQ.out.1))
              have HK5 := Lib.hid (HKz.out.then hk5 fun x hx => .inl hx)
              have HS5 := Lib.hid hs5; have HRD5 := Lib.hid hr5; have HN5 := Lib.hid hn5
              refine hK _ _ (fun _ _ => hS5) ?_
              clear hK hS hk5 hs5 hr5 hn5 HQz HKz HSz
              have hS := hS5
              clear hS5
              refine till_one 6 rfl (by kernel_rfl) fun K hK => ?_
              simp only [List.getElem_toArray, List.getElem_cons_succ, List.getElem_cons_zero]
              rw [if_pos (by rfl)]
              refine wp_copy_b _ _ 100 100 rfl 5 Tryz.underlying100 Tryz.sizeU8 A (offN N) N N ad5 n5 cap5 ([]) rfl rfl HRD5.out (cB 32 []) 35 hS (by rw [HN5.out]; simp) (by rw [cB_size 32 [] (by simp), HN5.out]; show offN N + 0 ≤ 32; omega) (cB 32 []) (by simp) ?_
              intro w6 h6 k6 z6
              have HA6 := Lib.hid h6
              have HQ6 := Lib.hid (k6.at HQ5.out HQA.out)
              have HK6 := Lib.hid (HK5.out.then k6 fun x hx => .inr (by have := HNA.out.2; omega))
              have HS6 := Lib.hid (HS5.out.keep k6 HNA.out.1)
              refine hK _ _ (fun h => absurd rfl h) ?_
              clear hK hS h6 k6 z6 HQ5 HK5 HS5 HRD5
              refine till_done (by kernel_rfl) ?_ _
              go_wp2_with fail
              refine (sok_any w6 g _ _ HS6.out).mono ?_
              rintro r w7 ⟨rfl, rfl⟩
              rw [decide_eq_false (by decide)]
              go_wp2_with (refine wpList_store_row_g (t := 55) (old := u0) rfl 55 _ _ rfl Q u0 rfl rfl HQ6.out Tryz.sizeU rfl (one_u64 _ _ _ _) ?_)
              intro w8 h8 k8 z8
              have H8 := Lib.hid h8; have HK8 := Lib.hid (HK6.out.then k8 fun x hx => .inr (by have := HNQ.out.2; omega)); have HS8 := Lib.hid (HS6.out.keep k8 HNQ.out.1)
              clear h8 k8 z8
              go_wp2_with fail
              exact bodyPost_ret (results_cell_row rfl _ _ Q _ u0 _ _ rfl H8.out Tryz.underlying55 rfl Tryz.sizeU) rfl ⟨0, 0, 0, 0, by rw [HSH.out]; exact UIs.zero, rfl, HK8.out, by rw [HSH.out]; exact ⟨_, _, by decide, HS8.out⟩⟩
            · have HGOOD := Lib.hid (show R = (be (t.take c.toNat), some (t.drop c.toNat)) by rw [HV.out]; exact amt_good HNB.out (by rw [← HNN.out]; exact hlt))
              have HLN := Lib.hid hlt
              clear hlt
              go_upto_region 8 with fail
              clear c0 n0 n32 m0 q x0
              obtain ⟨wz, hwz⟩ : ∃ wz, wz = w4.drew := ⟨_, rfl⟩
              have hbz : Below w4.heap.size w4 wz := by rw [hwz]; exact (Below.refl _ _).drew
              have hS : wz.heap[A]? = some (.cells (cB 32 []) 35 (0, 0)) := below_at2 hbz HA4.out
              have HQz := Lib.hid (below_at2 hbz HQ4.out); have HKz := Lib.hid (HK4.out.then_below hbz); have HSz := Lib.hid (HS4.out.later hbz)
              have HTK : Hid (takeS t 0 N = (t.drop N, 0) ∧ takeV t 0 N = t.take N) := Lib.hid ⟨by unfold takeS; rw [if_neg (by decide), if_neg (by first | exact HLN.out | omega)], by unfold takeV; rw [if_neg (by decide), if_neg (by first | exact HLN.out | omega)]⟩
              have hsl := fun w' => Tryz.slice32 w' A N (by omega)
              have hof : offN N + N ≤ 32 := by unfold offN; split <;> omega
              have hwS : IntKind.i64.wrap (32 - (N : Int)) = 32 - (N : Int) := IntWalk.i64_in _ (by omega)
              clear hbz HQ4 HA4 HK4 HS4
              refine wp_region_till (fun w' => w'.heap[A]? = some (.cells (cB 32 []) 35 (0, 0))) 6 7 (by kernel_rfl) rfl ?_
              rw [← hwz]
              clear hwz
              refine till_take 0 (some 40) rfl rfl (by kernel_rfl) (by kernel_rfl) (by kernel_rfl) (by kernel_rfl) (by kernel_rfl) (by kernel_rfl) (fun _ _ _ h => h) (.inl ⟨by rfl, fun w' _ => (by go_simp; rfl)⟩) hS ?_
              go_frame
              refine till_take 1 (some 41) rfl rfl (by kernel_rfl) (by kernel_rfl) (by kernel_rfl) (by kernel_rfl) (by kernel_rfl) (by kernel_rfl) (fun _ _ _ h => h) (.inl ⟨by rfl, fun w' _ => (by go_simp; rfl)⟩) hS ?_
              go_frame
              refine till_take 2 (some 42) rfl rfl (by kernel_rfl) (by kernel_rfl) (by kernel_rfl) (by kernel_rfl) (by kernel_rfl) (by kernel_rfl) (fun _ _ _ h => h) (.inl ⟨by rfl, fun w' _ => (by go_simp; rfl)⟩) hS ?_
              go_frame
              refine till_take 3 (some 43) rfl rfl (by kernel_rfl) (by kernel_rfl) (by kernel_rfl) (by kernel_rfl) (by kernel_rfl) (by kernel_rfl) (fun _ _ _ h => h) (.inl ⟨by rfl, fun w' _ => (by go_simp; rfl)⟩) hS ?_
              go_frame
              refine till_take 4 (some 44) rfl rfl (by kernel_rfl) (by kernel_rfl) (by kernel_rfl) (by kernel_rfl) (by kernel_rfl) (by kernel_rfl) (fun _ _ _ h => h) (.inl ⟨by rfl, fun w' _ => (by go_simp; rfl)⟩) hS ?_
              go_frame
              refine till_one 5 rfl (by kernel_rfl) fun K hK => ?_
              simp only [List.getElem_toArray, List.getElem_cons_succ, List.getElem_cons_zero]
              rw [if_pos (by rfl)]
              go_simp
              refine (stake2_any _ g t 0 N HSz.out).mono ?_
              rw [HTK.out.1, HTK.out.2]
              rintro r w5 ⟨v5, rfl, hk5, hs5, hr5, _⟩
              obtain ⟨ad5, cap5, rfl, _, _⟩ := hr5.shape
              obtain ⟨n5, hn5⟩ : ∃ n, n = (t.take N : List UInt8).length := ⟨_, rfl⟩
              rw [← hn5] at hr5 ⊢
              have hS5 := hk5.at hS (Nat.ne_of_gt HNA.out.1)
              have HQ5 := Lib.hid (hk5.at HQz.out (Nat.ne_of_gt HNQ.out.1))
              have HK5 := Lib.hid (HKz.out.then hk5 fun x hx => .inl hx)
              have HS5 := Lib.hid hs5; have HRD5 := Lib.hid hr5; have HN5 := Lib.hid hn5
              refine hK _ _ (fun _ _ => hS5) ?_
              clear hK hS hk5 hs5 hr5 hn5 HQz HKz HSz
              have hS := hS5
              clear hS5
              refine till_one 6 rfl (by kernel_rfl) fun K hK => ?_
              simp only [List.getElem_toArray, List.getElem_cons_succ, List.getElem_cons_zero]
              rw [if_pos (by rfl)]
              refine wp_copy_b _ _ 100 100 rfl 5 Tryz.underlying100 Tryz.sizeU8 A (offN N) N N ad5 n5 cap5 (t.take N) rfl rfl HRD5.out (cB 32 []) 35 hS (by rw [HN5.out]; rw [List.length_take]; omega) (by rw [cB_size 32 [] (by simp), HN5.out]; rw [List.length_take]; omega) (c8 (List.replicate (32 - N) 0 ++ t.take N)) (amt_row (by omega) (by first | exact Nat.le_of_not_lt HLN.out | omega)) ?_
              intro w6 h6 k6 z6
              have HA6 := Lib.hid h6
              have HQ6 := Lib.hid (k6.at HQ5.out HQA.out)
              have HK6 := Lib.hid (HK5.out.then k6 fun x hx => .inr (by have := HNA.out.2; omega))
              have HS6 := Lib.hid (HS5.out.keep k6 HNA.out.1)
              refine hK _ _ (fun h => absurd rfl h) ?_
              clear hK hS h6 k6 z6 HQ5 HK5 HS5 HRD5
              refine till_done (by kernel_rfl) ?_ _
              go_wp2_with fail
              refine (sok_any w6 g _ _ HS6.out).mono ?_
              rintro r w7 ⟨rfl, rfl⟩
              rw [decide_eq_true rfl]
              obtain ⟨BL, hBL⟩ : ∃ x, x = List.replicate (32 - N) (0 : UInt8) ++ t.take N := ⟨_, rfl⟩
              rw [← hBL] at HA6
              have HBL : Hid (BL.length = 32 ∧ be BL = be (t.take N)) := Lib.hid (by
                rw [hBL]
                refine ⟨?_, be_zeros _ _⟩
                rw [List.length_append, List.length_replicate, List.length_take]
                have := HLN.out
                omega)
              clear hBL
              go_wp2_with fail
              refine (fromBytes_anyZ BL _ _ (rd_box HA6.out 32 HBL.out.1.symm (by omega))).mono ?_
              rw [uArr_yes HBL.out.1]
              rintro r w7 ⟨rfl, hb7⟩
              obtain ⟨ua, ub', uc, ud, hua⟩ : ∃ a b c d : Int, a = wd BL 0 ∧ b = wd BL 1 ∧ c = wd BL 2 ∧ d = wd BL 3 := ⟨_, _, _, _, rfl, rfl, rfl, rfl⟩
              have hU := wd_is HBL.out.1
              rw [HBL.out.2] at hU
              unfold uOf uV
              rw [← hua.1, ← hua.2.1, ← hua.2.2.1, ← hua.2.2.2] at hU ⊢
              have HU := Lib.hid hU
              have HQ7 := Lib.hid (below_at2 hb7 HQ6.out); have HK7 := Lib.hid (HK6.out.then_below hb7); have HS7 := Lib.hid (HS6.out.later hb7)
              clear hU hua hb7 HQ6 HK6 HS6 HA6
              go_wp2_with (refine wpList_alloc_g rfl _ rfl _ _ Tryz.zeroUn rfl ?_)
              intro E w8 hE
              have HNE : Hid (g < E ∧ w.heap.size ≤ E) := Lib.hid (by have := hE.out.eq; have := HK7.out.size; have := HSlt.out; omega)
              have HQE : Hid (Q ≠ E) := Lib.hid (by have := hE.out.eq; have := heap_lt HQ7.out; omega)
              go_wp2_with (refine wpList_store_row_g (t := 55) (old := u0) rfl 55 _ _ rfl E #[.int .u64 ua, .int .u64 ub', .int .u64 uc, .int .u64 ud] rfl rfl hE.out.cells Tryz.sizeU rfl (one_u64 _ _ _ _) ?_)
              intro w9 h9 k9 z9
              have HE9 := Lib.hid h9
              have hb9 : Below w7.heap.size w7 w9 := hE.out.below.trans (k9.below (B := w7.heap.size) (fun x hx e => by have := hE.out.eq; omega) hE.out.below.size)
              have HQ9 := Lib.hid (below_at2 hb9 HQ7.out); have HK9 := Lib.hid (HK7.out.then_below hb9); have HS9 := Lib.hid (HS7.out.later hb9)
              clear hE h9 k9 z9 hb9 HQ7 HK7 HS7
              go_wp2_with (first
                | (refine wpList_load_row rfl 55 _ rfl E rfl 55 _ _ _ HE9.out Tryz.underlying55 rfl Tryz.sizeU ?_)
                | (refine wpList_store_row_g (t := 55) (old := u0) rfl 55 _ _ rfl Q #[.int .u64 ua, .int .u64 ub', .int .u64 uc, .int .u64 ud] rfl rfl HQ9.out Tryz.sizeU rfl (one_u64 _ _ _ _) ?_))
              intro wa ha ka za
              have Ha := Lib.hid ha; have HKa := Lib.hid (HK9.out.then ka fun x hx => .inr (by have := HNQ.out.2; omega)); have HSa := Lib.hid (HS9.out.keep ka HNQ.out.1)
              clear ha ka za
              go_wp2_with fail
              exact bodyPost_ret (results_cell_row rfl _ _ Q _ _ _ _ rfl Ha.out Tryz.underlying55 rfl Tryz.sizeU) rfl ⟨_, _, _, _, by rw [HGOOD.out, ← HNN.out]; exact HU.out, rfl, HKa.out, by rw [HGOOD.out, ← HNN.out]; exact HSa.out⟩
end
end Go.Proofs.YtmclmccgghnglaaGreat
