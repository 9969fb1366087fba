/- tallageref04.Source: Amount. No condition. octet.Read; leaf.ToEarner, leaf.ToToken; tallageref16.ToEarner, ToToken. No condition. -/
import Derived.Test.YtmclmccgghnglaaGreatLf13
import Derived.Test.YtmclmccgghnglaaGreatLf12
import Derived.Test.YtmclmccgghnglaaGreatLfUrn
namespace Go.Proofs.YtmclmccgghnglaaGreat
section
open Go.RowKit

theorem madeU8 (n : Nat) : madeCells #[.int .u8 0] n = c8 (List.replicate n 0) := by
  refine Array.ext (by simp [madeCells, c8]) fun i h1 h2 => ?_
  have h0 : i % 1 = 0 := Nat.mod_one i
  simp [madeCells, c8, byteV, h0]
theorem own_zerosU8 {w : World} {B g K : Nat} {e : TypeId} (h : w.heap[g]? = some (.cells (c8 (List.replicate K 0)) e (0, 0))) (hB : B ≤ g) (hK : K ≤ 32) : Own w B e u8E 1 (.slice (some ⟨g, 0, none⟩) K K) (List.replicate K (0 : UInt8)) := by
  refine ⟨by simp [u8E], .inr ⟨g, K, _, by simp, hB, h, by simp, by unfold maxLen; omega, by simp [c8_size], ?_⟩⟩
  rw [List.length_replicate, Nat.mul_one, c8, List.toList_toArray]
  rw [List.take_of_length_le (by simp)]
  simp [u8E, byteV, List.flatMap_replicate]
theorem Tryz.makeU8 (w : World) (K : Nat) (hK : K ≤ 32) : (Instr.makeSlice 100 (.int .i64 (K : Int)) (.int .i64 (K : Int))).run Tryz.prog w = .ok (.slice (some ⟨w.heap.size, 0, none⟩) K K) (w.alloc (.cells (c8 (List.replicate K 0)) 5)) := by
  obtain ⟨inf, h1, h2, h3, h4⟩ := info_parts Tryz.infoU8
  have h5 := run_make (P := Tryz.prog) w 100 5 inf _ Tryz.underlying100 h1 h2 .i64 .i64 (K : Int) (K : Int) (by omega) (by omega) (by rw [h4]; omega) (by omega)
  rw [h3] at h5
  simpa [Value.cells, madeU8] using h5
def RSrcAmtRet (w : World) (g : Nat) (o : Option (List UInt8)) (n : Nat) (e : Ending) (w' : World) : Prop := ∃ a b c d : Int, UIs a b c d n ∧ e = .returned (.agg #[.int .u64 a, .int .u64 b, .int .u64 c, .int .u64 d]) ∧ Keep (· = g) w w' ∧ RSrcO w' g o
theorem RSrc.err {w : World} {g : Nat} {l : List UInt8} {e : Int} (h : RSrc w g l e) : w.cell? ⟨g, 1, none⟩ = some (.int .i64 e) := by
  obtain ⟨_, _, _, h1, _⟩ := h
  exact Lib.cell_of_heap h1 1
set_option maxHeartbeats 16000000 in
set_option maxRecDepth 100000 in
theorem rsamt_any (w : World) (g : Nat) (o : Option (List UInt8)) (h : RSrcO w g o) (hlen : ∀ l, o = some l → l.length < 1000000000) : Calls Tryz.prog 156 #[.pointer (some ⟨g, 0, none⟩)] w (RSrcAmtRet w g (amtO o).2 (amtO o).1) := by
  obtain ⟨R, hR⟩ : ∃ R, R = amtO o := ⟨_, rfl⟩
  rw [← hR]
  have HV := Lib.hid hR
  clear hR
  obtain ⟨l, e, hs, hll, hle⟩ : ∃ l e, RSrc w g l e ∧ l.length < 1000000000 ∧ ((e ≠ 0 ∧ o = none) ∨ (e = 0 ∧ o = some l)) := by
    cases o with
    | none => obtain ⟨l, e, he, hs, hl⟩ := h; exact ⟨l, e, hs, hl, .inl ⟨he, rfl⟩⟩
    | some l => exact ⟨l, 0, h, hlen l rfl, .inr ⟨rfl, rfl⟩⟩
  have HS := Lib.hid hs; have HLL := Lib.hid hll
  have HSlt : Hid (g < w.heap.size) := Lib.hid hs.lt
  clear h hs hll hlen
  rcases (show (takeV l e 1 = [] ∧ (takeS l e 1).2 ≠ 0 ∧ R = (0, none) ∧ (takeS l e 1).1.length < 1000000000) ∨ (∃ c t, l = c :: t ∧ e = 0 ∧ o = some (c :: t)) by
    rcases hle with ⟨he, rfl⟩ | ⟨rfl, rfl⟩
    · left
      refine ⟨by unfold takeV; rw [if_pos he], by unfold takeS; rw [if_pos he]; exact he, HV.out, by unfold takeS; rw [if_pos he]; exact HLL.out⟩
    · cases l with
      | nil =>
        left
        refine ⟨rfl, by decide, HV.out, by decide⟩
      | cons c t => exact .inr ⟨c, t, rfl, rfl, rfl⟩) with ⟨hv, he2, hR0, htl⟩ | ⟨c, t, rfl, rfl, rfl⟩
  · have HV0 := Lib.hid hv; have HE2 := Lib.hid he2; have HR0 := Lib.hid hR0; have HTL := Lib.hid htl
    obtain ⟨e2, hee⟩ : ∃ e2, e2 = (takeS l e 1).2 := ⟨_, rfl⟩
    rw [← hee] at he2
    have HEE := Lib.hid hee
    have hne : (e2 != 0) = true := by simpa using he2
    clear hv he2 hR0 hle htl hee
    go_enter Tryz.func156, Tryz.ntmps156
    go_wp2_with (refine wpList_alloc_g rfl _ rfl _ _ Tryz.zeroUn rfl ?_)
    intro Q w1 hQ
    have HNQ : Hid (g < Q ∧ w.heap.size ≤ Q) := Lib.hid (by have := hQ.out.eq; have := HSlt.out; omega)
    have HQ := Lib.hid hQ.out.cells; have HB := Lib.hid hQ.out.below
    clear hQ
    go_wp2_with fail
    refine (rbyte_any w1 g l e (HS.out.later HB.out) HLL.out).mono ?_
    rw [HV0.out]
    rintro r w2 ⟨rfl, hk, hs⟩
    have HQ2 := Lib.hid (hk.at HQ.out (Nat.ne_of_gt HNQ.out.1)); have HK2 := Lib.hid ((Keep.of_below HB.out).then hk fun x hx => .inl hx); have HS2 := Lib.hid hs
    have c1 : w2.cell? ⟨g, 1, none⟩ = some (.int .i64 e2) := by rw [HEE.out]; exact hs.err
    clear hk hs HQ HB
    go_wp2_with (refine wpList_store_row_g (t := 55) (old := u0) rfl 55 _ _ rfl Q u0 rfl rfl HQ2.out Tryz.sizeU rfl (one_u64 _ _ _ _) ?_)
    intro w4 h4 k4 z4
    have H4 := Lib.hid h4; have HK4 := Lib.hid (HK2.out.then k4 fun x hx => .inr (by have := HNQ.out.2; omega)); have HS4 := Lib.hid (HS2.out.keep k4 HNQ.out.1)
    clear h4 k4 z4 c1
    go_wp2_with fail
    exact bodyPost_ret (results_cell_row rfl _ _ Q _ u0 _ _ rfl H4.out Tryz.underlying55 rfl Tryz.sizeU) rfl ⟨0, 0, 0, 0, by rw [HR0.out]; exact UIs.zero, rfl, HK4.out, by rw [HR0.out]; exact ⟨_, _, HE2.out, HS4.out, HTL.out⟩⟩
  · have HL1 : Hid (takeS (c :: t) 0 1 = (t, 0) ∧ takeV (c :: t) 0 1 = [c]) := Lib.hid ⟨by unfold takeS; rw [if_neg (by decide), if_neg (by simp)]; rfl, by unfold takeV; rw [if_neg (by decide), if_neg (by simp)]; rfl⟩
    obtain ⟨N, hN⟩ : ∃ N, N = c.toNat := ⟨_, rfl⟩
    have hN2 : N < 256 := by rw [hN]; exact c.toNat_lt
    have hw8 := byte_i64 hN2
    have HNN := Lib.hid hN
    have HTL := Lib.hid (show t.length < 1000000000 by have := HLL.out; simp at this; omega)
    clear hle hN
    go_enter Tryz.func156, Tryz.ntmps156
    go_wp2_with (refine wpList_alloc_g rfl _ rfl _ _ Tryz.zeroUn rfl ?_)
    intro Q w1 hQ
    have HNQ : Hid (g < Q ∧ w.heap.size ≤ Q) := Lib.hid (by have := hQ.out.eq; have := HSlt.out; omega)
    have HQ := Lib.hid hQ.out.cells; have HB := Lib.hid hQ.out.below
    clear hQ
    go_wp2_with fail
    refine (rbyte_any w1 g (c :: t) 0 (HS.out.later HB.out) HLL.out).mono ?_
    rw [HL1.out.1, HL1.out.2, List.headD_cons, ← HNN.out]
    rintro r w4 ⟨rfl, hk, hs⟩
    have HQ4 := Lib.hid (hk.at HQ.out (Nat.ne_of_gt HNQ.out.1)); have HK4 := Lib.hid ((Keep.of_below HB.out).then hk fun x hx => .inl hx); have HS4 := Lib.hid hs
    have c1 : w4.cell? ⟨g, 1, none⟩ = some (.int .i64 0) := hs.err
    clear hk hs HQ HB
    obtain ⟨ad, m, cap, h1, h2, _⟩ := HS4.out
    have hm : m = t.length := h2.size
    have HM := Lib.hid hm; have HRD := Lib.hid h2
    have c0 : w4.cell? ⟨g, 0, none⟩ = some (.slice ad m cap) := Lib.cell_of_heap h1 0
    clear h1 h2 hm
    by_cases hN32 : 32 < N
    · have HBAD := Lib.hid (show R = (0, none) by rw [HV.out]; exact amt_bad (.inl (by rw [← HNN.out]; exact hN32)))
      go_wp2_with fail
      refine (rwrong_any w4 g t 0 4 HS4.out).mono ?_
      rintro r w5 ⟨rfl, hk, hs⟩
      have HQ5 := Lib.hid (hk.at HQ4.out (Nat.ne_of_gt HNQ.out.1)); have HK5 := Lib.hid (HK4.out.then hk fun x hx => .inl hx); have HS5 := Lib.hid hs
      clear hk hs c0 c1
      go_wp2_with (refine wpList_store_row_g (t := 55) (old := u0) rfl 55 _ _ rfl Q u0 rfl rfl HQ5.out Tryz.sizeU rfl (one_u64 _ _ _ _) ?_)
      intro w6 h6 k6 z6
      have H6 := Lib.hid h6; have HK6 := Lib.hid (HK5.out.then k6 fun x hx => .inr (by have := HNQ.out.2; omega)); have HS6 := Lib.hid (HS5.out.keep k6 HNQ.out.1)
      clear h6 k6 z6
      go_wp2_with fail
      exact bodyPost_ret (results_cell_row rfl _ _ Q _ u0 _ _ rfl H6.out Tryz.underlying55 rfl Tryz.sizeU) rfl ⟨0, 0, 0, 0, by rw [HBAD.out]; exact UIs.zero, rfl, HK6.out, by rw [HBAD.out]; exact ⟨_, _, by decide, HS6.out, by simp⟩⟩
    · have hN33 : N ≤ 32 := by omega
      have n32 : decide (32 < (N : Int)) = false := decide_eq_false (by omega)
      by_cases hN0 : N = 0
      · have n0 : decide (0 < (N : Int)) = false := decide_eq_false (by omega)
        have n0p : ¬ 0 < N := by omega
        have HLN := Lib.hid (show ¬ t.length < N by omega)
        have HGOOD := Lib.hid (show R = (be (t.take c.toNat), some (t.drop c.toNat)) by rw [HV.out]; exact amt_good (by rw [← HNN.out]; rintro (h | ⟨h, _⟩) <;> omega) (by rw [← HNN.out]; exact HLN.out))
        clear hN0
        go_wp2_with fail
        clear n0 n0p
        refine (rtake_any w4 g t 0 N HS4.out HTL.out).mono ?_
        rw [show takeS t 0 N = (t.drop N, 0) by unfold takeS; rw [if_neg (by decide), if_neg HLN.out], show takeV t 0 N = t.take N by unfold takeV; rw [if_neg (by decide), if_neg HLN.out]]
        rintro r w5 ⟨v5, rfl, hk5, hs5, hr5, hn5⟩
        have HQ5 := Lib.hid (hk5.at HQ4.out (Nat.ne_of_gt HNQ.out.1))
        have HK5 := Lib.hid (HK4.out.then hk5 fun x hx => .inl hx)
        have HS5 := Lib.hid hs5; have HRD5 := Lib.hid hr5; have HN5 := Lib.hid hn5
        clear c0 c1
        have c1 : w5.cell? ⟨g, 1, none⟩ = some (.int .i64 0) := hs5.err
        clear hk5 hs5 hr5 hn5 HQ4 HK4 HS4
        obtain ⟨K, hK⟩ : ∃ K, K = 32 - N := ⟨_, rfl⟩
        have hwS : IntKind.i64.wrap (32 - (N : Int)) = (K : Int) := (IntWalk.i64_in _ (by omega)).trans (by omega)
        have hK32 : K ≤ 32 := by omega
        have hmk := fun w' => Tryz.makeU8 w' K hK32
        have HKN := Lib.hid (show K + N = 32 by omega)
        have HTN := Lib.hid (show (t.take N).length = N by rw [List.length_take]; have := HLN.out; omega)
        have hrd6 : Rd (w5.alloc (.cells (c8 (List.replicate K 0)) 5)) u8E 1 v5 (t.take N) := HRD5.out.alloc _
        have how : Own (w5.alloc (.cells (c8 (List.replicate K 0)) 5)) w5.heap.size 5 u8E 1 (.slice (some ⟨w5.heap.size, 0, none⟩) K K) (List.replicate K (0 : UInt8)) := own_zerosU8 (heap_alloc_new _ _) (Nat.le_refl _) hK32
        have hba : Below w5.heap.size w5 (w5.alloc (.cells (c8 (List.replicate K 0)) 5)) := (Below.refl _ _).alloc (Nat.le_refl _) _
        have HRD6 := Lib.hid hrd6; have HOW := Lib.hid how; have HBA := Lib.hid hba
        clear hrd6 how hba hK
        go_wp2_with (at_builtin; refine own_apps (l2 := t.take N) (enc := u8E) (B := w5.heap.size) (w0 := w5) rfl _ _ 100 rfl Tryz.underlying100 Tryz.infoU8 rfl (by decide) u8_len u8_one HOW.out rfl _ rfl HRD6.out (by rw [HTN.out, List.length_replicate]; have := HKN.out; unfold maxLen; omega) (by rw [HTN.out, List.length_replicate]; have := HKN.out; omega) HBA.out (Nat.le_refl _) HBA.out.size ?_)
        intro v6 w6 ho6 hb6 _
        obtain ⟨BL, hBL⟩ : ∃ x, x = List.replicate K (0 : UInt8) ++ t.take N := ⟨_, rfl⟩
        rw [← hBL] at ho6
        have HBL : Hid (BL.length = 32 ∧ be BL = be (t.take N)) := Lib.hid (by
          rw [hBL]
          refine ⟨?_, be_zeros _ _⟩
          rw [List.length_append, List.length_replicate, HTN.out]
          exact HKN.out)
        have HRD7 := Lib.hid (ho6.rd u8_len)
        have HQ6 := Lib.hid (below_at2 hb6 HQ5.out); have HK6 := Lib.hid (HK5.out.then_below hb6); have HS6 := Lib.hid (HS5.out.later hb6)
        clear hBL ho6 hb6 hmk hwS c1 HQ5 HK5 HS5 HRD5 HRD6 HOW HBA
        go_wp2_with fail
        refine (refFromBytes_any BL _ w6 HRD7.out).mono ?_
        rw [uArr_yes HBL.out.1]
        rintro r w7 ⟨rfl, hb7⟩
        obtain ⟨ua, ub', uc, ud, hua⟩ : ∃ a b c d : Int, a = wd BL 0 ∧ b = wd BL 1 ∧ c = wd BL 2 ∧ d = wd BL 3 := ⟨_, _, _, _, rfl, rfl, rfl, rfl⟩
        have hU := wd_is HBL.out.1
        rw [HBL.out.2] at hU
        unfold uOf uV
        rw [← hua.1, ← hua.2.1, ← hua.2.2.1, ← hua.2.2.2] at hU ⊢
        have HU := Lib.hid hU
        have HQ7 := Lib.hid (below_at2 hb7 HQ6.out); have HK7 := Lib.hid (HK6.out.then_below hb7); have HS7 := Lib.hid (HS6.out.later hb7)
        clear hU hua hb7 HQ6 HK6 HS6
        go_wp2_with (refine wpList_alloc_g rfl _ rfl _ _ Tryz.zeroUn rfl ?_)
        intro E w8 hE
        have HNE : Hid (g < E ∧ w.heap.size ≤ E) := Lib.hid (by have := hE.out.eq; have := HK7.out.size; have := HSlt.out; omega)
        have HQE : Hid (Q ≠ E) := Lib.hid (by have := hE.out.eq; have := heap_lt HQ7.out; omega)
        go_wp2_with (refine wpList_store_row_g (t := 55) (old := u0) rfl 55 _ _ rfl E #[.int .u64 ua, .int .u64 ub', .int .u64 uc, .int .u64 ud] rfl rfl hE.out.cells Tryz.sizeU rfl (one_u64 _ _ _ _) ?_)
        intro w9 h9 k9 z9
        have HE9 := Lib.hid h9
        have hb9 : Below w7.heap.size w7 w9 := hE.out.below.trans (k9.below (B := w7.heap.size) (fun x hx e => by have := hE.out.eq; omega) hE.out.below.size)
        have HQ9 := Lib.hid (below_at2 hb9 HQ7.out); have HK9 := Lib.hid (HK7.out.then_below hb9); have HS9 := Lib.hid (HS7.out.later hb9)
        clear hE h9 k9 z9 hb9 HQ7 HK7 HS7
        go_wp2_with (first
          | (refine wpList_load_row rfl 55 _ rfl E rfl 55 _ _ _ HE9.out Tryz.underlying55 rfl Tryz.sizeU ?_)
          | (refine wpList_store_row_g (t := 55) (old := u0) rfl 55 _ _ rfl Q #[.int .u64 ua, .int .u64 ub', .int .u64 uc, .int .u64 ud] rfl rfl HQ9.out Tryz.sizeU rfl (one_u64 _ _ _ _) ?_))
        intro wa ha ka za
        have Ha := Lib.hid ha; have HKa := Lib.hid (HK9.out.then ka fun x hx => .inr (by have := HNQ.out.2; omega)); have HSa := Lib.hid (HS9.out.keep ka HNQ.out.1)
        clear ha ka za
        go_wp2_with fail
        exact bodyPost_ret (results_cell_row rfl _ _ Q _ _ _ _ rfl Ha.out Tryz.underlying55 rfl Tryz.sizeU) rfl ⟨_, _, _, _, by rw [HGOOD.out, ← HNN.out]; exact HU.out, rfl, HKa.out, by rw [HGOOD.out, ← HNN.out]; exact HSa.out⟩
      · have n0 : decide (0 < (N : Int)) = true := decide_eq_true (by omega)
        by_cases hm0 : m = 0
        · subst hm0
          have hNB0 : ¬ (32 < c.toNat ∨ (0 < c.toNat ∧ t.head? = some 0)) := by
            rw [← HNN.out]
            rintro (h | ⟨_, h⟩)
            · omega
            · have ht : t = [] := List.eq_nil_of_length_eq_zero HM.out.symm
              rw [ht] at h; simp at h
          have HSH := Lib.hid (show R = (0, none) by rw [HV.out]; exact amt_short hNB0 (by rw [← HNN.out, ← HM.out]; omega))
          clear hNB0
          have HSN := Lib.hid (show t.length < N by rw [← HM.out]; omega)
          have m0 : decide ((0 : Int) < 0) = false := by decide
          go_wp2_with fail
          clear n0 m0
          refine (rtake_any w4 g t 0 N HS4.out HTL.out).mono ?_
          rw [show takeS t 0 N = ([], 3) by unfold takeS; rw [if_neg (by decide), if_pos HSN.out], show takeV t 0 N = [] by unfold takeV; rw [if_neg (by decide), if_pos HSN.out]]
          rintro r w5 ⟨v5, rfl, hk5, hs5, hr5, hn5⟩
          have HQ5 := Lib.hid (hk5.at HQ4.out (Nat.ne_of_gt HNQ.out.1))
          have HK5 := Lib.hid (HK4.out.then hk5 fun x hx => .inl hx)
          have HS5 := Lib.hid hs5; have HRD5 := Lib.hid hr5; have HN5 := Lib.hid hn5
          clear c0 c1
          have c1 : w5.cell? ⟨g, 1, none⟩ = some (.int .i64 3) := hs5.err
          clear hk5 hs5 hr5 hn5 HQ4 HK4 HS4
          go_wp2_with (refine wpList_store_row_g (t := 55) (old := u0) rfl 55 _ _ rfl Q u0 rfl rfl HQ5.out Tryz.sizeU rfl (one_u64 _ _ _ _) ?_)
          intro w8 h8 k8 z8
          have H8 := Lib.hid h8; have HK8 := Lib.hid (HK5.out.then k8 fun x hx => .inr (by have := HNQ.out.2; omega)); have HS8 := Lib.hid (HS5.out.keep k8 HNQ.out.1)
          clear h8 k8 z8 c1
          go_wp2_with fail
          exact bodyPost_ret (results_cell_row rfl _ _ Q _ u0 _ _ rfl H8.out Tryz.underlying55 rfl Tryz.sizeU) rfl ⟨0, 0, 0, 0, by rw [HSH.out]; exact UIs.zero, rfl, HK8.out, by rw [HSH.out]; exact ⟨_, _, by decide, HS8.out, by simp⟩⟩
        · have m0 : decide (0 < (m : Int)) = true := decide_eq_true (by omega)
          have htl : 0 < t.length := by have := HM.out; omega
          obtain ⟨b, off, rfl, _, hc⟩ := HRD.out.at 0 htl
          obtain ⟨x, hx⟩ : ∃ x, x = t[0] := ⟨_, rfl⟩
          have hh : t.head? = some x := by rw [hx]; cases t with
            | nil => simp at htl
            | cons y ys => rfl
          have q : w4.cell? ⟨b, off, none⟩ = some (.int .u8 (x.toNat : Int)) := by rw [hx]; simpa [byteV, u8E] using hc
          clear hc hx
          by_cases hx0 : x = 0
          · have HBAD := Lib.hid (show R = (0, none) by rw [HV.out]; exact amt_bad (.inr ⟨by rw [← HNN.out]; omega, by rw [hh, hx0]⟩))
            have x0 : ((x.toNat : Int) == 0) = true := by rw [hx0]; rfl
            clear hx0 hh
            go_wp2_with fail
            clear q
            refine (rwrong_any w4 g t 0 4 HS4.out).mono ?_
            rintro r w5 ⟨rfl, hk, hs⟩
            have HQ5 := Lib.hid (hk.at HQ4.out (Nat.ne_of_gt HNQ.out.1)); have HK5 := Lib.hid (HK4.out.then hk fun x hx => .inl hx); have HS5 := Lib.hid hs
            clear hk hs c0 c1
            go_wp2_with (refine wpList_store_row_g (t := 55) (old := u0) rfl 55 _ _ rfl Q u0 rfl rfl HQ5.out Tryz.sizeU rfl (one_u64 _ _ _ _) ?_)
            intro w6 h6 k6 z6
            have H6 := Lib.hid h6; have HK6 := Lib.hid (HK5.out.then k6 fun x hx => .inr (by have := HNQ.out.2; omega)); have HS6 := Lib.hid (HS5.out.keep k6 HNQ.out.1)
            clear h6 k6 z6
            go_wp2_with fail
            exact bodyPost_ret (results_cell_row rfl _ _ Q _ u0 _ _ rfl H6.out Tryz.underlying55 rfl Tryz.sizeU) rfl ⟨0, 0, 0, 0, by rw [HBAD.out]; exact UIs.zero, rfl, HK6.out, by rw [HBAD.out]; exact ⟨_, _, by decide, HS6.out, by simp⟩⟩
          · have x0 : ((x.toNat : Int) == 0) = false := by
              simp only [beq_eq_false_iff_ne, ne_eq]
              intro h
              have h2 : x.toNat = 0 := by omega
              exact hx0 (UInt8.toNat_inj.1 h2)
            have HNB : Hid (¬ (32 < c.toNat ∨ (0 < c.toNat ∧ t.head? = some 0))) := Lib.hid (by
              rw [← HNN.out, hh]
              rintro (h | ⟨_, h⟩)
              · omega
              · exact hx0 (Option.some.inj h))
            clear hx0 hh
            by_cases hlt : t.length < N
            · have HSH := Lib.hid (show R = (0, none) by rw [HV.out]; exact amt_short HNB.out (by rw [← HNN.out]; exact hlt))
              have HSN := Lib.hid hlt
              clear hlt
              go_wp2_with fail
              clear n0 m0 q x0
              refine (rtake_any w4 g t 0 N HS4.out HTL.out).mono ?_
              rw [show takeS t 0 N = ([], 3) by unfold takeS; rw [if_neg (by decide), if_pos HSN.out], show takeV t 0 N = [] by unfold takeV; rw [if_neg (by decide), if_pos HSN.out]]
              rintro r w5 ⟨v5, rfl, hk5, hs5, hr5, hn5⟩
              have HQ5 := Lib.hid (hk5.at HQ4.out (Nat.ne_of_gt HNQ.out.1))
              have HK5 := Lib.hid (HK4.out.then hk5 fun x hx => .inl hx)
              have HS5 := Lib.hid hs5; have HRD5 := Lib.hid hr5; have HN5 := Lib.hid hn5
              clear c0 c1
              have c1 : w5.cell? ⟨g, 1, none⟩ = some (.int .i64 3) := hs5.err
              clear hk5 hs5 hr5 hn5 HQ4 HK4 HS4
              go_wp2_with (refine wpList_store_row_g (t := 55) (old := u0) rfl 55 _ _ rfl Q u0 rfl rfl HQ5.out Tryz.sizeU rfl (one_u64 _ _ _ _) ?_)
              intro w8 h8 k8 z8
              have H8 := Lib.hid h8; have HK8 := Lib.hid (HK5.out.then k8 fun x hx => .inr (by have := HNQ.out.2; omega)); have HS8 := Lib.hid (HS5.out.keep k8 HNQ.out.1)
              clear h8 k8 z8 c1
              go_wp2_with fail
              exact bodyPost_ret (results_cell_row rfl _ _ Q _ u0 _ _ rfl H8.out Tryz.underlying55 rfl Tryz.sizeU) rfl ⟨0, 0, 0, 0, by rw [HSH.out]; exact UIs.zero, rfl, HK8.out, by rw [HSH.out]; exact ⟨_, _, by decide, HS8.out, by simp⟩⟩
            · have HGOOD := Lib.hid (show R = (be (t.take c.toNat), some (t.drop c.toNat)) by rw [HV.out]; exact amt_good HNB.out (by rw [← HNN.out]; exact hlt))
              have HLN := Lib.hid hlt
              clear hlt
              go_wp2_with fail
              clear n0 m0 q x0
              refine (rtake_any w4 g t 0 N HS4.out HTL.out).mono ?_
              rw [show takeS t 0 N = (t.drop N, 0) by unfold takeS; rw [if_neg (by decide), if_neg HLN.out], show takeV t 0 N = t.take N by unfold takeV; rw [if_neg (by decide), if_neg HLN.out]]
              rintro r w5 ⟨v5, rfl, hk5, hs5, hr5, hn5⟩
              have HQ5 := Lib.hid (hk5.at HQ4.out (Nat.ne_of_gt HNQ.out.1))
              have HK5 := Lib.hid (HK4.out.then hk5 fun x hx => .inl hx)
              have HS5 := Lib.hid hs5; have HRD5 := Lib.hid hr5; have HN5 := Lib.hid hn5
              clear c0 c1
              have c1 : w5.cell? ⟨g, 1, none⟩ = some (.int .i64 0) := hs5.err
              clear hk5 hs5 hr5 hn5 HQ4 HK4 HS4
              obtain ⟨K, hK⟩ : ∃ K, K = 32 - N := ⟨_, rfl⟩
              have hwS : IntKind.i64.wrap (32 - (N : Int)) = (K : Int) := (IntWalk.i64_in _ (by omega)).trans (by omega)
              have hK32 : K ≤ 32 := by omega
              have hmk := fun w' => Tryz.makeU8 w' K hK32
              have HKN := Lib.hid (show K + N = 32 by omega)
              have HTN := Lib.hid (show (t.take N).length = N by rw [List.length_take]; have := HLN.out; omega)
              have hrd6 : Rd (w5.alloc (.cells (c8 (List.replicate K 0)) 5)) u8E 1 v5 (t.take N) := HRD5.out.alloc _
              have how : Own (w5.alloc (.cells (c8 (List.replicate K 0)) 5)) w5.heap.size 5 u8E 1 (.slice (some ⟨w5.heap.size, 0, none⟩) K K) (List.replicate K (0 : UInt8)) := own_zerosU8 (heap_alloc_new _ _) (Nat.le_refl _) hK32
              have hba : Below w5.heap.size w5 (w5.alloc (.cells (c8 (List.replicate K 0)) 5)) := (Below.refl _ _).alloc (Nat.le_refl _) _
              have HRD6 := Lib.hid hrd6; have HOW := Lib.hid how; have HBA := Lib.hid hba
              clear hrd6 how hba hK
              go_wp2_with (at_builtin; refine own_apps (l2 := t.take N) (enc := u8E) (B := w5.heap.size) (w0 := w5) rfl _ _ 100 rfl Tryz.underlying100 Tryz.infoU8 rfl (by decide) u8_len u8_one HOW.out rfl _ rfl HRD6.out (by rw [HTN.out, List.length_replicate]; have := HKN.out; unfold maxLen; omega) (by rw [HTN.out, List.length_replicate]; have := HKN.out; omega) HBA.out (Nat.le_refl _) HBA.out.size ?_)
              intro v6 w6 ho6 hb6 _
              obtain ⟨BL, hBL⟩ : ∃ x, x = List.replicate K (0 : UInt8) ++ t.take N := ⟨_, rfl⟩
              rw [← hBL] at ho6
              have HBL : Hid (BL.length = 32 ∧ be BL = be (t.take N)) := Lib.hid (by
                rw [hBL]
                refine ⟨?_, be_zeros _ _⟩
                rw [List.length_append, List.length_replicate, HTN.out]
                exact HKN.out)
              have HRD7 := Lib.hid (ho6.rd u8_len)
              have HQ6 := Lib.hid (below_at2 hb6 HQ5.out); have HK6 := Lib.hid (HK5.out.then_below hb6); have HS6 := Lib.hid (HS5.out.later hb6)
              clear hBL ho6 hb6 hmk hwS c1 HQ5 HK5 HS5 HRD5 HRD6 HOW HBA
              go_wp2_with fail
              refine (refFromBytes_any BL _ w6 HRD7.out).mono ?_
              rw [uArr_yes HBL.out.1]
              rintro r w7 ⟨rfl, hb7⟩
              obtain ⟨ua, ub', uc, ud, hua⟩ : ∃ a b c d : Int, a = wd BL 0 ∧ b = wd BL 1 ∧ c = wd BL 2 ∧ d = wd BL 3 := ⟨_, _, _, _, rfl, rfl, rfl, rfl⟩
              have hU := wd_is HBL.out.1
              rw [HBL.out.2] at hU
              unfold uOf uV
              rw [← hua.1, ← hua.2.1, ← hua.2.2.1, ← hua.2.2.2] at hU ⊢
              have HU := Lib.hid hU
              have HQ7 := Lib.hid (below_at2 hb7 HQ6.out); have HK7 := Lib.hid (HK6.out.then_below hb7); have HS7 := Lib.hid (HS6.out.later hb7)
              clear hU hua hb7 HQ6 HK6 HS6
              go_wp2_with (refine wpList_alloc_g rfl _ rfl _ _ Tryz.zeroUn rfl ?_)
              intro E w8 hE
              have HNE : Hid (g < E ∧ w.heap.size ≤ E) := Lib.hid (by have := hE.out.eq; have := HK7.out.size; have := HSlt.out; omega)
              have HQE : Hid (Q ≠ E) := Lib.hid (by have := hE.out.eq; have := heap_lt HQ7.out; omega)
              go_wp2_with (refine wpList_store_row_g (t := 55) (old := u0) rfl 55 _ _ rfl E #[.int .u64 ua, .int .u64 ub', .int .u64 uc, .int .u64 ud] rfl rfl hE.out.cells Tryz.sizeU rfl (one_u64 _ _ _ _) ?_)
              intro w9 h9 k9 z9
              have HE9 := Lib.hid h9
              have hb9 : Below w7.heap.size w7 w9 := hE.out.below.trans (k9.below (B := w7.heap.size) (fun x hx e => by have := hE.out.eq; omega) hE.out.below.size)
              have HQ9 := Lib.hid (below_at2 hb9 HQ7.out); have HK9 := Lib.hid (HK7.out.then_below hb9); have HS9 := Lib.hid (HS7.out.later hb9)
              clear hE h9 k9 z9 hb9 HQ7 HK7 HS7
              go_wp2_with (first
                | (refine wpList_load_row rfl 55 _ rfl E rfl 55 _ _ _ HE9.out Tryz.underlying55 rfl Tryz.sizeU ?_)
                | (refine wpList_store_row_g (t := 55) (old := u0) rfl 55 _ _ rfl Q #[.int .u64 ua, .int .u64 ub', .int .u64 uc, .int .u64 ud] rfl rfl HQ9.out Tryz.sizeU rfl (one_u64 _ _ _ _) ?_))
              intro wa ha ka za
              have Ha := Lib.hid ha; have HKa := Lib.hid (HK9.out.then ka fun x hx => .inr (by have := HNQ.out.2; omega)); have HSa := Lib.hid (HS9.out.keep ka HNQ.out.1)
              clear ha ka za
              go_wp2_with fail
              exact bodyPost_ret (results_cell_row rfl _ _ Q _ _ _ _ rfl Ha.out Tryz.underlying55 rfl Tryz.sizeU) rfl ⟨_, _, _, _, by rw [HGOOD.out, ← HNN.out]; exact HU.out, rfl, HKa.out, by rw [HGOOD.out, ← HNN.out]; exact HSa.out⟩
end
section
open Go.RowKit

theorem res_tct {P : Program} {fn : Func} {p u1 u2 : Tmp} {ty : TypeId} (h : fn.results = #[.tmp u1, .cell p ty, .tmp u2]) (tmps : Array Value) (w : World) (g : Nat) (t : TypeId) (cs : Array Value) (fr : Nat × Nat) (d : TypeDesc)
    (hp : tmps.getD p undef = .pointer (some ⟨g, 0, none⟩)) (hg : w.heap[g]? = some (.cells cs t fr))
    (hu : P.underlying ty = some d) (hd : (match d with | .struct _ | .array _ _ => true | _ => false) = true) (hi : (P.info? ty).map (·.size) = some cs.size) (v1 v2 : Value) (h1 : tmps.getD u1 undef = v1) (h2 : tmps.getD u2 undef = v2) :
    (results fn tmps).run P w = .ok (.tuple #[v1, .agg cs, v2]) w := by
  subst h1 h2
  have h4 : (results fn tmps).run P w =
      ((asAddr (tmps.getD p undef)).run P w).andThen fun a w₁ => ((loadVar ty a).run P w₁).andThen fun v w₂ => .ok (.tuple #[tmps.getD u1 undef, v, tmps.getD u2 undef]) w₂ := by
    simp only [results, h]
    simp [Sem.run_bind, Result.andThen]
  rw [h4, hp]
  have := run_loadVar_row (P := P) w g t ty cs fr d hg hu hd hi
  simp [asAddr, this, Result.andThen]
theorem wp_store_row_gO {P : Program} {o : Oper} {a : Act} {w : World} {K : Act → World → Prop} {Q : Exit → Act → World → Prop} (ty : TypeId) (x y : Operand) (ho : o.op = .store ty x y)
    (g : Nat) (cells : Array Value) (hx : a.eval x = .pointer (some ⟨g, 0, none⟩)) (hy : a.eval y = .agg cells)
    (t : TypeId) (old : Array Value) (hg : w.heap[g]? = some (.cells old t (0, 0))) (hi : (P.info? ty).map (·.size) = some cells.size)
    (hold : old.size = cells.size) (h1 : cells.all (·.oneCell') = true)
    (h : ∀ w', w'.heap[g]? = some (.cells cells t (0, 0)) → Keep (· = g) w w' → w'.heap.size = w.heap.size → K (a.put o.dst undef) w') : o.wp P a w K Q :=
  wp_store_row ty x y ho g cells hx hy t old hg hi hold h1 (h _ (setRow_heap _ _ _ _ _ _ hg) (Keep.setRow (S := (· = g)) (Keep.refl _ _) (.inl rfl) _) (setRow_size _ _ _))
/-- A source over bytes. -/
def ReadRet (w : World) (l : List UInt8) (e : Ending) (w' : World) : Prop := ∃ g, e = .returned (.pointer (some ⟨g, 0, none⟩)) ∧ w.heap.size ≤ g ∧ Below w.heap.size w w' ∧ Src w' g l 0
set_option maxHeartbeats 4000000 in
theorem sread_any (w : World) (v : Value) (l : List UInt8) (hr : Rd w u8E 1 v l) (hlen : l.length < 1000000000) : Calls Tryz.prog 148 #[v] w (ReadRet w l) := by
  have HR := Lib.hid hr; have HL := Lib.hid hlen
  clear hr hlen
  go_enter Tryz.func148, Tryz.ntmps148
  go_wp2_with fail
  refine (clone_bytes w v l HR.out (by have := HL.out; omega)).mono ?_
  rintro e w1 ⟨v1, rfl, ho, hb⟩
  have hrd := ho.rd u8_len
  obtain ⟨ad, cap, rfl, _, _⟩ := hrd.shape
  obtain ⟨n, hn⟩ : ∃ n, n = l.length := ⟨_, rfl⟩
  rw [← hn] at ho hrd ⊢
  have HRD := Lib.hid hrd; have HB := Lib.hid hb; have HLT := Lib.hid (fun q hq => (ho.lt q hq).2 : ∀ q, (Value.slice ad n cap).ownBlock = some q → q < w1.heap.size)
  clear ho hrd hb hn
  go_wp2_with fail
  obtain ⟨w2, hw2⟩ : ∃ w2, w2 = w1.alloc (.cells #[.slice ad n cap, .int .i64 0, .bool true] 293) := ⟨_, rfl⟩
  obtain ⟨g, hg⟩ : ∃ g, g = w1.heap.size := ⟨_, rfl⟩
  rw [← hw2, ← hg]
  have hb2 : Below w1.heap.size w1 w2 := by rw [hw2]; exact (Below.refl _ _).alloc (Nat.le_refl _) _
  have HS := Lib.hid (show Src w2 g l 0 from ⟨ad, n, cap, by rw [hw2, hg]; exact heap_alloc_new _ _, HRD.out.later hb2, fun k hk => by rw [hg]; exact HLT.out k hk⟩)
  have HB2 := Lib.hid (HB.out.trans (hb2.mono HB.out.size)); have HG := Lib.hid (show w.heap.size ≤ g by rw [hg]; exact HB.out.size)
  clear hw2 hg hb2
  go_wp2_with fail
  go_ret
  exact ⟨g, rfl, HG.out, HB2.out, HS.out⟩
/-- What End tells. -/
theorem send_o (w : World) (g : Nat) (o : Option (List UInt8)) (h : SrcO w g o) : Calls Tryz.prog 151 #[.pointer (some ⟨g, 0, none⟩)] w fun e w' => ∃ k : Int, e = .returned (.int .i64 k) ∧ (k = 0 ↔ o = some []) ∧ Keep (· = g) w w' := by
  obtain ⟨l, e, hs, ho⟩ : ∃ l e, Src w g l e ∧ ((endS l e).2 = 0 ↔ o = some []) := by
    cases o with
    | none =>
      obtain ⟨l, e, he, hs⟩ := h
      refine ⟨l, e, hs, ?_⟩
      unfold endS; rw [if_neg (fun k => he k.1)]
      exact ⟨fun k => absurd k he, fun k => by cases k⟩
    | some l =>
      refine ⟨l, 0, h, ?_⟩
      unfold endS
      cases l with
      | nil => rw [if_neg (fun k => by simp at k)]; simp
      | cons c t => rw [if_pos ⟨rfl, by simp⟩]; simp
  exact (send_any w g l e hs).mono fun r w' ⟨h1, h2, _⟩ => ⟨_, h1, ho, h2⟩
theorem rend_o (w : World) (g : Nat) (o : Option (List UInt8)) (h : RSrcO w g o) : Calls Tryz.prog 154 #[.pointer (some ⟨g, 0, none⟩)] w fun e w' => ∃ k : Int, e = .returned (.int .i64 k) ∧ (k = 0 ↔ o = some []) ∧ Keep (· = g) w w' := by
  obtain ⟨l, e, hs, ho⟩ : ∃ l e, RSrc w g l e ∧ ((endS l e).2 = 0 ↔ o = some []) := by
    cases o with
    | none =>
      obtain ⟨l, e, he, hs, _⟩ := h
      refine ⟨l, e, hs, ?_⟩
      unfold endS; rw [if_neg (fun k => he k.1)]
      exact ⟨fun k => absurd k he, fun k => by cases k⟩
    | some l =>
      refine ⟨l, 0, h, ?_⟩
      unfold endS
      cases l with
      | nil => rw [if_neg (fun k => by simp at k)]; simp
      | cons c t => rw [if_pos ⟨rfl, by simp⟩]; simp
  exact (rend_any w g l e hs).mono fun r w' ⟨h1, h2, _⟩ => ⟨_, h1, ho, h2⟩
theorem varO_none {b : List UInt8} (h : varR b = none) : varO (some b) = (0, none) := by simp only [varO, h]
theorem varO_some {b r : List UInt8} {n : Nat} (h : varR b = some (n, r)) : varO (some b) = (n, some r) := by simp only [varO, h]
theorem hashO_none {b : List UInt8} (h : hashR b = none) : hashO (some b) = (zero32, none) := by simp only [hashO, h]
theorem hashO_some {b r x : List UInt8} (h : hashR b = some (x, r)) : hashO (some b) = (x, some r) := by simp only [hashO, h]
theorem amtO_none {b : List UInt8} (h : amtR b = none) : amtO (some b) = (0, none) := by simp only [amtO, h]
theorem amtO_some {b r : List UInt8} {m : Nat} (h : amtR b = some (m, r)) : amtO (some b) = (m, some r) := by simp only [amtO, h]
theorem varR_len {b r : List UInt8} {n : Nat} (h : varR b = some (n, r)) : r.length ≤ b.length := by
  unfold varR at h
  cases hg : grp 0 b with
  | none => rw [hg] at h; cases h
  | some s => rw [hg] at h; simp only [Option.map_some] at h; cases h; simp
theorem varO_len {b l : List UInt8} (h : (varO (some b)).2 = some l) : l.length ≤ b.length := by
  cases hv : varR b with
  | none => rw [varO_none hv] at h; cases h
  | some x => obtain ⟨n, r⟩ := x; rw [varO_some hv] at h; cases h; exact varR_len hv
theorem hashO_len {o : Option (List UInt8)} {l : List UInt8} (h : (hashO o).2 = some l) : ∃ b, o = some b ∧ l.length ≤ b.length := by
  cases o with
  | none => cases h
  | some b =>
    refine ⟨b, rfl, ?_⟩
    by_cases hl : b.length < 32
    · rw [hashO_short hl] at h; cases h
    · rw [hashO_long hl] at h; cases h; simp
theorem toEar_o (b : List UInt8) : toEar b = if (hashO (varO (some b)).2).2 = some [] then some ((varO (some b)).1, (hashO (varO (some b)).2).1) else none := by
  unfold toEar
  cases hv : varR b with
  | none => rw [varO_none hv]; rw [if_neg (fun k => by cases k)]
  | some x =>
    obtain ⟨n, r⟩ := x
    rw [varO_some hv]
    simp only []
    cases hh : hashR r with
    | none => rw [hashO_none hh]; rw [if_neg (fun k => by cases k)]
    | some y =>
      obtain ⟨h, r2⟩ := y
      rw [hashO_some hh]
      simp only []
      by_cases hr : r2 = []
      · rw [if_pos hr, if_pos (by rw [hr])]
      · rw [if_neg hr, if_neg (fun k => hr (Option.some.inj k))]
theorem toTok_o (b : List UInt8) : toTok b = if (amtO (varO (some b)).2).2 = some [] then some ((varO (some b)).1, (amtO (varO (some b)).2).1) else none := by
  unfold toTok
  cases hv : varR b with
  | none => rw [varO_none hv]; rw [if_neg (fun k => by cases k)]
  | some x =>
    obtain ⟨n, r⟩ := x
    rw [varO_some hv]
    simp only []
    cases hh : amtR r with
    | none => rw [amtO_none hh]; rw [if_neg (fun k => by cases k)]
    | some y =>
      obtain ⟨h, r2⟩ := y
      rw [amtO_some hh]
      simp only []
      by_cases hr : r2 = []
      · rw [if_pos hr, if_pos (by rw [hr])]
      · rw [if_neg hr, if_neg (fun k => hr (Option.some.inj k))]
/-- What ToEarner, ToToken hand back. -/
def earV (b : List UInt8) : Value := match toEar b with
  | some (n, h) => .tuple #[.int .i64 (n : Int), .agg (c8 h), .bool true]
  | none => .tuple #[.int .i64 0, .agg (c8 zero32), .bool false]
def TokRet (w : World) (b : List UInt8) (e : Ending) (w' : World) : Prop := Below w.heap.size w w' ∧ ∃ x y z u : Int, UIs x y z u ((toTok b).getD (0, 0)).2 ∧ e = .returned (.tuple #[.int .i64 (((toTok b).getD (0, 0)).1 : Int), .agg #[.int .u64 x, .int .u64 y, .int .u64 z, .int .u64 u], .bool (toTok b).isSome])
theorem tokLt {w : World} {b : List UInt8} {e : Ending} {w' : World} {n m : Nat} (hb : Below w.heap.size w w') {x y z u : Int} (h : toTok b = some (n, m)) (hu : UIs x y z u m) (he : e = .returned (.tuple #[.int .i64 (n : Int), .agg #[.int .u64 x, .int .u64 y, .int .u64 z, .int .u64 u], .bool true])) : TokRet w b e w' :=
  ⟨hb, x, y, z, u, by rw [h]; exact hu, by rw [h]; exact he⟩
theorem tokNo {w : World} {b : List UInt8} {e : Ending} {w' : World} (hb : Below w.heap.size w w') (h : toTok b = none) (he : e = .returned (.tuple #[.int .i64 0, .agg u0, .bool false])) : TokRet w b e w' :=
  ⟨hb, 0, 0, 0, 0, by rw [h]; exact UIs.zero, by rw [h]; exact he⟩
set_option maxHeartbeats 16000000 in
set_option maxRecDepth 100000 in
theorem toear_any (w : World) (v : Value) (b : List UInt8) (hr : Rd w u8E 1 v b) (hlen : b.length < 1000000000) : Calls Tryz.prog 54 #[v] w (fun e w' => e = .returned (earV b) ∧ Below w.heap.size w w') := by
  obtain ⟨q, hq⟩ : ∃ q, q = earV b := ⟨_, rfl⟩
  rw [← hq]
  have HQ := Lib.hid hq
  clear hq
  have HR := Lib.hid hr; have HL := Lib.hid hlen
  clear hr hlen
  go_enter Tryz.func54, Tryz.ntmps54
  go_wp2_with (refine wpList_alloc_g rfl _ rfl _ _ Tryz.zeroHash rfl ?_)
  intro R w1 hR
  have HR1 := Lib.hid hR.out.cells; have HB1 := Lib.hid hR.out.below; have HRw := Lib.hid (show w.heap.size ≤ R by rw [hR.out.eq]; exact Nat.le_refl _)
  clear hR
  go_wp2_with fail
  refine (sread_any w1 v b (HR.out.later HB1.out) HL.out).mono ?_
  rintro e w2 ⟨g, rfl, hg, hb2, hs⟩
  have HS2 := Lib.hid (show SrcO w2 g (some b) from hs); have HB2 := Lib.hid (HB1.out.trans (hb2.mono HB1.out.size)); have HGR := Lib.hid (show R < g ∧ g < w2.heap.size by refine ⟨by have := heap_lt HR1.out; omega, ?_⟩; obtain ⟨_, _, _, h1, _⟩ := hs; exact heap_lt h1); have HR2 := Lib.hid (below_at2 hb2 HR1.out)
  clear hg hb2 hs HR1 HB1
  go_wp2_with fail
  refine (svar_any w2 g (some b) _ (by decide) HS2.out (fun l h => by cases h; exact HL.out)).mono ?_
  obtain ⟨o1, ho1⟩ : ∃ o, o = (varO (some b)).2 := ⟨_, rfl⟩
  obtain ⟨n, hn⟩ : ∃ n, n = (varO (some b)).1 := ⟨_, rfl⟩
  rw [← ho1, ← hn]
  have HO1 := Lib.hid ho1; have HN := Lib.hid hn
  have HL1 := Lib.hid (show ∀ l, o1 = some l → l.length < 1000000000 from fun l h => by rw [ho1] at h; have := varO_len h; have := HL.out; omega)
  clear ho1 hn
  rintro e w3 ⟨rfl, hk3, hs3⟩
  have HR3 := Lib.hid (hk3.at HR2.out (Nat.ne_of_lt HGR.out.1)); have HB3 := Lib.hid (hk3.onto HB2.out (Nat.le_refl _) (by have := HGR.out.1; have := HRw.out; omega)); have HS3 := Lib.hid hs3; have HG3 := Lib.hid (Nat.lt_of_lt_of_le HGR.out.2 hk3.size)
  clear hk3 hs3 HR2 HB2 HS2
  go_wp2_with fail
  refine (shash_any w3 g o1 HS3.out).mono ?_
  obtain ⟨o2, ho2⟩ : ∃ o, o = (hashO o1).2 := ⟨_, rfl⟩
  obtain ⟨hh, hhh⟩ : ∃ h, h = (hashO o1).1 := ⟨_, rfl⟩
  have h32 := hashO_32 o1
  rw [← hhh] at h32
  have H32 := Lib.hid h32
  clear h32
  rw [← ho2, ← hhh]
  have HO2 := Lib.hid ho2; have HH := Lib.hid hhh
  clear ho2 hhh
  rintro e w4 ⟨rfl, hk4, hs4⟩
  have HR4 := Lib.hid (hk4.at HR3.out (Nat.ne_of_lt HGR.out.1)); have HB4 := Lib.hid (hk4.onto HB3.out (Nat.le_refl _) (by have := HGR.out.1; have := HRw.out; omega)); have HS4 := Lib.hid hs4; have HG4 := Lib.hid (Nat.lt_of_lt_of_le HG3.out hk4.size)
  clear hk4 hs4 HR3 HB3 HS3 HG3
  go_wp2_with (refine wpList_alloc_g rfl _ rfl _ _ Tryz.zeroHash rfl ?_)
  intro H w5 hH
  go_wp2_with (refine wpList_store_row_g (t := 36) (old := (cB 32 [])) rfl 36 _ _ rfl H (c8 hh) rfl rfl hH.out.cells (Tryz.sizeHc hh H32.out) (by rw [c8_size, H32.out]; rfl) (by rw [← cB_full 32 _ H32.out]; exact one_b _ _) ?_)
  intro w6 h6 k6 z6
  have hb6 : Below w4.heap.size w4 w6 := hH.out.below.trans (k6.below (B := w4.heap.size) (fun x hx e => by have := hH.out.eq; omega) hH.out.below.size)
  have HH6 := Lib.hid h6; have HR6 := Lib.hid (below_at2 hb6 HR4.out); have HB6 := Lib.hid (HB4.out.trans (hb6.mono HB4.out.size)); have HNH := Lib.hid (show g < H ∧ R < H by have := hH.out.eq; have := HG4.out; have := HGR.out.1; omega)
  have HS6 := Lib.hid (show SrcO w6 g o2 by
    cases o2 with
    | none => obtain ⟨l, e, he, hs⟩ := HS4.out; exact ⟨l, e, he, hs.later hb6⟩
    | some l => exact Src.later HS4.out hb6)
  clear hH h6 k6 z6 hb6 HR4 HB4 HS4
  go_wp2_with fail
  refine (send_o w6 g o2 HS6.out).mono ?_
  rintro e w7 ⟨k, rfl, hk0, hk7⟩
  have HK0 := Lib.hid hk0
  have HH7 := Lib.hid (hk7.at HH6.out (Nat.ne_of_gt HNH.out.1)); have HR7 := Lib.hid (hk7.at HR6.out (Nat.ne_of_lt HGR.out.1)); have HB7 := Lib.hid (hk7.onto HB6.out (Nat.le_refl _) (by have := HGR.out.1; have := HRw.out; omega))
  clear hk0 hk7 HH6 HR6 HB6 HS6
  by_cases hk : k = 0
  · have HT := Lib.hid (show toEar b = some (n, hh) by rw [toEar_o, ← HO1.out, ← HO2.out, if_pos (HK0.out.1 hk), ← HN.out, ← HH.out])
    have hk1 : (k != 0) = false := by simpa using hk
    clear hk
    go_upto_region 6 with fail
    obtain ⟨wz, hwz⟩ : ∃ wz, wz = w7.drew := ⟨_, rfl⟩
    have hbz : Below w7.heap.size w7 wz := by rw [hwz]; exact (Below.refl _ _).drew
    have hS : wz.heap[H]? = some (.cells (c8 hh) 36 (0, 0)) := below_at2 hbz HH7.out
    have HRz := Lib.hid (below_at2 hbz HR7.out); have HBz := Lib.hid (HB7.out.trans (hbz.mono HB7.out.size))
    clear hbz HH7 HR7 HB7
    refine wp_region_till (fun w' => w'.heap[H]? = some (.cells (c8 hh) 36 (0, 0))) 5 5 (by kernel_rfl) rfl ?_
    rw [← hwz]
    clear hwz
    refine till_take 0 (some 18) rfl rfl (by kernel_rfl) (by kernel_rfl) (by kernel_rfl) (by kernel_rfl) (by kernel_rfl) (by kernel_rfl) (fun _ _ _ h => h) (.inl ⟨by rfl, fun w' _ => (by go_simp; rfl)⟩) hS ?_
    go_frame
    refine till_take 1 (some 19) rfl rfl (by kernel_rfl) (by kernel_rfl) (by kernel_rfl) (by kernel_rfl) (by kernel_rfl) (by kernel_rfl) (fun _ _ _ h => h) (yields_load (by rfl) 36 _ rfl (.pointer (some ⟨H, 0, none⟩)) rfl (.agg (c8 hh)) (fun w' hS' => load_blk hS' Tryz.underlying36 rfl (Tryz.sizeHc hh H32.out))) hS ?_
    go_frame
    refine till_take 2 (some 2) rfl rfl (by kernel_rfl) (by kernel_rfl) (by kernel_rfl) (by kernel_rfl) (by kernel_rfl) (by kernel_rfl) (fun _ _ _ h => h) (.inl ⟨by rfl, fun w' _ => (by go_simp; rfl)⟩) hS ?_
    go_frame
    refine till_one 3 rfl (by kernel_rfl) fun K hK => ?_
    simp only [List.getElem_toArray, List.getElem_cons_succ, List.getElem_cons_zero]
    rw [if_pos (by rfl)]
    refine wp_store_row_gO (t := 36) (old := (cB 32 [])) 36 _ _ rfl R (c8 hh) rfl rfl HRz.out (Tryz.sizeHc hh H32.out) (by rw [c8_size, H32.out]; rfl) (by rw [← cB_full 32 _ H32.out]; exact one_b _ _) ?_
    intro w8 h8 k8 z8
    have HR8 := Lib.hid h8; have HB8 := Lib.hid (k8.onto HBz.out (Nat.le_refl _) HRw.out)
    have hS8 := k8.at hS (Nat.ne_of_gt HNH.out.2)
    refine hK _ _ (fun _ _ => hS8) ?_
    clear hK hS h8 k8 z8 HRz HBz
    have hS := hS8
    clear hS8
    refine till_take 4 (some 4) rfl rfl (by kernel_rfl) (by kernel_rfl) (by kernel_rfl) (by kernel_rfl) (by kernel_rfl) (by kernel_rfl) (fun _ _ _ h => h) (.inl ⟨by rfl, fun w' _ => (by go_simp; rfl)⟩) hS ?_
    go_frame
    refine till_done (by kernel_rfl) ?_ _
    clear hS
    go_wp2_with fail
    exact bodyPost_ret (res_tct rfl _ _ R _ (c8 hh) _ _ rfl HR8.out Tryz.underlying36 rfl (Tryz.sizeHc hh H32.out) _ _ rfl rfl) rfl ⟨by rw [HQ.out]; unfold earV; rw [HT.out]; rfl, HB8.out⟩
  · have HT := Lib.hid (show toEar b = none by rw [toEar_o, ← HO1.out, ← HO2.out, if_neg (fun h => hk (HK0.out.2 h))])
    have hk1 : (k != 0) = true := by simpa using hk
    clear hk
    go_wp2_with (refine wpList_store_row_g (t := 36) (old := (cB 32 [])) rfl 36 _ _ rfl R (c8 zero32) rfl rfl HR7.out (Tryz.sizeHc zero32 zero32_length) (by rw [c8_size, zero32_length]; rfl) (by rw [← cB_full 32 _ zero32_length]; exact one_b _ _) ?_)
    intro w8 h8 k8 z8
    have H8 := Lib.hid h8; have HB8 := Lib.hid (k8.onto HB7.out (Nat.le_refl _) HRw.out)
    clear h8 k8 z8
    go_wp2_with fail
    exact bodyPost_ret (res_tct rfl _ _ R _ (c8 zero32) _ _ rfl H8.out Tryz.underlying36 rfl (Tryz.sizeHc zero32 zero32_length) _ _ rfl rfl) rfl ⟨by rw [HQ.out]; unfold earV; rw [HT.out]; rfl, HB8.out⟩
set_option maxHeartbeats 16000000 in
set_option maxRecDepth 100000 in
theorem totok_any (w : World) (v : Value) (b : List UInt8) (hr : Rd w u8E 1 v b) (hlen : b.length < 1000000000) : Calls Tryz.prog 56 #[v] w (TokRet w b) := by
  have HR := Lib.hid hr; have HL := Lib.hid hlen
  clear hr hlen
  go_enter Tryz.func56, Tryz.ntmps56
  go_wp2_with (refine wpList_alloc_g rfl _ rfl _ _ Tryz.zeroUn rfl ?_)
  intro R w1 hR
  have HR1 := Lib.hid hR.out.cells; have HB1 := Lib.hid hR.out.below; have HRw := Lib.hid (show w.heap.size ≤ R by rw [hR.out.eq]; exact Nat.le_refl _)
  clear hR
  go_wp2_with fail
  refine (sread_any w1 v b (HR.out.later HB1.out) HL.out).mono ?_
  rintro e w2 ⟨g, rfl, hg, hb2, hs⟩
  have HS2 := Lib.hid (show SrcO w2 g (some b) from hs); have HB2 := Lib.hid (HB1.out.trans (hb2.mono HB1.out.size)); have HGR := Lib.hid (show R < g ∧ g < w2.heap.size by refine ⟨by have := heap_lt HR1.out; omega, ?_⟩; obtain ⟨_, _, _, h1, _⟩ := hs; exact heap_lt h1); have HR2 := Lib.hid (below_at2 hb2 HR1.out)
  clear hg hb2 hs HR1 HB1
  go_wp2_with fail
  refine (svar_any w2 g (some b) _ (by decide) HS2.out (fun l h => by cases h; exact HL.out)).mono ?_
  obtain ⟨o1, ho1⟩ : ∃ o, o = (varO (some b)).2 := ⟨_, rfl⟩
  obtain ⟨n, hn⟩ : ∃ n, n = (varO (some b)).1 := ⟨_, rfl⟩
  rw [← ho1, ← hn]
  have HO1 := Lib.hid ho1; have HN := Lib.hid hn
  have HL1 := Lib.hid (show ∀ l, o1 = some l → l.length < 1000000000 from fun l h => by rw [ho1] at h; have := varO_len h; have := HL.out; omega)
  clear ho1 hn
  rintro e w3 ⟨rfl, hk3, hs3⟩
  have HR3 := Lib.hid (hk3.at HR2.out (Nat.ne_of_lt HGR.out.1)); have HB3 := Lib.hid (hk3.onto HB2.out (Nat.le_refl _) (by have := HGR.out.1; have := HRw.out; omega)); have HS3 := Lib.hid hs3; have HG3 := Lib.hid (Nat.lt_of_lt_of_le HGR.out.2 hk3.size)
  clear hk3 hs3 HR2 HB2 HS2
  go_wp2_with fail
  refine (samt_any w3 g o1 HS3.out).mono ?_
  obtain ⟨o2, ho2⟩ : ∃ o, o = (amtO o1).2 := ⟨_, rfl⟩
  obtain ⟨hh, hhh⟩ : ∃ h, h = (amtO o1).1 := ⟨_, rfl⟩
  rw [← ho2, ← hhh]
  have HO2 := Lib.hid ho2; have HH := Lib.hid hhh
  clear ho2 hhh
  rintro e w4 ⟨ua, ub', uc, ud, hu, rfl, hk4, hs4⟩
  have HU := Lib.hid hu
  clear hu
  have HR4 := Lib.hid (hk4.at HR3.out (Nat.ne_of_lt HGR.out.1)); have HB4 := Lib.hid (hk4.onto HB3.out (Nat.le_refl _) (by have := HGR.out.1; have := HRw.out; omega)); have HS4 := Lib.hid hs4; have HG4 := Lib.hid (Nat.lt_of_lt_of_le HG3.out hk4.size)
  clear hk4 hs4 HR3 HB3 HS3 HG3
  go_wp2_with (refine wpList_alloc_g rfl _ rfl _ _ Tryz.zeroUn rfl ?_)
  intro H w5 hH
  go_wp2_with (refine wpList_store_row_g (t := 55) (old := u0) rfl 55 _ _ rfl H #[.int .u64 ua, .int .u64 ub', .int .u64 uc, .int .u64 ud] rfl rfl hH.out.cells Tryz.sizeU rfl (one_u64 _ _ _ _) ?_)
  intro w6 h6 k6 z6
  have hb6 : Below w4.heap.size w4 w6 := hH.out.below.trans (k6.below (B := w4.heap.size) (fun x hx e => by have := hH.out.eq; omega) hH.out.below.size)
  have HH6 := Lib.hid h6; have HR6 := Lib.hid (below_at2 hb6 HR4.out); have HB6 := Lib.hid (HB4.out.trans (hb6.mono HB4.out.size)); have HNH := Lib.hid (show g < H ∧ R < H by have := hH.out.eq; have := HG4.out; have := HGR.out.1; omega)
  have HS6 := Lib.hid (show SrcO w6 g o2 by
    cases o2 with
    | none => obtain ⟨l, e, he, hs⟩ := HS4.out; exact ⟨l, e, he, hs.later hb6⟩
    | some l => exact Src.later HS4.out hb6)
  clear hH h6 k6 z6 hb6 HR4 HB4 HS4
  go_wp2_with fail
  refine (send_o w6 g o2 HS6.out).mono ?_
  rintro e w7 ⟨k, rfl, hk0, hk7⟩
  have HK0 := Lib.hid hk0
  have HH7 := Lib.hid (hk7.at HH6.out (Nat.ne_of_gt HNH.out.1)); have HR7 := Lib.hid (hk7.at HR6.out (Nat.ne_of_lt HGR.out.1)); have HB7 := Lib.hid (hk7.onto HB6.out (Nat.le_refl _) (by have := HGR.out.1; have := HRw.out; omega))
  clear hk0 hk7 HH6 HR6 HB6 HS6
  by_cases hk : k = 0
  · have HT := Lib.hid (show toTok b = some (n, hh) by rw [toTok_o, ← HO1.out, ← HO2.out, if_pos (HK0.out.1 hk), ← HN.out, ← HH.out])
    have hk1 : (k != 0) = false := by simpa using hk
    clear hk
    go_upto_region 6 with fail
    obtain ⟨wz, hwz⟩ : ∃ wz, wz = w7.drew := ⟨_, rfl⟩
    have hbz : Below w7.heap.size w7 wz := by rw [hwz]; exact (Below.refl _ _).drew
    have hS : wz.heap[H]? = some (.cells #[.int .u64 ua, .int .u64 ub', .int .u64 uc, .int .u64 ud] 55 (0, 0)) := below_at2 hbz HH7.out
    have HRz := Lib.hid (below_at2 hbz HR7.out); have HBz := Lib.hid (HB7.out.trans (hbz.mono HB7.out.size))
    clear hbz HH7 HR7 HB7
    refine wp_region_till (fun w' => w'.heap[H]? = some (.cells #[.int .u64 ua, .int .u64 ub', .int .u64 uc, .int .u64 ud] 55 (0, 0))) 5 5 (by kernel_rfl) rfl ?_
    rw [← hwz]
    clear hwz
    refine till_take 0 (some 18) rfl rfl (by kernel_rfl) (by kernel_rfl) (by kernel_rfl) (by kernel_rfl) (by kernel_rfl) (by kernel_rfl) (fun _ _ _ h => h) (.inl ⟨by rfl, fun w' _ => (by go_simp; rfl)⟩) hS ?_
    go_frame
    refine till_take 1 (some 19) rfl rfl (by kernel_rfl) (by kernel_rfl) (by kernel_rfl) (by kernel_rfl) (by kernel_rfl) (by kernel_rfl) (fun _ _ _ h => h) (yields_load (by rfl) 55 _ rfl (.pointer (some ⟨H, 0, none⟩)) rfl (.agg #[.int .u64 ua, .int .u64 ub', .int .u64 uc, .int .u64 ud]) (fun w' hS' => load_blk hS' Tryz.underlying55 rfl Tryz.sizeU)) hS ?_
    go_frame
    refine till_take 2 (some 2) rfl rfl (by kernel_rfl) (by kernel_rfl) (by kernel_rfl) (by kernel_rfl) (by kernel_rfl) (by kernel_rfl) (fun _ _ _ h => h) (.inl ⟨by rfl, fun w' _ => (by go_simp; rfl)⟩) hS ?_
    go_frame
    refine till_one 3 rfl (by kernel_rfl) fun K hK => ?_
    simp only [List.getElem_toArray, List.getElem_cons_succ, List.getElem_cons_zero]
    rw [if_pos (by rfl)]
    refine wp_store_row_gO (t := 55) (old := u0) 55 _ _ rfl R #[.int .u64 ua, .int .u64 ub', .int .u64 uc, .int .u64 ud] rfl rfl HRz.out Tryz.sizeU rfl (one_u64 _ _ _ _) ?_
    intro w8 h8 k8 z8
    have HR8 := Lib.hid h8; have HB8 := Lib.hid (k8.onto HBz.out (Nat.le_refl _) HRw.out)
    have hS8 := k8.at hS (Nat.ne_of_gt HNH.out.2)
    refine hK _ _ (fun _ _ => hS8) ?_
    clear hK hS h8 k8 z8 HRz HBz
    have hS := hS8
    clear hS8
    refine till_take 4 (some 4) rfl rfl (by kernel_rfl) (by kernel_rfl) (by kernel_rfl) (by kernel_rfl) (by kernel_rfl) (by kernel_rfl) (fun _ _ _ h => h) (.inl ⟨by rfl, fun w' _ => (by go_simp; rfl)⟩) hS ?_
    go_frame
    refine till_done (by kernel_rfl) ?_ _
    clear hS
    go_wp2_with fail
    exact bodyPost_ret (res_tct rfl _ _ R _ _ _ _ rfl HR8.out Tryz.underlying55 rfl Tryz.sizeU _ _ rfl rfl) rfl (tokLt HB8.out HT.out HU.out rfl)
  · have HT := Lib.hid (show toTok b = none by rw [toTok_o, ← HO1.out, ← HO2.out, if_neg (fun h => hk (HK0.out.2 h))])
    have hk1 : (k != 0) = true := by simpa using hk
    clear hk
    go_wp2_with (refine wpList_store_row_g (t := 55) (old := u0) rfl 55 _ _ rfl R u0 rfl rfl HR7.out Tryz.sizeU rfl (one_u64 _ _ _ _) ?_)
    intro w8 h8 k8 z8
    have H8 := Lib.hid h8; have HB8 := Lib.hid (k8.onto HB7.out (Nat.le_refl _) HRw.out)
    clear h8 k8 z8
    go_wp2_with fail
    exact bodyPost_ret (res_tct rfl _ _ R _ u0 _ _ rfl H8.out Tryz.underlying55 rfl Tryz.sizeU _ _ rfl rfl) rfl (tokNo HB8.out HT.out rfl)
set_option maxHeartbeats 16000000 in
set_option maxRecDepth 100000 in
theorem rtoear_any (w : World) (v : Value) (b : List UInt8) (hr : Rd w u8E 1 v b) (hlen : b.length < 1000000000) : Calls Tryz.prog 55 #[v] w (fun e w' => e = .returned (earV b) ∧ Below w.heap.size w w') := by
  obtain ⟨q, hq⟩ : ∃ q, q = earV b := ⟨_, rfl⟩
  rw [← hq]
  have HQ := Lib.hid hq
  clear hq
  have HR := Lib.hid hr; have HL := Lib.hid hlen
  obtain ⟨ad, cap, rfl, _, _⟩ := hr.shape
  obtain ⟨nb, hnb⟩ : ∃ n, n = b.length := ⟨_, rfl⟩
  rw [← hnb] at HR ⊢
  clear hnb
  clear hr hlen
  go_enter Tryz.func55, Tryz.ntmps55
  go_wp2_with (refine wpList_alloc_g rfl _ rfl _ _ Tryz.zeroHash rfl ?_)
  intro R w1 hR
  have HR1 := Lib.hid hR.out.cells; have HB1 := Lib.hid hR.out.below; have HRw := Lib.hid (show w.heap.size ≤ R by rw [hR.out.eq]; exact Nat.le_refl _)
  clear hR
  go_wp2_with fail
  obtain ⟨w2, hw2⟩ : ∃ w2, w2 = w1.alloc (.cells #[.slice ad nb cap, .int .i64 0] 218) := ⟨_, rfl⟩
  obtain ⟨g, hg⟩ : ∃ g, g = w1.heap.size := ⟨_, rfl⟩
  rw [← hw2, ← hg]
  have hb2 : Below w1.heap.size w1 w2 := by rw [hw2]; exact (Below.refl _ _).alloc (Nat.le_refl _) _
  have HS2 := Lib.hid (show RSrcO w2 g (some b) from ⟨ad, nb, cap, by rw [hw2, hg]; exact heap_alloc_new _ _, (HR.out.later HB1.out).later hb2, fun k hk hne => by have := HR.out.lt k hk hne; have := HB1.out.size; omega⟩)
  have HB2 := Lib.hid (HB1.out.trans (hb2.mono HB1.out.size)); have HGR := Lib.hid (show R < g ∧ g < w2.heap.size by refine ⟨by rw [hg]; exact heap_lt HR1.out, ?_⟩; rw [hw2, hg, World.size_alloc]; exact Nat.lt_succ_self _); have HR2 := Lib.hid (below_at2 hb2 HR1.out)
  clear hw2 hg hb2 HR1 HB1
  refine (rsvar_any w2 g (some b) _ (by decide) HS2.out (fun l h => by cases h; exact HL.out)).mono ?_
  obtain ⟨o1, ho1⟩ : ∃ o, o = (varO (some b)).2 := ⟨_, rfl⟩
  obtain ⟨n, hn⟩ : ∃ n, n = (varO (some b)).1 := ⟨_, rfl⟩
  rw [← ho1, ← hn]
  have HO1 := Lib.hid ho1; have HN := Lib.hid hn
  have HL1 := Lib.hid (show ∀ l, o1 = some l → l.length < 1000000000 from fun l h => by rw [ho1] at h; have := varO_len h; have := HL.out; omega)
  clear ho1 hn
  rintro e w3 ⟨rfl, hk3, hs3⟩
  have HR3 := Lib.hid (hk3.at HR2.out (Nat.ne_of_lt HGR.out.1)); have HB3 := Lib.hid (hk3.onto HB2.out (Nat.le_refl _) (by have := HGR.out.1; have := HRw.out; omega)); have HS3 := Lib.hid hs3; have HG3 := Lib.hid (Nat.lt_of_lt_of_le HGR.out.2 hk3.size)
  clear hk3 hs3 HR2 HB2 HS2
  go_wp2_with fail
  refine (rshash_any w3 g o1 HS3.out HL1.out).mono ?_
  obtain ⟨o2, ho2⟩ : ∃ o, o = (hashO o1).2 := ⟨_, rfl⟩
  obtain ⟨hh, hhh⟩ : ∃ h, h = (hashO o1).1 := ⟨_, rfl⟩
  have h32 := hashO_32 o1
  rw [← hhh] at h32
  have H32 := Lib.hid h32
  clear h32
  rw [← ho2, ← hhh]
  have HO2 := Lib.hid ho2; have HH := Lib.hid hhh
  clear ho2 hhh
  rintro e w4 ⟨rfl, hk4, hs4⟩
  have HR4 := Lib.hid (hk4.at HR3.out (Nat.ne_of_lt HGR.out.1)); have HB4 := Lib.hid (hk4.onto HB3.out (Nat.le_refl _) (by have := HGR.out.1; have := HRw.out; omega)); have HS4 := Lib.hid hs4; have HG4 := Lib.hid (Nat.lt_of_lt_of_le HG3.out hk4.size)
  clear hk4 hs4 HR3 HB3 HS3 HG3
  go_wp2_with (refine wpList_alloc_g rfl _ rfl _ _ Tryz.zeroHash rfl ?_)
  intro H w5 hH
  go_wp2_with (refine wpList_store_row_g (t := 36) (old := (cB 32 [])) rfl 36 _ _ rfl H (c8 hh) rfl rfl hH.out.cells (Tryz.sizeHc hh H32.out) (by rw [c8_size, H32.out]; rfl) (by rw [← cB_full 32 _ H32.out]; exact one_b _ _) ?_)
  intro w6 h6 k6 z6
  have hb6 : Below w4.heap.size w4 w6 := hH.out.below.trans (k6.below (B := w4.heap.size) (fun x hx e => by have := hH.out.eq; omega) hH.out.below.size)
  have HH6 := Lib.hid h6; have HR6 := Lib.hid (below_at2 hb6 HR4.out); have HB6 := Lib.hid (HB4.out.trans (hb6.mono HB4.out.size)); have HNH := Lib.hid (show g < H ∧ R < H by have := hH.out.eq; have := HG4.out; have := HGR.out.1; omega)
  have HS6 := Lib.hid (show RSrcO w6 g o2 by
    cases o2 with
    | none => obtain ⟨l, e, he, hs, hl⟩ := HS4.out; exact ⟨l, e, he, hs.later hb6, hl⟩
    | some l => exact RSrc.later HS4.out hb6)
  clear hH h6 k6 z6 hb6 HR4 HB4 HS4
  go_wp2_with fail
  refine (rend_o w6 g o2 HS6.out).mono ?_
  rintro e w7 ⟨k, rfl, hk0, hk7⟩
  have HK0 := Lib.hid hk0
  have HH7 := Lib.hid (hk7.at HH6.out (Nat.ne_of_gt HNH.out.1)); have HR7 := Lib.hid (hk7.at HR6.out (Nat.ne_of_lt HGR.out.1)); have HB7 := Lib.hid (hk7.onto HB6.out (Nat.le_refl _) (by have := HGR.out.1; have := HRw.out; omega))
  clear hk0 hk7 HH6 HR6 HB6 HS6
  by_cases hk : k = 0
  · have HT := Lib.hid (show toEar b = some (n, hh) by rw [toEar_o, ← HO1.out, ← HO2.out, if_pos (HK0.out.1 hk), ← HN.out, ← HH.out])
    have hk1 : (k != 0) = false := by simpa using hk
    clear hk
    go_upto_region 6 with fail
    obtain ⟨wz, hwz⟩ : ∃ wz, wz = w7.drew := ⟨_, rfl⟩
    have hbz : Below w7.heap.size w7 wz := by rw [hwz]; exact (Below.refl _ _).drew
    have hS : wz.heap[H]? = some (.cells (c8 hh) 36 (0, 0)) := below_at2 hbz HH7.out
    have HRz := Lib.hid (below_at2 hbz HR7.out); have HBz := Lib.hid (HB7.out.trans (hbz.mono HB7.out.size))
    clear hbz HH7 HR7 HB7
    refine wp_region_till (fun w' => w'.heap[H]? = some (.cells (c8 hh) 36 (0, 0))) 5 5 (by kernel_rfl) rfl ?_
    rw [← hwz]
    clear hwz
    refine till_take 0 (some 19) rfl rfl (by kernel_rfl) (by kernel_rfl) (by kernel_rfl) (by kernel_rfl) (by kernel_rfl) (by kernel_rfl) (fun _ _ _ h => h) (.inl ⟨by rfl, fun w' _ => (by go_simp; rfl)⟩) hS ?_
    go_frame
    refine till_take 1 (some 20) rfl rfl (by kernel_rfl) (by kernel_rfl) (by kernel_rfl) (by kernel_rfl) (by kernel_rfl) (by kernel_rfl) (fun _ _ _ h => h) (yields_load (by rfl) 36 _ rfl (.pointer (some ⟨H, 0, none⟩)) rfl (.agg (c8 hh)) (fun w' hS' => load_blk hS' Tryz.underlying36 rfl (Tryz.sizeHc hh H32.out))) hS ?_
    go_frame
    refine till_take 2 (some 2) rfl rfl (by kernel_rfl) (by kernel_rfl) (by kernel_rfl) (by kernel_rfl) (by kernel_rfl) (by kernel_rfl) (fun _ _ _ h => h) (.inl ⟨by rfl, fun w' _ => (by go_simp; rfl)⟩) hS ?_
    go_frame
    refine till_one 3 rfl (by kernel_rfl) fun K hK => ?_
    simp only [List.getElem_toArray, List.getElem_cons_succ, List.getElem_cons_zero]
    rw [if_pos (by rfl)]
    refine wp_store_row_gO (t := 36) (old := (cB 32 [])) 36 _ _ rfl R (c8 hh) rfl rfl HRz.out (Tryz.sizeHc hh H32.out) (by rw [c8_size, H32.out]; rfl) (by rw [← cB_full 32 _ H32.out]; exact one_b _ _) ?_
    intro w8 h8 k8 z8
    have HR8 := Lib.hid h8; have HB8 := Lib.hid (k8.onto HBz.out (Nat.le_refl _) HRw.out)
    have hS8 := k8.at hS (Nat.ne_of_gt HNH.out.2)
    refine hK _ _ (fun _ _ => hS8) ?_
    clear hK hS h8 k8 z8 HRz HBz
    have hS := hS8
    clear hS8
    refine till_take 4 (some 4) rfl rfl (by kernel_rfl) (by kernel_rfl) (by kernel_rfl) (by kernel_rfl) (by kernel_rfl) (by kernel_rfl) (fun _ _ _ h => h) (.inl ⟨by rfl, fun w' _ => (by go_simp; rfl)⟩) hS ?_
    go_frame
    refine till_done (by kernel_rfl) ?_ _
    clear hS
    go_wp2_with fail
    exact bodyPost_ret (res_tct rfl _ _ R _ (c8 hh) _ _ rfl HR8.out Tryz.underlying36 rfl (Tryz.sizeHc hh H32.out) _ _ rfl rfl) rfl ⟨by rw [HQ.out]; unfold earV; rw [HT.out]; rfl, HB8.out⟩
  · have HT := Lib.hid (show toEar b = none by rw [toEar_o, ← HO1.out, ← HO2.out, if_neg (fun h => hk (HK0.out.2 h))])
    have hk1 : (k != 0) = true := by simpa using hk
    clear hk
    go_wp2_with (refine wpList_store_row_g (t := 36) (old := (cB 32 [])) rfl 36 _ _ rfl R (c8 zero32) rfl rfl HR7.out (Tryz.sizeHc zero32 zero32_length) (by rw [c8_size, zero32_length]; rfl) (by rw [← cB_full 32 _ zero32_length]; exact one_b _ _) ?_)
    intro w8 h8 k8 z8
    have H8 := Lib.hid h8; have HB8 := Lib.hid (k8.onto HB7.out (Nat.le_refl _) HRw.out)
    clear h8 k8 z8
    go_wp2_with fail
    exact bodyPost_ret (res_tct rfl _ _ R _ (c8 zero32) _ _ rfl H8.out Tryz.underlying36 rfl (Tryz.sizeHc zero32 zero32_length) _ _ rfl rfl) rfl ⟨by rw [HQ.out]; unfold earV; rw [HT.out]; rfl, HB8.out⟩
set_option maxHeartbeats 16000000 in
set_option maxRecDepth 100000 in
theorem rtotok_any (w : World) (v : Value) (b : List UInt8) (hr : Rd w u8E 1 v b) (hlen : b.length < 1000000000) : Calls Tryz.prog 57 #[v] w (TokRet w b) := by
  have HR := Lib.hid hr; have HL := Lib.hid hlen
  obtain ⟨ad, cap, rfl, _, _⟩ := hr.shape
  obtain ⟨nb, hnb⟩ : ∃ n, n = b.length := ⟨_, rfl⟩
  rw [← hnb] at HR ⊢
  clear hnb
  clear hr hlen
  go_enter Tryz.func57, Tryz.ntmps57
  go_wp2_with (refine wpList_alloc_g rfl _ rfl _ _ Tryz.zeroUn rfl ?_)
  intro R w1 hR
  have HR1 := Lib.hid hR.out.cells; have HB1 := Lib.hid hR.out.below; have HRw := Lib.hid (show w.heap.size ≤ R by rw [hR.out.eq]; exact Nat.le_refl _)
  clear hR
  go_wp2_with fail
  obtain ⟨w2, hw2⟩ : ∃ w2, w2 = w1.alloc (.cells #[.slice ad nb cap, .int .i64 0] 218) := ⟨_, rfl⟩
  obtain ⟨g, hg⟩ : ∃ g, g = w1.heap.size := ⟨_, rfl⟩
  rw [← hw2, ← hg]
  have hb2 : Below w1.heap.size w1 w2 := by rw [hw2]; exact (Below.refl _ _).alloc (Nat.le_refl _) _
  have HS2 := Lib.hid (show RSrcO w2 g (some b) from ⟨ad, nb, cap, by rw [hw2, hg]; exact heap_alloc_new _ _, (HR.out.later HB1.out).later hb2, fun k hk hne => by have := HR.out.lt k hk hne; have := HB1.out.size; omega⟩)
  have HB2 := Lib.hid (HB1.out.trans (hb2.mono HB1.out.size)); have HGR := Lib.hid (show R < g ∧ g < w2.heap.size by refine ⟨by rw [hg]; exact heap_lt HR1.out, ?_⟩; rw [hw2, hg, World.size_alloc]; exact Nat.lt_succ_self _); have HR2 := Lib.hid (below_at2 hb2 HR1.out)
  clear hw2 hg hb2 HR1 HB1
  refine (rsvar_any w2 g (some b) _ (by decide) HS2.out (fun l h => by cases h; exact HL.out)).mono ?_
  obtain ⟨o1, ho1⟩ : ∃ o, o = (varO (some b)).2 := ⟨_, rfl⟩
  obtain ⟨n, hn⟩ : ∃ n, n = (varO (some b)).1 := ⟨_, rfl⟩
  rw [← ho1, ← hn]
  have HO1 := Lib.hid ho1; have HN := Lib.hid hn
  have HL1 := Lib.hid (show ∀ l, o1 = some l → l.length < 1000000000 from fun l h => by rw [ho1] at h; have := varO_len h; have := HL.out; omega)
  clear ho1 hn
  rintro e w3 ⟨rfl, hk3, hs3⟩
  have HR3 := Lib.hid (hk3.at HR2.out (Nat.ne_of_lt HGR.out.1)); have HB3 := Lib.hid (hk3.onto HB2.out (Nat.le_refl _) (by have := HGR.out.1; have := HRw.out; omega)); have HS3 := Lib.hid hs3; have HG3 := Lib.hid (Nat.lt_of_lt_of_le HGR.out.2 hk3.size)
  clear hk3 hs3 HR2 HB2 HS2
  go_wp2_with fail
  refine (rsamt_any w3 g o1 HS3.out HL1.out).mono ?_
  obtain ⟨o2, ho2⟩ : ∃ o, o = (amtO o1).2 := ⟨_, rfl⟩
  obtain ⟨hh, hhh⟩ : ∃ h, h = (amtO o1).1 := ⟨_, rfl⟩
  rw [← ho2, ← hhh]
  have HO2 := Lib.hid ho2; have HH := Lib.hid hhh
  clear ho2 hhh
  rintro e w4 ⟨ua, ub', uc, ud, hu, rfl, hk4, hs4⟩
  have HU := Lib.hid hu
  clear hu
  have HR4 := Lib.hid (hk4.at HR3.out (Nat.ne_of_lt HGR.out.1)); have HB4 := Lib.hid (hk4.onto HB3.out (Nat.le_refl _) (by have := HGR.out.1; have := HRw.out; omega)); have HS4 := Lib.hid hs4; have HG4 := Lib.hid (Nat.lt_of_lt_of_le HG3.out hk4.size)
  clear hk4 hs4 HR3 HB3 HS3 HG3
  go_wp2_with (refine wpList_alloc_g rfl _ rfl _ _ Tryz.zeroUn rfl ?_)
  intro H w5 hH
  go_wp2_with (refine wpList_store_row_g (t := 55) (old := u0) rfl 55 _ _ rfl H #[.int .u64 ua, .int .u64 ub', .int .u64 uc, .int .u64 ud] rfl rfl hH.out.cells Tryz.sizeU rfl (one_u64 _ _ _ _) ?_)
  intro w6 h6 k6 z6
  have hb6 : Below w4.heap.size w4 w6 := hH.out.below.trans (k6.below (B := w4.heap.size) (fun x hx e => by have := hH.out.eq; omega) hH.out.below.size)
  have HH6 := Lib.hid h6; have HR6 := Lib.hid (below_at2 hb6 HR4.out); have HB6 := Lib.hid (HB4.out.trans (hb6.mono HB4.out.size)); have HNH := Lib.hid (show g < H ∧ R < H by have := hH.out.eq; have := HG4.out; have := HGR.out.1; omega)
  have HS6 := Lib.hid (show RSrcO w6 g o2 by
    cases o2 with
    | none => obtain ⟨l, e, he, hs, hl⟩ := HS4.out; exact ⟨l, e, he, hs.later hb6, hl⟩
    | some l => exact RSrc.later HS4.out hb6)
  clear hH h6 k6 z6 hb6 HR4 HB4 HS4
  go_wp2_with fail
  refine (rend_o w6 g o2 HS6.out).mono ?_
  rintro e w7 ⟨k, rfl, hk0, hk7⟩
  have HK0 := Lib.hid hk0
  have HH7 := Lib.hid (hk7.at HH6.out (Nat.ne_of_gt HNH.out.1)); have HR7 := Lib.hid (hk7.at HR6.out (Nat.ne_of_lt HGR.out.1)); have HB7 := Lib.hid (hk7.onto HB6.out (Nat.le_refl _) (by have := HGR.out.1; have := HRw.out; omega))
  clear hk0 hk7 HH6 HR6 HB6 HS6
  by_cases hk : k = 0
  · have HT := Lib.hid (show toTok b = some (n, hh) by rw [toTok_o, ← HO1.out, ← HO2.out, if_pos (HK0.out.1 hk), ← HN.out, ← HH.out])
    have hk1 : (k != 0) = false := by simpa using hk
    clear hk
    go_upto_region 6 with fail
    obtain ⟨wz, hwz⟩ : ∃ wz, wz = w7.drew := ⟨_, rfl⟩
    have hbz : Below w7.heap.size w7 wz := by rw [hwz]; exact (Below.refl _ _).drew
    have hS : wz.heap[H]? = some (.cells #[.int .u64 ua, .int .u64 ub', .int .u64 uc, .int .u64 ud] 55 (0, 0)) := below_at2 hbz HH7.out
    have HRz := Lib.hid (below_at2 hbz HR7.out); have HBz := Lib.hid (HB7.out.trans (hbz.mono HB7.out.size))
    clear hbz HH7 HR7 HB7
    refine wp_region_till (fun w' => w'.heap[H]? = some (.cells #[.int .u64 ua, .int .u64 ub', .int .u64 uc, .int .u64 ud] 55 (0, 0))) 5 5 (by kernel_rfl) rfl ?_
    rw [← hwz]
    clear hwz
    refine till_take 0 (some 19) rfl rfl (by kernel_rfl) (by kernel_rfl) (by kernel_rfl) (by kernel_rfl) (by kernel_rfl) (by kernel_rfl) (fun _ _ _ h => h) (.inl ⟨by rfl, fun w' _ => (by go_simp; rfl)⟩) hS ?_
    go_frame
    refine till_take 1 (some 20) rfl rfl (by kernel_rfl) (by kernel_rfl) (by kernel_rfl) (by kernel_rfl) (by kernel_rfl) (by kernel_rfl) (fun _ _ _ h => h) (yields_load (by rfl) 55 _ rfl (.pointer (some ⟨H, 0, none⟩)) rfl (.agg #[.int .u64 ua, .int .u64 ub', .int .u64 uc, .int .u64 ud]) (fun w' hS' => load_blk hS' Tryz.underlying55 rfl Tryz.sizeU)) hS ?_
    go_frame
    refine till_take 2 (some 2) rfl rfl (by kernel_rfl) (by kernel_rfl) (by kernel_rfl) (by kernel_rfl) (by kernel_rfl) (by kernel_rfl) (fun _ _ _ h => h) (.inl ⟨by rfl, fun w' _ => (by go_simp; rfl)⟩) hS ?_
    go_frame
    refine till_one 3 rfl (by kernel_rfl) fun K hK => ?_
    simp only [List.getElem_toArray, List.getElem_cons_succ, List.getElem_cons_zero]
    rw [if_pos (by rfl)]
    refine wp_store_row_gO (t := 55) (old := u0) 55 _ _ rfl R #[.int .u64 ua, .int .u64 ub', .int .u64 uc, .int .u64 ud] rfl rfl HRz.out Tryz.sizeU rfl (one_u64 _ _ _ _) ?_
    intro w8 h8 k8 z8
    have HR8 := Lib.hid h8; have HB8 := Lib.hid (k8.onto HBz.out (Nat.le_refl _) HRw.out)
    have hS8 := k8.at hS (Nat.ne_of_gt HNH.out.2)
    refine hK _ _ (fun _ _ => hS8) ?_
    clear hK hS h8 k8 z8 HRz HBz
    have hS := hS8
    clear hS8
    refine till_take 4 (some 4) rfl rfl (by kernel_rfl) (by kernel_rfl) (by kernel_rfl) (by kernel_rfl) (by kernel_rfl) (by kernel_rfl) (fun _ _ _ h => h) (.inl ⟨by rfl, fun w' _ => (by go_simp; rfl)⟩) hS ?_
    go_frame
    refine till_done (by kernel_rfl) ?_ _
    clear hS
    go_wp2_with fail
    exact bodyPost_ret (res_tct rfl _ _ R _ _ _ _ rfl HR8.out Tryz.underlying55 rfl Tryz.sizeU _ _ rfl rfl) rfl (tokLt HB8.out HT.out HU.out rfl)
  · have HT := Lib.hid (show toTok b = none by rw [toTok_o, ← HO1.out, ← HO2.out, if_neg (fun h => hk (HK0.out.2 h))])
    have hk1 : (k != 0) = true := by simpa using hk
    clear hk
    go_wp2_with (refine wpList_store_row_g (t := 55) (old := u0) rfl 55 _ _ rfl R u0 rfl rfl HR7.out Tryz.sizeU rfl (one_u64 _ _ _ _) ?_)
    intro w8 h8 k8 z8
    have H8 := Lib.hid h8; have HB8 := Lib.hid (k8.onto HB7.out (Nat.le_refl _) HRw.out)
    clear h8 k8 z8
    go_wp2_with fail
    exact bodyPost_ret (res_tct rfl _ _ R _ u0 _ _ rfl H8.out Tryz.underlying55 rfl Tryz.sizeU _ _ rfl rfl) rfl (tokNo HB8.out HT.out rfl)
end
end Go.Proofs.YtmclmccgghnglaaGreat
