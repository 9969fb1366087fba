/- The reference's Sum: its walk. -/
import Derived.Test.YtmclmccgghnglaaGreatLs12
namespace Go.Proofs.YtmclmccgghnglaaGreat
open Go.RowKit

set_option maxRecDepth 100000 in
set_option maxHeartbeats 20000000 in
theorem refSum_any (w : World) (b : List UInt8) (v : Value) (hb : Rd w u8E 1 v b) (hlen : b.length < 1099511627776) : Calls Tryz.prog 98 #[v] w (Ret w (.agg (c8 (shaF b)))) := by
  obtain ⟨ab, cb, rfl, hb1, hb2⟩ := hb.shape
  have RB := Lib.hid hb; clear hb
  obtain ⟨N, hN⟩ : ∃ N, N = b.length := ⟨_, rfl⟩
  rw [← hN] at hb1 RB hlen ⊢
  have HN := Lib.hid hN; clear hN
  go_enter Tryz.func98, Tryz.ntmps98
  go_wp2_with (refine wpList_alloc_g rfl _ rfl _ _ Tryz.zeroHash rfl ?_)
  intro R w1 h1
  go_wp2_with fail
  refine (refBegins_any _).mono ?_
  rintro e w2 ⟨rfl, hb2⟩
  go_wp2_with fail
  refine (refConstants_any _).mono ?_
  rintro e w3 ⟨rfl, hb3⟩
  go_wp2_with (refine wpList_alloc_g rfl _ rfl _ _ Tryz.zeroV8 rfl ?_)
  intro H w4 h4
  go_wp2_with (refine wpList_alloc_g rfl _ rfl _ _ Tryz.zeroW rfl ?_)
  intro K w5 h5
  go_wp2_with (refine wpList_store_row_g (t := 248) (old := cW 8 []) rfl 248 (.tmp 3) _ rfl H (cV begV) rfl rfl ((h5.out.below.block H (heap_lt h4.out.cells)).trans h4.out.cells) (Tryz.sizeV begV) (by kernel_rfl) (one_v _) ?_)
  intro w6 h6 k6 z6
  have eH := h4.out.eq
  have eK := h5.out.eq
  have zH := h4.out.size
  have hHK : H < K := by omega
  have hK6 : w6.heap[K]? = some (.cells (cW 64 []) 250 (0, 0)) := k6.at h5.out.cells (by omega)
  have HK6 := Lib.hid hK6; have H6 := Lib.hid h6; have K6 := Lib.hid k6
  clear hK6 h6 k6 z6 eH eK zH
  go_wp2_with (refine wpList_store_row_g (t := 250) (old := cW 64 []) rfl 250 (.tmp 4) _ rfl K (cW 64 conK) rfl rfl HK6.out (Tryz.sizeCon) (by kernel_rfl) (one_w _ _) ?_)
  intro w7 h7 k7 z7
  have hR0 : R < H := by
    have := h4.out.eq; have := hb3.size; have := hb2.size; have := heap_lt h1.out.cells
    omega
  have hwR : w.heap.size ≤ R := by have := h1.out.eq; omega
  have hw1 := h1.out.below.size
  have hw5 : Below w.heap.size w w5 := h1.out.below.trans ((hb2.mono hw1).trans ((hb3.mono (Nat.le_trans hw1 hb2.size)).trans ((h4.out.below.mono (Nat.le_trans hw1 (Nat.le_trans hb2.size hb3.size))).trans (h5.out.below.mono (Nat.le_trans hw1 (Nat.le_trans hb2.size (Nat.le_trans hb3.size h4.out.below.size)))))))
  have hw7 : Below w.heap.size w w7 := k7.onto (K6.out.onto hw5 (Nat.le_refl _) (by omega)) (Nat.le_refl _) (by omega)
  have hR7 : w7.heap[R]? = some (.cells (cB 32 []) 36 (0, 0)) := k7.at (K6.out.at ((h5.out.below.block R (by have := h4.out.below.size; have := hb3.size; have := hb2.size; have := heap_lt h1.out.cells; omega)).trans ((h4.out.below.block R (by have := hb3.size; have := hb2.size; have := heap_lt h1.out.cells; omega)).trans ((hb3.block R (by have := hb2.size; have := heap_lt h1.out.cells; omega)).trans ((hb2.block R (heap_lt h1.out.cells)).trans h1.out.cells)))) (by omega)) (by omega)
  have hH7 : w7.heap[H]? = some (.cells (cV begV) 248 (0, 0)) := k7.at H6.out (by omega)
  have HW7 := Lib.hid hw7; have HR7 := Lib.hid hR7; have HH7 := Lib.hid hH7; have HK7 := Lib.hid h7
  have hKlt := heap_lt h7
  clear hw7 hR7 hH7 h7 k7 z7 hw5 hw1 h1 h4 h5 H6 K6 HK6 hb2 hb3
  go_wp2_with (at_builtin; refine own_apps rfl _ _ _ rfl Tryz.underlying100 Tryz.infoU8 rfl (by omega) (fun _ => rfl) u8E_one (own_empty w7 w7.heap.size 5 (Nat.le_refl _)) rfl _ rfl ((RB.out.later HW7.out).alloc _) ?c1 ?c2 (B := w7.heap.size) (w0 := w7) ((Below.refl _ _).alloc (Nat.le_refl _) _) (Nat.le_refl _) (by simp) ?_)
  case c1 => rw [← HN.out]; unfold maxLen; simp; omega
  case c2 => rw [← HN.out]; simp; omega
  intro v1 w8 o1 b1 g1
  have hw78 := b1.size
  have O1 := Lib.hid o1; have B1 := Lib.hid b1
  clear o1 b1 g1
  go_wp2_with (at_builtin; refine own_app1 rfl _ _ _ rfl Tryz.underlying100 Tryz.infoU8 rfl (128 : UInt8) O1.out rfl rfl rfl rfl ?d1 ?d2 B1.out (Nat.le_refl _) hw78 (Nat.le_refl _) ?_)
  case d1 => rw [← HN.out]; unfold maxLen; omega
  case d2 => rw [← HN.out]; omega
  intro v2 w9 o2 b2 g2
  have O2 := Lib.hid o2; have B2 := Lib.hid b2
  clear o2 b2 g2 O1 B1 hw78
  go_wp2_with fail
  obtain ⟨D, hD⟩ : ∃ D, D = w7.heap.size := ⟨_, rfl⟩
  rw [← hD] at O2 B2 hKlt
  have hDw : D ≤ w7.heap.size := by omega
  clear hD
  go_loopw [5] (fun x wr => ∃ k : Nat, k ≤ padZ N ∧ Own wr D 5 u8E 1 x (b ++ 128 :: List.replicate k 0) ∧ Below D w7 wr) (fun x _ => N + 65 - lenOf x)
  case atStart => exact ⟨0, Nat.zero_le _, O2.out, B2.out⟩
  case round =>
    clear O2 B2
    obtain ⟨k, hk, hown, hb⟩ := hrel
    obtain ⟨ad, cap, rfl, hcap, hcap2⟩ := (hown.rd (fun _ => rfl)).shape
    generalize hn : (b ++ 128 :: List.replicate k (0 : UInt8)).length = n at *
    have hn2 : n = N + 1 + k := by rw [← hn, HN.out]; simp; omega
    have hp := padZ_le N
    have hn4 : n < N + 65 := by omega
    have HOWN := Lib.hid hown; have HBW := Lib.hid hb; have HNK := Lib.hid hn2; have HNL := Lib.hid hn
    clear hown hb hn2 hn
    by_cases hlt : k < padZ N
    · have e1 : ¬ (n : Int) % 64 = 56 := by have := padZ_lt N k hlt; have := HNK.out; omega
      go_wp2_with (at_builtin; refine own_app1 rfl _ _ _ rfl Tryz.underlying100 Tryz.infoU8 rfl (0 : UInt8) HOWN.out rfl rfl rfl rfl (by rw [HNL.out]; unfold maxLen; omega) (by rw [HNL.out]; omega) HBW.out (Nat.le_refl _) (Nat.le_trans hDw HBW.out.size) hDw ?_)
      intro v' w' h5 h6 h7
      clear h7
      have H5 := Lib.hid h5; have H6 := Lib.hid h6
      clear h5 h6
      go_wp2_with fail
      go_roundw
      case rel =>
        refine ⟨k + 1, by omega, ?_, H6.out⟩
        have := H5.out
        rwa [← List.replicate_succ'] at this
      case measure =>
        rw [(H5.out.rd (fun _ => rfl)).lenOf_eq]
        simp [lenOf]
        have := HNK.out
        have := HN.out
        omega
    · obtain rfl : k = padZ N := by omega
      have e1 : (n : Int) % 64 = 56 := by have := padZ_at N; have := HNK.out; omega
      go_wp2_with fail
      clear e1
      obtain ⟨P0, hP0⟩ : ∃ P0, P0 = b ++ 128 :: List.replicate (padZ N) (0 : UInt8) := ⟨_, rfl⟩
      rw [← hP0] at HOWN HNL
      have HP0 := Lib.hid hP0; clear hP0
      obtain ⟨wo, hwo⟩ : ∃ wo, wo = wr := ⟨_, rfl⟩
      rw [← hwo] at HOWN HBW ⊢
      clear hwo wr
      go_loopw [5, 6] (fun x y wr => ∃ t : Nat, t ≤ 8 ∧ y = .int .i64 (7 - (t : Int)) ∧ Own wr D 5 u8E 1 x (P0 ++ lenTo N t) ∧ Below D w7 wr) (fun _ y _ => (intOf y + 1).toNat)
      case atStart => exact ⟨0, Nat.zero_le _, rfl, by simpa [lenTo] using HOWN.out, HBW.out⟩
      case round =>
        obtain ⟨t, ht, rfl, hown, hb⟩ := hrel
        by_cases hlt : t < 8
        · have j0 : (0 : Int) ≤ 7 - (t : Int) := by omega
          have t0 : (8 * (7 - (t : Int))).toNat = 8 * (7 - t) := by omega
          have t1 : (0 : Int) ≤ 8 * (7 - (t : Int)) := by omega
          have hlenP : (P0 ++ lenTo N t).length < N + 100 := by rw [List.length_append, lenTo_length, HNL.out]; omega
          have HOW := Lib.hid hown; have HB := Lib.hid hb; have HLP := Lib.hid hlenP
          clear hown hb hlenP
          go_wp2_with (at_builtin; refine own_app1 rfl _ _ _ rfl Tryz.underlying100 Tryz.infoU8 rfl (UInt8.ofNat (8 * N / 256 ^ (7 - t) % 256)) HOW.out rfl rfl ?c1 rfl (by have := HLP.out; unfold maxLen; omega) (by have := HLP.out; omega) HB.out (Nat.le_refl _) (Nat.le_trans hDw HB.out.size) hDw ?_)
          case c1 => exact len_byte N t
          intro v' w' h5 h6 h7
          clear h7
          have H5 := Lib.hid h5; have H6 := Lib.hid h6
          clear h5 h6
          go_wp2_with fail
          go_roundw
          case rel =>
            refine ⟨t + 1, by omega, by go_num, ?_, H6.out⟩
            have := H5.out
            rwa [lenTo_succ]
          case measure => simp [intOf]; omega
        · obtain rfl : t = 8 := by omega
          have hL : P0 ++ lenTo N 8 = b ++ padL N := by rw [HP0.out, List.append_assoc]; rfl
          rw [hL] at hown
          obtain ⟨M, hM⟩ : ∃ M, M = b ++ padL N := ⟨_, rfl⟩
          rw [← hM] at hown
          have hMl : M.length = N + 9 + padZ N := by rw [hM, List.length_append, padL_length, HN.out]; omega
          have hMn : M.length = 64 * ((N + 9 + padZ N) / 64) := by have := padZ_at N; omega
          obtain ⟨Q, hQ⟩ : ∃ Q, Q = (N + 9 + padZ N) / 64 := ⟨_, rfl⟩
          rw [← hQ] at hMn
          have hout : outB (hTo M Q) = shaF b := by rw [shaF, hQ, hM, HN.out]
          have hQb : 64 * Q < 2199023255552 := by have := padZ_le N; omega
          have howl := hown.lt
          have hrd := hown.rd (fun _ => rfl)
          obtain ⟨ad, cap, rfl, hcap, hcap2⟩ := hrd.shape
          rw [hMn] at hrd hcap howl ⊢
          have HRD := Lib.hid hrd; have HOL := Lib.hid howl; have HM := Lib.hid hM; have HMN := Lib.hid hMn; have HQ := Lib.hid hQ; have HOUT := Lib.hid hout
          have hR9 : wr.heap[R]? = some (.cells (cB 32 []) 36 (0, 0)) := (hb.block R (by omega)).trans HR7.out
          have hH9 : wr.heap[H]? = some (.cells (cV begV) 248 (0, 0)) := (hb.block H (by omega)).trans HH7.out
          have hK9 : wr.heap[K]? = some (.cells (cW 64 conK) 250 (0, 0)) := (hb.block K (by omega)).trans HK7.out
          have hD9 : D ≤ wr.heap.size := Nat.le_trans hDw hb.size
          have HB9 := Lib.hid (HW7.out.trans (hb.mono (B' := w.heap.size) (by have := HW7.out.size; omega)))
          have HR9 := Lib.hid hR9; have HH9 := Lib.hid hH9; have HK9 := Lib.hid hK9
          clear hown hrd howl hM hMl hMn hQ hout hR9 hH9 hK9 hb hL HOWN HBW HP0 HW7 HR7 HH7 HK7
          rw [show (7 - ((8 : Nat) : Int)) = -1 by omega]
          go_wp2_with fail
          obtain ⟨w9, hw9⟩ : ∃ w9, w9 = wr := ⟨_, rfl⟩
          rw [← hw9] at HRD HOL HB9 HR9 HH9 HK9 hD9 ⊢
          clear hw9 wr
          go_loopw [7, 8, 9, 10, 11, 12, 13, 14, 15, 16, 17, 18, 19, 205] (fun y _ _ _ _ _ _ _ _ _ _ _ _ _ wr => ∃ q : Nat, q ≤ Q ∧ y = .int .i64 (64 * (q : Int)) ∧ wr.heap[H]? = some (.cells (cV (hTo M q)) 248 (0, 0)) ∧ Keep (· = H) w9 wr) (fun y _ _ _ _ _ _ _ _ _ _ _ _ _ _ => 64 * Q - (intOf y).toNat)
          case atStart => exact ⟨0, Nat.zero_le _, rfl, HH9.out, Keep.refl _ _⟩
          case round =>
            obtain ⟨q, hq, rfl, hH, hk⟩ := hrel
            by_cases hlt : q < Q
            · obtain ⟨C, hC⟩ : ∃ C, C = (M.drop (64 * q)).take 64 := ⟨_, rfl⟩
              have hCl : C.length = 64 := by rw [hC, List.length_take, List.length_drop, HMN.out]; omega
              have hCg : ∀ j, j < 64 → gB C j = gB M (64 * q + j) := by
                intro j hj
                simp only [gB, hC, List.getD_eq_getElem?_getD, List.getElem?_take, if_pos hj, List.getElem?_drop]
              have hrd : Rd wr u8E 1 (.slice ad (64 * Q) cap) M := HRD.out.keep hk (fun k hk2 _ e => by have := HOL.out k hk2; omega)
              obtain ⟨sb, so, rfl, hsb⟩ := hrd.ptr (by rw [HMN.out]; omega)
              have hsbD : D ≤ sb := (HOL.out sb rfl).1
              have hK : wr.heap[K]? = some (.cells (cW 64 conK) 250 (0, 0)) := hk.at HK9.out (by omega)
              have j0 : 64 * (q : Int) < 64 * (Q : Int) := by omega
              have hD10 : D ≤ wr.heap.size := Nat.le_trans hD9 hk.size
              obtain ⟨h0, hh0⟩ : ∃ h0, h0 = hTo M q := ⟨_, rfl⟩
              rw [← hh0] at hH
              have hnext : hTo M (q + 1) = compress h0 C := by rw [hTo, hh0, hC]
              have HC := Lib.hid hC; have HCL := Lib.hid hCl; have HCG := Lib.hid hCg; have HRD2 := Lib.hid hrd; have HKK := Lib.hid hK; have HH := Lib.hid hH; have HKP := Lib.hid hk; have HNX := Lib.hid hnext
              clear hC hCl hCg hrd hK hH hk hh0 hnext
              go_wp2_with (refine wpList_alloc_g rfl _ rfl _ _ Tryz.zeroW rfl ?_)
              intro W w10 h10
              have hWwr : W = wr.heap.size := h10.out.eq
              have hrd10 := HRD2.out.later h10.out.below
              have hK10 := (h10.out.below.block K (heap_lt HKK.out)).trans HKK.out
              have hH10 := (h10.out.below.block H (heap_lt HH.out)).trans HH.out
              have hk10 := HKP.out.then_below h10.out.below
              have hDW : D ≤ W := by omega
              have hsbW : sb < W := by omega
              have HSBW : Hid (∀ k, (Value.slice (some ⟨sb, so, none⟩) (64 * Q) cap).ownBlock = some k → M ≠ [] → ¬ k = W) := Lib.hid (by
                intro k hk _ e
                have : sb = k := by simpa [Value.ownBlock] using hk
                omega)
              have HRD10 := Lib.hid hrd10; have HK10 := Lib.hid hK10; have HH10 := Lib.hid hH10; have HKP10 := Lib.hid hk10; have H10 := Lib.hid h10.out.cells
              have hWn : w9.heap.size ≤ W := by have := HKP.out.size; omega
              clear hrd10 hK10 hH10 hk10 hWwr h10 HRD2 HKK HH HKP hsb hD10
              go_wp2_with fail
              clear wr
              go_loopw [9, 10, 11, 12] (fun y _ _ _ wr => ∃ i : Nat, i ≤ 64 ∧ y = .int .i64 i ∧ wr.heap[W]? = some (.cells (cW 64 (schedTo C i)) 250 (0, 0)) ∧ Keep (· = W) w10 wr) (fun y _ _ _ _ => 64 - (intOf y).toNat)
              case atStart => exact ⟨0, Nat.zero_le _, rfl, H10.out, Keep.refl _ _⟩
              case round =>
                obtain ⟨i, hi, rfl, hW, hk⟩ := hrel
                by_cases hlt2 : i < 64
                · have hlen := schedTo_length C i
                  rcases (show i < 16 ∨ 16 ≤ i by omega) with hc | hc
                  · have hz : cW 64 (schedTo C i) = cW 64 (schedTo C i ++ [wordTo C i 0]) := cW_zero 64 _ (by omega)
                    rw [hz] at hW
                    have HW := Lib.hid hW; have HKP2 := Lib.hid hk; have HLN := Lib.hid hlen
                    clear hz hW hk hlen
                    have x6 : (i : Int) < 64 := by omega
                    have x7 : (i : Int) < 16 := by omega
                    go_wp2_with fail
                    obtain ⟨w11, hw11⟩ : ∃ w11, w11 = wr := ⟨_, rfl⟩
                    rw [← hw11] at HW HKP2 ⊢
                    clear hw11 wr
                    go_loopw [10] (fun y wr => ∃ j : Nat, j ≤ 4 ∧ y = .int .i64 j ∧ wr.heap[W]? = some (.cells (cW 64 (schedTo C i ++ [wordTo C i j])) 250 (0, 0)) ∧ Keep (· = W) w11 wr) (fun y _ => 4 - (intOf y).toNat)
                    case atStart => exact ⟨0, Nat.zero_le _, rfl, HW.out, Keep.refl _ _⟩
                    case round =>
                      obtain ⟨j, hj, rfl, hWj, hkj⟩ := hrel
                      by_cases hlt3 : j < 4
                      · have HWJ := Lib.hid hWj; have HKJ := Lib.hid hkj
                        clear hWj hkj
                        go_wp2_with fail
                        refine still_tail_w 17 (by kernel_rfl) (by kernel_rfl) fun w6 hw6 => ?_
                        simp only [List.take_succ_cons, List.take_zero, List.drop_succ_cons, List.drop_zero]
                        have g7 : w6.heap[W]? = some (.cells (cW 64 (schedTo C i ++ [wordTo C i j])) 250 (0, 0)) := by rw [hw6]; exact HWJ.out
                        have g8 : Keep (· = W) w11 w6 := by rw [hw6]; exact HKJ.out.drew
                        have g9 : Rd w6 u8E 1 (.slice (some ⟨sb, so, none⟩) (64 * Q) cap) M := (HRD10.out.keep HKP2.out HSBW.out).keep g8 HSBW.out
                        clear hw6
                        obtain ⟨sb', so', hsp, _, hcell⟩ := g9.at (64 * q + (4 * i + j)) (by rw [HMN.out]; omega)
                        cases hsp
                        have hcl : w6.cell? ⟨sb, so + (64 * q + (4 * i + j)), none⟩ = some (.int .u8 ((gB C (4 * i + j)).toNat : Int)) := by
                          rw [hcell, HCG.out (4 * i + j) (by omega)]
                          have : 64 * q + (4 * i + j) < M.length := by rw [HMN.out]; omega
                          simp [u8E, byteV, gB, List.getD, List.getElem?_eq_getElem this]
                        have hwc := Lib.cell_of_heap g7 i
                        have e0 := cW_at 64 (schedTo C i ++ [wordTo C i j]) i (by rw [List.length_append, HLN.out]; simp)
                        have e1 : gW (schedTo C i ++ [wordTo C i j]) i = wordTo C i j := gW_last _ _ HLN.out _
                        rw [e1] at e0
                        rw [e0] at hwc
                        have hfz : w6.frozen? ⟨W, i, none⟩ = false := Lib.frozen_of_heap g7 i
                        have G7 := Lib.hid g7; have G8 := Lib.hid g8
                        have hset : (cW 64 (schedTo C i ++ [wordTo C i j])).setIfInBounds i (.int .u32 ((wordTo C i (j + 1)).toNat : Int)) = cW 64 (schedTo C i ++ [wordTo C i (j + 1)]) := cW_put 64 _ _ HLN.out _ _
                        obtain ⟨z, hz1, hz2, hz3⟩ := wordTo_facts C i j
                        have x0 : IntKind.i64.wrap (4 * (i : Int)) = 4 * (i : Int) := by rw [IntKind.wrap_i64]; omega
                        have x1 : IntKind.i64.wrap (64 * (q : Int) + 4 * (i : Int)) = 64 * (q : Int) + 4 * (i : Int) := by rw [IntKind.wrap_i64]; omega
                        have x2 : IntKind.i64.wrap (64 * (q : Int) + 4 * (i : Int) + (j : Int)) = 64 * (q : Int) + 4 * (i : Int) + (j : Int) := by rw [IntKind.wrap_i64]; omega
                        have x3 : (64 * (q : Int) + 4 * (i : Int) + (j : Int)).toNat = 64 * q + (4 * i + j) := by omega
                        have x4 : (0 : Int) ≤ 64 * (q : Int) + 4 * (i : Int) + (j : Int) := by omega
                        have x5 : 64 * (q : Int) + 4 * (i : Int) + (j : Int) < 64 * (Q : Int) := by omega
                        have HSET := Lib.hid hset
                        clear g7 g8 g9 hcell e0 e1 hset
                        repeat still_step
                        refine wpStill_nil ?_
                        go_wp2_with ((refine wpList_store1_g rfl _ _ _ rfl W i (.int .u32 ((wordTo C i (j + 1)).toNat : Int)) rfl rfl rfl rfl 250 _ G7.out (by kernel_rfl) (by rw [cW_size _ _ (by rw [List.length_append, HLN.out]; simp; omega)]; exact hlt2) _ HSET.out ?_))
                        intro w7' h7' k7' z7'
                        have H7' := Lib.hid h7'; have K7' := Lib.hid k7'
                        clear h7' k7' z7'
                        go_wp2_with fail
                        go_roundw
                        case rel => exact ⟨j + 1, by omega, by go_num, H7'.out, G8.out.then K7'.out (fun x hx => .inl hx)⟩
                        case measure => simp [intOf]; omega
                      · obtain rfl : j = 4 := by omega
                        have hnw : schedTo C i ++ [wordTo C i 4] = schedTo C (i + 1) := by
                          rw [schedTo, nextW, if_pos hc, wordTo_full]; rfl
                        rw [hnw] at hWj
                        have HWJ := Lib.hid hWj; have HKJ := Lib.hid (HKP2.out.then hkj (fun x hx => .inl hx))
                        clear hWj hkj hnw
                        go_wp2_with fail
                        go_roundw
                        case rel => exact ⟨i + 1, by omega, by go_num, HWJ.out, HKJ.out⟩
                        case measure => simp [intOf]; omega
                  · have y2 : (2 : Int) ≤ (i : Int) := by omega
                    have x2 : IntKind.i64.wrap ((i : Int) - 2) = (i : Int) - 2 := by rw [IntKind.wrap_i64]; omega
                    have i2 : (0 : Int) ≤ (i : Int) - 2 := by omega
                    have j2 : (i : Int) - 2 < 64 := by omega
                    have t2 : ((i : Int) - 2).toNat = i - 2 := by omega
                    have y15 : (15 : Int) ≤ (i : Int) := by omega
                    have x15 : IntKind.i64.wrap ((i : Int) - 15) = (i : Int) - 15 := by rw [IntKind.wrap_i64]; omega
                    have i15 : (0 : Int) ≤ (i : Int) - 15 := by omega
                    have j15 : (i : Int) - 15 < 64 := by omega
                    have t15 : ((i : Int) - 15).toNat = i - 15 := by omega
                    have y7 : (7 : Int) ≤ (i : Int) := by omega
                    have x7 : IntKind.i64.wrap ((i : Int) - 7) = (i : Int) - 7 := by rw [IntKind.wrap_i64]; omega
                    have i7 : (0 : Int) ≤ (i : Int) - 7 := by omega
                    have j7 : (i : Int) - 7 < 64 := by omega
                    have t7 : ((i : Int) - 7).toNat = i - 7 := by omega
                    have y16 : (16 : Int) ≤ (i : Int) := by omega
                    have x16 : IntKind.i64.wrap ((i : Int) - 16) = (i : Int) - 16 := by rw [IntKind.wrap_i64]; omega
                    have i16 : (0 : Int) ≤ (i : Int) - 16 := by omega
                    have j16 : (i : Int) - 16 < 64 := by omega
                    have t16 : ((i : Int) - 16).toNat = i - 16 := by omega
                    have k2 := Lib.cell_of_heap hW (i - 2)
                    rw [cW_at _ _ _ (by rw [hlen]; omega)] at k2
                    have k15 := Lib.cell_of_heap hW (i - 15)
                    rw [cW_at _ _ _ (by rw [hlen]; omega)] at k15
                    have k7 := Lib.cell_of_heap hW (i - 7)
                    rw [cW_at _ _ _ (by rw [hlen]; omega)] at k7
                    have k16 := Lib.cell_of_heap hW (i - 16)
                    rw [cW_at _ _ _ (by rw [hlen]; omega)] at k16
                    have ks := Lib.cell_of_heap hW i
                    rw [cW_past _ _ _ (by rw [hlen]; omega) hlt2] at ks
                    have kf : wr.frozen? ⟨W, i, none⟩ = false := Lib.frozen_of_heap hW i
                    have x6 : (i : Int) < 64 := by omega
                    have hput := cW_set 64 (schedTo C i) (nextW C (schedTo C i) i) (by rw [hlen]; exact hlt2)
                    rw [hlen] at hput
                    have hsc : schedTo C i ++ [nextW C (schedTo C i) i] = schedTo C (i + 1) := rfl
                    have hnx : nextW C (schedTo C i) i = smlF (gW (schedTo C i) (i - 2)) 17 19 10 + gW (schedTo C i) (i - 7) + smlF (gW (schedTo C i) (i - 15)) 7 18 3 + gW (schedTo C i) (i - 16) := by rw [nextW, if_neg (by omega)]; rfl
                    rw [hsc, hnx] at hput
                    obtain ⟨X, hX⟩ : ∃ X, X = gW (schedTo C i) (i - 15) := ⟨_, rfl⟩
                    obtain ⟨Y, hY⟩ : ∃ Y, Y = gW (schedTo C i) (i - 2) := ⟨_, rfl⟩
                    obtain ⟨U, hU⟩ : ∃ U, U = gW (schedTo C i) (i - 7) := ⟨_, rfl⟩
                    obtain ⟨Z, hZ⟩ : ∃ Z, Z = gW (schedTo C i) (i - 16) := ⟨_, rfl⟩
                    rw [← hX, ← hY, ← hU, ← hZ] at hput
                    rw [← hX] at k15
                    rw [← hY] at k2
                    rw [← hU] at k7
                    rw [← hZ] at k16
                    have hT : ∀ (x : UInt32) (n : Nat) (w : World), 1 ≤ n → n ≤ 31 → Calls Tryz.prog 198 #[.int .u32 x.toNat, .int .i64 n] w fun e w'' => e = .returned (.int .u32 (rotr x n).toNat) ∧ w'' = w := fun x n w h1 h2 => (refTurn_any x n w h1 h2).mono fun e w' h => ⟨h.1, h.2.symm⟩
                    obtain ⟨s0, s1, a1, a2, a3, f0, f1, f2, f3, f4, f5⟩ := ref_sched X Y U Z
                    rw [← f5] at hput
                    clear f5
                    have HT := Lib.hid hT; have HPUT := Lib.hid hput; have HW := Lib.hid hW; have HKP2 := Lib.hid hk
                    clear hT hput hW hk hX hY hU hZ hsc hnx hlen
                    go_wp2_with fail
                    go_quiet (fail)
                    go_wp2_with fail
                    refine still_tail_w 29 (by kernel_rfl) (by kernel_rfl) fun w6 hw6 => ?_
                    simp only [List.take_succ_cons, List.take_zero, List.drop_succ_cons, List.drop_zero]
                    have g7 : w6.heap[W]? = some (.cells (cW 64 (schedTo C i)) 250 (0, 0)) := by rw [hw6]; exact HW.out
                    have g8 : Keep (· = W) w10 w6 := by rw [hw6]; exact (HKP2.out.drewN _).drew
                    have m7 : w6.cell? ⟨W, i - 7, none⟩ = some (.int .u32 (U.toNat : Int)) := by rw [hw6]; exact k7
                    have m16 : w6.cell? ⟨W, i - 16, none⟩ = some (.int .u32 (Z.toNat : Int)) := by rw [hw6]; exact k16
                    have ms : w6.cell? ⟨W, i, none⟩ = some (.int .u32 0) := by rw [hw6]; exact ks
                    have mf : w6.frozen? ⟨W, i, none⟩ = false := by rw [hw6]; exact kf
                    have G7 := Lib.hid g7; have G8 := Lib.hid g8
                    clear hw6 g7 g8 k2 k7 k15 k16 ks kf
                    repeat still_step
                    still_call (HT.out X 7 w6 (by omega) (by omega))
                    repeat still_step
                    still_call (HT.out X 18 w6 (by omega) (by omega))
                    repeat still_step
                    still_call (HT.out Y 17 w6 (by omega) (by omega))
                    repeat still_step
                    still_call (HT.out Y 19 w6 (by omega) (by omega))
                    repeat still_step
                    refine wpStill_nil ?_
                    go_wp2_with ((refine wpList_store1_g rfl _ _ _ rfl W i (.int .u32 (a3.toNat : Int)) rfl rfl rfl rfl 250 _ G7.out (by kernel_rfl) (by rw [cW_size_s C i hi]; exact hlt2) _ HPUT.out ?_))
                    intro w7' h7' k7' z7'
                    have H7' := Lib.hid h7'; have K7' := Lib.hid k7'
                    clear h7' k7' z7' f0 f1 f2 f3 f4 m7 m16 ms mf x2 x7 x15 x16 t2 t7 t15 t16
                    go_wp2_with fail
                    go_roundw
                    case rel => exact ⟨i + 1, by omega, by go_num, H7'.out, G8.out.then K7'.out (fun x hx => .inl hx)⟩
                    case measure => simp [intOf]; omega
                · obtain rfl : i = 64 := by omega
                  have hH11 := hk.at HH10.out (by omega)
                  have hK11 := hk.at HK10.out (by omega)
                  have hrd11 := HRD10.out.keep hk HSBW.out
                  have hk11 := HKP10.out.then hk (fun x hx => .inr (by omega))
                  have hD11 : W < wr.heap.size := heap_lt hW
                  have HW := Lib.hid hW; have HH11 := Lib.hid hH11; have HK11 := Lib.hid hK11; have HRD11 := Lib.hid hrd11; have HKP11 := Lib.hid hk11
                  clear hW hH11 hK11 hrd11 hk11 hk H10
                  go_wp2_with (first | (refine wpList_load_row rfl _ _ rfl H rfl _ (cV h0) _ _ HH11.out Tryz.underlying248 rfl (Tryz.sizeV h0) ?_) | (refine wpList_alloc_g rfl _ rfl _ _ Tryz.zeroV8 rfl ?_))
                  intro V w11 h11
                  have hWV : W < V := by have := h11.out.eq; omega
                  have hH12 := (h11.out.below.block H (heap_lt HH11.out)).trans HH11.out
                  have hK12 := (h11.out.below.block K (heap_lt HK11.out)).trans HK11.out
                  have hW12 := (h11.out.below.block W (heap_lt HW.out)).trans HW.out
                  have hk12 := HKP11.out.then_below h11.out.below
                  have H12 := Lib.hid hH12; have K12 := Lib.hid hK12; have W12 := Lib.hid hW12; have KP12 := Lib.hid hk12; have V12 := Lib.hid h11.out.cells
                  clear hH12 hK12 hW12 hk12 h11 hD11
                  go_wp2_with (refine wpList_store_row_g (t := 248) (old := cW 8 []) rfl 248 (.tmp 13) _ rfl V (cV h0) rfl rfl V12.out (Tryz.sizeV h0) (by kernel_rfl) (one_v _) ?_)
                  intro w12 h12 k12 z12
                  have hH13 := k12.at H12.out (by omega)
                  have hK13 := k12.at K12.out (by omega)
                  have hW13 := k12.at W12.out (by omega)
                  have hk13 := KP12.out.then k12 (fun x hx => .inr (by omega))
                  have HH13 := Lib.hid hH13; have HK13 := Lib.hid hK13; have HW13 := Lib.hid hW13; have HKP13 := Lib.hid hk13; have HV13 := Lib.hid h12
                  clear hH13 hK13 hW13 hk13 h12 k12 z12 H12 K12 W12 KP12 V12 HW HH11 HK11 HKP11 HRD11
                  go_wp2_with fail
                  clear wr
                  go_loopw [14, 15, 16, 17, 18] (fun y _ _ _ _ wr => ∃ k : Nat, k ≤ 64 ∧ y = .int .i64 k ∧ wr.heap[V]? = some (.cells (cV (roundsTo (schedTo C 64) h0 k)) 248 (0, 0)) ∧ Keep (· = V) w12 wr) (fun y _ _ _ _ _ => 64 - (intOf y).toNat)
                  case atStart => exact ⟨0, Nat.zero_le _, rfl, HV13.out, Keep.refl _ _⟩
                  case round =>
                    obtain ⟨k, hk, rfl, hV, hkv⟩ := hrel
                    by_cases hlt4 : k < 64
                    · generalize hRe : roundsTo (schedTo C 64) h0 k = Rr at *
                      have d0 := Lib.cell_of_heap hV 0
                      have d1 := Lib.cell_of_heap hV 1
                      have d2 := Lib.cell_of_heap hV 2
                      have d3 := Lib.cell_of_heap hV 3
                      have d4 := Lib.cell_of_heap hV 4
                      have d5 := Lib.cell_of_heap hV 5
                      have d6 := Lib.cell_of_heap hV 6
                      have d7 := Lib.cell_of_heap hV 7
                      simp only [cV, List.getElem?_toArray, List.getElem?_cons_zero, List.getElem?_cons_succ] at d0 d1 d2 d3 d4 d5 d6 d7
                      have kw := Lib.cell_of_heap (hkv.at HW13.out (by omega)) k
                      have kk := Lib.cell_of_heap (hkv.at HK13.out (by omega)) k
                      rw [cW_at _ _ _ (by rw [schedTo_length]; omega)] at kw
                      rw [cW_at _ _ _ (show k < conK.length from hlt4)] at kk
                      obtain ⟨KK, hKK⟩ : ∃ KK, KK = gW conK k := ⟨_, rfl⟩
                      obtain ⟨WW, hWW⟩ : ∃ WW, WW = gW (schedTo C 64) k := ⟨_, rfl⟩
                      rw [← hKK] at kk
                      rw [← hWW] at kw
                      have hst : roundsTo (schedTo C 64) h0 (k + 1) = stepV KK WW Rr := by rw [roundsTo, hKK, hWW, hRe]; rfl
                      have j0 : (k : Int) < 64 := by omega
                      have hT : ∀ (x : UInt32) (n : Nat) (w : World), 1 ≤ n → n ≤ 31 → Calls Tryz.prog 198 #[.int .u32 x.toNat, .int .i64 n] w fun e w'' => e = .returned (.int .u32 (rotr x n).toNat) ∧ w'' = w := fun x n w h1 h2 => (refTurn_any x n w h1 h2).mono fun e w' h => ⟨h.1, h.2.symm⟩
                      obtain ⟨g1, c1, p1, p2, p3, p4, g2, m1, p5, r0, r4, f1, f2, f3, f4, f5, f6, f7, f8, f9, f10, f11, f12⟩ := ref_round Rr KK WW
                      have hu : IntKind.u32.signed = false := rfl
                      have HT := Lib.hid hT; have HST := Lib.hid hst; have HF := Lib.hid f12; have HV := Lib.hid hV; have KHV := Lib.hid hkv
                      clear hT hst hV hkv hKK hWW hRe f12
                      go_wp2_with fail
                      go_quiet (fail)
                      obtain ⟨wq1, hwq1⟩ : ∃ wq1, wq1 = wr.drewN nq := ⟨_, rfl⟩
                      rw [← hwq1]
                      have ewq1 : ∀ p, wr.cell? p = wq1.cell? p := by intro p; rw [hwq1]; rfl
                      rw [ewq1] at d0 d1 d2 d3 d4 d5 d6 d7 kw kk
                      have HV10 : wq1.heap[V]? = some (.cells (cV Rr) 248 (0, 0)) := by rw [hwq1]; exact HV.out
                      have KHV10 : Keep (· = V) w12 wq1 := by rw [hwq1]; exact KHV.out.drewN _
                      have HV1 := Lib.hid HV10; have KHV1 := Lib.hid KHV10
                      clear hwq1 ewq1 HV10 KHV10 HV KHV
                      clear nq
                      go_wp2_with fail
                      go_quiet ((first | (go_at_call 198; (with_reducible exact Calls.quiet_of_same (HT.out Rr.e 6 _ (by omega) (by omega)))) | (go_at_call 198; (with_reducible exact Calls.quiet_of_same (HT.out Rr.e 11 _ (by omega) (by omega)))) | (go_at_call 198; (with_reducible exact Calls.quiet_of_same (HT.out Rr.e 25 _ (by omega) (by omega))))))
                      obtain ⟨wq2, hwq2⟩ : ∃ wq2, wq2 = wq1.drewN nq := ⟨_, rfl⟩
                      rw [← hwq2]
                      have ewq2 : ∀ p, wq1.cell? p = wq2.cell? p := by intro p; rw [hwq2]; rfl
                      rw [ewq2] at d0 d1 d2 d3 d4 d5 d6 d7 kw kk
                      have HV20 : wq2.heap[V]? = some (.cells (cV Rr) 248 (0, 0)) := by rw [hwq2]; exact HV1.out
                      have KHV20 : Keep (· = V) w12 wq2 := by rw [hwq2]; exact KHV1.out.drewN _
                      have HV2 := Lib.hid HV20; have KHV2 := Lib.hid KHV20
                      clear hwq2 ewq2 HV20 KHV20 HV1 KHV1
                      clear nq
                      go_wp2_with fail
                      go_quiet ((first | (go_at_call 198; (with_reducible exact Calls.quiet_of_same (HT.out Rr.a 2 _ (by omega) (by omega)))) | (go_at_call 198; (with_reducible exact Calls.quiet_of_same (HT.out Rr.a 13 _ (by omega) (by omega)))) | (go_at_call 198; (with_reducible exact Calls.quiet_of_same (HT.out Rr.a 22 _ (by omega) (by omega))))))
                      obtain ⟨wq3, hwq3⟩ : ∃ wq3, wq3 = wq2.drewN nq := ⟨_, rfl⟩
                      rw [← hwq3]
                      have ewq3 : ∀ p, wq2.cell? p = wq3.cell? p := by intro p; rw [hwq3]; rfl
                      rw [ewq3] at d0 d1 d2 d3 d4 d5 d6 d7 kw kk
                      have HV30 : wq3.heap[V]? = some (.cells (cV Rr) 248 (0, 0)) := by rw [hwq3]; exact HV2.out
                      have KHV30 : Keep (· = V) w12 wq3 := by rw [hwq3]; exact KHV2.out.drewN _
                      have HV3 := Lib.hid HV30; have KHV3 := Lib.hid KHV30
                      clear hwq3 ewq3 HV30 KHV30 HV2 KHV2
                      clear nq
                      clear f1 f2 f3 f4 f5 f6 f7 f8 f9
                      go_wp2_with (refine wpList_store_row_g (t := 248) (old := cV Rr) rfl 248 (.tmp 13) _ rfl V #[.int .u32 r0.toNat, .int .u32 Rr.a.toNat, .int .u32 Rr.b.toNat, .int .u32 Rr.c.toNat, .int .u32 r4.toNat, .int .u32 Rr.e.toNat, .int .u32 Rr.f.toNat, .int .u32 Rr.g.toNat] rfl rfl HV3.out (Tryz.sizeV Rr) rfl (by rw [HF.out]; exact one_v _) ?_)
                      intro w13 h13 k13 z13
                      rw [HF.out, ← HST.out] at h13
                      have H13 := Lib.hid h13; have K13 := Lib.hid (KHV3.out.then k13 (fun x hx => .inl hx))
                      clear h13 k13 z13 f10 f11 d0 d1 d2 d3 d4 d5 d6 d7 kw kk
                      go_wp2_with fail
                      go_roundw
                      case rel => exact ⟨k + 1, by omega, by go_num, H13.out, K13.out⟩
                      case measure => simp [intOf]; omega
                    · obtain rfl : k = 64 := by omega
                      have hH14 := hkv.at HH13.out (by omega)
                      have hk14 := HKP13.out.then hkv (fun x hx => .inr (by omega))
                      generalize hRe : roundsTo (schedTo C 64) h0 64 = Rr at *
                      have HRE := Lib.hid hRe; have HV := Lib.hid hV; have HH14 := Lib.hid hH14; have HKP14 := Lib.hid hk14
                      clear hRe hV hH14 hk14 hkv
                      rw [show ((64 : Nat) : Int) = 64 from rfl]
                      go_wp2_with fail
                      obtain ⟨w14, hw14⟩ : ∃ w14, w14 = wr := ⟨_, rfl⟩
                      rw [← hw14] at HV HH14 HKP14 ⊢
                      clear hw14 wr
                      go_loopw [19, 205] (fun _ y wr => ∃ k : Nat, k ≤ 8 ∧ y = .int .i64 k ∧ wr.heap[H]? = some (.cells ((addTo h0.list Rr.list k).map w32V).toArray 248 (0, 0)) ∧ Keep (· = H) w14 wr) (fun _ y _ => 8 - (intOf y).toNat)
                      case atStart => exact ⟨0, Nat.zero_le _, rfl, by rw [addTo_zero _ _ rfl]; exact HH14.out, Keep.refl _ _⟩
                      case round =>
                        obtain ⟨k, hk, rfl, hHk, hkk⟩ := hrel
                        by_cases hlt5 : k < 8
                        · have j0 : (k : Int) < 8 := by omega
                          have q1 := Lib.cell_of_heap hHk k
                          have q2 := Lib.cell_of_heap (hkk.at HV.out (by omega)) k
                          have e1 : (((addTo h0.list Rr.list k).map w32V).toArray)[k]? = some (.int .u32 ((gW h0.list k).toNat : Int)) := by
                            have e := addTo_at h0.list Rr.list k hlt5
                            have e2 : k < (addTo h0.list Rr.list k).length := by rw [addTo_length]; exact hlt5
                            rw [← e]
                            simp [gW, List.getD, w32V, List.getElem?_eq_getElem e2]
                          have e2 : (cV Rr)[k]? = some (.int .u32 ((gW Rr.list k).toNat : Int)) := by
                            match k, hlt5 with
                            | 0, _ => rfl
                            | 1, _ => rfl
                            | 2, _ => rfl
                            | 3, _ => rfl
                            | 4, _ => rfl
                            | 5, _ => rfl
                            | 6, _ => rfl
                            | 7, _ => rfl
                          rw [e1] at q1
                          rw [e2] at q2
                          have hset : (((addTo h0.list Rr.list k).map w32V).toArray).setIfInBounds k (.int .u32 ((gW h0.list k + gW Rr.list k).toNat : Int)) = ((addTo h0.list Rr.list (k + 1)).map w32V).toArray := by
                            rw [← addTo_set]
                            apply Array.ext'
                            simp [List.map_set, w32V]
                          have hsum := u32_add_t (gW h0.list k) (gW Rr.list k)
                          obtain ⟨a0, ha0⟩ : ∃ a0, a0 = gW h0.list k := ⟨_, rfl⟩
                          obtain ⟨b0, hb0⟩ : ∃ b0, b0 = gW Rr.list k := ⟨_, rfl⟩
                          obtain ⟨s9, hs9⟩ : ∃ s9, s9 = gW h0.list k + gW Rr.list k := ⟨_, rfl⟩
                          rw [← hs9] at hsum hset
                          rw [← ha0] at q1 hsum
                          rw [← hb0] at q2 hsum
                          have HSET := Lib.hid hset; have HHK := Lib.hid hHk; have HKK2 := Lib.hid hkk
                          clear hset hHk hkk e1 e2 ha0 hb0 hs9
                          go_wp2_with fail
                          refine still_tail_w 8 (by kernel_rfl) (by kernel_rfl) fun w6' hw6 => ?_
                          simp only [List.take_succ_cons, List.take_zero, List.drop_succ_cons, List.drop_zero]
                          have g7 : w6'.heap[H]? = some (.cells ((addTo h0.list Rr.list k).map w32V).toArray 248 (0, 0)) := by rw [hw6]; exact HHK.out
                          have g8 : Keep (· = H) w14 w6' := by rw [hw6]; exact HKK2.out.drew
                          have m1 : w6'.cell? ⟨H, k, none⟩ = some (.int .u32 (a0.toNat : Int)) := by rw [hw6]; exact q1
                          have m2 : w6'.cell? ⟨V, k, none⟩ = some (.int .u32 (b0.toNat : Int)) := by rw [hw6]; exact q2
                          have mf : w6'.frozen? ⟨H, k, none⟩ = false := Lib.frozen_of_heap g7 k
                          have G7 := Lib.hid g7; have G8 := Lib.hid g8
                          clear hw6 g7 g8 q1 q2
                          repeat still_step
                          refine wpStill_nil ?_
                          go_wp2_with ((refine wpList_store1_g rfl _ _ _ rfl H k (.int .u32 (s9.toNat : Int)) rfl rfl rfl rfl 248 _ G7.out (by kernel_rfl) (by simp [addTo_length]; exact hlt5) _ HSET.out ?_))
                          intro w15 h15 k15 z15
                          have H15 := Lib.hid h15; have K15 := Lib.hid k15
                          clear h15 k15 z15 m1 m2 mf hsum
                          go_wp2_with fail
                          go_roundw
                          case rel => exact ⟨k + 1, by omega, by go_num, H15.out, G8.out.then K15.out (fun x hx => .inl hx)⟩
                          case measure => simp [intOf]; omega
                        · obtain rfl : k = 8 := by omega
                          have hHn : wr.heap[H]? = some (.cells (cV (hTo M (q + 1))) 248 (0, 0)) := by
                            rw [HNX.out, compress, HRE.out, cV_eq, ← addTo_full]; exact hHk
                          have HHN := Lib.hid hHn; have HKN := Lib.hid (HKP14.out.then hkk (fun x hx => .inl hx))
                          clear hHn hHk hkk
                          go_wp2_with fail
                          go_roundw
                          case rel => exact ⟨q + 1, by omega, by go_num, HHN.out, HKN.out⟩
                          case measure => simp [intOf]; omega
            · obtain rfl : q = Q := by omega
              have hRq := hk.at HR9.out (by omega)
              have hbq := hk.onto HB9.out (Nat.le_refl _) (by omega)
              obtain ⟨V, hV⟩ : ∃ V, V = hTo M q := ⟨_, rfl⟩
              rw [← hV] at hH HOUT
              have HRq := Lib.hid hRq; have HBq := Lib.hid hbq; have HHq := Lib.hid hH
              clear hRq hbq hV hH hk
              go_wp2_with (refine wpList_alloc_g rfl _ rfl _ _ Tryz.zeroHash rfl ?_)
              intro E w10 h10
              have hRE : R < E := by have := h10.out.eq; have := heap_lt HRq.out; omega
              have hHE : H < E := by have := h10.out.eq; have := heap_lt HHq.out; omega
              have hR10 := (h10.out.below.block R (heap_lt HRq.out)).trans HRq.out
              have hH10 := (h10.out.below.block H (heap_lt HHq.out)).trans HHq.out
              have hb10 := HBq.out.trans (h10.out.below.mono HBq.out.size)
              have HR10 := Lib.hid hR10; have HH10 := Lib.hid hH10; have HB10 := Lib.hid hb10; have HE10 := Lib.hid h10.out.cells
              clear hR10 hH10 hb10 h10 HRq HHq HBq
              go_wp2_with fail
              go_loopw [21, 217] (fun _ y wr => ∃ i : Nat, i ≤ 32 ∧ y = .int .i64 i ∧ wr.heap[E]? = some (.cells (cB 32 (outTo V i)) 36 (0, 0)) ∧ Keep (· = E) w10 wr) (fun _ y _ => 32 - (intOf y).toNat)
              case atStart => exact ⟨0, Nat.zero_le _, rfl, HE10.out, Keep.refl _ _⟩
              case round =>
                obtain ⟨i, hi, rfl, hE, hk⟩ := hrel
                by_cases hlt : i < 32
                · have j0 : (i : Int) < 32 := by omega
                  have hG2 := hk.at HH10.out (by omega)
                  have q5 := Lib.cell_of_heap hG2 (i / 4)
                  have e2 : (cV V)[i / 4]? = some (.int .u32 ((gW V.list (i / 4)).toNat : Int)) := by
                    have h8 : i / 4 < 8 := by omega
                    generalize i / 4 = m at h8
                    match m, h8 with
                    | 0, _ => rfl
                    | 1, _ => rfl
                    | 2, _ => rfl
                    | 3, _ => rfl
                    | 4, _ => rfl
                    | 5, _ => rfl
                    | 6, _ => rfl
                    | 7, _ => rfl
                  rw [e2] at q5
                  have t0 : ((i : Int) / 4).toNat = i / 4 := by omega
                  have t1 : (0 : Int) ≤ (i : Int) / 4 := by omega
                  have t2 : (i : Int) / 4 < 8 := by omega
                  have t3 : (0 : Int) ≤ 24 - 8 * ((i : Int) % 4) := by omega
                  have t4 : (24 - 8 * ((i : Int) % 4)).toNat = 24 - 8 * (i % 4) := by omega
                  have HE := Lib.hid hE; have HK := Lib.hid hk
                  clear hE hk hG2 e2
                  go_wp2_with ((refine wpList_store1_g rfl _ _ _ rfl E i (.int .u8 (((gW V.list (i / 4)).toNat : Int) / 2 ^ (24 - 8 * (i % 4)) % 256)) rfl rfl rfl rfl 36 _ HE.out (by kernel_rfl) (by rw [cB_size _ _ (by rw [outTo_length]; omega)]; exact hlt) _ (out_put V i hlt) ?_))
                  intro w6' h6 k6 z6
                  have H6 := Lib.hid h6; have K6 := Lib.hid k6
                  clear h6 k6 z6 q5 t0 t4
                  go_wp2_with fail
                  go_roundw
                  case rel => exact ⟨i + 1, by omega, by go_num, H6.out, HK.out.then K6.out (fun x hx => .inl hx)⟩
                  case measure => simp [intOf]; omega
                · obtain rfl : i = 32 := by omega
                  have hR := hk.at HR10.out (by omega)
                  have hbl := hk.onto HB10.out (Nat.le_refl _) (by omega)
                  have HE := Lib.hid hE; have HR6 := Lib.hid hR; have HBL := Lib.hid hbl
                  clear hE hk hR hbl
                  have hout : Hid (cB 32 (outTo V 32) = c8 (shaF b)) := by
                    refine Lib.hid ?_
                    rw [cB_full _ _ (outTo_length _ _), ← HOUT.out]; rfl
                  go_wp2_with (first | (refine wpList_load_row rfl _ _ rfl E rfl _ (cB 32 (outTo V 32)) _ _ HE.out Tryz.underlying36 rfl (Tryz.sizeZ _ (by simp [outTo])) ?_) | (refine wpList_store_row_g (t := 36) (old := cB 32 []) rfl 36 (.tmp 2) _ rfl R (cB 32 (outTo V 32)) rfl rfl HR6.out (Tryz.sizeZ _ (by simp [outTo])) (by rw [cB_size _ _ (by simp), cB_size _ _ (by simp [outTo])]) (one_b _ _) ?_))
                  intro w7' h7 k7 z7
                  have H7 := Lib.hid h7
                  have H8 := Lib.hid (k7.onto HBL.out (Nat.le_refl _) (by omega))
                  clear h7 k7 z7
                  go_wp2_with fail
                  exact bodyPost_ret (results_cell_row rfl _ _ R _ (cB 32 (outTo V 32)) _ _ rfl H7.out Tryz.underlying36 rfl (Tryz.sizeZ _ (by simp [outTo]))) rfl ⟨by rw [hout.out], H8.out⟩
end Go.Proofs.YtmclmccgghnglaaGreat
