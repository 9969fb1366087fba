/- tallageref07.Build, Same; tallagelaw07.lives. -/
import Derived.Test.YtbfdjjaonjepnaaPrfA
namespace Go.Proofs.Ytbfdjjaonjepnaa
open Go.RowKit

set_option maxRecDepth 100000 in
set_option maxHeartbeats 4000000 in
theorem tbuild_any (w : World) (g : Nat) (a : Option Nat) (texts : List (List UInt8)) (k i : Int) (l : List (List UInt8)) (v : Value) (hT : ∀ w' a', Grew w g a w' a' → Texts w' v l) (ht : Tr w g a texts) (hf : Fair l) (htl : texts.length < 900000000) :
    Calls Try.prog 65 #[.pointer (some ⟨g, 0, none⟩), .int .i64 k, v, .int .i64 i] w fun e w' => ∃ v' a', e = .returned (.tuple #[v', .int .i64 (proofE k l i)]) ∧ Rd w' hE 32 v' (proofV k l i) ∧ Grew w g a w' a' := by
  obtain ⟨ad, cap, rfl, hc1, hc2⟩ := (hT w a (Grew.of_below g a (Below.refl _ _))).shape
  have H := Lib.hid hT; have HF := Lib.hid hf; have HT := Lib.hid ht
  clear hT hf ht
  obtain ⟨n, hn⟩ : ∃ n, n = l.length := ⟨_, rfl⟩
  rw [← hn] at hc1 H ⊢
  have HN := Lib.hid hn
  by_cases hy : whyF k l.length = 0
  · obtain ⟨hk, h1, hn1⟩ := why_zero hy
    rw [← hn] at h1 hn1
    have hyn : whyF k n = 0 := by rw [hn]; exact hy
    by_cases hi : i < 0 ∨ (n : Int) ≤ i
    · have hE : proofE k l i = 5 := by unfold proofE; rw [if_pos hy, if_pos (by rw [← hn]; exact hi)]
      have hV : proofV k l i = [] := by unfold proofV; rw [hE]; rfl
      rw [hE, hV]
      have HYN := Lib.hid hyn
      clear hE hV hy hyn hn
      have hi2 : i < 0 ∨ (¬ i < 0 ∧ (n : Int) ≤ i) := by omega
      clear hi
      rcases hi2 with hi | ⟨hi, hi3⟩
      all_goals
        go_enter Try.func65, Try.ntmps65
        go_wp2_with fail
        refine (twhy_any _ _ _ _ _).mono ?_
        rintro e w1 ⟨rfl, hw1⟩
        subst hw1
        rw [HYN.out]
        go_wp2_with fail
        go_ret2
        exact ⟨_, a, rfl, Rd.nil _ _ _, Grew.of_below g a (Below.refl _ _)⟩
    · have hi1 : ¬ i < 0 := by omega
      have hi2 : ¬ (n : Int) ≤ i := by omega
      have hE : proofE k l i = 0 := by unfold proofE; rw [if_pos hy, if_neg (by rw [← hn]; exact hi)]
      have hV : proofV k l i = proofF k l i.toNat := by unfold proofV; rw [hE]; rfl
      rw [hE, hV]
      have HYN := Lib.hid hyn; have HK := Lib.hid hk
      clear hE hV hy hyn hn hi hk
      obtain ⟨i0, rfl⟩ : ∃ i0 : Nat, i = (i0 : Int) := ⟨i.toNat, by omega⟩
      rw [Int.toNat_natCast]
      have hin : i0 < n := by omega
      replace hi1 : ((i0 : Int) < 0) = False := eq_false hi1
      have hi3 : ¬ n ≤ i0 := by omega
      go_enter Try.func65, Try.ntmps65
      go_wp2_with fail
      refine (twhy_any _ _ _ _ _).mono ?_
      rintro e w1 ⟨rfl, hw1⟩
      subst hw1
      rw [HYN.out]
      go_wp2_with fail
      obtain ⟨d, hd⟩ : ∃ d, d = depthF l.length := ⟨_, rfl⟩
      have hd10 : d ≤ 10 := by rw [hd]; exact depthF_10 _ (by have := HN.out; omega)
      have HD := Lib.hid hd; have HN10 : Hid (l.length ≤ 1024) := Lib.hid (by have := HN.out; omega)
      clear hd
      refine (tlevels_any w g a texts k l _ H.out HT.out HK.out (by have := HN.out; omega) HN10.out HF.out htl).mono ?_
      rintro e w5 ⟨v5, a5, rfl, hr5, ht5, hg5⟩
      obtain ⟨rad, rcap, hv5, hrc1, hrc2⟩ := hr5.shape
      rw [levelsF_length, ← HD.out] at hv5 hrc1
      subst hv5
      obtain ⟨rb, ro, u0, hrad, hrb, _, _⟩ := hr5.at 0 (by rw [levelsF_length]; omega)
      subst hrad
      have hrow : ∀ j, j ≤ d → _ := fun j hj => rows_at hr5 j (by rw [← HD.out]; exact hj) HN10.out
      have HROW := Lib.hid hrow; have HG5 := Lib.hid hg5
      clear hrow hr5 hg5 ht5
      go_wp2_with fail
      go_loopw [3, 12, 13] (fun x y z wr => ∃ j p : Nat, j ≤ d ∧ z = .int .i64 j ∧ Hid (p = i0 / 2 ^ j) ∧ x = .int .i64 p ∧ Own wr w5.heap.size 48 hE 32 y ((proofF k l i0).take j) ∧ Below w5.heap.size w5 wr) (fun _ _ z _ => d - (intOf z).toNat)
      case atStart => exact ⟨0, i0, Nat.zero_le _, rfl, Lib.hid (by simp), rfl, Own.nil _ _ _ _ _, Below.refl _ _⟩
      case round =>
        obtain ⟨j, p, hj, rfl, hp, rfl, hown, hb⟩ := hrel
        by_cases hjd2 : j < d
        · have hjd : (j : Int) < (d : Int) + 1 := by omega
          obtain ⟨pj, qj, rcj, h, hh, hh1, hh2, hrb5, hcj, hpj, hrdj⟩ := HROW.out j hj
          have hcw := (hb.cell (p := ⟨rb, ro + j, none⟩) hrb5).trans hcj
          have hlen : h = 2 ^ (d - j) := by rw [hh, rowN_pow k l j (by rw [← HD.out]; exact hj), HD.out]
          have hpl : p < 2 ^ (d - j) := by rw [hp.out, HD.out]; exact place_lt (by rw [← HN.out]; exact hin) (by rw [← HD.out]; exact hj)
          have hbl : bes p < h := by
            rw [hlen, show d - j = d - j - 1 + 1 by omega] at *
            exact bes_lt hpl
          rw [← hlen] at hpl
          have hj1 : (j : Int) + 1 < (d : Int) + 1 := by omega
          obtain ⟨y, hy⟩ : ∃ y, y = hAt (rowN k l j) (bes p) := ⟨_, rfl⟩
          have hy32 : y.length = 32 := by rw [hy]; exact hAt_length (rowN_32 _ _ _) _
          obtain ⟨_, _, e1, _, hrange⟩ := (hrdj.later hb).hash (rowN_32 _ _ _) (bes p) (by rw [← hh]; exact hbl)
          cases e1
          rw [← hAt_eq _ (bes p) (by rw [← hh]; exact hbl), ← hy] at hrange
          have htk := proofF_take k l i0 j (by rw [← HD.out]; exact hjd2)
          rw [← hp.out, ← hy] at htk
          have hlr : ((proofF k l i0).take j).length = j := by rw [List.length_take, proofF_length, ← HD.out]; omega
          obtain ⟨oad, on, ocap, hox⟩ := hown.slice
          subst hox
          obtain ⟨q, hq⟩ : ∃ q, q = bes p := ⟨_, rfl⟩
          have hq2 : (p % 2 = 1 ∧ (p : Int) - 1 = (q : Int)) ∨ (p % 2 = 0 ∧ (p : Int) + 1 = (q : Int)) := by
            rw [hq]; unfold bes
            rcases Nat.mod_two_eq_zero_or_one p with h0 | h0
            · right; rw [if_neg (by omega)]; exact ⟨h0, by omega⟩
            · left; rw [if_pos h0]; exact ⟨h0, by omega⟩
          have hbi : (q : Int) < (h : Int) := by omega
          rw [← hq] at hrange
          have HRG := Lib.hid hrange; have HY32 := Lib.hid hy32; have HTK := Lib.hid htk; have HOWN := Lib.hid hown; have HBR := Lib.hid hb; have HLR := Lib.hid hlr
          clear hrange hy hy32 htk hown hb hlr hh hlen hq hcj hrdj hbl hh1
          rcases hq2 with ⟨h0, h2⟩ | ⟨h0, h2⟩
          · have hm1 : ((p : Int) % 2 == 1) = true := by simp; omega
            have hw1 : IntKind.i64.wrap ((p : Int) - 1) = (q : Int) := by rw [h2]; exact IntWalk.i64_in _ (by omega)
            go_wp2_with (first
              | (refine wpList_load_mid rfl _ _ rfl pj (qj + q * 32) rfl (y.map byteV) _ HRG.out Try.underlying48 rfl (Try.sizeHm _ HY32.out) ?_)
              | (refine wpList_build1 rfl 87 _ rfl Try.underlying87 Try.infoHash rfl (by omega) (by omega) (.agg (c8 y)) (c8 y) rfl rfl (by rw [c8_size, HY32.out]) ?_)
              | (at_builtin; refine own_app rfl _ _ _ rfl Try.underlying87 Try.infoHash rfl (by omega) (B := w5.heap.size) (base := w5.heap.size) (w0 := w5) (us := c8 y) y HOWN.out rfl rfl (by rw [hE_32 _ HY32.out]; rfl) (hE_len _) (hE_one _) (by rw [HLR.out]; unfold maxLen; omega) (by rw [HLR.out]; omega) HBR.out (Nat.le_refl _) HBR.out.size (Nat.le_refl _) ?_))
            intro v' w7 hown7 hb7 hg7 _
            obtain ⟨oad', on', ocap', hox⟩ := hown7.slice
            subst hox
            rw [← HTK.out] at hown7
            have HO7 := Lib.hid hown7; have HB7 := Lib.hid hb7
            clear hown7 hb7 hg7 hcw
            go_wp2_with fail
            go_roundw
            case rel => exact ⟨j + 1, p / 2, by omega, by go_num, Lib.hid (by rw [hp.out, place_next]), by go_num, HO7.out, HB7.out⟩
            case measure => simp [intOf]; omega
          · have hm1 : ((p : Int) % 2 == 1) = false := by simp; omega
            have hw1 : IntKind.i64.wrap ((p : Int) + 1) = (q : Int) := by rw [h2]; exact IntWalk.i64_in _ (by omega)
            go_wp2_with (first
              | (refine wpList_load_mid rfl _ _ rfl pj (qj + q * 32) rfl (y.map byteV) _ HRG.out Try.underlying48 rfl (Try.sizeHm _ HY32.out) ?_)
              | (refine wpList_build1 rfl 87 _ rfl Try.underlying87 Try.infoHash rfl (by omega) (by omega) (.agg (c8 y)) (c8 y) rfl rfl (by rw [c8_size, HY32.out]) ?_)
              | (at_builtin; refine own_app rfl _ _ _ rfl Try.underlying87 Try.infoHash rfl (by omega) (B := w5.heap.size) (base := w5.heap.size) (w0 := w5) (us := c8 y) y HOWN.out rfl rfl (by rw [hE_32 _ HY32.out]; rfl) (hE_len _) (hE_one _) (by rw [HLR.out]; unfold maxLen; omega) (by rw [HLR.out]; omega) HBR.out (Nat.le_refl _) HBR.out.size (Nat.le_refl _) ?_))
            intro v' w7 hown7 hb7 hg7 _
            obtain ⟨oad', on', ocap', hox⟩ := hown7.slice
            subst hox
            rw [← HTK.out] at hown7
            have HO7 := Lib.hid hown7; have HB7 := Lib.hid hb7
            clear hown7 hb7 hg7 hcw
            go_wp2_with fail
            go_roundw
            case rel => exact ⟨j + 1, p / 2, by omega, by go_num, Lib.hid (by rw [hp.out, place_next]), by go_num, HO7.out, HB7.out⟩
            case measure => simp [intOf]; omega
        · obtain rfl : j = d := by omega
          rw [List.take_of_length_le (by rw [proofF_length, ← HD.out]; exact Nat.le_refl _)] at hown
          obtain ⟨oad, on, ocap, hox⟩ := hown.slice
          subst hox
          have HRD := Lib.hid (hown.rd hE_len); have HBR := Lib.hid (HG5.out.trans (Grew.of_below g a5 hb))
          clear hown hb
          go_wp2_with fail
          go_ret2
          exact ⟨_, a5, rfl, HRD.out, HBR.out⟩
  · have hE : proofE k l i = whyF k l.length := by unfold proofE; rw [if_neg hy]
    have hV : proofV k l i = [] := by unfold proofV; rw [hE, if_neg hy]
    rw [hE, hV]
    have hne : (whyF k l.length != 0) = true := by simpa using hy
    obtain ⟨ye, hye⟩ : ∃ ye, ye = whyF k l.length := ⟨_, rfl⟩
    rw [← hye] at hne ⊢
    have HYN : Hid (whyF k n = ye) := Lib.hid (by rw [hn]; exact hye.symm)
    clear hE hV hy hn hye
    go_enter Try.func65, Try.ntmps65
    go_wp2_with fail
    refine (twhy_any _ _ _ _ _).mono ?_
    rintro e w1 ⟨rfl, hw1⟩
    subst hw1
    rw [HYN.out]
    go_wp2_with fail
    go_ret2
    exact ⟨_, a, rfl, Rd.nil _ _ _, Grew.of_below g a (Below.refl _ _)⟩

set_option maxRecDepth 100000 in
set_option maxHeartbeats 4000000 in
theorem hsame_any (v1 v2 : Value) (row : List (List UInt8)) (w : World) (h1 : Rd w hE 32 v1 row) (h2 : Rd w hE 32 v2 row) (h32 : All32 row) :
    Calls Try.prog 66 #[v1, v2] w (Ret w (.bool true)) := by
  obtain ⟨ad1, cap1, rfl, hc1, hc2⟩ := h1.shape
  obtain ⟨ad2, cap2, rfl, hd1, hd2⟩ := h2.shape
  have R1 := Lib.hid h1; have R2 := Lib.hid h2; have H32 := Lib.hid h32
  clear h1 h2 h32
  obtain ⟨m, hm⟩ : ∃ m, m = row.length := ⟨_, rfl⟩
  rw [← hm] at hc1 hd1 R1 R2 ⊢
  have HM := Lib.hid hm; clear hm
  go_enter Try.func66, Try.ntmps66
  go_wp2_with fail
  go_loopw [13] (fun x wr => ∃ j : Nat, j ≤ m ∧ x = .int .i64 j ∧ Below w.heap.size w wr) (fun x _ => m - (intOf x).toNat)
  case atStart => exact ⟨0, Nat.zero_le _, rfl, Below.refl _ _⟩
  case round =>
    obtain ⟨j, hj, rfl, hb⟩ := hrel
    have HB := Lib.hid hb; clear hb
    by_cases hjm : j < m
    · obtain ⟨p1, q1, hp1, hpb1⟩ := R1.out.ptr (by rw [← HM.out]; omega)
      obtain ⟨p2, q2, hp2, hpb2⟩ := R2.out.ptr (by rw [← HM.out]; omega)
      subst hp1; subst hp2
      have l1 : ∀ w', Below w.heap.size w w' → _ := fun w' h => load_hash_at (S := fun x => w.heap.size ≤ x) R1.out H32.out j (by rw [← HM.out]; exact hjm) ⟨h.os, h.tape, h.output, h.size, fun k hk _ => h.block k hk⟩ (by omega)
      have l2 : ∀ w', Below w.heap.size w w' → _ := fun w' h => load_hash_at (S := fun x => w.heap.size ≤ x) R2.out H32.out j (by rw [← HM.out]; exact hjm) ⟨h.os, h.tape, h.output, h.size, fun k hk _ => h.block k hk⟩ (by omega)
      have L1 := Lib.hid l1; have L2 := Lib.hid l2
      clear l1 l2
      have heq := Try.eqH (hAt row j) (hAt row j) (hAt_length H32.out _) (hAt_length H32.out _)
      rw [decide_eq_true (rfl : hAt row j = hAt row j)] at heq
      have hS : Below w.heap.size w wr.drew := HB.out.drew
      go_wp2_with fail
      refine wp_region_till (fun w' => Below w.heap.size w w') 8 9 (by kernel_rfl) rfl ?_
      refine till_take 0 (some 16) rfl rfl (by kernel_rfl) (by kernel_rfl) (by kernel_rfl) (by kernel_rfl) (by kernel_rfl) (by kernel_rfl) (fun _ _ _ h => h) (.inl ⟨by rfl, fun w' _ => (by go_simp; rfl)⟩) hS ?_
      go_frame
      refine till_take 1 (some 17) rfl rfl (by kernel_rfl) (by kernel_rfl) (by kernel_rfl) (by kernel_rfl) (by kernel_rfl) (by kernel_rfl) (fun _ _ _ h => h) (.inl ⟨by rfl, fun w' _ => (by go_simp; rfl)⟩) hS ?_
      go_frame
      refine till_take 2 (some 18) rfl rfl (by kernel_rfl) (by kernel_rfl) (by kernel_rfl) (by kernel_rfl) (by kernel_rfl) (by kernel_rfl) (fun _ _ _ h => h) (.inl ⟨by rfl, fun w' _ => (by go_simp; rfl)⟩) hS ?_
      go_frame
      refine till_take 3 (some 19) rfl rfl (by kernel_rfl) (by kernel_rfl) (by kernel_rfl) (by kernel_rfl) (by kernel_rfl) (by kernel_rfl) (fun _ _ _ h => h) (yields_load (by rfl) 48 (.tmp 18) rfl (.pointer (some ⟨p1, q1 + j * 32, none⟩)) rfl _ L1.out) hS ?_
      go_frame
      refine till_take 4 (some 20) rfl rfl (by kernel_rfl) (by kernel_rfl) (by kernel_rfl) (by kernel_rfl) (by kernel_rfl) (by kernel_rfl) (fun _ _ _ h => h) (.inl ⟨by rfl, fun w' _ => (by go_simp; rfl)⟩) hS ?_
      go_frame
      refine till_take 5 (some 21) rfl rfl (by kernel_rfl) (by kernel_rfl) (by kernel_rfl) (by kernel_rfl) (by kernel_rfl) (by kernel_rfl) (fun _ _ _ h => h) (.inl ⟨by rfl, fun w' _ => (by go_simp; rfl)⟩) hS ?_
      go_frame
      refine till_take 6 (some 22) rfl rfl (by kernel_rfl) (by kernel_rfl) (by kernel_rfl) (by kernel_rfl) (by kernel_rfl) (by kernel_rfl) (fun _ _ _ h => h) (.inl ⟨by rfl, fun w' _ => (by go_simp; rfl)⟩) hS ?_
      go_frame
      refine till_take 7 (some 23) rfl rfl (by kernel_rfl) (by kernel_rfl) (by kernel_rfl) (by kernel_rfl) (by kernel_rfl) (by kernel_rfl) (fun _ _ _ h => h) (yields_load (by rfl) 48 (.tmp 22) rfl (.pointer (some ⟨p2, q2 + j * 32, none⟩)) rfl _ L2.out) hS ?_
      go_frame
      refine till_one 8 rfl (by kernel_rfl) fun K hK => ?_
      simp only [List.getElem_toArray, List.getElem_cons_succ, List.getElem_cons_zero]
      rw [if_pos (by rfl)]
      go_simp
      refine hK _ _ (fun h => absurd rfl h) ?_
      clear hK heq
      refine till_done (by kernel_rfl) ?_ _
      have HS := Lib.hid hS; clear hS
      go_wp2_with fail
      go_roundw
      case rel => exact ⟨j + 1, by omega, by go_num, HS.out⟩
      case measure => simp [intOf]; omega
    · obtain rfl : j = m := by omega
      go_wp2_with fail
      go_ret
      exact ⟨rfl, HB.out⟩
end Go.Proofs.Ytbfdjjaonjepnaa
