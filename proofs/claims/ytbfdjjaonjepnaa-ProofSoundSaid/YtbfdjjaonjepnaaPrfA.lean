/- Proofs of places, plainly; tallagelaw07.light; proof.Build. -/
import Derived.Test.YtbfdjjaonjepnaaMerkW
import Derived.WalkMore
import Derived.Laws.BitsLemmas
namespace Go.Proofs.Ytbfdjjaonjepnaa
open Go.RowKit

/-- Beside number x. -/
def bes (x : Nat) : Nat := if x % 2 = 1 then x - 1 else x + 1
theorem bes_lt {x m : Nat} (h : x < 2 ^ (m + 1)) : bes x < 2 ^ (m + 1) := by
  rw [Nat.pow_succ] at h ⊢
  unfold bes; split <;> omega
/-- The hashes beside the way of number i. -/
def proofF (k : Int) (l : List (List UInt8)) (i : Nat) : List (List UInt8) := (List.range (depthF l.length)).map fun j => hAt (rowN k l j) (bes (i / 2 ^ j))
/-- Build's error, and its hashes. -/
def proofE (k : Int) (l : List (List UInt8)) (i : Int) : Int := if whyF k l.length = 0 then (if i < 0 ∨ (l.length : Int) ≤ i then 5 else 0) else whyF k l.length
def proofV (k : Int) (l : List (List UInt8)) (i : Int) : List (List UInt8) := if proofE k l i = 0 then proofF k l i.toNat else []
theorem proofF_length (k : Int) (l : List (List UInt8)) (i : Nat) : (proofF k l i).length = depthF l.length := by simp [proofF]
theorem proofF_32 (k : Int) (l : List (List UInt8)) (i : Nat) : All32 (proofF k l i) := by
  intro x hx
  unfold proofF at hx
  obtain ⟨j, _, rfl⟩ := List.mem_map.1 hx
  exact hAt_length (rowN_32 _ _ _) _
theorem proofV_32 (k : Int) (l : List (List UInt8)) (i : Int) : All32 (proofV k l i) := by
  unfold proofV
  split
  · exact proofF_32 _ _ _
  · intro x hx; simp at hx
theorem proofF_take (k : Int) (l : List (List UInt8)) (i j : Nat) (hj : j < depthF l.length) : (proofF k l i).take (j + 1) = (proofF k l i).take j ++ [hAt (rowN k l j) (bes (i / 2 ^ j))] := by
  rw [List.take_succ_eq_append_getElem (by rw [proofF_length]; exact hj)]
  simp [proofF]
theorem place_lt {i n j : Nat} (hi : i < n) (hj : j ≤ depthF n) : i / 2 ^ j < 2 ^ (depthF n - j) := by
  have h := depthF_ge n
  rw [Nat.div_lt_iff_lt_mul (Nat.pow_pos (by omega)), ← Nat.pow_add, Nat.sub_add_cancel hj]
  omega
theorem place_next (i j : Nat) : i / 2 ^ (j + 1) = i / 2 ^ j / 2 := by rw [Nat.pow_succ, Nat.div_div_eq_div_mul]
theorem rootV_no {k : Int} {l : List (List UInt8)} (h : ¬ whyF k l.length = 0) : rootV k l = .tuple #[.agg (c8 zero32), .int .i64 (whyF k l.length)] := by unfold rootV; rw [if_neg h]

theorem nat_xor1 (x : Nat) : x ^^^ 1 = bes x := by
  have h1 : (x ^^^ 1) / 2 = x / 2 := by rw [Nat.xor_div_two]; simp
  have h2 := @Nat.xor_mod_two_eq_one x 1
  unfold bes
  split <;> omega
theorem i64_xor1 (x : Nat) (hx : x < 9223372036854775807) : bits .xor .i64 (x : Int) 1 = (bes x : Int) := by
  show IntKind.i64.wrap ((BitVec.ofInt 64 (x : Int) ^^^ BitVec.ofInt 64 1).toNat : Int) = _
  have h1 : (BitVec.ofInt 64 1).toNat = 1 := by decide
  have h2 : (BitVec.ofInt 64 (x : Int)).toNat = x := by
    rw [BitVec.ofInt_natCast, BitVec.toNat_ofNat]; exact Nat.mod_eq_of_lt (by omega)
  have h3 : bes x ≤ x + 1 := by unfold bes; split <;> omega
  rw [BitVec.toNat_xor, h1, h2, nat_xor1, IntKind.wrap_i64]
  omega
theorem i64_and1 (n : Int) : bits .and .i64 n 1 = n % 2 := by
  have h1 : (BitVec.ofInt 64 1).toNat = 2 ^ 1 - 1 := by decide
  have key : (BitVec.ofInt 64 n &&& BitVec.ofInt 64 1).toNat = (n % ((2 ^ 64 : Nat) : Int)).toNat % 2 ^ 1 := by
    rw [BitVec.toNat_and, BitVec.toNat_ofInt, h1, Nat.and_two_pow_sub_one_eq_mod]
  show IntKind.i64.wrap ((BitVec.ofInt 64 n &&& BitVec.ofInt 64 1).toNat : Nat) = n % 2
  rw [key, IntKind.wrap_i64]
  omega

set_option maxRecDepth 100000 in
set_option maxHeartbeats 1000000 in
theorem light07_any (v : Value) (l : List (List UInt8)) (w : World) (h : Texts w v l) (hz : ∀ b ∈ l, b.length ≤ 140737488355328) : Calls Try.prog 62 #[v] w fun e w' => e = .returned (.bool (lightB l)) ∧ w = w' := by
  obtain ⟨ad, cap, rfl, hc1, hc2⟩ := h.shape
  by_cases h40 : 40 < l.length
  · have hb : lightB l = false := by unfold lightB; simp; omega
    rw [hb]
    clear hb
    go_enter Try.func62, Try.ntmps62
    go_wp2_with fail
    go_ret
    exact ⟨rfl, rfl⟩
  · have H := Lib.hid h; have HZ := Lib.hid hz; clear h hz
    obtain ⟨n, hn⟩ : ∃ n, n = l.length := ⟨_, rfl⟩
    rw [← hn] at h40 hc1 ⊢
    have HN := Lib.hid hn; clear hn
    go_enter Try.func62, Try.ntmps62
    go_wp2_with fail
    go_loop [3, 11] (fun x y => ∃ i s : Nat, i ≤ n ∧ y = .int .i64 i ∧ x = .int .i64 s ∧ Hid (s = total (l.take i)) ∧ s ≤ 2000) (fun _ y => n - (intOf y).toNat)
    case atStart => exact ⟨0, 0, Nat.zero_le _, rfl, rfl, Lib.hid rfl, by omega⟩
    case round =>
      obtain ⟨i, s, hi, rfl, rfl, hs, hs2⟩ := hrel
      by_cases hlt : i < n
      · obtain ⟨b, off, u, rfl, hb, hcell, hru⟩ := H.out.at i (by have := HN.out; omega)
        obtain ⟨uad, ucap, hu, hu1, hu2⟩ := hru.shape
        subst hu
        obtain ⟨m, hm⟩ : ∃ m, m = (l[i]'(by have := HN.out; omega)).length := ⟨_, rfl⟩
        have hmz : m ≤ 140737488355328 := by rw [hm]; exact HZ.out _ (List.getElem_mem _)
        have htt := total_take l i (by have := HN.out; omega)
        rw [← hm] at hu1 hcell htt
        rw [← hs.out] at htt
        have HTT := Lib.hid htt; have HM := Lib.hid hm
        clear htt hm hru
        by_cases hbig : 2000 < s + m
        · have hb : lightB l = false := by
            unfold lightB
            have h1 := total_le l (i + 1)
            have h2 := HTT.out
            simp; omega
          have HB := Lib.hid hb
          clear hb
          have j1 : ((s : Int) + (m : Int)) > 2000 := by omega
          go_wp2_with fail
          go_ret
          exact ⟨by rw [HB.out]; rfl, rfl⟩
        · have j1 : ¬ ((s : Int) + (m : Int)) > 2000 := by omega
          go_wp2_with fail
          go_round
          case rel => exact ⟨i + 1, s + m, by omega, by go_num, by go_num, Lib.hid HTT.out.symm, by omega⟩
          case measure => simp [intOf]; omega
      · obtain rfl : i = n := by omega
        have hb : lightB l = true := by
          unfold lightB
          have h2 := hs.out
          rw [HN.out, List.take_length] at h2
          have := HN.out
          simp; omega
        have HB := Lib.hid hb
        clear hb
        go_wp2_with fail
        go_ret
        exact ⟨by rw [HB.out]; rfl, rfl⟩

set_option maxRecDepth 100000 in
set_option maxHeartbeats 4000000 in
theorem pbuild_any (k i : Int) (l : List (List UInt8)) (v : Value) (w : World) (h : Texts w v l) (hf : Fair l) :
    Calls Try.prog 64 #[.int .i64 k, v, .int .i64 i] w fun e w' => ∃ v', e = .returned (.tuple #[v', .int .i64 (proofE k l i)]) ∧ Own w' w.heap.size 48 hE 32 v' (proofV k l i) ∧ Below w.heap.size w w' := by
  obtain ⟨ad, cap, rfl, hc1, hc2⟩ := h.shape
  have H := Lib.hid h; have HF := Lib.hid hf
  clear h hf
  obtain ⟨n, hn⟩ : ∃ n, n = l.length := ⟨_, rfl⟩
  rw [← hn] at hc1 H ⊢
  have HN := Lib.hid hn
  by_cases hy : whyF k l.length = 0
  · obtain ⟨hk, h1, hn1⟩ := why_zero hy
    obtain ⟨ga, hra, hga32⟩ : ∃ ga, rootV k l = .tuple #[.agg (c8 ga), .int .i64 0] ∧ ga.length = 32 := ⟨_, rootV_ok hy, rootF_length _ _⟩
    rw [← hn] at h1 hn1
    by_cases hi : i < 0 ∨ (n : Int) ≤ i
    · have hE : proofE k l i = 5 := by unfold proofE; rw [if_pos hy, if_pos (by rw [← hn]; exact hi)]
      have hV : proofV k l i = [] := by unfold proofV; rw [hE]; rfl
      rw [hE, hV]
      have HRA := Lib.hid hra; have HG32 := Lib.hid hga32
      clear hra hga32 hE hV hy hn
      have hi2 : i < 0 ∨ (¬ i < 0 ∧ (n : Int) ≤ i) := by omega
      clear hi
      rcases hi2 with hi | ⟨hi, hi3⟩
      all_goals
        go_enter Try.func64, Try.ntmps64
        go_wp2_with fail
        go_step3
        go_wp2_with fail
        refine (mroot_any k l _ _ H.out HF.out).mono ?_
        rintro e w2 ⟨rfl, hb2⟩
        rw [HRA.out]
        have HB2 := Lib.hid hb2; clear hb2
        go_wp2_with (refine wpList_alloc_g rfl _ rfl _ _ Try.zeroHash rfl ?_)
        intro R w3 h3
        go_wp2_with (refine wpList_store_row_g (t := 48) (old := cB 32 []) rfl 48 _ _ rfl R (c8 ga) rfl rfl h3.out.cells (Try.sizeHs _ HG32.out) (by rw [c8_size, HG32.out]; rfl) (by rw [← cB_full 32 _ HG32.out]; exact one_b _ _) ?_)
        intro w4 h4 k4 z4
        have hb24 : Below w2.heap.size w2 w4 := h3.out.below.trans (k4.below (B := w2.heap.size) (fun q hq e => by have := h3.out.eq; omega) h3.out.below.size)
        have HB4 := Lib.hid (HB2.out.trans (hb24.mono HB2.out.size))
        clear hb24 h4 k4 z4 h3 HB2
        go_wp2_with fail
        rw [Exit.noGoto_ret]
        go_ret2
        exact ⟨_, rfl, Own.nil _ _ _ _ _, HB4.out⟩
    · have hi1 : ¬ i < 0 := by omega
      have hi2 : ¬ (n : Int) ≤ i := by omega
      have hE : proofE k l i = 0 := by unfold proofE; rw [if_pos hy, if_neg (by rw [← hn]; exact hi)]
      have hV : proofV k l i = proofF k l i.toNat := by unfold proofV; rw [hE]; rfl
      rw [hE, hV]
      have HRA := Lib.hid hra; have HG32 := Lib.hid hga32; have HK := Lib.hid hk
      clear hra hga32 hE hV hy hn hi hk
      obtain ⟨i0, rfl⟩ : ∃ i0 : Nat, i = (i0 : Int) := ⟨i.toNat, by omega⟩
      rw [Int.toNat_natCast]
      have hin : i0 < n := by omega
      replace hi1 : ((i0 : Int) < 0) = False := eq_false hi1
      have hi3 : ¬ n ≤ i0 := by omega
      go_enter Try.func64, Try.ntmps64
      go_wp2_with fail
      go_step3
      go_wp2_with fail
      refine (mroot_any k l _ _ H.out HF.out).mono ?_
      rintro e w2 ⟨rfl, hb2⟩
      rw [HRA.out]
      have HB2 := Lib.hid hb2; clear hb2
      go_wp2_with (refine wpList_alloc_g rfl _ rfl _ _ Try.zeroHash rfl ?_)
      intro R w3 h3
      go_wp2_with (refine wpList_store_row_g (t := 48) (old := cB 32 []) rfl 48 _ _ rfl R (c8 ga) rfl rfl h3.out.cells (Try.sizeHs _ HG32.out) (by rw [c8_size, HG32.out]; rfl) (by rw [← cB_full 32 _ HG32.out]; exact one_b _ _) ?_)
      intro w4 h4 k4 z4
      have hb24 : Below w2.heap.size w2 w4 := h3.out.below.trans (k4.below (B := w2.heap.size) (fun q hq e => by have := h3.out.eq; omega) h3.out.below.size)
      have HB4 := Lib.hid (HB2.out.trans (hb24.mono HB2.out.size))
      clear hb24 h4 k4 z4 h3 HB2
      go_wp2_with fail
      obtain ⟨d, hd⟩ : ∃ d, d = depthF l.length := ⟨_, rfl⟩
      have hd10 : d ≤ 10 := by rw [hd]; exact depthF_10 _ (by have := HN.out; omega)
      have HD := Lib.hid hd; have HN10 : Hid (l.length ≤ 1024) := Lib.hid (by have := HN.out; omega)
      clear hd
      refine (levels_any k l _ _ (H.out.later HB4.out) HK.out (by have := HN.out; omega) HN10.out HF.out).mono ?_
      rintro e w5 ⟨v5, rfl, hr5, hb5⟩
      replace hr5 := hr5.rows
      obtain ⟨rad, rcap, hv5, hrc1, hrc2⟩ := hr5.shape
      rw [levelsF_length, ← HD.out] at hv5 hrc1
      subst hv5
      obtain ⟨rb, ro, u0, hrad, hrb, _, _⟩ := hr5.at 0 (by rw [levelsF_length]; omega)
      subst hrad
      have hrow : ∀ j, j ≤ d → _ := fun j hj => rows_at hr5 j (by rw [← HD.out]; exact hj) HN10.out
      have HROW := Lib.hid hrow; have HB5 := Lib.hid (HB4.out.trans (hb5.mono HB4.out.size))
      clear hrow hr5 hb5
      go_wp2_with fail
      go_step3
      go_wp2_with fail
      go_loopw [2, 10, 36] (fun x y z wr => ∃ j p : Nat, j ≤ d ∧ z = .int .i64 j ∧ Hid (p = i0 / 2 ^ j) ∧ x = .int .i64 p ∧ Own wr w5.heap.size 48 hE 32 y ((proofF k l i0).take j) ∧ Below w5.heap.size w5 wr) (fun _ _ z _ => d + 1 - (intOf z).toNat)
      case atStart => exact ⟨0, i0, Nat.zero_le _, rfl, Lib.hid (by simp), rfl, Own.nil _ _ _ _ _, Below.refl _ _⟩
      case round =>
        obtain ⟨j, p, hj, rfl, hp, rfl, hown, hb⟩ := hrel
        have hjd : (j : Int) < (d : Int) + 1 := by omega
        obtain ⟨pj, qj, rcj, h, hh, hh1, hh2, hrb5, hcj, hpj, hrdj⟩ := HROW.out j hj
        have hcw := (hb.cell (p := ⟨rb, ro + j, none⟩) hrb5).trans hcj
        have hlen : h = 2 ^ (d - j) := by rw [hh, rowN_pow k l j (by rw [← HD.out]; exact hj), HD.out]
        by_cases hjd2 : j < d
        · have hpl : p < 2 ^ (d - j) := by rw [hp.out, HD.out]; exact place_lt (by rw [← HN.out]; exact hin) (by rw [← HD.out]; exact hj)
          have hbl : bes p < h := by
            rw [hlen, show d - j = d - j - 1 + 1 by omega] at *
            exact bes_lt hpl
          have hh3 : 2 ≤ h := by
            have : 2 ^ 1 ≤ 2 ^ (d - j) := Nat.pow_le_pow_right (by omega) (by omega)
            rw [hlen]; exact this
          rw [← hlen] at hpl
          have hne : ((h : Int) == 1) = false := by simp; omega
          obtain ⟨y, hy⟩ : ∃ y, y = hAt (rowN k l j) (bes p) := ⟨_, rfl⟩
          have hy32 : y.length = 32 := by rw [hy]; exact hAt_length (rowN_32 _ _ _) _
          obtain ⟨_, _, e1, _, hrange⟩ := (hrdj.later hb).hash (rowN_32 _ _ _) (bes p) (by rw [← hh]; exact hbl)
          cases e1
          rw [← hAt_eq _ (bes p) (by rw [← hh]; exact hbl), ← hy] at hrange
          have htk := proofF_take k l i0 j (by rw [← HD.out]; exact hjd2)
          rw [← hp.out, ← hy] at htk
          have hlr : ((proofF k l i0).take j).length = j := by rw [List.length_take, proofF_length, ← HD.out]; omega
          obtain ⟨oad, on, ocap, hox⟩ := hown.slice
          subst hox
          have hxor : bits BinOp.xor IntKind.i64 (p : Int) 1 = (bes p : Int) := i64_xor1 p (by omega)
          have hbi : (bes p : Int) < (h : Int) := by omega
          obtain ⟨q, hq⟩ : ∃ q, q = bes p := ⟨_, rfl⟩
          rw [← hq] at hxor hbi hrange
          have HRG := Lib.hid hrange; have HY32 := Lib.hid hy32; have HTK := Lib.hid htk; have HOWN := Lib.hid hown; have HBR := Lib.hid hb; have HLR := Lib.hid hlr
          clear hrange hy hy32 htk hown hb hlr hh hlen hq hcj hrdj hbl hh1 hpl
          go_wp2_with (first
            | (refine wpList_load_mid rfl _ _ rfl pj (qj + q * 32) rfl (y.map byteV) _ HRG.out Try.underlying48 rfl (Try.sizeHm _ HY32.out) ?_)
            | (refine wpList_build1 rfl 87 _ rfl Try.underlying87 Try.infoHash rfl (by omega) (by omega) (.agg (c8 y)) (c8 y) rfl rfl (by rw [c8_size, HY32.out]) ?_)
            | (at_builtin; refine own_app rfl _ _ _ rfl Try.underlying87 Try.infoHash rfl (by omega) (B := w5.heap.size) (base := w5.heap.size) (w0 := w5) (us := c8 y) y HOWN.out rfl rfl (by rw [hE_32 _ HY32.out]; rfl) (hE_len _) (hE_one _) (by rw [HLR.out]; unfold maxLen; omega) (by rw [HLR.out]; omega) HBR.out (Nat.le_refl _) HBR.out.size (Nat.le_refl _) ?_))
          intro v' w7 hown7 hb7 hg7 _
          obtain ⟨oad', on', ocap', hox⟩ := hown7.slice
          subst hox
          rw [← HTK.out] at hown7
          have HO7 := Lib.hid hown7; have HB7 := Lib.hid hb7
          clear hown7 hb7 hg7 hcw
          go_wp2_with fail
          go_roundw
          case rel => exact ⟨j + 1, p / 2, by omega, by go_num, Lib.hid (by rw [hp.out, place_next]), by go_num, HO7.out, HB7.out⟩
          case measure => simp [intOf]; omega
        · obtain rfl : j = d := by omega
          have hl1 : h = 1 := by rw [hlen, Nat.sub_self]
          subst hl1
          rw [List.take_of_length_le (by rw [proofF_length, ← HD.out]; exact Nat.le_refl _)] at hown
          obtain ⟨oad, on, ocap, hox⟩ := hown.slice
          subst hox
          have HOWN := Lib.hid (hown.mono HB5.out.size); have HBR := Lib.hid (HB5.out.trans (hb.mono HB5.out.size))
          clear hown hb hh hlen hcj hrdj
          go_wp2_with fail
          rw [Exit.noGoto_ret]
          go_ret2
          exact ⟨_, rfl, HOWN.out, HBR.out⟩
  · have hE : proofE k l i = whyF k l.length := by unfold proofE; rw [if_neg hy]
    have hV : proofV k l i = [] := by unfold proofV; rw [hE, if_neg hy]
    rw [hE, hV]
    obtain ⟨ga, hra, hga32⟩ : ∃ ga, rootV k l = .tuple #[.agg (c8 ga), .int .i64 (whyF k l.length)] ∧ ga.length = 32 := ⟨_, rootV_no hy, rfl⟩
    have HRA := Lib.hid hra; have HG32 := Lib.hid hga32
    have hne : (whyF k l.length != 0) = true := by simpa using hy
    obtain ⟨ye, hye⟩ : ∃ ye, ye = whyF k l.length := ⟨_, rfl⟩
    rw [← hye] at hne HRA ⊢
    clear hra hga32 hE hV hy hn hye
    go_enter Try.func64, Try.ntmps64
    go_wp2_with fail
    go_step3
    go_wp2_with fail
    refine (mroot_any k l _ _ H.out HF.out).mono ?_
    rintro e w2 ⟨rfl, hb2⟩
    rw [HRA.out]
    have HB2 := Lib.hid hb2; clear hb2
    go_wp2_with (refine wpList_alloc_g rfl _ rfl _ _ Try.zeroHash rfl ?_)
    intro R w3 h3
    go_wp2_with (refine wpList_store_row_g (t := 48) (old := cB 32 []) rfl 48 _ _ rfl R (c8 ga) rfl rfl h3.out.cells (Try.sizeHs _ HG32.out) (by rw [c8_size, HG32.out]; rfl) (by rw [← cB_full 32 _ HG32.out]; exact one_b _ _) ?_)
    intro w4 h4 k4 z4
    have hb24 : Below w2.heap.size w2 w4 := h3.out.below.trans (k4.below (B := w2.heap.size) (fun q hq e => by have := h3.out.eq; omega) h3.out.below.size)
    have HB4 := Lib.hid (HB2.out.trans (hb24.mono HB2.out.size))
    clear hb24 h4 k4 z4 h3 HB2
    go_wp2_with fail
    rw [Exit.noGoto_ret]
    go_ret2
    exact ⟨_, rfl, Own.nil _ _ _ _ _, HB4.out⟩
end Go.Proofs.Ytbfdjjaonjepnaa
