/- tallagelaw07.ProofBack: its walk. -/
import Derived.Test.YtbfdjjaonjepnaaPrfE
import Derived.Test.YtbfdjjaonjepnaaPrfC
namespace Go.Proofs.Ytbfdjjaonjepnaa
open Go.RowKit

theorem fold_back {k : Int} (hk : k = 1 ∨ k = 2) (l : List (List UInt8)) (i : Nat) (hi : i < l.length) : ∀ j, j ≤ depthF l.length → foldAt k (leafK k (tAt l i)) i (proofF k l i) j = hAt (rowN k l j) (i / 2 ^ j)
  | 0, _ => by
    show leafK k (tAt l i) = _
    rw [Nat.pow_zero, Nat.div_one]; exact (rowN_leaf hk l i hi).1.symm
  | j + 1, hj => by
    have ih := fold_back hk l i hi j (by omega)
    have hp := place_lt hi hj
    have hl : (rowN k l (j + 1)).length = 2 ^ (depthF l.length - (j + 1)) := rowN_pow k l (j + 1) hj
    have h2 : hAt (proofF k l i) j = hAt (rowN k l j) (bes (i / 2 ^ j)) := by
      rw [hAt_eq _ j (by rw [proofF_length]; omega)]
      simp [proofF]
    show stepK k (i / 2 ^ j) (foldAt k (leafK k (tAt l i)) i (proofF k l i) j) (hAt (proofF k l i) j) = _
    rw [ih, h2, place_next]
    rw [place_next] at hp
    obtain ⟨q, hq⟩ : ∃ q, q = i / 2 ^ j := ⟨_, rfl⟩
    rw [← hq] at hp ⊢
    rw [rowN_node hk l j (q / 2) hj (by rw [hl]; exact hp)]
    unfold stepK bes
    rcases Nat.mod_two_eq_zero_or_one q with h | h
    · rw [if_pos h, if_neg (by omega), show 2 * (q / 2) = q by omega]
    · rw [if_neg (by omega), if_pos h, show 2 * (q / 2) + 1 = q by omega, show 2 * (q / 2) = q - 1 by omega]
theorem check_back {k : Int} (hk : k = 1 ∨ k = 2) (l : List (List UInt8)) (i : Nat) (hi : i < l.length) (hn : l.length ≤ 1024) : checkF k (rootF k.toNat l) (tAt l i) i (proofF k l i) = 0 := by
  have hd := depthF_10 _ hn
  have hp := place_lt hi (Nat.zero_le _)
  rw [Nat.pow_zero, Nat.div_one, Nat.sub_zero] at hp
  have hf : foldK k (leafK k (tAt l i)) i (proofF k l i) = rootF k.toNat l := by
    unfold foldK
    rw [Int.toNat_natCast, proofF_length, fold_back hk l i hi _ (Nat.le_refl _), rowN_top]
    have := place_lt hi (Nat.le_refl (depthF l.length))
    rw [Nat.sub_self, Nat.pow_zero] at this
    rw [Nat.lt_one_iff.1 this]; rfl
  unfold checkF
  rw [if_pos hk, if_neg (by rw [proofF_length]; omega), if_neg (by
    rw [proofF_length]
    rintro (h | h)
    · omega
    · exact absurd (Int.ofNat_le.1 h) (Nat.not_le.2 hp)), if_pos hf]
theorem check_over {k : Int} (hk : k = 1 ∨ k = 2) (root leaf : List UInt8) (l : List (List UInt8)) (i : Nat) (hn : l.length ≤ 1024) (j : Int) (hj : j < 0 ∨ ((2 ^ depthF l.length : Nat) : Int) ≤ j) : checkF k root leaf j (proofF k l i) = 5 := by
  have hd := depthF_10 _ hn
  unfold checkF
  rw [if_pos hk, if_neg (by rw [proofF_length]; omega), if_pos (by rw [proofF_length]; exact hj)]

set_option maxRecDepth 100000 in
set_option maxHeartbeats 8000000 in
theorem law_back (c u : Int) (l : List (List UInt8)) (v : Value) (w : World) (h : Texts w v l) (hc : 0 ≤ c) (hu : 0 ≤ u) (hz : ∀ b ∈ l, b.length ≤ 140737488355328) :
    Calls Try.prog 16 #[.int .u8 c, v, .int .u64 u] w (Ret w (.bool true)) := by
  obtain ⟨ad, cap, rfl, ha1, ha2⟩ := h.shape
  have H := Lib.hid h; have HZ := Lib.hid hz
  clear h hz
  obtain ⟨n, hn⟩ : ∃ n, n = l.length := ⟨_, rfl⟩
  rw [← hn] at ha1 H ⊢
  have HN := Lib.hid hn
  cases hba : lightB l with
  | false =>
    have HL := Lib.hid hba; clear hba hn
    go_enter Try.func16, Try.ntmps16
    go_wp2_with fail
    refine (light07_any _ l _ H.out HZ.out).mono ?_
    rintro e w1 ⟨rfl, rfl⟩
    rw [HL.out]
    go_wp2_with fail
    refine (lives07_any _).mono ?_
    rintro e w1 ⟨rfl, hb1⟩
    go_wp2_with fail
    go_ret
    exact ⟨rfl, hb1⟩
  | true =>
    have HL := Lib.hid hba; clear hba
    obtain ⟨hfa, hna⟩ := light_fair HL.out
    rw [← hn] at hna
    have HF := Lib.hid hfa
    clear hfa hn
    by_cases h0 : n = 0
    · subst h0
      go_enter Try.func16, Try.ntmps16
      go_wp2_with fail
      refine (light07_any _ l _ H.out HZ.out).mono ?_
      rintro e w1 ⟨rfl, rfl⟩
      rw [HL.out]
      go_wp2_with fail
      refine (lives07_any _).mono ?_
      rintro e w1 ⟨rfl, hb1⟩
      go_wp2_with fail
      go_ret
      exact ⟨rfl, hb1⟩
    · have j1 : ((n : Int) == 0) = false := by simp; omega
      obtain ⟨nI, hnI⟩ : ∃ nI : Int, nI = (n : Int) := ⟨_, rfl⟩
      have hnI1 : 0 < nI := by omega
      have hnI2 : nI ≤ 40 := by omega
      obtain ⟨k, hk⟩ : ∃ k, k = 1 + c % 2 := ⟨_, rfl⟩
      have hk12 : k = 1 ∨ k = 2 := by omega
      obtain ⟨i, hi⟩ : ∃ i : Nat, (i : Int) = u % nI := ⟨(u % nI).toNat, by have := Int.emod_nonneg u (show nI ≠ 0 by omega); omega⟩
      have hin : i < n := by have := Int.emod_lt_of_pos u hnI1; omega
      have hwn : IntKind.u64.wrap (n : Int) = nI := by rw [← hnI]; exact IntWalk.u64_in _ (by omega)
      have hn0 : (nI = 0) = False := eq_false (by omega)
      have htm : u.tmod nI = (i : Int) := by rw [Int.tmod_eq_emod_of_nonneg hu]; exact hi.symm
      have hwi : IntKind.i64.wrap (i : Int) = (i : Int) := IntWalk.i64_in _ (by omega)
      clear hi hnI
      have hS : Below w.heap.size w w.drew := (Below.refl _ _).drew
      go_enter Try.func16, Try.ntmps16
      go_wp2_with fail
      refine (light07_any _ l _ H.out HZ.out).mono ?_
      rintro e w1 ⟨rfl, rfl⟩
      rw [HL.out]
      go_wp2_with fail
      refine wp_region_till (fun w' => Below w.heap.size w w') 11 12 (by kernel_rfl) rfl ?_
      refine till_take 0 (some 22) rfl rfl (by kernel_rfl) (by kernel_rfl) (by kernel_rfl) (by kernel_rfl) (by kernel_rfl) (by kernel_rfl) (fun _ _ _ h => h) (.inl ⟨by rfl, fun w' _ => (by go_simp; rfl)⟩) hS ?_
      go_frame
      refine till_take 1 (some 23) rfl rfl (by kernel_rfl) (by kernel_rfl) (by kernel_rfl) (by kernel_rfl) (by kernel_rfl) (by kernel_rfl) (fun _ _ _ h => h) (.inl ⟨by rfl, fun w' _ => (by go_simp; rfl)⟩) hS ?_
      go_frame
      refine till_take 2 (some 24) rfl rfl (by kernel_rfl) (by kernel_rfl) (by kernel_rfl) (by kernel_rfl) (by kernel_rfl) (by kernel_rfl) (fun _ _ _ h => h) (.inl ⟨by rfl, fun w' _ => (by go_simp; rfl)⟩) hS ?_
      go_frame
      refine till_take 3 (some 25) rfl rfl (by kernel_rfl) (by kernel_rfl) (by kernel_rfl) (by kernel_rfl) (by kernel_rfl) (by kernel_rfl) (fun _ _ _ h => h) (.inl ⟨by rfl, fun w' _ => (by go_simp; rfl)⟩) hS ?_
      go_frame
      refine till_take 4 (some 26) rfl rfl (by kernel_rfl) (by kernel_rfl) (by kernel_rfl) (by kernel_rfl) (by kernel_rfl) (by kernel_rfl) (fun _ _ _ h => h) (.inl ⟨by rfl, fun w' _ => (by go_simp; rfl)⟩) hS ?_
      go_frame
      refine till_take 5 (some 27) rfl rfl (by kernel_rfl) (by kernel_rfl) (by kernel_rfl) (by kernel_rfl) (by kernel_rfl) (by kernel_rfl) (fun _ _ _ h => h) (.inl ⟨by rfl, fun w' _ => (by go_simp; rfl)⟩) hS ?_
      go_frame
      refine till_take 6 (some 28) rfl rfl (by kernel_rfl) (by kernel_rfl) (by kernel_rfl) (by kernel_rfl) (by kernel_rfl) (by kernel_rfl) (fun _ _ _ h => h) (.inl ⟨by rfl, fun w' _ => (by go_simp; rfl)⟩) hS ?_
      go_frame
      refine till_take 7 (some 29) rfl rfl (by kernel_rfl) (by kernel_rfl) (by kernel_rfl) (by kernel_rfl) (by kernel_rfl) (by kernel_rfl) (fun _ _ _ h => h) (.inl ⟨by rfl, fun w' _ => (by go_simp; rfl)⟩) hS ?_
      go_frame
      refine till_take 8 (some 30) rfl rfl (by kernel_rfl) (by kernel_rfl) (by kernel_rfl) (by kernel_rfl) (by kernel_rfl) (by kernel_rfl) (fun _ _ _ h => h) (.inl ⟨by rfl, fun w' _ => (by go_simp; rfl)⟩) hS ?_
      go_frame
      refine till_take 9 (some 31) rfl rfl (by kernel_rfl) (by kernel_rfl) (by kernel_rfl) (by kernel_rfl) (by kernel_rfl) (by kernel_rfl) (fun _ _ _ h => h) (.inl ⟨by rfl, fun w' _ => (by go_simp; rfl)⟩) hS ?_
      go_frame
      refine till_take 10 (some 7) rfl rfl (by kernel_rfl) (by kernel_rfl) (by kernel_rfl) (by kernel_rfl) (by kernel_rfl) (by kernel_rfl) (fun _ _ _ h => h) (.inl ⟨by rfl, fun w' _ => (by go_simp; rfl)⟩) hS ?_
      go_frame
      refine till_one 11 rfl (by kernel_rfl) fun K hK => ?_
      simp only [List.getElem_toArray, List.getElem_cons_succ, List.getElem_cons_zero]
      rw [if_pos (by rfl)]
      go_simp
      refine hK _ _ (fun h => absurd rfl h) ?_
      clear hK
      refine till_done (by kernel_rfl) ?_ _
      have hct : IntKind.i64.wrap (1 + IntKind.i64.wrap (c.tmod 2)) = k := by
        rw [Int.tmod_eq_emod_of_nonneg hc, IntWalk.i64_in (c % 2) (by omega), hk]; exact IntWalk.i64_in _ (by omega)
      rw [hct]
      have HK := Lib.hid hk12
      clear hct hk hk12 hwn hn0 htm hnI1 hnI2 hu
      have hn1024 : l.length ≤ 1024 := by have := HN.out; omega
      have hwa : whyF k l.length = 0 := whyF_ok HK.out (by have := HN.out; omega) hn1024
      obtain ⟨ga, hra, hga, hga32⟩ : ∃ ga, rootV k l = .tuple #[.agg (c8 ga), .int .i64 0] ∧ ga = rootF k.toNat l ∧ ga.length = 32 := ⟨_, rootV_ok hwa, rfl, rootF_length _ _⟩
      obtain ⟨d, hd⟩ : ∃ d, d = depthF l.length := ⟨_, rfl⟩
      have hd10 : d ≤ 10 := by rw [hd]; exact depthF_10 _ hn1024
      have hpe : proofE k l i = 0 := by unfold proofE; rw [if_pos hwa, if_neg (by rw [← HN.out]; omega)]
      have hpv : proofV k l i = proofF k l i := by unfold proofV; rw [if_pos hpe, Int.toNat_natCast]
      have hc0 : checkF k ga (tAt l i) i (proofF k l i) = 0 := by rw [hga]; exact check_back HK.out l i (by rw [← HN.out]; exact hin) hn1024
      have hc1 : ∀ j : Int, (j < 0 ∨ ((2 ^ d : Nat) : Int) ≤ j) → checkF k ga (tAt l i) j (proofF k l i) = 5 := fun j hj => check_over HK.out ga _ l i hn1024 j (by rw [← hd]; exact hj)
      obtain ⟨N, hN⟩ : ∃ N, N = 2 ^ d := ⟨_, rfl⟩
      have hN2 : N ≤ 1024 := by rw [hN]; exact Nat.le_trans (Nat.pow_le_pow_right (by omega) hd10) (by decide)
      have hN3 : (2 : Int) ^ d = (N : Int) := by rw [hN]; simp
      rw [← hN] at hc1
      have hw1 : IntKind.i64.wrap (N : Int) = (N : Int) := IntWalk.i64_in _ (by omega)
      have hw2 : IntKind.i64.wrap ((i : Int) + (N : Int)) = (i : Int) + (N : Int) := IntWalk.i64_in _ (by omega)
      obtain ⟨lb, lo, ul, rfl, hlb, hcell, hru⟩ := H.out.at i (by rw [← HN.out]; exact hin)
      rw [← tAt_eq l i (by rw [← HN.out]; exact hin)] at hru
      have hxz : (tAt l i).length ≤ 140737488355328 := HZ.out _ (tAt_mem _ _ (by rw [← HN.out]; exact hin))
      obtain ⟨x, hx⟩ : ∃ x, x = tAt l i := ⟨_, rfl⟩
      rw [← hx] at hru hxz hc0 hc1
      obtain ⟨uad, ucap, hul, _⟩ := hru.shape
      subst hul
      obtain ⟨m, hm⟩ : ∃ m, m = x.length := ⟨_, rfl⟩
      rw [← hm] at hru hcell
      have HRA := Lib.hid hra; have HG32 := Lib.hid hga32; have HD := Lib.hid hd; have HPE := Lib.hid hpe; have HPV := Lib.hid hpv; have HC0 := Lib.hid hc0; have HC1 := Lib.hid hc1
      have HRU := Lib.hid hru; have HCELL := Lib.hid hcell; have HXZ : Hid (x.length < 288230376151711744) := Lib.hid (by omega)
      clear hwa hra hga hga32 hd hpe hpv hc0 hc1 hN hru hcell hxz hx hm hn1024
      obtain ⟨wq, hwq⟩ : ∃ wq, wq = w.drew := ⟨_, rfl⟩
      rw [← hwq] at hS ⊢
      clear hwq
      have HS := Lib.hid hS; clear hS
      go_wp2_with fail
      refine (mroot_any k l _ _ (H.out.later HS.out) HF.out).mono ?_
      rintro e w2 ⟨rfl, hb2⟩
      rw [HRA.out]
      have HB2 := Lib.hid (HS.out.trans (hb2.mono HS.out.size)); clear hb2
      go_wp2_with (refine wpList_alloc_g rfl _ rfl _ _ Try.zeroHash rfl ?_)
      intro R w3 h3
      go_wp2_with (refine wpList_store_row_g (t := 48) (old := cB 32 []) rfl 48 _ _ rfl R (c8 ga) rfl rfl h3.out.cells (Try.sizeHs _ HG32.out) (by rw [c8_size, HG32.out]; rfl) (by rw [← cB_full 32 _ HG32.out]; exact one_b _ _) ?_)
      intro w4 h4 k4 z4
      have hb24 : Below w2.heap.size w2 w4 := h3.out.below.trans (k4.below (B := w2.heap.size) (fun q hq e => by have := h3.out.eq; omega) h3.out.below.size)
      have HB4 := Lib.hid (HB2.out.trans (hb24.mono HB2.out.size)); have HR4 := Lib.hid h4
      clear hb24 h4 k4 z4 h3 HB2
      go_wp2_with fail
      refine (pbuild_any k i l _ _ (H.out.later HB4.out) HF.out).mono ?_
      rintro e w6 ⟨v6, rfl, hown6, hb6⟩
      rw [HPE.out]
      rw [HPV.out] at hown6
      have hrd6 := hown6.rd hE_len
      obtain ⟨pad, pcap, hv6, _⟩ := hrd6.shape
      rw [proofF_length, ← HD.out] at hv6
      subst hv6
      have hb06 := HB4.out.trans (hb6.mono HB4.out.size)
      have hr6 : w6.heap[R]? = _ := (hb6.block R (heap_lt HR4.out)).trans HR4.out
      have L : Hid (∀ w', Below w6.heap.size w6 w' → (Instr.loadAt 48 (.pointer (some ⟨R, 0, none⟩))).run Try.prog w' = .ok (.agg (c8 ga)) w') := Lib.hid fun w' e => by exact load_hash ((e.block _ (heap_lt hr6)).trans hr6) HG32.out
      have C : Hid (∀ w', Below w6.heap.size w6 w' → w'.cell? ⟨lb, lo + i, none⟩ = _) := Lib.hid fun w' e => ((hb06.trans (e.mono hb06.size)).cell (p := ⟨lb, lo + i, none⟩) hlb).trans HCELL.out
      have HP := Lib.hid hrd6; have HB6 := Lib.hid hb06; have HX6 := Lib.hid (HRU.out.later hb06)
      clear hown6 hrd6 hb6 hb06 hr6
      have hdn : depthF n = d := by rw [HD.out, HN.out]
      have HDN := Lib.hid hdn; clear hdn
      have j5 : (i : Int) < (n : Int) := by omega
      have hS : Below w6.heap.size w6 w6.drew := (Below.refl _ _).drew
      go_wp2_with fail
      refine wp_region_till (fun w' => Below w6.heap.size w6 w') 56 57 (by kernel_rfl) rfl ?_
      refine till_take 0 (some 45) rfl rfl (by kernel_rfl) (by kernel_rfl) (by kernel_rfl) (by kernel_rfl) (by kernel_rfl) (by kernel_rfl) (fun _ _ _ h => h) (.inl ⟨by rfl, fun w' _ => (by go_simp; rfl)⟩) hS ?_
      go_frame
      refine till_take 1 (some 46) rfl rfl (by kernel_rfl) (by kernel_rfl) (by kernel_rfl) (by kernel_rfl) (by kernel_rfl) (by kernel_rfl) (fun _ _ _ h => h) (.inl ⟨by rfl, fun w' _ => (by go_simp; rfl)⟩) hS ?_
      go_frame
      refine till_take 2 (some 47) rfl rfl (by kernel_rfl) (by kernel_rfl) (by kernel_rfl) (by kernel_rfl) (by kernel_rfl) (by kernel_rfl) (fun _ _ _ h => h) (.inl ⟨by rfl, fun w' _ => (by go_simp; rfl)⟩) hS ?_
      go_frame
      refine till_take 3 (some 48) rfl rfl (by kernel_rfl) (by kernel_rfl) (by kernel_rfl) (by kernel_rfl) (by kernel_rfl) (by kernel_rfl) (fun _ _ _ h => h) (.inl ⟨by rfl, fun w' _ => (by go_simp; rfl)⟩) hS ?_
      go_frame
      refine till_take 4 (some 49) rfl rfl (by kernel_rfl) (by kernel_rfl) (by kernel_rfl) (by kernel_rfl) (by kernel_rfl) (by kernel_rfl) (fun _ _ _ h => h) (.inl ⟨by rfl, fun w' _ => (by go_simp; rfl)⟩) hS ?_
      go_frame
      refine till_take 5 (some 50) rfl rfl (by kernel_rfl) (by kernel_rfl) (by kernel_rfl) (by kernel_rfl) (by kernel_rfl) (by kernel_rfl) (fun _ _ _ h => h) (.inl ⟨by rfl, fun w' _ => (by go_simp; rfl)⟩) hS ?_
      go_frame
      refine till_take 6 (some 51) rfl rfl (by kernel_rfl) (by kernel_rfl) (by kernel_rfl) (by kernel_rfl) (by kernel_rfl) (by kernel_rfl) (fun _ _ _ h => h) (.inl ⟨by rfl, fun w' _ => (by go_simp; rfl)⟩) hS ?_
      go_frame
      refine till_take 7 (some 52) rfl rfl (by kernel_rfl) (by kernel_rfl) (by kernel_rfl) (by kernel_rfl) (by kernel_rfl) (by kernel_rfl) (fun _ _ _ h => h) (.inl ⟨by rfl, fun w' _ => (by go_simp; rfl)⟩) hS ?_
      go_frame
      refine till_take 8 (some 53) rfl rfl (by kernel_rfl) (by kernel_rfl) (by kernel_rfl) (by kernel_rfl) (by kernel_rfl) (by kernel_rfl) (fun _ _ _ h => h) (.inl ⟨by rfl, fun w' _ => (by go_simp; rfl)⟩) hS ?_
      go_frame
      refine till_take 9 (some 54) rfl rfl (by kernel_rfl) (by kernel_rfl) (by kernel_rfl) (by kernel_rfl) (by kernel_rfl) (by kernel_rfl) (fun _ _ _ h => h) (.inl ⟨by rfl, fun w' _ => (by go_simp; rfl)⟩) hS ?_
      go_frame
      refine till_take 10 (some 55) rfl rfl (by kernel_rfl) (by kernel_rfl) (by kernel_rfl) (by kernel_rfl) (by kernel_rfl) (by kernel_rfl) (fun _ _ _ h => h) (.inl ⟨by rfl, fun w' _ => (by go_simp; rfl)⟩) hS ?_
      go_frame
      refine till_one 11 rfl (by kernel_rfl) fun K hK => ?_
      simp only [List.getElem_toArray, List.getElem_cons_succ, List.getElem_cons_zero]
      rw [if_pos (by rfl)]
      go_simp
      refine (mdepth_any _ (by omega) _).mono ?_
      rintro e w7 ⟨rfl, rfl⟩
      rw [Int.toNat_natCast, HDN.out]
      refine hK _ _ (fun _ _ => hS) ?_
      clear hK
      refine till_take 12 (some 57) rfl rfl (by kernel_rfl) (by kernel_rfl) (by kernel_rfl) (by kernel_rfl) (by kernel_rfl) (by kernel_rfl) (fun _ _ _ h => h) (.inl ⟨by rfl, fun w' _ => (by go_simp; rfl)⟩) hS ?_
      go_frame
      refine till_take 13 (some 58) rfl rfl (by kernel_rfl) (by kernel_rfl) (by kernel_rfl) (by kernel_rfl) (by kernel_rfl) (by kernel_rfl) (fun _ _ _ h => h) (.inl ⟨by rfl, fun w' _ => (by go_simp; rfl)⟩) hS ?_
      go_frame
      refine till_take 14 (some 59) rfl rfl (by kernel_rfl) (by kernel_rfl) (by kernel_rfl) (by kernel_rfl) (by kernel_rfl) (by kernel_rfl) (fun _ _ _ h => h) (.inl ⟨by rfl, fun w' _ => (by go_simp; rfl)⟩) hS ?_
      go_frame
      refine till_take 15 (some 60) rfl rfl (by kernel_rfl) (by kernel_rfl) (by kernel_rfl) (by kernel_rfl) (by kernel_rfl) (by kernel_rfl) (fun _ _ _ h => h) (.inl ⟨by rfl, fun w' _ => (by go_simp; rfl)⟩) hS ?_
      go_frame
      refine till_take 16 (some 61) rfl rfl (by kernel_rfl) (by kernel_rfl) (by kernel_rfl) (by kernel_rfl) (by kernel_rfl) (by kernel_rfl) (fun _ _ _ h => h) (yields_load (by rfl) 48 (.tmp 9) rfl (.pointer (some ⟨R, 0, none⟩)) rfl _ L.out) hS ?_
      go_frame
      refine till_take 17 (some 62) rfl rfl (by kernel_rfl) (by kernel_rfl) (by kernel_rfl) (by kernel_rfl) (by kernel_rfl) (by kernel_rfl) (fun _ _ _ h => h) (.inl ⟨by rfl, fun w' _ => (by go_simp; rfl)⟩) hS ?_
      go_frame
      refine till_take 18 (some 63) rfl rfl (by kernel_rfl) (by kernel_rfl) (by kernel_rfl) (by kernel_rfl) (by kernel_rfl) (by kernel_rfl) (fun _ _ _ h => h) (.inl ⟨by rfl, fun w' _ => (by go_simp; rfl)⟩) hS ?_
      go_frame
      refine till_take 19 (some 64) rfl rfl (by kernel_rfl) (by kernel_rfl) (by kernel_rfl) (by kernel_rfl) (by kernel_rfl) (by kernel_rfl) (fun _ _ _ h => h) (.inl ⟨by rfl, fun w' _ => (by go_simp; rfl)⟩) hS ?_
      go_frame
      refine till_take 20 (some 65) rfl rfl (by kernel_rfl) (by kernel_rfl) (by kernel_rfl) (by kernel_rfl) (by kernel_rfl) (by kernel_rfl) (fun _ _ _ h => h) (.inl ⟨by rfl, fun w' hS' => (by have hc := C.out w' hS'; go_simp; rfl)⟩) hS ?_
      go_frame
      refine till_take 21 (some 66) rfl rfl (by kernel_rfl) (by kernel_rfl) (by kernel_rfl) (by kernel_rfl) (by kernel_rfl) (by kernel_rfl) (fun _ _ _ h => h) (.inl ⟨by rfl, fun w' _ => (by go_simp; rfl)⟩) hS ?_
      go_frame
      refine till_take 22 (some 67) rfl rfl (by kernel_rfl) (by kernel_rfl) (by kernel_rfl) (by kernel_rfl) (by kernel_rfl) (by kernel_rfl) (fun _ _ _ h => h) (.inl ⟨by rfl, fun w' _ => (by go_simp; rfl)⟩) hS ?_
      go_frame
      refine till_one 23 rfl (by kernel_rfl) fun K hK => ?_
      simp only [List.getElem_toArray, List.getElem_cons_succ, List.getElem_cons_zero]
      rw [if_pos (by rfl)]
      go_simp
      refine (pcheck_any k ((i : Int)) ga x (proofF k l i) _ _ _ HG32.out (HX6.out.later hS) HXZ.out (HP.out.later hS) (proofF_32 _ _ _) (by omega)).mono ?_
      rintro e w7 ⟨rfl, hb7⟩
      rw [HC0.out]
      have hS7 : Below w6.heap.size w6 w7 := hS.trans (hb7.mono hS.size)
      refine hK _ _ (fun _ _ => hS7) ?_
      clear hK hb7 hS
      have hS := hS7
      clear hS7
      refine till_take 24 (some 69) rfl rfl (by kernel_rfl) (by kernel_rfl) (by kernel_rfl) (by kernel_rfl) (by kernel_rfl) (by kernel_rfl) (fun _ _ _ h => h) (.inl ⟨by rfl, fun w' _ => (by go_simp; rfl)⟩) hS ?_
      go_frame
      refine till_take 25 (some 70) rfl rfl (by kernel_rfl) (by kernel_rfl) (by kernel_rfl) (by kernel_rfl) (by kernel_rfl) (by kernel_rfl) (fun _ _ _ h => h) (.inl ⟨by rfl, fun w' _ => (by go_simp; rfl)⟩) hS ?_
      go_frame
      refine till_take 26 (some 71) rfl rfl (by kernel_rfl) (by kernel_rfl) (by kernel_rfl) (by kernel_rfl) (by kernel_rfl) (by kernel_rfl) (fun _ _ _ h => h) (.inl ⟨by rfl, fun w' _ => (by go_simp; rfl)⟩) hS ?_
      go_frame
      refine till_take 27 (some 72) rfl rfl (by kernel_rfl) (by kernel_rfl) (by kernel_rfl) (by kernel_rfl) (by kernel_rfl) (by kernel_rfl) (fun _ _ _ h => h) (.inl ⟨by rfl, fun w' _ => (by go_simp; rfl)⟩) hS ?_
      go_frame
      refine till_take 28 (some 73) rfl rfl (by kernel_rfl) (by kernel_rfl) (by kernel_rfl) (by kernel_rfl) (by kernel_rfl) (by kernel_rfl) (fun _ _ _ h => h) (yields_load (by rfl) 48 (.tmp 9) rfl (.pointer (some ⟨R, 0, none⟩)) rfl _ L.out) hS ?_
      go_frame
      refine till_take 29 (some 74) rfl rfl (by kernel_rfl) (by kernel_rfl) (by kernel_rfl) (by kernel_rfl) (by kernel_rfl) (by kernel_rfl) (fun _ _ _ h => h) (.inl ⟨by rfl, fun w' _ => (by go_simp; rfl)⟩) hS ?_
      go_frame
      refine till_take 30 (some 75) rfl rfl (by kernel_rfl) (by kernel_rfl) (by kernel_rfl) (by kernel_rfl) (by kernel_rfl) (by kernel_rfl) (fun _ _ _ h => h) (.inl ⟨by rfl, fun w' _ => (by go_simp; rfl)⟩) hS ?_
      go_frame
      refine till_take 31 (some 76) rfl rfl (by kernel_rfl) (by kernel_rfl) (by kernel_rfl) (by kernel_rfl) (by kernel_rfl) (by kernel_rfl) (fun _ _ _ h => h) (.inl ⟨by rfl, fun w' _ => (by go_simp; rfl)⟩) hS ?_
      go_frame
      refine till_take 32 (some 77) rfl rfl (by kernel_rfl) (by kernel_rfl) (by kernel_rfl) (by kernel_rfl) (by kernel_rfl) (by kernel_rfl) (fun _ _ _ h => h) (.inl ⟨by rfl, fun w' hS' => (by have hc := C.out w' hS'; go_simp; rfl)⟩) hS ?_
      go_frame
      refine till_take 33 (some 78) rfl rfl (by kernel_rfl) (by kernel_rfl) (by kernel_rfl) (by kernel_rfl) (by kernel_rfl) (by kernel_rfl) (fun _ _ _ h => h) (.inl ⟨by rfl, fun w' _ => (by go_simp; rfl)⟩) hS ?_
      go_frame
      refine till_take 34 (some 79) rfl rfl (by kernel_rfl) (by kernel_rfl) (by kernel_rfl) (by kernel_rfl) (by kernel_rfl) (by kernel_rfl) (fun _ _ _ h => h) (.inl ⟨by rfl, fun w' _ => (by go_simp; rfl)⟩) hS ?_
      go_frame
      refine till_take 35 (some 80) rfl rfl (by kernel_rfl) (by kernel_rfl) (by kernel_rfl) (by kernel_rfl) (by kernel_rfl) (by kernel_rfl) (fun _ _ _ h => h) (.inl ⟨by rfl, fun w' _ => (by go_simp; rfl)⟩) hS ?_
      go_frame
      refine till_take 36 (some 81) rfl rfl (by kernel_rfl) (by kernel_rfl) (by kernel_rfl) (by kernel_rfl) (by kernel_rfl) (by kernel_rfl) (fun _ _ _ h => h) (.inl ⟨by rfl, fun w' _ => (by go_simp; rfl)⟩) hS ?_
      go_frame
      refine till_take 37 (some 82) rfl rfl (by kernel_rfl) (by kernel_rfl) (by kernel_rfl) (by kernel_rfl) (by kernel_rfl) (by kernel_rfl) (fun _ _ _ h => h) (.inl ⟨by rfl, fun w' _ => (by go_simp; rfl)⟩) hS ?_
      go_frame
      refine till_take 38 (some 83) rfl rfl (by kernel_rfl) (by kernel_rfl) (by kernel_rfl) (by kernel_rfl) (by kernel_rfl) (by kernel_rfl) (fun _ _ _ h => h) (.inl ⟨by rfl, fun w' _ => (by go_simp; rfl)⟩) hS ?_
      go_frame
      refine till_one 39 rfl (by kernel_rfl) fun K hK => ?_
      simp only [List.getElem_toArray, List.getElem_cons_succ, List.getElem_cons_zero]
      rw [if_pos (by rfl)]
      go_simp
      refine (pcheck_any k ((i : Int) + (N : Int)) ga x (proofF k l i) _ _ _ HG32.out (HX6.out.later hS) HXZ.out (HP.out.later hS) (proofF_32 _ _ _) (by omega)).mono ?_
      rintro e w7 ⟨rfl, hb7⟩
      rw [HC1.out _ (.inr (by omega))]
      have hS7 : Below w6.heap.size w6 w7 := hS.trans (hb7.mono hS.size)
      refine hK _ _ (fun _ _ => hS7) ?_
      clear hK hb7 hS
      have hS := hS7
      clear hS7
      refine till_take 40 (some 85) rfl rfl (by kernel_rfl) (by kernel_rfl) (by kernel_rfl) (by kernel_rfl) (by kernel_rfl) (by kernel_rfl) (fun _ _ _ h => h) (.inl ⟨by rfl, fun w' _ => (by go_simp; rfl)⟩) hS ?_
      go_frame
      refine till_take 41 (some 86) rfl rfl (by kernel_rfl) (by kernel_rfl) (by kernel_rfl) (by kernel_rfl) (by kernel_rfl) (by kernel_rfl) (fun _ _ _ h => h) (.inl ⟨by rfl, fun w' _ => (by go_simp; rfl)⟩) hS ?_
      go_frame
      refine till_take 42 (some 87) rfl rfl (by kernel_rfl) (by kernel_rfl) (by kernel_rfl) (by kernel_rfl) (by kernel_rfl) (by kernel_rfl) (fun _ _ _ h => h) (.inl ⟨by rfl, fun w' _ => (by go_simp; rfl)⟩) hS ?_
      go_frame
      refine till_take 43 (some 88) rfl rfl (by kernel_rfl) (by kernel_rfl) (by kernel_rfl) (by kernel_rfl) (by kernel_rfl) (by kernel_rfl) (fun _ _ _ h => h) (.inl ⟨by rfl, fun w' _ => (by go_simp; rfl)⟩) hS ?_
      go_frame
      refine till_take 44 (some 89) rfl rfl (by kernel_rfl) (by kernel_rfl) (by kernel_rfl) (by kernel_rfl) (by kernel_rfl) (by kernel_rfl) (fun _ _ _ h => h) (yields_load (by rfl) 48 (.tmp 9) rfl (.pointer (some ⟨R, 0, none⟩)) rfl _ L.out) hS ?_
      go_frame
      refine till_take 45 (some 90) rfl rfl (by kernel_rfl) (by kernel_rfl) (by kernel_rfl) (by kernel_rfl) (by kernel_rfl) (by kernel_rfl) (fun _ _ _ h => h) (.inl ⟨by rfl, fun w' _ => (by go_simp; rfl)⟩) hS ?_
      go_frame
      refine till_take 46 (some 91) rfl rfl (by kernel_rfl) (by kernel_rfl) (by kernel_rfl) (by kernel_rfl) (by kernel_rfl) (by kernel_rfl) (fun _ _ _ h => h) (.inl ⟨by rfl, fun w' _ => (by go_simp; rfl)⟩) hS ?_
      go_frame
      refine till_take 47 (some 92) rfl rfl (by kernel_rfl) (by kernel_rfl) (by kernel_rfl) (by kernel_rfl) (by kernel_rfl) (by kernel_rfl) (fun _ _ _ h => h) (.inl ⟨by rfl, fun w' _ => (by go_simp; rfl)⟩) hS ?_
      go_frame
      refine till_take 48 (some 93) rfl rfl (by kernel_rfl) (by kernel_rfl) (by kernel_rfl) (by kernel_rfl) (by kernel_rfl) (by kernel_rfl) (fun _ _ _ h => h) (.inl ⟨by rfl, fun w' hS' => (by have hc := C.out w' hS'; go_simp; rfl)⟩) hS ?_
      go_frame
      refine till_take 49 (some 94) rfl rfl (by kernel_rfl) (by kernel_rfl) (by kernel_rfl) (by kernel_rfl) (by kernel_rfl) (by kernel_rfl) (fun _ _ _ h => h) (.inl ⟨by rfl, fun w' _ => (by go_simp; rfl)⟩) hS ?_
      go_frame
      refine till_one 50 rfl (by kernel_rfl) fun K hK => ?_
      simp only [List.getElem_toArray, List.getElem_cons_succ, List.getElem_cons_zero]
      rw [if_pos (by rfl)]
      go_simp
      refine (pcheck_any k (-1) ga x (proofF k l i) _ _ _ HG32.out (HX6.out.later hS) HXZ.out (HP.out.later hS) (proofF_32 _ _ _) (by omega)).mono ?_
      rintro e w7 ⟨rfl, hb7⟩
      rw [HC1.out _ (.inl (by omega))]
      have hS7 : Below w6.heap.size w6 w7 := hS.trans (hb7.mono hS.size)
      refine hK _ _ (fun _ _ => hS7) ?_
      clear hK hb7 hS
      have hS := hS7
      clear hS7
      refine till_take 51 (some 96) rfl rfl (by kernel_rfl) (by kernel_rfl) (by kernel_rfl) (by kernel_rfl) (by kernel_rfl) (by kernel_rfl) (fun _ _ _ h => h) (.inl ⟨by rfl, fun w' _ => (by go_simp; rfl)⟩) hS ?_
      go_frame
      refine till_take 52 (some 97) rfl rfl (by kernel_rfl) (by kernel_rfl) (by kernel_rfl) (by kernel_rfl) (by kernel_rfl) (by kernel_rfl) (fun _ _ _ h => h) (.inl ⟨by rfl, fun w' _ => (by go_simp; rfl)⟩) hS ?_
      go_frame
      refine till_take 53 (some 98) rfl rfl (by kernel_rfl) (by kernel_rfl) (by kernel_rfl) (by kernel_rfl) (by kernel_rfl) (by kernel_rfl) (fun _ _ _ h => h) (.inl ⟨by rfl, fun w' _ => (by go_simp; rfl)⟩) hS ?_
      go_frame
      refine till_one 54 rfl (by kernel_rfl) fun K hK => ?_
      simp only [List.getElem_toArray, List.getElem_cons_succ, List.getElem_cons_zero]
      rw [if_pos (by rfl)]
      go_simp
      refine (lives07_any _).mono ?_
      rintro e w7 ⟨rfl, hb7⟩
      have hS7 : Below w6.heap.size w6 w7 := hS.trans (hb7.mono hS.size)
      refine hK _ _ (fun _ _ => hS7) ?_
      clear hK hb7 hS
      have hS := hS7
      clear hS7
      refine till_take 55 (some 100) rfl rfl (by kernel_rfl) (by kernel_rfl) (by kernel_rfl) (by kernel_rfl) (by kernel_rfl) (by kernel_rfl) (fun _ _ _ h => h) (.inl ⟨by rfl, fun w' _ => (by go_simp; rfl)⟩) hS ?_
      go_frame
      refine till_one 56 rfl (by kernel_rfl) fun K hK => ?_
      simp only [List.getElem_toArray, List.getElem_cons_succ, List.getElem_cons_zero]
      rw [if_pos (by rfl)]
      go_simp
      refine hK _ _ (fun h => absurd rfl h) ?_
      clear hK
      refine till_done (by kernel_rfl) ?_ _
      have HS6 := Lib.hid hS; clear hS
      go_wp2_with fail
      go_ret
      exact ⟨rfl, HB6.out.trans (HS6.out.mono HB6.out.size)⟩
end Go.Proofs.Ytbfdjjaonjepnaa
