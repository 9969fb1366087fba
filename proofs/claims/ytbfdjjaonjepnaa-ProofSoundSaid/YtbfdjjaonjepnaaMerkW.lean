/- tallagelaw06.MerkleRows: its walk. -/
import Derived.Test.YtbfdjjaonjepnaaMerkV
namespace Go.Proofs.Ytbfdjjaonjepnaa
open Go.RowKit

/-- Row number j. -/
def rowN (k : Int) (l : List (List UInt8)) (j : Nat) : List (List UInt8) := rowAt k.toNat (groundF k.toNat (depthF l.length) l) j
theorem rowN_32 (k : Int) (l : List (List UInt8)) (j : Nat) : All32 (rowN k l j) := rowAt_32 _ _ (groundF_32 _ _ _) j
theorem rowN_pow (k : Int) (l : List (List UInt8)) (j : Nat) (hj : j ≤ depthF l.length) : (rowN k l j).length = 2 ^ (depthF l.length - j) := rowAt_pow _ _ _ (groundF_length _ _ _) j hj
theorem rowN_half (k : Int) (l : List (List UInt8)) (j : Nat) (hj : j + 1 ≤ depthF l.length) : (rowN k l j).length = 2 * (rowN k l (j + 1)).length := by
  rw [rowN_pow k l j (by omega), rowN_pow k l (j + 1) hj, show depthF l.length - j = (depthF l.length - (j + 1)) + 1 by omega, Nat.pow_succ]
  omega
theorem rowN_len (k : Int) (l : List (List UInt8)) (j : Nat) (hj : j ≤ depthF l.length) (hn : l.length ≤ 1024) : 0 < (rowN k l j).length ∧ (rowN k l j).length ≤ 1024 := by
  rw [rowN_pow k l j hj]
  exact ⟨Nat.pow_pos (by omega), Nat.le_trans (Nat.pow_le_pow_right (by omega) (Nat.le_trans (Nat.sub_le _ _) (depthF_10 _ hn))) (by decide)⟩
theorem rowN_top (k : Int) (l : List (List UInt8)) : rowN k l (depthF l.length) = [rootF k.toNat l] := top_eq _ _
theorem rowN_node {k : Int} (hk : k = 1 ∨ k = 2) (l : List (List UInt8)) (j m : Nat) (hj : j + 1 ≤ depthF l.length) (hm : m < (rowN k l (j + 1)).length) : hAt (rowN k l (j + 1)) m = nodeK k (hAt (rowN k l j) (2 * m)) (hAt (rowN k l j) (2 * m + 1)) := by
  have h2 := rowN_half k l j hj
  have e := row_up k.toNat (rowN k l j)
  have hm2 : m < (upF k.toNat (rowN k l j)).length := hm
  rw [hAt_eq _ m hm]
  unfold nodeK
  rw [if_pos hk]
  have h3 : (rowN k l (j + 1))[m]? = some (nodeF k.toNat (hAt (rowN k l j) (2 * m)) (hAt (rowN k l j) (2 * m + 1))) := by
    show (upF k.toNat (rowN k l j))[m]? = _
    rw [← e, List.getElem?_map, List.getElem?_range (by omega)]; rfl
  rw [List.getElem?_eq_getElem hm] at h3
  exact Option.some.inj h3
theorem rowN_leaf {k : Int} (hk : k = 1 ∨ k = 2) (l : List (List UInt8)) (i : Nat) (hi : i < l.length) : hAt (rowN k l 0) i = leafK k (tAt l i) ∧ i < (rowN k l 0).length := by
  have h0 := depthF_ge l.length
  have h1 : i < (rowN k l 0).length := by rw [rowN_pow k l 0 (Nat.zero_le _), Nat.sub_zero]; omega
  refine ⟨?_, h1⟩
  rw [hAt_eq _ i h1]
  unfold leafK
  rw [if_pos hk]
  have h3 : (rowN k l 0)[i]? = some (leafF k.toNat (l.getD i [])) := groundF_at _ _ _ _ (by omega)
  rw [List.getElem?_eq_getElem h1] at h3
  exact Option.some.inj h3
theorem rowN_low (k : Int) (l : List (List UInt8)) : l.length ≤ (rowN k l 0).length ∧ (1 < (rowN k l 0).length → (rowN k l 0).length / 2 < l.length) := by
  rw [rowN_pow k l 0 (Nat.zero_le _), Nat.sub_zero]
  refine ⟨depthF_ge _, fun h => ?_⟩
  cases hd : depthF l.length with
  | zero => rw [hd] at h; simp at h
  | succ d =>
    have := depthF_lt l.length d (by omega)
    rw [Nat.pow_succ]; omega
theorem rows_at {w : World} {rb ro n cap : Nat} {k : Int} {l : List (List UInt8)} (h : RowsAt w (.slice (some ⟨rb, ro, none⟩) n cap) (levelsF k.toNat l)) (j : Nat) (hj : j ≤ depthF l.length) (hn : l.length ≤ 1024) :
    ∃ p q rc len, len = (rowN k l j).length ∧ 0 < len ∧ len ≤ 1024 ∧ rb < w.heap.size ∧ w.cell? ⟨rb, ro + j, none⟩ = some (.slice (some ⟨p, q, none⟩) len rc) ∧ p < w.heap.size ∧ Rd w hE 32 (.slice (some ⟨p, q, none⟩) len rc) (rowN k l j) := by
  obtain ⟨b, off, u, e, hb, hc, hr⟩ := h.at j (by rw [levelsF_length]; omega)
  cases e
  have he := levelsF_at k.toNat l j hj
  rw [List.getElem?_eq_getElem (by rw [levelsF_length]; omega)] at he
  have he2 : (levelsF k.toNat l)[j]'(by rw [levelsF_length]; omega) = rowN k l j := Option.some.inj he
  rw [he2] at hr
  have hl := rowN_len k l j hj hn
  obtain ⟨rad, rc, hu, _, _⟩ := hr.shape
  subst hu
  obtain ⟨p, q, hpq, hp⟩ := hr.ptr hl.1
  subst hpq
  exact ⟨p, q, rc, _, rfl, hl.1, hl.2, hb, hc, hp, hr⟩

set_option maxRecDepth 100000 in
set_option maxHeartbeats 8000000 in
theorem law_rows (c : Int) (l : List (List UInt8)) (v : Value) (w : World) (h : Texts w v l) (hc : 0 ≤ c) (hc2 : c < 256) (hz : ∀ b ∈ l, b.length ≤ 140737488355328) :
    Calls Try.prog 13 #[.int .u8 c, v] w (Ret w (.bool true)) := by
  obtain ⟨ad, cap, rfl, ha1, ha2⟩ := h.shape
  have H := Lib.hid h; have HZ := Lib.hid hz
  clear h hz
  obtain ⟨n, hn⟩ : ∃ n, n = l.length := ⟨_, rfl⟩
  rw [← hn] at ha1 H ⊢
  have HN := Lib.hid hn
  cases hba : lightB l with
  | false =>
    have HL := Lib.hid hba; clear hba hn
    go_enter Try.func13, Try.ntmps13
    go_wp2_with fail
    refine (light_any _ l _ H.out HZ.out).mono ?_
    rintro e w1 ⟨rfl, rfl⟩
    rw [HL.out]
    go_wp2_with fail
    refine (lives06_any _).mono ?_
    rintro e w1 ⟨rfl, hb1⟩
    go_wp2_with fail
    go_ret
    exact ⟨rfl, hb1⟩
  | true =>
    have HL := Lib.hid hba; clear hba
    obtain ⟨hfa, hna⟩ := light_fair HL.out
    rw [← hn] at hna
    have HF := Lib.hid hfa
    clear hfa hn
    by_cases h0 : n = 0
    · subst h0
      go_enter Try.func13, Try.ntmps13
      go_wp2_with fail
      refine (light_any _ l _ H.out HZ.out).mono ?_
      rintro e w1 ⟨rfl, rfl⟩
      rw [HL.out]
      go_wp2_with fail
      refine (lives06_any _).mono ?_
      rintro e w1 ⟨rfl, hb1⟩
      go_wp2_with fail
      go_ret
      exact ⟨rfl, hb1⟩
    · have j1 : ((n : Int) == 0) = false := by simp; omega
      go_enter Try.func13, Try.ntmps13
      go_wp2_with fail
      refine (light_any _ l _ H.out HZ.out).mono ?_
      rintro e w1 ⟨rfl, rfl⟩
      rw [HL.out]
      go_wp2_with fail
      obtain ⟨k, hk⟩ : ∃ k, k = 1 + c % 2 := ⟨_, rfl⟩
      have hk12 : k = 1 ∨ k = 2 := by omega
      rw [← hk]
      have HK := Lib.hid hk12
      clear hk hk12
      have hn1024 : l.length ≤ 1024 := by have := HN.out; omega
      have hwa : whyF k l.length = 0 := whyF_ok HK.out (by have := HN.out; omega) hn1024
      obtain ⟨ga, hra, hga, hga32⟩ : ∃ ga, rootV k l = .tuple #[.agg (c8 ga), .int .i64 0] ∧ ga = rootF k.toNat l ∧ ga.length = 32 := ⟨_, rootV_ok hwa, rfl, rootF_length _ _⟩
      obtain ⟨d, hd⟩ : ∃ d, d = depthF l.length := ⟨_, rfl⟩
      have hd10 : d ≤ 10 := by rw [hd]; exact depthF_10 _ hn1024
      have HD := Lib.hid hd; have HRA := Lib.hid hra; have HGA := Lib.hid hga; have HG32 := Lib.hid hga32; have HN10 := Lib.hid hn1024
      clear hwa hra hga hga32 hd hn1024
      refine (levels_any k l _ _ H.out HK.out (by have := HN.out; omega) HN10.out HF.out).mono ?_
      rintro e w1 ⟨v1, rfl, hr1, hb1⟩
      replace hr1 := hr1.rows
      obtain ⟨rad, rcap, hv1, hrc1, hrc2⟩ := hr1.shape
      rw [levelsF_length, ← HD.out] at hv1 hrc1
      subst hv1
      obtain ⟨rb, ro, u0, hrad, hrb, _, _⟩ := hr1.at 0 (by rw [levelsF_length]; omega)
      subst hrad
      have HR1 := Lib.hid hr1; have HB1 := Lib.hid hb1
      clear hr1 hb1
      go_wp2_with fail
      refine (mroot_any k l _ _ (H.out.later HB1.out) HF.out).mono ?_
      rintro e w2 ⟨rfl, hb2⟩
      rw [HRA.out]
      have HB2 := Lib.hid hb2; clear hb2
      go_wp2_with (refine wpList_alloc_g rfl _ rfl _ _ Try.zeroHash rfl ?_)
      intro R w3 h3
      go_wp2_with (refine wpList_store_row_g (t := 48) (old := cB 32 []) rfl 48 _ _ rfl R (c8 ga) rfl rfl h3.out.cells (Try.sizeHs _ HG32.out) (by rw [c8_size, HG32.out]; rfl) (by rw [← cB_full 32 _ HG32.out]; exact one_b _ _) ?_)
      intro w4 h4 k4 z4
      have hb24 : Below w2.heap.size w2 w4 := h3.out.below.trans (k4.below (B := w2.heap.size) (fun q hq e => by have := h3.out.eq; omega) h3.out.below.size)
      have hb14 := HB2.out.trans (hb24.mono HB2.out.size)
      have hrows : RowsAt w4 _ _ := HR1.out.later hb14
      have HB4 := Lib.hid (HB1.out.trans (hb14.mono HB1.out.size)); have HR4 := Lib.hid h4
      have hrow : ∀ j, j ≤ d → _ := fun j hj => rows_at hrows j (by rw [← HD.out]; exact hj) HN10.out
      have hrb4 : rb < w4.heap.size := Nat.lt_of_lt_of_le hrb hb14.size
      have HROW := Lib.hid hrow
      clear hrow hrows hb24 hb14 h4 k4 z4 h3 HB2 HB1 HR1 hrb
      obtain ⟨p0, q0, rc0, N, hN, hN1, hN2, _, hc0, hp0, hrd0⟩ := HROW.out 0 (Nat.zero_le _)
      have hlow := rowN_low k l
      rw [← hN, ← HN.out] at hlow
      have j2 : ¬ N < n := by omega
      have hcN : w4.cell? ⟨rb, ro, none⟩ = _ := hc0
      have HC0 := Lib.hid hc0; have HRD0 := Lib.hid hrd0; have HNN := Lib.hid hN
      clear hc0 hrd0 hN
      rcases Nat.lt_or_ge 1 N with hN3 | hN3
      · have j3 : (N : Int) > 1 := by omega
        have j4 : ¬ (n : Int) ≤ (N : Int) / 2 := by have := hlow.2 hN3; omega
        clear hlow
        go_wp2_with fail
        refine (mdepth_any _ (by omega) _).mono ?_
        rintro e w5 ⟨rfl, rfl⟩
        rw [Int.toNat_natCast, show depthF n = d from by rw [HD.out, HN.out]]
        go_wp2_with fail
        clear hcN
        go_loopw [9] (fun x wr => ∃ i : Nat, i ≤ d ∧ x = .int .i64 ((i : Int) + 1) ∧ Below w4.heap.size w4 wr) (fun x _ => d + 1 - (intOf x).toNat)
        case atStart => exact ⟨0, Nat.zero_le _, rfl, Below.refl _ _⟩
        case round =>
          obtain ⟨i, hi, rfl, hb⟩ := hrel
          have HB := Lib.hid hb; clear hb
          by_cases hid : i < d
          · obtain ⟨p1, q1, rc1, h, hh, hh1, hh2, _, hc1, hp1, hrd1⟩ := HROW.out (i + 1) (by omega)
            obtain ⟨pi, qi, rci, h', hh', _, _, _, hci, hpi, hrdi⟩ := HROW.out i (by omega)
            have hhalf : h' = 2 * h := by rw [hh, hh']; exact rowN_half k l i (by rw [← HD.out]; omega)
            subst hhalf
            have C1 : Hid (∀ w', Below w4.heap.size w4 w' → w'.cell? ⟨rb, ro + (i + 1), none⟩ = _) := Lib.hid fun w' h => (h.cell (p := ⟨rb, ro + (i + 1), none⟩) hrb4).trans hc1
            have CI : Hid (∀ w', Below w4.heap.size w4 w' → w'.cell? ⟨rb, ro + i, none⟩ = _) := Lib.hid fun w' h => (h.cell (p := ⟨rb, ro + i, none⟩) hrb4).trans hci
            have RD1 := Lib.hid hrd1; have RDI := Lib.hid hrdi; have HH := Lib.hid hh; have HHI := Lib.hid hh'
            clear hc1 hci hrd1 hrdi hh hh'
            have t1 : ((i : Int) + 1).toNat = i + 1 := by omega
            have jx : (i : Int) < (d : Int) + 1 := by omega
            have jh : IntKind.i64.wrap (2 * (h : Int)) = 2 * (h : Int) := IntWalk.i64_in _ (by omega)
            have jw : IntKind.i64.wrap (i : Int) = (i : Int) := IntWalk.i64_in _ (by omega)
            have hS : Below w4.heap.size w4 wr.drew := HB.out.drew
            go_wp2_with fail
            refine wp_region_till (fun w' => Below w4.heap.size w4 w') 12 13 (by kernel_rfl) rfl ?_
            refine till_take 0 (some 80) rfl rfl (by kernel_rfl) (by kernel_rfl) (by kernel_rfl) (by kernel_rfl) (by kernel_rfl) (by kernel_rfl) (fun _ _ _ h => h) (.inl ⟨by rfl, fun w' _ => (by go_simp; rfl)⟩) hS ?_
            go_frame
            refine till_take 1 (some 81) rfl rfl (by kernel_rfl) (by kernel_rfl) (by kernel_rfl) (by kernel_rfl) (by kernel_rfl) (by kernel_rfl) (fun _ _ _ h => h) (.inl ⟨by rfl, fun w' _ => (by go_simp; rfl)⟩) hS ?_
            go_frame
            refine till_take 2 (some 82) rfl rfl (by kernel_rfl) (by kernel_rfl) (by kernel_rfl) (by kernel_rfl) (by kernel_rfl) (by kernel_rfl) (fun _ _ _ h => h) (.inl ⟨by rfl, fun w' _ => (by go_simp; rfl)⟩) hS ?_
            go_frame
            refine till_take 3 (some 83) rfl rfl (by kernel_rfl) (by kernel_rfl) (by kernel_rfl) (by kernel_rfl) (by kernel_rfl) (by kernel_rfl) (fun _ _ _ h => h) (.inl ⟨by rfl, fun w' hS' => (by have hc := C1.out w' hS'; go_simp; rfl)⟩) hS ?_
            go_frame
            refine till_take 4 (some 84) rfl rfl (by kernel_rfl) (by kernel_rfl) (by kernel_rfl) (by kernel_rfl) (by kernel_rfl) (by kernel_rfl) (fun _ _ _ h => h) (.inl ⟨by rfl, fun w' _ => (by go_simp; rfl)⟩) hS ?_
            go_frame
            refine till_take 5 (some 85) rfl rfl (by kernel_rfl) (by kernel_rfl) (by kernel_rfl) (by kernel_rfl) (by kernel_rfl) (by kernel_rfl) (fun _ _ _ h => h) (.inl ⟨by rfl, fun w' _ => (by go_simp; rfl)⟩) hS ?_
            go_frame
            refine till_take 6 (some 86) rfl rfl (by kernel_rfl) (by kernel_rfl) (by kernel_rfl) (by kernel_rfl) (by kernel_rfl) (by kernel_rfl) (fun _ _ _ h => h) (.inl ⟨by rfl, fun w' _ => (by go_simp; rfl)⟩) hS ?_
            go_frame
            refine till_take 7 (some 87) rfl rfl (by kernel_rfl) (by kernel_rfl) (by kernel_rfl) (by kernel_rfl) (by kernel_rfl) (by kernel_rfl) (fun _ _ _ h => h) (.inl ⟨by rfl, fun w' _ => (by go_simp; rfl)⟩) hS ?_
            go_frame
            refine till_take 8 (some 88) rfl rfl (by kernel_rfl) (by kernel_rfl) (by kernel_rfl) (by kernel_rfl) (by kernel_rfl) (by kernel_rfl) (fun _ _ _ h => h) (.inl ⟨by rfl, fun w' _ => (by go_simp; rfl)⟩) hS ?_
            go_frame
            refine till_take 9 (some 89) rfl rfl (by kernel_rfl) (by kernel_rfl) (by kernel_rfl) (by kernel_rfl) (by kernel_rfl) (by kernel_rfl) (fun _ _ _ h => h) (.inl ⟨by rfl, fun w' _ => (by go_simp; rfl)⟩) hS ?_
            go_frame
            refine till_take 10 (some 90) rfl rfl (by kernel_rfl) (by kernel_rfl) (by kernel_rfl) (by kernel_rfl) (by kernel_rfl) (by kernel_rfl) (fun _ _ _ h => h) (.inl ⟨by rfl, fun w' hS' => (by have hc := CI.out w' hS'; go_simp; rfl)⟩) hS ?_
            go_frame
            refine till_take 11 (some 91) rfl rfl (by kernel_rfl) (by kernel_rfl) (by kernel_rfl) (by kernel_rfl) (by kernel_rfl) (by kernel_rfl) (fun _ _ _ h => h) (.inl ⟨by rfl, fun w' _ => (by go_simp; rfl)⟩) hS ?_
            go_frame
            refine till_one 12 rfl (by kernel_rfl) fun K hK => ?_
            simp only [List.getElem_toArray, List.getElem_cons_succ, List.getElem_cons_zero]
            rw [if_pos (by rfl)]
            go_simp
            refine hK _ _ (fun h => absurd rfl h) ?_
            clear hK
            refine till_done (by kernel_rfl) ?_ _
            have c1 := C1.out _ hS
            have HS := Lib.hid hS; clear hS
            obtain ⟨wq, hwq⟩ : ∃ wq, wq = wr.drew := ⟨_, rfl⟩
            rw [← hwq] at c1 HS ⊢
            clear hwq HB
            go_wp2_with fail
            clear c1
            go_loopw [98] (fun x wr => ∃ j : Nat, j ≤ h ∧ x = .int .i64 j ∧ Below w4.heap.size w4 wr) (fun x _ => h - (intOf x).toNat)
            case atStart => exact ⟨0, Nat.zero_le _, rfl, HS.out⟩
            case round =>
              obtain ⟨j, hj, rfl, hb⟩ := hrel
              have HB := Lib.hid hb; clear hb HS
              by_cases hjh : j < h
              · obtain ⟨_, _, e1, _, hrange⟩ := (RD1.out.later HB.out).hash (rowN_32 _ _ _) j (by rw [← HH.out]; exact hjh)
                cases e1
                rw [← hAt_eq _ j (by rw [← HH.out]; exact hjh)] at hrange
                obtain ⟨y, hy⟩ : ∃ y, y = hAt (rowN k l (i + 1)) j := ⟨_, rfl⟩
                rw [← hy] at hrange
                have hy32 : y.length = 32 := by rw [hy]; exact hAt_length (rowN_32 _ _ _) _
                have hnode : nodeK k (hAt (rowN k l i) (2 * j)) (hAt (rowN k l i) (2 * j + 1)) = y := by rw [hy]; exact (rowN_node HK.out l i j (by rw [← HD.out]; omega) (by rw [← HH.out]; exact hjh)).symm
                have HRG := Lib.hid hrange; have HY32 := Lib.hid hy32; have HNODE := Lib.hid hnode
                clear hrange hy hy32 hnode
                go_wp2_with (first
                  | (refine wpList_load_mid rfl _ _ rfl p1 (q1 + j * 32) rfl (y.map byteV) _ HRG.out Try.underlying48 rfl (Try.sizeHm _ HY32.out) ?_)
                  | (refine wpList_alloc_g rfl _ rfl _ _ Try.zeroHash rfl ?_))
                intro R11 w5 h5
                go_wp2_with (refine wpList_store_row_g (t := 48) (old := cB 32 []) rfl 48 _ _ rfl R11 (c8 y) rfl rfl h5.out.cells (Try.sizeHs _ HY32.out) (by rw [c8_size, HY32.out]; rfl) (by rw [← cB_full 32 _ HY32.out]; exact one_b _ _) ?_)
                intro w6 h6 k6 z6
                have hb56 : Below wr.heap.size wr w6 := h5.out.below.trans (k6.below (B := wr.heap.size) (fun q hq e => by have := h5.out.eq; omega) h5.out.below.size)
                have hb46 := HB.out.trans (hb56.mono HB.out.size)
                have L11 : Hid (∀ w', Below w6.heap.size w6 w' → (Instr.loadAt 48 (.pointer (some ⟨R11, 0, none⟩))).run Try.prog w' = .ok (.agg (c8 y)) w') := Lib.hid fun w' e => by exact load_hash ((e.block R11 (heap_lt h6)).trans h6) HY32.out
                have la : ∀ w', Below w4.heap.size w4 w' → _ := fun w' h => load_hash_at (S := fun x => w4.heap.size ≤ x) RDI.out (rowN_32 _ _ _) (2 * j) (by rw [← HHI.out]; omega) ⟨h.os, h.tape, h.output, h.size, fun k hk _ => h.block k hk⟩ (by omega)
                have lb : ∀ w', Below w4.heap.size w4 w' → _ := fun w' h => load_hash_at (S := fun x => w4.heap.size ≤ x) RDI.out (rowN_32 _ _ _) (2 * j + 1) (by rw [← HHI.out]; omega) ⟨h.os, h.tape, h.output, h.size, fun k hk _ => h.block k hk⟩ (by omega)
                have LA : Hid (∀ w', Below w6.heap.size w6 w' → (Instr.loadAt 48 (.pointer (some ⟨pi, qi + 2 * j * 32, none⟩))).run Try.prog w' = .ok (.agg (c8 (hAt (rowN k l i) (2 * j)))) w') := Lib.hid fun w' e => la w' (hb46.trans (e.mono hb46.size))
                have LB : Hid (∀ w', Below w6.heap.size w6 w' → (Instr.loadAt 48 (.pointer (some ⟨pi, qi + (2 * j + 1) * 32, none⟩))).run Try.prog w' = .ok (.agg (c8 (hAt (rowN k l i) (2 * j + 1)))) w') := Lib.hid fun w' e => lb w' (hb46.trans (e.mono hb46.size))
                have DI : Hid (∀ w', Below w6.heap.size w6 w' → w'.cell? ⟨rb, ro + i, none⟩ = _) := Lib.hid fun w' e => CI.out w' (hb46.trans (e.mono hb46.size))
                obtain ⟨xa, hxa⟩ : ∃ xa, xa = hAt (rowN k l i) (2 * j) := ⟨_, rfl⟩
                obtain ⟨xb, hxb⟩ : ∃ xb, xb = hAt (rowN k l i) (2 * j + 1) := ⟨_, rfl⟩
                rw [← hxa] at LA HNODE
                rw [← hxb] at LB HNODE
                have XA : Hid (xa.length = 32) := Lib.hid (by rw [hxa]; exact hAt_length (rowN_32 _ _ _) _)
                have XB : Hid (xb.length = 32) := Lib.hid (by rw [hxb]; exact hAt_length (rowN_32 _ _ _) _)
                have HB46 := Lib.hid hb46
                clear la lb hb56 hb46 h6 k6 z6 h5 hxa hxb
                have hS : Below w6.heap.size w6 w6.drew := (Below.refl _ _).drew
                have heq := Try.eqH y y HY32.out HY32.out
                rw [decide_eq_true (rfl : y = y)] at heq
                have k1 : 2 * (j : Int) < 2 * (h : Int) := by omega
                have k2 : 2 * (j : Int) + 1 < 2 * (h : Int) := by omega
                have k3 : (0 : Int) ≤ 2 * (j : Int) := by omega
                have k4 : (0 : Int) ≤ 2 * (j : Int) + 1 := by omega
                have k5 : ((2 * (j : Int)).toNat) = 2 * j := by omega
                have k6 : ((2 * (j : Int) + 1).toNat) = 2 * j + 1 := by omega
                have k8 : IntKind.i64.wrap (2 * (j : Int)) = 2 * (j : Int) := IntWalk.i64_in _ (by omega)
                have k7 : IntKind.i64.wrap (2 * (j : Int) + 1) = 2 * (j : Int) + 1 := IntWalk.i64_in _ (by omega)
                go_wp2_with fail
                refine wp_region_till (fun w' => Below w6.heap.size w6 w') 22 23 (by kernel_rfl) rfl ?_
                refine till_take 0 (some 103) rfl rfl (by kernel_rfl) (by kernel_rfl) (by kernel_rfl) (by kernel_rfl) (by kernel_rfl) (by kernel_rfl) (fun _ _ _ h => h) (yields_load (by rfl) 48 (.tmp 11) rfl (.pointer (some ⟨R11, 0, none⟩)) rfl _ L11.out) hS ?_
                go_frame
                refine till_take 1 (some 104) rfl rfl (by kernel_rfl) (by kernel_rfl) (by kernel_rfl) (by kernel_rfl) (by kernel_rfl) (by kernel_rfl) (fun _ _ _ h => h) (.inl ⟨by rfl, fun w' _ => (by go_simp; rfl)⟩) hS ?_
                go_frame
                refine till_take 2 (some 105) rfl rfl (by kernel_rfl) (by kernel_rfl) (by kernel_rfl) (by kernel_rfl) (by kernel_rfl) (by kernel_rfl) (fun _ _ _ h => h) (.inl ⟨by rfl, fun w' _ => (by go_simp; rfl)⟩) hS ?_
                go_frame
                refine till_take 3 (some 106) rfl rfl (by kernel_rfl) (by kernel_rfl) (by kernel_rfl) (by kernel_rfl) (by kernel_rfl) (by kernel_rfl) (fun _ _ _ h => h) (.inl ⟨by rfl, fun w' _ => (by go_simp; rfl)⟩) hS ?_
                go_frame
                refine till_take 4 (some 107) rfl rfl (by kernel_rfl) (by kernel_rfl) (by kernel_rfl) (by kernel_rfl) (by kernel_rfl) (by kernel_rfl) (fun _ _ _ h => h) (.inl ⟨by rfl, fun w' _ => (by go_simp; rfl)⟩) hS ?_
                go_frame
                refine till_take 5 (some 108) rfl rfl (by kernel_rfl) (by kernel_rfl) (by kernel_rfl) (by kernel_rfl) (by kernel_rfl) (by kernel_rfl) (fun _ _ _ h => h) (.inl ⟨by rfl, fun w' _ => (by go_simp; rfl)⟩) hS ?_
                go_frame
                refine till_take 6 (some 109) rfl rfl (by kernel_rfl) (by kernel_rfl) (by kernel_rfl) (by kernel_rfl) (by kernel_rfl) (by kernel_rfl) (fun _ _ _ h => h) (.inl ⟨by rfl, fun w' hS' => (by have hc := DI.out w' hS'; go_simp; rfl)⟩) hS ?_
                go_frame
                refine till_take 7 (some 110) rfl rfl (by kernel_rfl) (by kernel_rfl) (by kernel_rfl) (by kernel_rfl) (by kernel_rfl) (by kernel_rfl) (fun _ _ _ h => h) (.inl ⟨by rfl, fun w' _ => (by go_simp; rfl)⟩) hS ?_
                go_frame
                refine till_take 8 (some 111) rfl rfl (by kernel_rfl) (by kernel_rfl) (by kernel_rfl) (by kernel_rfl) (by kernel_rfl) (by kernel_rfl) (fun _ _ _ h => h) (.inl ⟨by rfl, fun w' _ => (by go_simp; rfl)⟩) hS ?_
                go_frame
                refine till_take 9 (some 112) rfl rfl (by kernel_rfl) (by kernel_rfl) (by kernel_rfl) (by kernel_rfl) (by kernel_rfl) (by kernel_rfl) (fun _ _ _ h => h) (.inl ⟨by rfl, fun w' _ => (by go_simp; rfl)⟩) hS ?_
                go_frame
                refine till_take 10 (some 113) rfl rfl (by kernel_rfl) (by kernel_rfl) (by kernel_rfl) (by kernel_rfl) (by kernel_rfl) (by kernel_rfl) (fun _ _ _ h => h) (yields_load (by rfl) 48 (.tmp 112) rfl (.pointer (some ⟨pi, qi + 2 * j * 32, none⟩)) rfl _ LA.out) hS ?_
                go_frame
                refine till_take 11 (some 114) rfl rfl (by kernel_rfl) (by kernel_rfl) (by kernel_rfl) (by kernel_rfl) (by kernel_rfl) (by kernel_rfl) (fun _ _ _ h => h) (.inl ⟨by rfl, fun w' _ => (by go_simp; rfl)⟩) hS ?_
                go_frame
                refine till_take 12 (some 115) rfl rfl (by kernel_rfl) (by kernel_rfl) (by kernel_rfl) (by kernel_rfl) (by kernel_rfl) (by kernel_rfl) (fun _ _ _ h => h) (.inl ⟨by rfl, fun w' _ => (by go_simp; rfl)⟩) hS ?_
                go_frame
                refine till_take 13 (some 116) rfl rfl (by kernel_rfl) (by kernel_rfl) (by kernel_rfl) (by kernel_rfl) (by kernel_rfl) (by kernel_rfl) (fun _ _ _ h => h) (.inl ⟨by rfl, fun w' _ => (by go_simp; rfl)⟩) hS ?_
                go_frame
                refine till_take 14 (some 117) rfl rfl (by kernel_rfl) (by kernel_rfl) (by kernel_rfl) (by kernel_rfl) (by kernel_rfl) (by kernel_rfl) (fun _ _ _ h => h) (.inl ⟨by rfl, fun w' _ => (by go_simp; rfl)⟩) hS ?_
                go_frame
                refine till_take 15 (some 118) rfl rfl (by kernel_rfl) (by kernel_rfl) (by kernel_rfl) (by kernel_rfl) (by kernel_rfl) (by kernel_rfl) (fun _ _ _ h => h) (.inl ⟨by rfl, fun w' hS' => (by have hc := DI.out w' hS'; go_simp; rfl)⟩) hS ?_
                go_frame
                refine till_take 16 (some 119) rfl rfl (by kernel_rfl) (by kernel_rfl) (by kernel_rfl) (by kernel_rfl) (by kernel_rfl) (by kernel_rfl) (fun _ _ _ h => h) (.inl ⟨by rfl, fun w' _ => (by go_simp; rfl)⟩) hS ?_
                go_frame
                refine till_take 17 (some 120) rfl rfl (by kernel_rfl) (by kernel_rfl) (by kernel_rfl) (by kernel_rfl) (by kernel_rfl) (by kernel_rfl) (fun _ _ _ h => h) (.inl ⟨by rfl, fun w' _ => (by go_simp; rfl)⟩) hS ?_
                go_frame
                refine till_take 18 (some 121) rfl rfl (by kernel_rfl) (by kernel_rfl) (by kernel_rfl) (by kernel_rfl) (by kernel_rfl) (by kernel_rfl) (fun _ _ _ h => h) (.inl ⟨by rfl, fun w' _ => (by go_simp; rfl)⟩) hS ?_
                go_frame
                refine till_take 19 (some 122) rfl rfl (by kernel_rfl) (by kernel_rfl) (by kernel_rfl) (by kernel_rfl) (by kernel_rfl) (by kernel_rfl) (fun _ _ _ h => h) (.inl ⟨by rfl, fun w' _ => (by go_simp; rfl)⟩) hS ?_
                go_frame
                refine till_take 20 (some 123) rfl rfl (by kernel_rfl) (by kernel_rfl) (by kernel_rfl) (by kernel_rfl) (by kernel_rfl) (by kernel_rfl) (fun _ _ _ h => h) (yields_load (by rfl) 48 (.tmp 122) rfl (.pointer (some ⟨pi, qi + (2 * j + 1) * 32, none⟩)) rfl _ LB.out) hS ?_
                go_frame
                refine till_one 21 rfl (by kernel_rfl) fun K hK => ?_
                simp only [List.getElem_toArray, List.getElem_cons_succ, List.getElem_cons_zero]
                rw [if_pos (by rfl)]
                go_simp
                refine (mnode_any k xa xb XA.out XB.out _).mono ?_
                rintro e w7 ⟨rfl, hb7⟩
                rw [HNODE.out]
                have hS7 : Below w6.heap.size w6 w7 := hS.trans (hb7.mono hS.size)
                refine hK _ _ (fun _ _ => hS7) ?_
                clear hK hb7 hS
                refine till_one 22 rfl (by kernel_rfl) fun K hK => ?_
                simp only [List.getElem_toArray, List.getElem_cons_succ, List.getElem_cons_zero]
                rw [if_pos (by rfl)]
                go_simp
                refine hK _ _ (fun h => absurd rfl h) ?_
                clear hK heq
                refine till_done (by kernel_rfl) ?_ _
                have HB7 := Lib.hid (HB46.out.trans (hS7.mono HB46.out.size))
                clear hS7
                go_wp2_with fail
                go_roundw
                case rel => exact ⟨j + 1, by omega, by go_num, HB7.out⟩
                case measure => simp [intOf]; omega
              · obtain rfl : j = h := by omega
                go_wp2_with fail
                go_roundw
                case rel => exact ⟨i + 1, by omega, by go_num, HB.out⟩
                case measure => simp [intOf]; omega
          · have hie : i = d := by omega
            subst hie
            go_wp2_with fail
            have C0 : Hid (∀ w', Below w4.heap.size w4 w' → w'.cell? ⟨rb, ro, none⟩ = _) := Lib.hid fun w' h => (h.cell (p := ⟨rb, ro, none⟩) hrb4).trans HC0.out
            go_loopw [129] (fun x wr => ∃ q : Nat, q ≤ n ∧ x = .int .i64 q ∧ Below w4.heap.size w4 wr) (fun x _ => n - (intOf x).toNat)
            case atStart => exact ⟨0, Nat.zero_le _, rfl, HB.out⟩
            case round =>
              obtain ⟨q, hq, rfl, hb⟩ := hrel
              by_cases hqn : q < n
              · obtain ⟨lb, lo, u, rfl, hlb, hcell, hru⟩ := H.out.at q (by have := HN.out; omega)
                rw [← tAt_eq l q (by have := HN.out; omega)] at hru
                have hxz : (tAt l q).length ≤ 140737488355328 := HZ.out _ (tAt_mem _ _ (by have := HN.out; omega))
                obtain ⟨hleaf, hqN⟩ := rowN_leaf HK.out l q (by have := HN.out; omega)
                obtain ⟨x, hx⟩ : ∃ x, x = tAt l q := ⟨_, rfl⟩
                obtain ⟨y, hy⟩ : ∃ y, y = hAt (rowN k l 0) q := ⟨_, rfl⟩
                rw [← hx] at hru hxz hleaf
                rw [← hy] at hleaf
                have hy32 : y.length = 32 := by rw [hy]; exact hAt_length (rowN_32 _ _ _) _
                obtain ⟨uad, ucap, hu, _⟩ := hru.shape
                subst hu
                obtain ⟨m, hm⟩ : ∃ m, m = x.length := ⟨_, rfl⟩
                rw [← hm] at hcell hru
                have hb04 := HB4.out.trans (hb.mono HB4.out.size)
                have hcw := (hb04.cell (p := ⟨lb, lo + q, none⟩) hlb).trans hcell
                have hrw := hru.later hb04
                have l0 : ∀ w', Below w4.heap.size w4 w' → _ := fun w' h => load_hash_at (S := fun x => w4.heap.size ≤ x) HRD0.out (rowN_32 _ _ _) q hqN ⟨h.os, h.tape, h.output, h.size, fun k hk _ => h.block k hk⟩ (by omega)
                rw [← hy] at l0
                rw [← HNN.out] at hqN
                have L0 := Lib.hid l0; have HY32 := Lib.hid hy32; have HLEAF := Lib.hid hleaf; have HRW := Lib.hid hrw; have HBR := Lib.hid hb; have HM := Lib.hid hm
                clear l0 hy32 hleaf hrw hb hru hcell hx hy hb04 hm
                have kq : (q : Int) < (N : Int) := by omega
                have k0 : (0 : Int) < (i : Int) + 1 := by omega
                have heq := Try.eqH y y HY32.out HY32.out
                rw [decide_eq_true (rfl : y = y)] at heq
                have hS : Below w4.heap.size w4 wr.drew := HBR.out.drew
                go_wp2_with fail
                refine wp_region_till (fun w' => Below w4.heap.size w4 w') 9 10 (by kernel_rfl) rfl ?_
                refine till_take 0 (some 134) rfl rfl (by kernel_rfl) (by kernel_rfl) (by kernel_rfl) (by kernel_rfl) (by kernel_rfl) (by kernel_rfl) (fun _ _ _ h => h) (.inl ⟨by rfl, fun w' _ => (by go_simp; rfl)⟩) hS ?_
                go_frame
                refine till_take 1 (some 135) rfl rfl (by kernel_rfl) (by kernel_rfl) (by kernel_rfl) (by kernel_rfl) (by kernel_rfl) (by kernel_rfl) (fun _ _ _ h => h) (.inl ⟨by rfl, fun w' _ => (by go_simp; rfl)⟩) hS ?_
                go_frame
                refine till_take 2 (some 136) rfl rfl (by kernel_rfl) (by kernel_rfl) (by kernel_rfl) (by kernel_rfl) (by kernel_rfl) (by kernel_rfl) (fun _ _ _ h => h) (.inl ⟨by rfl, fun w' hS' => (by have hc := C0.out w' hS'; go_simp; rfl)⟩) hS ?_
                go_frame
                refine till_take 3 (some 137) rfl rfl (by kernel_rfl) (by kernel_rfl) (by kernel_rfl) (by kernel_rfl) (by kernel_rfl) (by kernel_rfl) (fun _ _ _ h => h) (.inl ⟨by rfl, fun w' _ => (by go_simp; rfl)⟩) hS ?_
                go_frame
                refine till_take 4 (some 138) rfl rfl (by kernel_rfl) (by kernel_rfl) (by kernel_rfl) (by kernel_rfl) (by kernel_rfl) (by kernel_rfl) (fun _ _ _ h => h) (.inl ⟨by rfl, fun w' _ => (by go_simp; rfl)⟩) hS ?_
                go_frame
                refine till_take 5 (some 139) rfl rfl (by kernel_rfl) (by kernel_rfl) (by kernel_rfl) (by kernel_rfl) (by kernel_rfl) (by kernel_rfl) (fun _ _ _ h => h) (yields_load (by rfl) 48 (.tmp 138) rfl (.pointer (some ⟨p0, q0 + q * 32, none⟩)) rfl _ L0.out) hS ?_
                go_frame
                refine till_take 6 (some 140) rfl rfl (by kernel_rfl) (by kernel_rfl) (by kernel_rfl) (by kernel_rfl) (by kernel_rfl) (by kernel_rfl) (fun _ _ _ h => h) (.inl ⟨by rfl, fun w' _ => (by go_simp; rfl)⟩) hS ?_
                go_frame
                refine till_take 7 (some 141) rfl rfl (by kernel_rfl) (by kernel_rfl) (by kernel_rfl) (by kernel_rfl) (by kernel_rfl) (by kernel_rfl) (fun _ _ _ h => h) (.inl ⟨by rfl, fun w' _ => (by go_simp; rfl)⟩) hS ?_
                go_frame
                refine till_one 8 rfl (by kernel_rfl) fun K hK => ?_
                simp only [List.getElem_toArray, List.getElem_cons_succ, List.getElem_cons_zero]
                rw [if_pos (by rfl)]
                go_simp
                refine (mleaf_any k x _ _ (HRW.out.later (Below.refl _ _).drew) (by have := HM.out; omega)).mono ?_
                rintro e w7 ⟨rfl, hb7⟩
                rw [← HLEAF.out]
                have hS7 : Below w4.heap.size w4 w7 := hS.trans (hb7.mono hS.size)
                refine hK _ _ (fun _ _ => hS7) ?_
                clear hK hb7 hS
                refine till_one 9 rfl (by kernel_rfl) fun K hK => ?_
                simp only [List.getElem_toArray, List.getElem_cons_succ, List.getElem_cons_zero]
                rw [if_pos (by rfl)]
                go_simp
                refine hK _ _ (fun h => absurd rfl h) ?_
                clear hK heq hcw
                refine till_done (by kernel_rfl) ?_ _
                have HB7 := Lib.hid hS7
                clear hS7
                go_wp2_with fail
                go_roundw
                case rel => exact ⟨q + 1, by omega, by go_num, HB7.out⟩
                case measure => simp [intOf]; omega
              · have hqe : q = n := by omega
                subst hqe
                obtain ⟨pt, qt, rct, len, hl, _, _, _, hct, hpt, hrdt⟩ := HROW.out i (Nat.le_refl _)
                have htop : rowN k l i = [ga] := by rw [HGA.out, ← rowN_top k l, HD.out]
                rw [htop] at hl hrdt
                simp only [List.length_singleton] at hl
                subst hl
                have hcw := (hb.cell (p := ⟨rb, ro + i, none⟩) hrb4).trans hct
                have LT : Hid (∀ w', Below w4.heap.size w4 w' → (Instr.loadAt 48 (.pointer (some ⟨pt, qt, none⟩))).run Try.prog w' = .ok (.agg (c8 ga)) w') := Lib.hid fun w' h => load_hash_at (S := fun x => w4.heap.size ≤ x) hrdt (by intro x hx; simp at hx; subst hx; exact HG32.out) 0 (by simp) ⟨h.os, h.tape, h.output, h.size, fun k hk _ => h.block k hk⟩ (by omega)
                have LR : Hid (∀ w', Below w4.heap.size w4 w' → (Instr.loadAt 48 (.pointer (some ⟨R, 0, none⟩))).run Try.prog w' = .ok (.agg (c8 ga)) w') := Lib.hid fun w' e => by exact load_hash ((e.block R (heap_lt HR4.out)).trans HR4.out) HG32.out
                have HBR := Lib.hid hb
                clear hb hct hrdt htop HROW
                have jx : (i : Int) < (i : Int) + 1 := by omega
                have jw : IntKind.i64.wrap (i : Int) = (i : Int) := IntWalk.i64_in _ (by omega)
                have heq := Try.eqH ga ga HG32.out HG32.out
                rw [decide_eq_true (rfl : ga = ga)] at heq
                have hS : Below w4.heap.size w4 wr.drew := HBR.out.drew
                go_wp2_with fail
                refine wp_region_till (fun w' => Below w4.heap.size w4 w') 13 14 (by kernel_rfl) rfl ?_
                refine till_take 0 (some 151) rfl rfl (by kernel_rfl) (by kernel_rfl) (by kernel_rfl) (by kernel_rfl) (by kernel_rfl) (by kernel_rfl) (fun _ _ _ h => h) (.inl ⟨by rfl, fun w' _ => (by go_simp; rfl)⟩) hS ?_
                go_frame
                refine till_take 1 (some 152) rfl rfl (by kernel_rfl) (by kernel_rfl) (by kernel_rfl) (by kernel_rfl) (by kernel_rfl) (by kernel_rfl) (fun _ _ _ h => h) (.inl ⟨by rfl, fun w' _ => (by go_simp; rfl)⟩) hS ?_
                go_frame
                refine till_take 2 (some 153) rfl rfl (by kernel_rfl) (by kernel_rfl) (by kernel_rfl) (by kernel_rfl) (by kernel_rfl) (by kernel_rfl) (fun _ _ _ h => h) (.inl ⟨by rfl, fun w' _ => (by go_simp; rfl)⟩) hS ?_
                go_frame
                refine till_take 3 (some 154) rfl rfl (by kernel_rfl) (by kernel_rfl) (by kernel_rfl) (by kernel_rfl) (by kernel_rfl) (by kernel_rfl) (fun _ _ _ h => h) (.inl ⟨by rfl, fun w' _ => (by go_simp; rfl)⟩) hS ?_
                go_frame
                refine till_take 4 (some 155) rfl rfl (by kernel_rfl) (by kernel_rfl) (by kernel_rfl) (by kernel_rfl) (by kernel_rfl) (by kernel_rfl) (fun _ _ _ h => h) (.inl ⟨by rfl, fun w' _ => (by go_simp; rfl)⟩) hS ?_
                go_frame
                refine till_take 5 (some 156) rfl rfl (by kernel_rfl) (by kernel_rfl) (by kernel_rfl) (by kernel_rfl) (by kernel_rfl) (by kernel_rfl) (fun _ _ _ h => h) (.inl ⟨by rfl, fun w' _ => (by go_simp; rfl)⟩) hS ?_
                go_frame
                refine till_take 6 (some 157) rfl rfl (by kernel_rfl) (by kernel_rfl) (by kernel_rfl) (by kernel_rfl) (by kernel_rfl) (by kernel_rfl) (fun _ _ _ h => h) (yields_load (by rfl) 48 (.tmp 156) rfl (.pointer (some ⟨pt, qt, none⟩)) rfl _ LT.out) hS ?_
                go_frame
                refine till_take 7 (some 158) rfl rfl (by kernel_rfl) (by kernel_rfl) (by kernel_rfl) (by kernel_rfl) (by kernel_rfl) (by kernel_rfl) (fun _ _ _ h => h) (yields_load (by rfl) 48 (.tmp 7) rfl (.pointer (some ⟨R, 0, none⟩)) rfl _ LR.out) hS ?_
                go_frame
                refine till_take 8 (some 159) rfl rfl (by kernel_rfl) (by kernel_rfl) (by kernel_rfl) (by kernel_rfl) (by kernel_rfl) (by kernel_rfl) (fun _ _ _ h => h) (.inl ⟨by rfl, fun w' _ => (by go_simp; rfl)⟩) hS ?_
                go_frame
                refine till_take 9 (some 160) rfl rfl (by kernel_rfl) (by kernel_rfl) (by kernel_rfl) (by kernel_rfl) (by kernel_rfl) (by kernel_rfl) (fun _ _ _ h => h) (.inl ⟨by rfl, fun w' _ => (by go_simp; rfl)⟩) hS ?_
                go_frame
                refine till_take 10 (some 161) rfl rfl (by kernel_rfl) (by kernel_rfl) (by kernel_rfl) (by kernel_rfl) (by kernel_rfl) (by kernel_rfl) (fun _ _ _ h => h) (.inl ⟨by rfl, fun w' _ => (by go_simp; rfl)⟩) hS ?_
                go_frame
                refine till_one 11 rfl (by kernel_rfl) fun K hK => ?_
                simp only [List.getElem_toArray, List.getElem_cons_succ, List.getElem_cons_zero]
                rw [if_pos (by rfl)]
                go_simp
                refine (lives06_any _).mono ?_
                rintro e w7 ⟨rfl, hb7⟩
                have hS7 : Below w4.heap.size w4 w7 := hS.trans (hb7.mono hS.size)
                refine hK _ _ (fun _ _ => hS7) ?_
                clear hK hb7 hS
                refine till_take 12 (some 163) rfl rfl (by kernel_rfl) (by kernel_rfl) (by kernel_rfl) (by kernel_rfl) (by kernel_rfl) (by kernel_rfl) (fun _ _ _ h => h) (.inl ⟨by rfl, fun w' _ => (by go_simp; rfl)⟩) hS7 ?_
                go_frame
                refine till_one 13 rfl (by kernel_rfl) fun K hK => ?_
                simp only [List.getElem_toArray, List.getElem_cons_succ, List.getElem_cons_zero]
                rw [if_pos (by rfl)]
                go_simp
                refine hK _ _ (fun h => absurd rfl h) ?_
                clear hK heq hcw
                refine till_done (by kernel_rfl) ?_ _
                have HB7 := Lib.hid (HB4.out.trans (hS7.mono HB4.out.size))
                clear hS7
                go_wp2_with fail
                go_ret
                exact ⟨rfl, HB7.out⟩
      · have j3 : ¬ (N : Int) > 1 := by omega
        clear hlow
        go_wp2_with fail
        refine (mdepth_any _ (by omega) _).mono ?_
        rintro e w5 ⟨rfl, rfl⟩
        rw [Int.toNat_natCast, show depthF n = d from by rw [HD.out, HN.out]]
        go_wp2_with fail
        clear hcN
        go_loopw [9] (fun x wr => ∃ i : Nat, i ≤ d ∧ x = .int .i64 ((i : Int) + 1) ∧ Below w4.heap.size w4 wr) (fun x _ => d + 1 - (intOf x).toNat)
        case atStart => exact ⟨0, Nat.zero_le _, rfl, Below.refl _ _⟩
        case round =>
          obtain ⟨i, hi, rfl, hb⟩ := hrel
          have HB := Lib.hid hb; clear hb
          by_cases hid : i < d
          · obtain ⟨p1, q1, rc1, h, hh, hh1, hh2, _, hc1, hp1, hrd1⟩ := HROW.out (i + 1) (by omega)
            obtain ⟨pi, qi, rci, h', hh', _, _, _, hci, hpi, hrdi⟩ := HROW.out i (by omega)
            have hhalf : h' = 2 * h := by rw [hh, hh']; exact rowN_half k l i (by rw [← HD.out]; omega)
            subst hhalf
            have C1 : Hid (∀ w', Below w4.heap.size w4 w' → w'.cell? ⟨rb, ro + (i + 1), none⟩ = _) := Lib.hid fun w' h => (h.cell (p := ⟨rb, ro + (i + 1), none⟩) hrb4).trans hc1
            have CI : Hid (∀ w', Below w4.heap.size w4 w' → w'.cell? ⟨rb, ro + i, none⟩ = _) := Lib.hid fun w' h => (h.cell (p := ⟨rb, ro + i, none⟩) hrb4).trans hci
            have RD1 := Lib.hid hrd1; have RDI := Lib.hid hrdi; have HH := Lib.hid hh; have HHI := Lib.hid hh'
            clear hc1 hci hrd1 hrdi hh hh'
            have t1 : ((i : Int) + 1).toNat = i + 1 := by omega
            have jx : (i : Int) < (d : Int) + 1 := by omega
            have jh : IntKind.i64.wrap (2 * (h : Int)) = 2 * (h : Int) := IntWalk.i64_in _ (by omega)
            have jw : IntKind.i64.wrap (i : Int) = (i : Int) := IntWalk.i64_in _ (by omega)
            have hS : Below w4.heap.size w4 wr.drew := HB.out.drew
            go_wp2_with fail
            refine wp_region_till (fun w' => Below w4.heap.size w4 w') 12 13 (by kernel_rfl) rfl ?_
            refine till_take 0 (some 80) rfl rfl (by kernel_rfl) (by kernel_rfl) (by kernel_rfl) (by kernel_rfl) (by kernel_rfl) (by kernel_rfl) (fun _ _ _ h => h) (.inl ⟨by rfl, fun w' _ => (by go_simp; rfl)⟩) hS ?_
            go_frame
            refine till_take 1 (some 81) rfl rfl (by kernel_rfl) (by kernel_rfl) (by kernel_rfl) (by kernel_rfl) (by kernel_rfl) (by kernel_rfl) (fun _ _ _ h => h) (.inl ⟨by rfl, fun w' _ => (by go_simp; rfl)⟩) hS ?_
            go_frame
            refine till_take 2 (some 82) rfl rfl (by kernel_rfl) (by kernel_rfl) (by kernel_rfl) (by kernel_rfl) (by kernel_rfl) (by kernel_rfl) (fun _ _ _ h => h) (.inl ⟨by rfl, fun w' _ => (by go_simp; rfl)⟩) hS ?_
            go_frame
            refine till_take 3 (some 83) rfl rfl (by kernel_rfl) (by kernel_rfl) (by kernel_rfl) (by kernel_rfl) (by kernel_rfl) (by kernel_rfl) (fun _ _ _ h => h) (.inl ⟨by rfl, fun w' hS' => (by have hc := C1.out w' hS'; go_simp; rfl)⟩) hS ?_
            go_frame
            refine till_take 4 (some 84) rfl rfl (by kernel_rfl) (by kernel_rfl) (by kernel_rfl) (by kernel_rfl) (by kernel_rfl) (by kernel_rfl) (fun _ _ _ h => h) (.inl ⟨by rfl, fun w' _ => (by go_simp; rfl)⟩) hS ?_
            go_frame
            refine till_take 5 (some 85) rfl rfl (by kernel_rfl) (by kernel_rfl) (by kernel_rfl) (by kernel_rfl) (by kernel_rfl) (by kernel_rfl) (fun _ _ _ h => h) (.inl ⟨by rfl, fun w' _ => (by go_simp; rfl)⟩) hS ?_
            go_frame
            refine till_take 6 (some 86) rfl rfl (by kernel_rfl) (by kernel_rfl) (by kernel_rfl) (by kernel_rfl) (by kernel_rfl) (by kernel_rfl) (fun _ _ _ h => h) (.inl ⟨by rfl, fun w' _ => (by go_simp; rfl)⟩) hS ?_
            go_frame
            refine till_take 7 (some 87) rfl rfl (by kernel_rfl) (by kernel_rfl) (by kernel_rfl) (by kernel_rfl) (by kernel_rfl) (by kernel_rfl) (fun _ _ _ h => h) (.inl ⟨by rfl, fun w' _ => (by go_simp; rfl)⟩) hS ?_
            go_frame
            refine till_take 8 (some 88) rfl rfl (by kernel_rfl) (by kernel_rfl) (by kernel_rfl) (by kernel_rfl) (by kernel_rfl) (by kernel_rfl) (fun _ _ _ h => h) (.inl ⟨by rfl, fun w' _ => (by go_simp; rfl)⟩) hS ?_
            go_frame
            refine till_take 9 (some 89) rfl rfl (by kernel_rfl) (by kernel_rfl) (by kernel_rfl) (by kernel_rfl) (by kernel_rfl) (by kernel_rfl) (fun _ _ _ h => h) (.inl ⟨by rfl, fun w' _ => (by go_simp; rfl)⟩) hS ?_
            go_frame
            refine till_take 10 (some 90) rfl rfl (by kernel_rfl) (by kernel_rfl) (by kernel_rfl) (by kernel_rfl) (by kernel_rfl) (by kernel_rfl) (fun _ _ _ h => h) (.inl ⟨by rfl, fun w' hS' => (by have hc := CI.out w' hS'; go_simp; rfl)⟩) hS ?_
            go_frame
            refine till_take 11 (some 91) rfl rfl (by kernel_rfl) (by kernel_rfl) (by kernel_rfl) (by kernel_rfl) (by kernel_rfl) (by kernel_rfl) (fun _ _ _ h => h) (.inl ⟨by rfl, fun w' _ => (by go_simp; rfl)⟩) hS ?_
            go_frame
            refine till_one 12 rfl (by kernel_rfl) fun K hK => ?_
            simp only [List.getElem_toArray, List.getElem_cons_succ, List.getElem_cons_zero]
            rw [if_pos (by rfl)]
            go_simp
            refine hK _ _ (fun h => absurd rfl h) ?_
            clear hK
            refine till_done (by kernel_rfl) ?_ _
            have c1 := C1.out _ hS
            have HS := Lib.hid hS; clear hS
            obtain ⟨wq, hwq⟩ : ∃ wq, wq = wr.drew := ⟨_, rfl⟩
            rw [← hwq] at c1 HS ⊢
            clear hwq HB
            go_wp2_with fail
            clear c1
            go_loopw [98] (fun x wr => ∃ j : Nat, j ≤ h ∧ x = .int .i64 j ∧ Below w4.heap.size w4 wr) (fun x _ => h - (intOf x).toNat)
            case atStart => exact ⟨0, Nat.zero_le _, rfl, HS.out⟩
            case round =>
              obtain ⟨j, hj, rfl, hb⟩ := hrel
              have HB := Lib.hid hb; clear hb HS
              by_cases hjh : j < h
              · obtain ⟨_, _, e1, _, hrange⟩ := (RD1.out.later HB.out).hash (rowN_32 _ _ _) j (by rw [← HH.out]; exact hjh)
                cases e1
                rw [← hAt_eq _ j (by rw [← HH.out]; exact hjh)] at hrange
                obtain ⟨y, hy⟩ : ∃ y, y = hAt (rowN k l (i + 1)) j := ⟨_, rfl⟩
                rw [← hy] at hrange
                have hy32 : y.length = 32 := by rw [hy]; exact hAt_length (rowN_32 _ _ _) _
                have hnode : nodeK k (hAt (rowN k l i) (2 * j)) (hAt (rowN k l i) (2 * j + 1)) = y := by rw [hy]; exact (rowN_node HK.out l i j (by rw [← HD.out]; omega) (by rw [← HH.out]; exact hjh)).symm
                have HRG := Lib.hid hrange; have HY32 := Lib.hid hy32; have HNODE := Lib.hid hnode
                clear hrange hy hy32 hnode
                go_wp2_with (first
                  | (refine wpList_load_mid rfl _ _ rfl p1 (q1 + j * 32) rfl (y.map byteV) _ HRG.out Try.underlying48 rfl (Try.sizeHm _ HY32.out) ?_)
                  | (refine wpList_alloc_g rfl _ rfl _ _ Try.zeroHash rfl ?_))
                intro R11 w5 h5
                go_wp2_with (refine wpList_store_row_g (t := 48) (old := cB 32 []) rfl 48 _ _ rfl R11 (c8 y) rfl rfl h5.out.cells (Try.sizeHs _ HY32.out) (by rw [c8_size, HY32.out]; rfl) (by rw [← cB_full 32 _ HY32.out]; exact one_b _ _) ?_)
                intro w6 h6 k6 z6
                have hb56 : Below wr.heap.size wr w6 := h5.out.below.trans (k6.below (B := wr.heap.size) (fun q hq e => by have := h5.out.eq; omega) h5.out.below.size)
                have hb46 := HB.out.trans (hb56.mono HB.out.size)
                have L11 : Hid (∀ w', Below w6.heap.size w6 w' → (Instr.loadAt 48 (.pointer (some ⟨R11, 0, none⟩))).run Try.prog w' = .ok (.agg (c8 y)) w') := Lib.hid fun w' e => by exact load_hash ((e.block R11 (heap_lt h6)).trans h6) HY32.out
                have la : ∀ w', Below w4.heap.size w4 w' → _ := fun w' h => load_hash_at (S := fun x => w4.heap.size ≤ x) RDI.out (rowN_32 _ _ _) (2 * j) (by rw [← HHI.out]; omega) ⟨h.os, h.tape, h.output, h.size, fun k hk _ => h.block k hk⟩ (by omega)
                have lb : ∀ w', Below w4.heap.size w4 w' → _ := fun w' h => load_hash_at (S := fun x => w4.heap.size ≤ x) RDI.out (rowN_32 _ _ _) (2 * j + 1) (by rw [← HHI.out]; omega) ⟨h.os, h.tape, h.output, h.size, fun k hk _ => h.block k hk⟩ (by omega)
                have LA : Hid (∀ w', Below w6.heap.size w6 w' → (Instr.loadAt 48 (.pointer (some ⟨pi, qi + 2 * j * 32, none⟩))).run Try.prog w' = .ok (.agg (c8 (hAt (rowN k l i) (2 * j)))) w') := Lib.hid fun w' e => la w' (hb46.trans (e.mono hb46.size))
                have LB : Hid (∀ w', Below w6.heap.size w6 w' → (Instr.loadAt 48 (.pointer (some ⟨pi, qi + (2 * j + 1) * 32, none⟩))).run Try.prog w' = .ok (.agg (c8 (hAt (rowN k l i) (2 * j + 1)))) w') := Lib.hid fun w' e => lb w' (hb46.trans (e.mono hb46.size))
                have DI : Hid (∀ w', Below w6.heap.size w6 w' → w'.cell? ⟨rb, ro + i, none⟩ = _) := Lib.hid fun w' e => CI.out w' (hb46.trans (e.mono hb46.size))
                obtain ⟨xa, hxa⟩ : ∃ xa, xa = hAt (rowN k l i) (2 * j) := ⟨_, rfl⟩
                obtain ⟨xb, hxb⟩ : ∃ xb, xb = hAt (rowN k l i) (2 * j + 1) := ⟨_, rfl⟩
                rw [← hxa] at LA HNODE
                rw [← hxb] at LB HNODE
                have XA : Hid (xa.length = 32) := Lib.hid (by rw [hxa]; exact hAt_length (rowN_32 _ _ _) _)
                have XB : Hid (xb.length = 32) := Lib.hid (by rw [hxb]; exact hAt_length (rowN_32 _ _ _) _)
                have HB46 := Lib.hid hb46
                clear la lb hb56 hb46 h6 k6 z6 h5 hxa hxb
                have hS : Below w6.heap.size w6 w6.drew := (Below.refl _ _).drew
                have heq := Try.eqH y y HY32.out HY32.out
                rw [decide_eq_true (rfl : y = y)] at heq
                have k1 : 2 * (j : Int) < 2 * (h : Int) := by omega
                have k2 : 2 * (j : Int) + 1 < 2 * (h : Int) := by omega
                have k3 : (0 : Int) ≤ 2 * (j : Int) := by omega
                have k4 : (0 : Int) ≤ 2 * (j : Int) + 1 := by omega
                have k5 : ((2 * (j : Int)).toNat) = 2 * j := by omega
                have k6 : ((2 * (j : Int) + 1).toNat) = 2 * j + 1 := by omega
                have k8 : IntKind.i64.wrap (2 * (j : Int)) = 2 * (j : Int) := IntWalk.i64_in _ (by omega)
                have k7 : IntKind.i64.wrap (2 * (j : Int) + 1) = 2 * (j : Int) + 1 := IntWalk.i64_in _ (by omega)
                go_wp2_with fail
                refine wp_region_till (fun w' => Below w6.heap.size w6 w') 22 23 (by kernel_rfl) rfl ?_
                refine till_take 0 (some 103) rfl rfl (by kernel_rfl) (by kernel_rfl) (by kernel_rfl) (by kernel_rfl) (by kernel_rfl) (by kernel_rfl) (fun _ _ _ h => h) (yields_load (by rfl) 48 (.tmp 11) rfl (.pointer (some ⟨R11, 0, none⟩)) rfl _ L11.out) hS ?_
                go_frame
                refine till_take 1 (some 104) rfl rfl (by kernel_rfl) (by kernel_rfl) (by kernel_rfl) (by kernel_rfl) (by kernel_rfl) (by kernel_rfl) (fun _ _ _ h => h) (.inl ⟨by rfl, fun w' _ => (by go_simp; rfl)⟩) hS ?_
                go_frame
                refine till_take 2 (some 105) rfl rfl (by kernel_rfl) (by kernel_rfl) (by kernel_rfl) (by kernel_rfl) (by kernel_rfl) (by kernel_rfl) (fun _ _ _ h => h) (.inl ⟨by rfl, fun w' _ => (by go_simp; rfl)⟩) hS ?_
                go_frame
                refine till_take 3 (some 106) rfl rfl (by kernel_rfl) (by kernel_rfl) (by kernel_rfl) (by kernel_rfl) (by kernel_rfl) (by kernel_rfl) (fun _ _ _ h => h) (.inl ⟨by rfl, fun w' _ => (by go_simp; rfl)⟩) hS ?_
                go_frame
                refine till_take 4 (some 107) rfl rfl (by kernel_rfl) (by kernel_rfl) (by kernel_rfl) (by kernel_rfl) (by kernel_rfl) (by kernel_rfl) (fun _ _ _ h => h) (.inl ⟨by rfl, fun w' _ => (by go_simp; rfl)⟩) hS ?_
                go_frame
                refine till_take 5 (some 108) rfl rfl (by kernel_rfl) (by kernel_rfl) (by kernel_rfl) (by kernel_rfl) (by kernel_rfl) (by kernel_rfl) (fun _ _ _ h => h) (.inl ⟨by rfl, fun w' _ => (by go_simp; rfl)⟩) hS ?_
                go_frame
                refine till_take 6 (some 109) rfl rfl (by kernel_rfl) (by kernel_rfl) (by kernel_rfl) (by kernel_rfl) (by kernel_rfl) (by kernel_rfl) (fun _ _ _ h => h) (.inl ⟨by rfl, fun w' hS' => (by have hc := DI.out w' hS'; go_simp; rfl)⟩) hS ?_
                go_frame
                refine till_take 7 (some 110) rfl rfl (by kernel_rfl) (by kernel_rfl) (by kernel_rfl) (by kernel_rfl) (by kernel_rfl) (by kernel_rfl) (fun _ _ _ h => h) (.inl ⟨by rfl, fun w' _ => (by go_simp; rfl)⟩) hS ?_
                go_frame
                refine till_take 8 (some 111) rfl rfl (by kernel_rfl) (by kernel_rfl) (by kernel_rfl) (by kernel_rfl) (by kernel_rfl) (by kernel_rfl) (fun _ _ _ h => h) (.inl ⟨by rfl, fun w' _ => (by go_simp; rfl)⟩) hS ?_
                go_frame
                refine till_take 9 (some 112) rfl rfl (by kernel_rfl) (by kernel_rfl) (by kernel_rfl) (by kernel_rfl) (by kernel_rfl) (by kernel_rfl) (fun _ _ _ h => h) (.inl ⟨by rfl, fun w' _ => (by go_simp; rfl)⟩) hS ?_
                go_frame
                refine till_take 10 (some 113) rfl rfl (by kernel_rfl) (by kernel_rfl) (by kernel_rfl) (by kernel_rfl) (by kernel_rfl) (by kernel_rfl) (fun _ _ _ h => h) (yields_load (by rfl) 48 (.tmp 112) rfl (.pointer (some ⟨pi, qi + 2 * j * 32, none⟩)) rfl _ LA.out) hS ?_
                go_frame
                refine till_take 11 (some 114) rfl rfl (by kernel_rfl) (by kernel_rfl) (by kernel_rfl) (by kernel_rfl) (by kernel_rfl) (by kernel_rfl) (fun _ _ _ h => h) (.inl ⟨by rfl, fun w' _ => (by go_simp; rfl)⟩) hS ?_
                go_frame
                refine till_take 12 (some 115) rfl rfl (by kernel_rfl) (by kernel_rfl) (by kernel_rfl) (by kernel_rfl) (by kernel_rfl) (by kernel_rfl) (fun _ _ _ h => h) (.inl ⟨by rfl, fun w' _ => (by go_simp; rfl)⟩) hS ?_
                go_frame
                refine till_take 13 (some 116) rfl rfl (by kernel_rfl) (by kernel_rfl) (by kernel_rfl) (by kernel_rfl) (by kernel_rfl) (by kernel_rfl) (fun _ _ _ h => h) (.inl ⟨by rfl, fun w' _ => (by go_simp; rfl)⟩) hS ?_
                go_frame
                refine till_take 14 (some 117) rfl rfl (by kernel_rfl) (by kernel_rfl) (by kernel_rfl) (by kernel_rfl) (by kernel_rfl) (by kernel_rfl) (fun _ _ _ h => h) (.inl ⟨by rfl, fun w' _ => (by go_simp; rfl)⟩) hS ?_
                go_frame
                refine till_take 15 (some 118) rfl rfl (by kernel_rfl) (by kernel_rfl) (by kernel_rfl) (by kernel_rfl) (by kernel_rfl) (by kernel_rfl) (fun _ _ _ h => h) (.inl ⟨by rfl, fun w' hS' => (by have hc := DI.out w' hS'; go_simp; rfl)⟩) hS ?_
                go_frame
                refine till_take 16 (some 119) rfl rfl (by kernel_rfl) (by kernel_rfl) (by kernel_rfl) (by kernel_rfl) (by kernel_rfl) (by kernel_rfl) (fun _ _ _ h => h) (.inl ⟨by rfl, fun w' _ => (by go_simp; rfl)⟩) hS ?_
                go_frame
                refine till_take 17 (some 120) rfl rfl (by kernel_rfl) (by kernel_rfl) (by kernel_rfl) (by kernel_rfl) (by kernel_rfl) (by kernel_rfl) (fun _ _ _ h => h) (.inl ⟨by rfl, fun w' _ => (by go_simp; rfl)⟩) hS ?_
                go_frame
                refine till_take 18 (some 121) rfl rfl (by kernel_rfl) (by kernel_rfl) (by kernel_rfl) (by kernel_rfl) (by kernel_rfl) (by kernel_rfl) (fun _ _ _ h => h) (.inl ⟨by rfl, fun w' _ => (by go_simp; rfl)⟩) hS ?_
                go_frame
                refine till_take 19 (some 122) rfl rfl (by kernel_rfl) (by kernel_rfl) (by kernel_rfl) (by kernel_rfl) (by kernel_rfl) (by kernel_rfl) (fun _ _ _ h => h) (.inl ⟨by rfl, fun w' _ => (by go_simp; rfl)⟩) hS ?_
                go_frame
                refine till_take 20 (some 123) rfl rfl (by kernel_rfl) (by kernel_rfl) (by kernel_rfl) (by kernel_rfl) (by kernel_rfl) (by kernel_rfl) (fun _ _ _ h => h) (yields_load (by rfl) 48 (.tmp 122) rfl (.pointer (some ⟨pi, qi + (2 * j + 1) * 32, none⟩)) rfl _ LB.out) hS ?_
                go_frame
                refine till_one 21 rfl (by kernel_rfl) fun K hK => ?_
                simp only [List.getElem_toArray, List.getElem_cons_succ, List.getElem_cons_zero]
                rw [if_pos (by rfl)]
                go_simp
                refine (mnode_any k xa xb XA.out XB.out _).mono ?_
                rintro e w7 ⟨rfl, hb7⟩
                rw [HNODE.out]
                have hS7 : Below w6.heap.size w6 w7 := hS.trans (hb7.mono hS.size)
                refine hK _ _ (fun _ _ => hS7) ?_
                clear hK hb7 hS
                refine till_one 22 rfl (by kernel_rfl) fun K hK => ?_
                simp only [List.getElem_toArray, List.getElem_cons_succ, List.getElem_cons_zero]
                rw [if_pos (by rfl)]
                go_simp
                refine hK _ _ (fun h => absurd rfl h) ?_
                clear hK heq
                refine till_done (by kernel_rfl) ?_ _
                have HB7 := Lib.hid (HB46.out.trans (hS7.mono HB46.out.size))
                clear hS7
                go_wp2_with fail
                go_roundw
                case rel => exact ⟨j + 1, by omega, by go_num, HB7.out⟩
                case measure => simp [intOf]; omega
              · obtain rfl : j = h := by omega
                go_wp2_with fail
                go_roundw
                case rel => exact ⟨i + 1, by omega, by go_num, HB.out⟩
                case measure => simp [intOf]; omega
          · have hie : i = d := by omega
            subst hie
            go_wp2_with fail
            have C0 : Hid (∀ w', Below w4.heap.size w4 w' → w'.cell? ⟨rb, ro, none⟩ = _) := Lib.hid fun w' h => (h.cell (p := ⟨rb, ro, none⟩) hrb4).trans HC0.out
            go_loopw [129] (fun x wr => ∃ q : Nat, q ≤ n ∧ x = .int .i64 q ∧ Below w4.heap.size w4 wr) (fun x _ => n - (intOf x).toNat)
            case atStart => exact ⟨0, Nat.zero_le _, rfl, HB.out⟩
            case round =>
              obtain ⟨q, hq, rfl, hb⟩ := hrel
              by_cases hqn : q < n
              · obtain ⟨lb, lo, u, rfl, hlb, hcell, hru⟩ := H.out.at q (by have := HN.out; omega)
                rw [← tAt_eq l q (by have := HN.out; omega)] at hru
                have hxz : (tAt l q).length ≤ 140737488355328 := HZ.out _ (tAt_mem _ _ (by have := HN.out; omega))
                obtain ⟨hleaf, hqN⟩ := rowN_leaf HK.out l q (by have := HN.out; omega)
                obtain ⟨x, hx⟩ : ∃ x, x = tAt l q := ⟨_, rfl⟩
                obtain ⟨y, hy⟩ : ∃ y, y = hAt (rowN k l 0) q := ⟨_, rfl⟩
                rw [← hx] at hru hxz hleaf
                rw [← hy] at hleaf
                have hy32 : y.length = 32 := by rw [hy]; exact hAt_length (rowN_32 _ _ _) _
                obtain ⟨uad, ucap, hu, _⟩ := hru.shape
                subst hu
                obtain ⟨m, hm⟩ : ∃ m, m = x.length := ⟨_, rfl⟩
                rw [← hm] at hcell hru
                have hb04 := HB4.out.trans (hb.mono HB4.out.size)
                have hcw := (hb04.cell (p := ⟨lb, lo + q, none⟩) hlb).trans hcell
                have hrw := hru.later hb04
                have l0 : ∀ w', Below w4.heap.size w4 w' → _ := fun w' h => load_hash_at (S := fun x => w4.heap.size ≤ x) HRD0.out (rowN_32 _ _ _) q hqN ⟨h.os, h.tape, h.output, h.size, fun k hk _ => h.block k hk⟩ (by omega)
                rw [← hy] at l0
                rw [← HNN.out] at hqN
                have L0 := Lib.hid l0; have HY32 := Lib.hid hy32; have HLEAF := Lib.hid hleaf; have HRW := Lib.hid hrw; have HBR := Lib.hid hb; have HM := Lib.hid hm
                clear l0 hy32 hleaf hrw hb hru hcell hx hy hb04 hm
                have kq : (q : Int) < (N : Int) := by omega
                have k0 : (0 : Int) < (i : Int) + 1 := by omega
                have heq := Try.eqH y y HY32.out HY32.out
                rw [decide_eq_true (rfl : y = y)] at heq
                have hS : Below w4.heap.size w4 wr.drew := HBR.out.drew
                go_wp2_with fail
                refine wp_region_till (fun w' => Below w4.heap.size w4 w') 9 10 (by kernel_rfl) rfl ?_
                refine till_take 0 (some 134) rfl rfl (by kernel_rfl) (by kernel_rfl) (by kernel_rfl) (by kernel_rfl) (by kernel_rfl) (by kernel_rfl) (fun _ _ _ h => h) (.inl ⟨by rfl, fun w' _ => (by go_simp; rfl)⟩) hS ?_
                go_frame
                refine till_take 1 (some 135) rfl rfl (by kernel_rfl) (by kernel_rfl) (by kernel_rfl) (by kernel_rfl) (by kernel_rfl) (by kernel_rfl) (fun _ _ _ h => h) (.inl ⟨by rfl, fun w' _ => (by go_simp; rfl)⟩) hS ?_
                go_frame
                refine till_take 2 (some 136) rfl rfl (by kernel_rfl) (by kernel_rfl) (by kernel_rfl) (by kernel_rfl) (by kernel_rfl) (by kernel_rfl) (fun _ _ _ h => h) (.inl ⟨by rfl, fun w' hS' => (by have hc := C0.out w' hS'; go_simp; rfl)⟩) hS ?_
                go_frame
                refine till_take 3 (some 137) rfl rfl (by kernel_rfl) (by kernel_rfl) (by kernel_rfl) (by kernel_rfl) (by kernel_rfl) (by kernel_rfl) (fun _ _ _ h => h) (.inl ⟨by rfl, fun w' _ => (by go_simp; rfl)⟩) hS ?_
                go_frame
                refine till_take 4 (some 138) rfl rfl (by kernel_rfl) (by kernel_rfl) (by kernel_rfl) (by kernel_rfl) (by kernel_rfl) (by kernel_rfl) (fun _ _ _ h => h) (.inl ⟨by rfl, fun w' _ => (by go_simp; rfl)⟩) hS ?_
                go_frame
                refine till_take 5 (some 139) rfl rfl (by kernel_rfl) (by kernel_rfl) (by kernel_rfl) (by kernel_rfl) (by kernel_rfl) (by kernel_rfl) (fun _ _ _ h => h) (yields_load (by rfl) 48 (.tmp 138) rfl (.pointer (some ⟨p0, q0 + q * 32, none⟩)) rfl _ L0.out) hS ?_
                go_frame
                refine till_take 6 (some 140) rfl rfl (by kernel_rfl) (by kernel_rfl) (by kernel_rfl) (by kernel_rfl) (by kernel_rfl) (by kernel_rfl) (fun _ _ _ h => h) (.inl ⟨by rfl, fun w' _ => (by go_simp; rfl)⟩) hS ?_
                go_frame
                refine till_take 7 (some 141) rfl rfl (by kernel_rfl) (by kernel_rfl) (by kernel_rfl) (by kernel_rfl) (by kernel_rfl) (by kernel_rfl) (fun _ _ _ h => h) (.inl ⟨by rfl, fun w' _ => (by go_simp; rfl)⟩) hS ?_
                go_frame
                refine till_one 8 rfl (by kernel_rfl) fun K hK => ?_
                simp only [List.getElem_toArray, List.getElem_cons_succ, List.getElem_cons_zero]
                rw [if_pos (by rfl)]
                go_simp
                refine (mleaf_any k x _ _ (HRW.out.later (Below.refl _ _).drew) (by have := HM.out; omega)).mono ?_
                rintro e w7 ⟨rfl, hb7⟩
                rw [← HLEAF.out]
                have hS7 : Below w4.heap.size w4 w7 := hS.trans (hb7.mono hS.size)
                refine hK _ _ (fun _ _ => hS7) ?_
                clear hK hb7 hS
                refine till_one 9 rfl (by kernel_rfl) fun K hK => ?_
                simp only [List.getElem_toArray, List.getElem_cons_succ, List.getElem_cons_zero]
                rw [if_pos (by rfl)]
                go_simp
                refine hK _ _ (fun h => absurd rfl h) ?_
                clear hK heq hcw
                refine till_done (by kernel_rfl) ?_ _
                have HB7 := Lib.hid hS7
                clear hS7
                go_wp2_with fail
                go_roundw
                case rel => exact ⟨q + 1, by omega, by go_num, HB7.out⟩
                case measure => simp [intOf]; omega
              · have hqe : q = n := by omega
                subst hqe
                obtain ⟨pt, qt, rct, len, hl, _, _, _, hct, hpt, hrdt⟩ := HROW.out i (Nat.le_refl _)
                have htop : rowN k l i = [ga] := by rw [HGA.out, ← rowN_top k l, HD.out]
                rw [htop] at hl hrdt
                simp only [List.length_singleton] at hl
                subst hl
                have hcw := (hb.cell (p := ⟨rb, ro + i, none⟩) hrb4).trans hct
                have LT : Hid (∀ w', Below w4.heap.size w4 w' → (Instr.loadAt 48 (.pointer (some ⟨pt, qt, none⟩))).run Try.prog w' = .ok (.agg (c8 ga)) w') := Lib.hid fun w' h => load_hash_at (S := fun x => w4.heap.size ≤ x) hrdt (by intro x hx; simp at hx; subst hx; exact HG32.out) 0 (by simp) ⟨h.os, h.tape, h.output, h.size, fun k hk _ => h.block k hk⟩ (by omega)
                have LR : Hid (∀ w', Below w4.heap.size w4 w' → (Instr.loadAt 48 (.pointer (some ⟨R, 0, none⟩))).run Try.prog w' = .ok (.agg (c8 ga)) w') := Lib.hid fun w' e => by exact load_hash ((e.block R (heap_lt HR4.out)).trans HR4.out) HG32.out
                have HBR := Lib.hid hb
                clear hb hct hrdt htop HROW
                have jx : (i : Int) < (i : Int) + 1 := by omega
                have jw : IntKind.i64.wrap (i : Int) = (i : Int) := IntWalk.i64_in _ (by omega)
                have heq := Try.eqH ga ga HG32.out HG32.out
                rw [decide_eq_true (rfl : ga = ga)] at heq
                have hS : Below w4.heap.size w4 wr.drew := HBR.out.drew
                go_wp2_with fail
                refine wp_region_till (fun w' => Below w4.heap.size w4 w') 13 14 (by kernel_rfl) rfl ?_
                refine till_take 0 (some 151) rfl rfl (by kernel_rfl) (by kernel_rfl) (by kernel_rfl) (by kernel_rfl) (by kernel_rfl) (by kernel_rfl) (fun _ _ _ h => h) (.inl ⟨by rfl, fun w' _ => (by go_simp; rfl)⟩) hS ?_
                go_frame
                refine till_take 1 (some 152) rfl rfl (by kernel_rfl) (by kernel_rfl) (by kernel_rfl) (by kernel_rfl) (by kernel_rfl) (by kernel_rfl) (fun _ _ _ h => h) (.inl ⟨by rfl, fun w' _ => (by go_simp; rfl)⟩) hS ?_
                go_frame
                refine till_take 2 (some 153) rfl rfl (by kernel_rfl) (by kernel_rfl) (by kernel_rfl) (by kernel_rfl) (by kernel_rfl) (by kernel_rfl) (fun _ _ _ h => h) (.inl ⟨by rfl, fun w' _ => (by go_simp; rfl)⟩) hS ?_
                go_frame
                refine till_take 3 (some 154) rfl rfl (by kernel_rfl) (by kernel_rfl) (by kernel_rfl) (by kernel_rfl) (by kernel_rfl) (by kernel_rfl) (fun _ _ _ h => h) (.inl ⟨by rfl, fun w' _ => (by go_simp; rfl)⟩) hS ?_
                go_frame
                refine till_take 4 (some 155) rfl rfl (by kernel_rfl) (by kernel_rfl) (by kernel_rfl) (by kernel_rfl) (by kernel_rfl) (by kernel_rfl) (fun _ _ _ h => h) (.inl ⟨by rfl, fun w' _ => (by go_simp; rfl)⟩) hS ?_
                go_frame
                refine till_take 5 (some 156) rfl rfl (by kernel_rfl) (by kernel_rfl) (by kernel_rfl) (by kernel_rfl) (by kernel_rfl) (by kernel_rfl) (fun _ _ _ h => h) (.inl ⟨by rfl, fun w' _ => (by go_simp; rfl)⟩) hS ?_
                go_frame
                refine till_take 6 (some 157) rfl rfl (by kernel_rfl) (by kernel_rfl) (by kernel_rfl) (by kernel_rfl) (by kernel_rfl) (by kernel_rfl) (fun _ _ _ h => h) (yields_load (by rfl) 48 (.tmp 156) rfl (.pointer (some ⟨pt, qt, none⟩)) rfl _ LT.out) hS ?_
                go_frame
                refine till_take 7 (some 158) rfl rfl (by kernel_rfl) (by kernel_rfl) (by kernel_rfl) (by kernel_rfl) (by kernel_rfl) (by kernel_rfl) (fun _ _ _ h => h) (yields_load (by rfl) 48 (.tmp 7) rfl (.pointer (some ⟨R, 0, none⟩)) rfl _ LR.out) hS ?_
                go_frame
                refine till_take 8 (some 159) rfl rfl (by kernel_rfl) (by kernel_rfl) (by kernel_rfl) (by kernel_rfl) (by kernel_rfl) (by kernel_rfl) (fun _ _ _ h => h) (.inl ⟨by rfl, fun w' _ => (by go_simp; rfl)⟩) hS ?_
                go_frame
                refine till_take 9 (some 160) rfl rfl (by kernel_rfl) (by kernel_rfl) (by kernel_rfl) (by kernel_rfl) (by kernel_rfl) (by kernel_rfl) (fun _ _ _ h => h) (.inl ⟨by rfl, fun w' _ => (by go_simp; rfl)⟩) hS ?_
                go_frame
                refine till_take 10 (some 161) rfl rfl (by kernel_rfl) (by kernel_rfl) (by kernel_rfl) (by kernel_rfl) (by kernel_rfl) (by kernel_rfl) (fun _ _ _ h => h) (.inl ⟨by rfl, fun w' _ => (by go_simp; rfl)⟩) hS ?_
                go_frame
                refine till_one 11 rfl (by kernel_rfl) fun K hK => ?_
                simp only [List.getElem_toArray, List.getElem_cons_succ, List.getElem_cons_zero]
                rw [if_pos (by rfl)]
                go_simp
                refine (lives06_any _).mono ?_
                rintro e w7 ⟨rfl, hb7⟩
                have hS7 : Below w4.heap.size w4 w7 := hS.trans (hb7.mono hS.size)
                refine hK _ _ (fun _ _ => hS7) ?_
                clear hK hb7 hS
                refine till_take 12 (some 163) rfl rfl (by kernel_rfl) (by kernel_rfl) (by kernel_rfl) (by kernel_rfl) (by kernel_rfl) (by kernel_rfl) (fun _ _ _ h => h) (.inl ⟨by rfl, fun w' _ => (by go_simp; rfl)⟩) hS7 ?_
                go_frame
                refine till_one 13 rfl (by kernel_rfl) fun K hK => ?_
                simp only [List.getElem_toArray, List.getElem_cons_succ, List.getElem_cons_zero]
                rw [if_pos (by rfl)]
                go_simp
                refine hK _ _ (fun h => absurd rfl h) ?_
                clear hK heq hcw
                refine till_done (by kernel_rfl) ?_ _
                have HB7 := Lib.hid (HB4.out.trans (hS7.mono HB4.out.size))
                clear hS7
                go_wp2_with fail
                go_ret
                exact ⟨rfl, HB7.out⟩
end Go.Proofs.Ytbfdjjaonjepnaa
