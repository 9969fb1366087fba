/- The reference's Root; tallagelaw06.light, same. -/
import Derived.Test.YtbfdjjaonjepnaaMerkM
namespace Go.Proofs.Ytbfdjjaonjepnaa
open Go.RowKit

def notesV (k : Int) (l : List (List UInt8)) : List (List UInt8) := if whyF k l.length = 0 then notesF k.toNat l else []
set_option maxRecDepth 100000 in
set_option maxHeartbeats 1000000 in
theorem tlevels_no (w : World) (g : Nat) (k : Int) (ad : Option Addr) (n cap : Nat) (h : whyF k n ≠ 0) :
    Calls Try.prog 53 #[.pointer (some ⟨g, 0, none⟩), .int .i64 k, .slice ad n cap] w fun e w' => e = .returned (.slice none 0 0) ∧ w = w' := by
  have hne : (whyF k n != 0) = true := by simpa using h
  go_enter Try.func53, Try.ntmps53
  go_wp2_with fail
  refine (twhy_any _ _ _ _ _).mono ?_
  rintro e w1 ⟨rfl, hw1⟩
  subst hw1
  go_wp2_with fail
  go_ret
  exact ⟨rfl, rfl⟩

set_option maxRecDepth 100000 in
set_option maxHeartbeats 1000000 in
theorem troot_any (w : World) (g : Nat) (a : Option Nat) (texts : List (List UInt8)) (k : Int) (l : List (List UInt8)) (v : Value) (hT : ∀ w' a', Grew w g a w' a' → Texts w' v l) (ht : Tr w g a texts) (hf : Fair l) (htl : texts.length < 900000000) :
    Calls Try.prog 50 #[.pointer (some ⟨g, 0, none⟩), .int .i64 k, v] w (TrRet w g a (texts ++ notesV k l) (rootV k l)) := by
  obtain ⟨ad, cap, rfl, hc1, hc2⟩ := (hT w a (Grew.of_below g a (Below.refl _ _))).shape
  by_cases hy : whyF k l.length = 0
  · have hv : rootV k l = .tuple #[.agg (c8 (rootF k.toNat l)), .int .i64 0] := by unfold rootV; rw [if_pos hy]
    have hnv : notesV k l = notesF k.toNat l := by unfold notesV; rw [if_pos hy]
    rw [hv, hnv]
    obtain ⟨hk, h1, hn⟩ := why_zero hy
    have H := Lib.hid hT; have HY := Lib.hid hy; have HK := Lib.hid hk; have HF := Lib.hid hf; have HT := Lib.hid ht
    clear hT hy hk hf hv hnv ht
    go_enter Try.func50, Try.ntmps50
    go_wp2_with (refine wpList_alloc_g rfl _ rfl _ _ Try.zeroHash rfl ?_)
    intro R w1 h1'
    go_wp2_with fail
    refine (twhy_any _ _ _ _ _).mono ?_
    rintro e w1' ⟨rfl, hw1⟩
    rw [HY.out]
    subst hw1
    go_wp2_with fail
    have hg01 : Grew w g a w1 a := Grew.of_below g a h1'.out.below
    refine (tlevels_any w1 g a texts k l _ (fun w' a' h => H.out w' a' (hg01.trans h)) (HT.out.later h1'.out.below) HK.out h1 hn HF.out htl).mono ?_
    rintro e w2 ⟨v', a2, rfl, hrows, ht2, hg2⟩
    obtain ⟨vs, v1, v2, v3⟩ := hrows
    obtain ⟨d, hd⟩ : ∃ d, d = depthF l.length := ⟨_, rfl⟩
    have hd10 : d ≤ 10 := by rw [hd]; exact depthF_10 _ hn
    rw [levelsF_length, ← hd] at v2
    obtain ⟨rad, rcap, hv', hr1, hr2⟩ := v1.shape
    rw [v2] at hv'
    subst hv'
    obtain ⟨rb, roff, hrad, hrb, hcell⟩ := v1.at d (by omega)
    subst hrad
    obtain ⟨u, hu⟩ : ∃ u, vs[d]? = some u := ⟨_, List.getElem?_eq_getElem (by omega)⟩
    have hlast := v3 d u _ hu (levelsF_at k.toNat l d (by rw [hd]; exact Nat.le_refl _))
    have htop : rowAt k.toNat (groundF k.toNat (depthF l.length) l) d = [rootF k.toNat l] := by rw [hd]; exact top_eq _ _
    rw [htop] at hlast
    have hud : vs[d]'(by omega) = u := by rw [List.getElem?_eq_getElem (by omega)] at hu; exact Option.some.inj hu
    replace hcell : w2.cell? ⟨rb, roff + d, none⟩ = some u := hcell.trans (congrArg some hud)
    obtain ⟨lad, lcap, hlv, _, _⟩ := hlast.shape
    simp only [List.length_singleton] at hlv
    subst hlv
    obtain ⟨lb, loff, hlad, hlb, hrange⟩ := hlast.hash (by intro x hx; simp at hx; subst hx; exact rootF_length _ _) 0 (by simp)
    subst hlad
    simp only [Nat.zero_mul, Nat.add_zero, List.getElem_cons_zero] at hrange
    have hR2 : w2.heap[R]? = some (.cells (cB 32 []) 48 (0, 0)) := tr_other (HT.out.later h1'.out.below) hg2 h1'.out.cells (by decide)
    have hG2 := hg01.trans hg2
    have HC := Lib.hid hcell; have HRG := Lib.hid hrange; have HR2 := Lib.hid hR2; have HG2 := Lib.hid hG2; have HWR := Lib.hid h1'.out.eq; have HT2 := Lib.hid ht2
    clear hcell hlast hu hud htop hrange hR2 hG2 hg2 hg01 ht2 v1 v2 v3 hd h1'
    have q := HC.out
    go_wp2_with (first
      | (refine wpList_load_mid rfl _ _ rfl lb loff rfl ((rootF k.toNat l).map byteV) _ HRG.out Try.underlying48 rfl (Try.sizeHm _ (rootF_length _ _)) ?_)
      | (refine wpList_store_row_g (t := 48) (old := cB 32 []) rfl 48 _ _ rfl R (c8 (rootF k.toNat l)) rfl rfl HR2.out (Try.sizeHs _ (rootF_length _ _)) (by rw [c8_size, rootF_length]; rfl) (by rw [← cB_full 32 _ (rootF_length _ _)]; exact one_b _ _) ?_))
    intro w5 h5 k5 z5
    have H5 := Lib.hid h5
    have HT5 := Lib.hid (HT2.out.keep1 k5 HR2.out (by decide))
    have HG5 := Lib.hid (HG2.out.to (by have := HWR.out; omega) k5)
    clear h5 k5 z5 q
    go_wp2_with fail
    exact bodyPost_ret (res_row_val rfl _ _ R _ (c8 (rootF k.toNat l)) _ _ rfl H5.out Try.underlying48 rfl (Try.sizeHs _ (rootF_length _ _)) _ rfl) rfl ⟨rfl, a2, HT5.out, HG5.out⟩
  · have hv : rootV k l = .tuple #[.agg (c8 zero32), .int .i64 (whyF k l.length)] := by unfold rootV; rw [if_neg hy]
    have hnv : notesV k l = [] := by unfold notesV; rw [if_neg hy]
    rw [hv, hnv, List.append_nil]
    have hne : (whyF k l.length != 0) = true := by simpa using hy
    have HT := Lib.hid ht
    clear hT hf hv hy hnv ht
    go_enter Try.func50, Try.ntmps50
    go_wp2_with (refine wpList_alloc_g rfl _ rfl _ _ Try.zeroHash rfl ?_)
    intro R w1 h1'
    go_wp2_with fail
    refine (twhy_any _ _ _ _ _).mono ?_
    rintro e w1' ⟨rfl, hw1⟩
    subst hw1
    go_wp2_with (refine wpList_store_row_g (t := 48) (old := cB 32 []) rfl 48 _ _ rfl R (c8 zero32) rfl rfl h1'.out.cells (Try.sizeHs _ zero32_length) (by rw [c8_size, zero32_length]; rfl) (by rw [← cB_full 32 _ zero32_length]; exact one_b _ _) ?_)
    intro w5 h5 k5 z5
    have H5 := Lib.hid h5
    have H6 := Lib.hid (k5.onto h1'.out.below (Nat.le_refl _) (by have := h1'.out.eq; omega))
    clear h5 k5 z5
    go_wp2_with fail
    exact bodyPost_ret (res_row_val rfl _ _ R _ (c8 zero32) _ _ rfl H5.out Try.underlying48 rfl (Try.sizeHs _ zero32_length) _ rfl) rfl ⟨rfl, a, HT.out.later H6.out, Grew.of_below g a H6.out⟩

/-- How many bytes these have. -/
def total (l : List (List UInt8)) : Nat := l.flatten.length
/-- Are they not more than are looked at? -/
def lightB (l : List (List UInt8)) : Bool := decide (l.length ≤ 40 ∧ total l ≤ 2000)
theorem total_take (l : List (List UInt8)) (i : Nat) (h : i < l.length) : total (l.take (i + 1)) = total (l.take i) + l[i].length := by
  unfold total; rw [flat_take l i h, List.length_append]
theorem total_le (l : List (List UInt8)) (i : Nat) : total (l.take i) ≤ total l := by
  unfold total
  conv => rhs; rw [← List.take_append_drop i l, List.flatten_append, List.length_append]
  omega
set_option maxRecDepth 100000 in
set_option maxHeartbeats 1000000 in
theorem light_any (v : Value) (l : List (List UInt8)) (w : World) (h : Texts w v l) (hz : ∀ b ∈ l, b.length ≤ 140737488355328) : Calls Try.prog 47 #[v] w fun e w' => e = .returned (.bool (lightB l)) ∧ w = w' := by
  obtain ⟨ad, cap, rfl, hc1, hc2⟩ := h.shape
  by_cases h40 : 40 < l.length
  · have hb : lightB l = false := by unfold lightB; simp; omega
    rw [hb]
    clear hb
    go_enter Try.func47, Try.ntmps47
    go_wp2_with fail
    go_ret
    exact ⟨rfl, rfl⟩
  · have H := Lib.hid h; have HZ := Lib.hid hz; clear h hz
    obtain ⟨n, hn⟩ : ∃ n, n = l.length := ⟨_, rfl⟩
    rw [← hn] at h40 hc1 ⊢
    have HN := Lib.hid hn; clear hn
    go_enter Try.func47, Try.ntmps47
    go_wp2_with fail
    go_loop [3, 11] (fun x y => ∃ i s : Nat, i ≤ n ∧ y = .int .i64 i ∧ x = .int .i64 s ∧ Hid (s = total (l.take i)) ∧ s ≤ 2000) (fun _ y => n - (intOf y).toNat)
    case atStart => exact ⟨0, 0, Nat.zero_le _, rfl, rfl, Lib.hid rfl, by omega⟩
    case round =>
      obtain ⟨i, s, hi, rfl, rfl, hs, hs2⟩ := hrel
      by_cases hlt : i < n
      · obtain ⟨b, off, u, rfl, hb, hcell, hru⟩ := H.out.at i (by have := HN.out; omega)
        obtain ⟨uad, ucap, hu, hu1, hu2⟩ := hru.shape
        subst hu
        obtain ⟨m, hm⟩ : ∃ m, m = (l[i]'(by have := HN.out; omega)).length := ⟨_, rfl⟩
        have hmz : m ≤ 140737488355328 := by rw [hm]; exact HZ.out _ (List.getElem_mem _)
        have htt := total_take l i (by have := HN.out; omega)
        rw [← hm] at hu1 hcell htt
        rw [← hs.out] at htt
        have HTT := Lib.hid htt; have HM := Lib.hid hm
        clear htt hm hru
        by_cases hbig : 2000 < s + m
        · have hb : lightB l = false := by
            unfold lightB
            have h1 := total_le l (i + 1)
            have h2 := HTT.out
            simp; omega
          have HB := Lib.hid hb
          clear hb
          have j1 : ((s : Int) + (m : Int)) > 2000 := by omega
          go_wp2_with fail
          go_ret
          exact ⟨by rw [HB.out]; rfl, rfl⟩
        · have j1 : ¬ ((s : Int) + (m : Int)) > 2000 := by omega
          go_wp2_with fail
          go_round
          case rel => exact ⟨i + 1, s + m, by omega, by go_num, by go_num, Lib.hid HTT.out.symm, by omega⟩
          case measure => simp [intOf]; omega
      · obtain rfl : i = n := by omega
        have hb : lightB l = true := by
          unfold lightB
          have h2 := hs.out
          rw [HN.out, List.take_length] at h2
          have := HN.out
          simp; omega
        have HB := Lib.hid hb
        clear hb
        go_wp2_with fail
        go_ret
        exact ⟨by rw [HB.out]; rfl, rfl⟩
end Go.Proofs.Ytbfdjjaonjepnaa
