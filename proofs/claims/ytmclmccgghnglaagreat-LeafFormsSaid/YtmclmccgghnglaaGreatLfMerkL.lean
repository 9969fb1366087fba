/- merkle.Root. -/
import Derived.Test.YtmclmccgghnglaaGreatLfMerkK
namespace Go.Proofs.YtmclmccgghnglaaGreat
open Go.RowKit

theorem Rd.hash {w : World} {ad : Option Addr} {n cap : Nat} {l : List (List UInt8)} (h : Rd w hE 32 (.slice ad n cap) l) (h32 : All32 l) (i : Nat) (hi : i < l.length) :
    ∃ b off, ad = some ⟨b, off, none⟩ ∧ b < w.heap.size ∧ w.rangeAt b (off + i * 32) ((l[i]).map byteV) := by
  obtain ⟨ad', cap', he, h1, h2, h3⟩ := h
  cases he
  obtain ⟨b, off, rfl, hb, hc⟩ := h3 (by intro e; subst e; simp at hi)
  refine ⟨b, off, rfl, hb, fun j v hj => ?_⟩
  have hx := h32 _ (List.getElem_mem hi)
  have hj32 : j < 32 := by have := (List.getElem?_eq_some_iff.1 hj).1; rwa [List.length_map, hx] at this
  rw [hc i hi j hj32, hE_32 _ hx, hj]
theorem Tryz.sizeHm (l : List UInt8) (h : l.length = 32) : (Tryz.prog.info? 36).map (·.size) = some (l.map byteV).length := by rw [List.length_map, h]; kernel_rfl

/-- A root, or the error. -/
def rootV (k : Int) (l : List (List UInt8)) : Value := if whyF k l.length = 0 then .tuple #[.agg (c8 (rootF k.toNat l)), .int .i64 0] else .tuple #[.agg (c8 zero32), .int .i64 (whyF k l.length)]
theorem why_zero {k : Int} {n : Nat} (h : whyF k n = 0) : (k = 1 ∨ k = 2) ∧ 0 < n ∧ n ≤ 1024 := by
  unfold whyF at h
  split at h
  · split at h
    · cases h
    · split at h
      · cases h
      · exact ⟨by assumption, by omega, by omega⟩
  · cases h

set_option maxRecDepth 100000 in
set_option maxHeartbeats 1000000 in
theorem mroot_any (k : Int) (l : List (List UInt8)) (v : Value) (w : World) (h : Texts w v l) (hf : Fair l) : Calls Tryz.prog 85 #[.int .i64 k, v] w (Ret w (rootV k l)) := by
  obtain ⟨ad, cap, rfl, hc1, hc2⟩ := h.shape
  by_cases hy : whyF k l.length = 0
  · have hv : rootV k l = .tuple #[.agg (c8 (rootF k.toNat l)), .int .i64 0] := by unfold rootV; rw [if_pos hy]
    rw [hv]
    obtain ⟨hk, h1, hn⟩ := why_zero hy
    have H := Lib.hid h; have HY := Lib.hid hy; have HK := Lib.hid hk; have HF := Lib.hid hf
    clear h hy hk hf hv
    go_enter Tryz.func85, Tryz.ntmps85
    go_wp2_with (refine wpList_alloc_g rfl _ rfl _ _ Tryz.zeroHash rfl ?_)
    intro R w1 h1'
    go_wp2_with fail
    refine (mwhy_any _ _ _ _ _).mono ?_
    rintro e w1' ⟨rfl, hw1⟩
    rw [HY.out]
    subst hw1
    go_wp2_with fail
    refine (levels_any k l _ _ (H.out.later h1'.out.below) HK.out h1 hn HF.out).mono ?_
    rintro e w2 ⟨v', rfl, hrows, hb2⟩
    obtain ⟨vs, v1, v2, v3⟩ := hrows.rows
    obtain ⟨d, hd⟩ : ∃ d, d = depthF l.length := ⟨_, rfl⟩
    have hd10 : d ≤ 10 := by rw [hd]; exact depthF_10 _ hn
    rw [levelsF_length, ← hd] at v2
    obtain ⟨rad, rcap, hv', hr1, hr2⟩ := v1.shape
    rw [v2] at hv'
    subst hv'
    obtain ⟨rb, roff, hrad, hrb, hcell⟩ := v1.at d (by omega)
    subst hrad
    obtain ⟨u, hu⟩ : ∃ u, vs[d]? = some u := ⟨_, List.getElem?_eq_getElem (by omega)⟩
    have hlast := v3 d u _ hu (levelsF_at k.toNat l d (by rw [hd]; exact Nat.le_refl _))
    have htop : rowAt k.toNat (groundF k.toNat (depthF l.length) l) d = [rootF k.toNat l] := by rw [hd]; exact top_eq _ _
    rw [htop] at hlast
    have hud : vs[d]'(by omega) = u := by rw [List.getElem?_eq_getElem (by omega)] at hu; exact Option.some.inj hu
    replace hcell : w2.cell? ⟨rb, roff + d, none⟩ = some u := hcell.trans (congrArg some hud)
    obtain ⟨lad, lcap, hlv, _, _⟩ := hlast.shape
    simp only [List.length_singleton] at hlv
    subst hlv
    have hcell' := hcell
    have hlast' := hlast
    obtain ⟨lb, loff, hlad, hlb, hrange⟩ := hlast'.hash (by intro x hx; simp at hx; subst hx; exact rootF_length _ _) 0 (by simp)
    subst hlad
    simp only [Nat.zero_mul, Nat.add_zero, List.getElem_cons_zero] at hrange
    have hR2 : w2.heap[R]? = some (.cells (cB 32 []) 36 (0, 0)) := (hb2.block R (heap_lt h1'.out.cells)).trans h1'.out.cells
    have hB2 : Below w.heap.size w w2 := h1'.out.below.trans (hb2.mono h1'.out.below.size)
    have HC := Lib.hid hcell'; have HRG := Lib.hid hrange; have HR2 := Lib.hid hR2; have HB2 := Lib.hid hB2; have HWR := Lib.hid h1'.out.eq
    clear hcell hcell' hlast hlast' hu hud htop hrange hR2 hB2 hb2 v1 v2 v3 hd h1'
    have q := HC.out
    go_wp2_with (first
      | (refine wpList_load_mid rfl _ _ rfl lb loff rfl ((rootF k.toNat l).map byteV) _ HRG.out Tryz.underlying36 rfl (Tryz.sizeHm _ (rootF_length _ _)) ?_)
      | (refine wpList_store_row_g (t := 36) (old := cB 32 []) rfl 36 _ _ rfl R (c8 (rootF k.toNat l)) rfl rfl HR2.out (Tryz.sizeHs _ (rootF_length _ _)) (by rw [c8_size, rootF_length]; rfl) (by rw [← cB_full 32 _ (rootF_length _ _)]; exact one_b _ _) ?_))
    intro w5 h5 k5 z5
    have H5 := Lib.hid h5
    have H6 := Lib.hid (k5.onto HB2.out (Nat.le_refl _) (by have := HWR.out; omega))
    clear h5 k5 z5 q
    go_wp2_with fail
    exact bodyPost_ret (res_row_val rfl _ _ R _ (c8 (rootF k.toNat l)) _ _ rfl H5.out Tryz.underlying36 rfl (Tryz.sizeHs _ (rootF_length _ _)) _ rfl) rfl ⟨rfl, H6.out⟩
  · have hv : rootV k l = .tuple #[.agg (c8 zero32), .int .i64 (whyF k l.length)] := by unfold rootV; rw [if_neg hy]
    rw [hv]
    have hne : (whyF k l.length != 0) = true := by simpa using hy
    clear h hf hv hy
    go_enter Tryz.func85, Tryz.ntmps85
    go_wp2_with (refine wpList_alloc_g rfl _ rfl _ _ Tryz.zeroHash rfl ?_)
    intro R w1 h1'
    go_wp2_with fail
    refine (mwhy_any _ _ _ _ _).mono ?_
    rintro e w1' ⟨rfl, hw1⟩
    subst hw1
    go_wp2_with (refine wpList_store_row_g (t := 36) (old := cB 32 []) rfl 36 _ _ rfl R (c8 zero32) rfl rfl h1'.out.cells (Tryz.sizeHs _ zero32_length) (by rw [c8_size, zero32_length]; rfl) (by rw [← cB_full 32 _ zero32_length]; exact one_b _ _) ?_)
    intro w5 h5 k5 z5
    have H5 := Lib.hid h5
    have H6 := Lib.hid (k5.onto h1'.out.below (Nat.le_refl _) (by have := h1'.out.eq; omega))
    clear h5 k5 z5
    go_wp2_with fail
    exact bodyPost_ret (res_row_val rfl _ _ R _ (c8 zero32) _ _ rfl H5.out Tryz.underlying36 rfl (Tryz.sizeHs _ zero32_length) _ rfl) rfl ⟨rfl, H6.out⟩
end Go.Proofs.YtmclmccgghnglaaGreat
