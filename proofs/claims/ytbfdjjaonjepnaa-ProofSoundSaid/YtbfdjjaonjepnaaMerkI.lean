/- merkle.ground. -/
import Derived.Test.YtbfdjjaonjepnaaMerkH
namespace Go.Proofs.Ytbfdjjaonjepnaa
open Go.RowKit

def groundK (k : Int) (d : Nat) (l : List (List UInt8)) : List (List UInt8) := (List.range (2 ^ d)).map fun i => leafK k (l.getD i [])
theorem groundK_length (k : Int) (d : Nat) (l : List (List UInt8)) : (groundK k d l).length = 2 ^ d := by simp [groundK]
theorem groundK_succ (k : Int) (d : Nat) (l : List (List UInt8)) (i : Nat) (h : i < 2 ^ d) : (groundK k d l).take (i + 1) = (groundK k d l).take i ++ [leafK k (l.getD i [])] := by
  rw [List.take_succ_eq_append_getElem (by rw [groundK_length]; exact h)]
  simp [groundK]
theorem groundK_yes (k : Int) (d : Nat) (l : List (List UInt8)) (h : k = 1 ∨ k = 2) : groundK k d l = groundF k.toNat d l := by
  unfold groundK groundF groundT
  rw [List.map_map]
  refine List.map_congr_left fun i _ => ?_
  unfold leafK; rw [if_pos h]; rfl
/-- A new row of hashes. -/
def NewRow (w : World) (l : List (List UInt8)) (e : Ending) (w' : World) : Prop :=
  ∃ b, e = .returned (.slice (some ⟨b, 0, none⟩) l.length l.length) ∧ w.heap.size ≤ b ∧ w'.heap[b]? = some (.cells (hrow l l.length) 48 (0, 0)) ∧ Below w.heap.size w w'
/-- No text is too long. -/
def Fair (l : List (List UInt8)) : Prop := ∀ b ∈ l, b.length < 1000000000

set_option maxRecDepth 100000 in
set_option maxHeartbeats 1000000 in
theorem ground_any (k : Int) (l : List (List UInt8)) (v : Value) (w : World) (h : Texts w v l) (hn : l.length ≤ 1024) (hf : Fair l) :
    Calls Try.prog 86 #[.int .i64 k, v] w (NewRow w (groundK k (depthF l.length) l)) := by
  obtain ⟨ad, cap, rfl, hc1, hc2⟩ := h.shape
  obtain ⟨n, hnn⟩ : ∃ n, n = l.length := ⟨_, rfl⟩
  have hd10 := depthF_10 l.length hn
  have hge := depthF_ge l.length
  obtain ⟨d, hd⟩ : ∃ d, d = depthF l.length := ⟨_, rfl⟩
  rw [← hnn] at hn hc1 hge ⊢
  rw [← hd] at hd10
  rw [← hnn] at hd
  rw [← hd] at hge ⊢
  obtain ⟨N, hN⟩ : ∃ N, N = 2 ^ d := ⟨_, rfl⟩
  have hN1 : N ≤ 1024 := by rw [hN]; exact Nat.le_trans (Nat.pow_le_pow_right (by omega) hd10) (by decide)
  rw [← hN] at hge
  obtain ⟨G, hG⟩ : ∃ G, G = groundK k d l := ⟨_, rfl⟩
  have hGl : G.length = N := by rw [hG, groundK_length, hN]
  rw [← hG]
  have hGs : ∀ i, i < N → G.take (i + 1) = G.take i ++ [leafK k (l.getD i [])] := fun i hi => by rw [hG]; exact groundK_succ k d l i (by rw [← hN]; exact hi)
  have H := Lib.hid h; have HNN := Lib.hid hnn; have HD := Lib.hid hd; have HN := Lib.hid hN; have HG := Lib.hid hG; have HGL := Lib.hid hGl; have HGS := Lib.hid hGs; have HF := Lib.hid hf
  clear h hnn hd hN hG hGl hGs hf
  have hw : wrap64 ((2 : Int) ^ d) = (N : Int) := by
    have : (2 : Int) ^ d = (N : Int) := by rw [HN.out]; push_cast; rfl
    rw [this]; unfold wrap64; omega
  have HW := Lib.hid hw; clear hw
  go_enter Try.func86, Try.ntmps86
  go_wp2_with fail
  refine (mdepth_any (n : Int) (by omega) _).mono ?_
  rintro e w2 ⟨rfl, rfl⟩
  rw [Int.toNat_natCast, ← HD.out]
  go_wp2_with fail
  rw [HW.out, run_makeH w .i64 .i64 (N : Int) (N : Int) N N rfl rfl (Nat.le_refl _) (by omega)]
  obtain ⟨w1, hw1⟩ : ∃ w1, w1 = w.alloc (.cells (hrow [] N) 48) := ⟨_, rfl⟩
  rw [← hw1]
  have hb1 : w1.heap[w.heap.size]? = some (.cells (hrow [] N) 48 (0, 0)) := by rw [hw1]; exact heap_alloc_new _ _
  have hbel1 : Below w.heap.size w w1 := by rw [hw1]; exact (Below.refl _ _).alloc (Nat.le_refl _) _
  have HB1 := Lib.hid hb1; have HBEL1 := Lib.hid hbel1
  clear hw1 hb1 hbel1
  obtain ⟨B, hB⟩ : ∃ B, B = w.heap.size := ⟨_, rfl⟩
  rw [← hB]
  have HBE := Lib.hid hB; clear hB
  go_wp2_with fail
  go_loopw [17] (fun x wr => ∃ i : Nat, i ≤ n ∧ x = .int .i64 i ∧ wr.heap[B]? = some (.cells (hrow (G.take i) N) 48 (0, 0)) ∧ Below w.heap.size w wr) (fun x _ => n - (intOf x).toNat)
  case atStart => exact ⟨0, Nat.zero_le _, rfl, by rw [HBE.out]; exact HB1.out, HBEL1.out⟩
  case round =>
    obtain ⟨i, hi, rfl, hg, hb⟩ := hrel
    have HGR := Lib.hid hg; have HB := Lib.hid hb
    clear hg hb HB1 HBEL1
    by_cases hlt : i < n
    · have hlt' : i < l.length := by have := HNN.out; omega
      obtain ⟨lb, off, u, rfl, hlb, hcell, hru⟩ := (H.out.later HB.out).at i hlt'
      have hli : l.getD i [] = l[i] := by rw [List.getD_eq_getElem?_getD, List.getElem?_eq_getElem hlt']; rfl
      have hfi := HF.out l[i] (List.getElem_mem hlt')
      have hgs := HGS.out i (by omega)
      rw [hli] at hgs
      have HRU := Lib.hid hru; have HFI := Lib.hid hfi; have HGS1 := Lib.hid hgs
      clear hru hfi hgs hli
      have hiN : (i : Int) < (N : Int) := by omega
      go_wp2_with fail
      refine (mleaf_any k l[i] u _ HRU.out (by have := HFI.out; omega)).mono ?_
      rintro e w4 ⟨rfl, hb4⟩
      have hg4 := (hb4.block B (heap_lt HGR.out)).trans HGR.out
      have HG4 := Lib.hid hg4; have HB4 := Lib.hid (HB.out.trans (hb4.mono HB.out.size))
      clear hg4 hb4 hcell
      go_wp2_with (refine wpList_store_h rfl _ _ rfl B _ rfl (leafK k l[i]) (leafK_length _ _) rfl (G.take i) N ?c1 ?c2 48 HG4.out ?_)
      case c1 => rw [List.length_take, HGL.out]; omega
      case c2 => rw [List.length_take, HGL.out]; omega
      intro w5 h5 k5 z5
      rw [← HGS1.out] at h5
      have H5 := Lib.hid h5; have HB5 := Lib.hid (k5.onto HB4.out (Nat.le_refl _) (by rw [HBE.out]; exact Nat.le_refl _))
      clear h5 k5 z5
      go_wp2_with fail
      go_roundw
      case rel => exact ⟨i + 1, by omega, by go_num, H5.out, HB5.out⟩
      case measure => simp [intOf]; omega
    · obtain rfl : i = n := by omega
      go_wp2_with fail
      refine (mempty_any k _).mono ?_
      rintro e w4 ⟨rfl, hb4⟩
      have hg4 := (hb4.block B (heap_lt HGR.out)).trans HGR.out
      have HG4 := Lib.hid hg4; have HB4 := Lib.hid (HB.out.trans (hb4.mono HB.out.size))
      clear hg4 hb4 HGR HB
      go_wp2_with (refine wpList_alloc_g rfl _ rfl _ _ Try.zeroHash rfl ?_)
      intro R w5 h5
      have hBR : B < R := by have := heap_lt HG4.out; have := h5.out.eq; omega
      have hg5 := (h5.out.below.block B (heap_lt HG4.out)).trans HG4.out
      have hb5 := HB4.out.trans (h5.out.below.mono HB4.out.size)
      have HG5 := Lib.hid hg5; have HB5 := Lib.hid hb5
      clear hg5 hb5 HG4 HB4
      go_wp2_with (refine wpList_store_row_g (t := 48) (old := cB 32 []) rfl 48 _ _ rfl R (c8 (leafK k [])) rfl rfl h5.out.cells (Try.sizeHs _ (leafK_length _ _)) (by rw [c8_size, leafK_length]; rfl) (by rw [← cB_full 32 _ (leafK_length _ _)]; exact one_b _ _) ?_)
      intro w6 h6 k6 z6
      have hg6 := k6.at HG5.out (by omega)
      have hb6 := k6.onto HB5.out (Nat.le_refl _) (by have := HBE.out; omega)
      have HG6 := Lib.hid hg6; have HB6 := Lib.hid hb6; have HR6 := Lib.hid h6
      clear hg6 hb6 h6 k6 z6 HG5 HB5 h5
      go_wp2_with fail
      go_loopw [9] (fun x wr => ∃ j : Nat, i ≤ j ∧ j ≤ N ∧ x = .int .i64 j ∧ wr.heap[B]? = some (.cells (hrow (G.take j) N) 48 (0, 0)) ∧ wr.heap[R]? = some (.cells (c8 (leafK k [])) 48 (0, 0)) ∧ Below w.heap.size w wr) (fun x _ => N - (intOf x).toNat)
      case atStart => exact ⟨i, Nat.le_refl _, hge, rfl, HG6.out, HR6.out, HB6.out⟩
      case round =>
        obtain ⟨j, hij, hj, rfl, hg, hr, hb⟩ := hrel
        have HGR := Lib.hid hg; have HB := Lib.hid hb; have HR := Lib.hid hr
        clear hg hb hr HG6 HR6 HB6
        by_cases hlt : j < N
        · have hli : l.getD j [] = [] := by rw [List.getD_eq_getElem?_getD, List.getElem?_eq_none (by have := HNN.out; omega)]; rfl
          have hgs := HGS.out j hlt
          rw [hli] at hgs
          have HGS1 := Lib.hid hgs
          clear hgs hli
          have hjN : (j : Int) < (N : Int) := by omega
          go_wp2_with (first
            | (refine wpList_load_row rfl _ _ rfl R rfl _ (c8 (leafK k [])) _ _ HR.out Try.underlying48 rfl (Try.sizeHs _ (leafK_length _ _)) ?_)
            | (refine wpList_store_h rfl _ _ rfl B _ rfl (leafK k []) (leafK_length _ _) rfl (G.take j) N ?c1 ?c2 48 HGR.out ?_))
          case c1 => rw [List.length_take, HGL.out]; omega
          case c2 => rw [List.length_take, HGL.out]; omega
          intro w5 h5 k5 z5
          rw [← HGS1.out] at h5
          have hr5 := k5.at HR.out (by omega)
          have H5 := Lib.hid h5; have HB5 := Lib.hid (k5.onto HB.out (Nat.le_refl _) (by rw [HBE.out]; exact Nat.le_refl _)); have HR5 := Lib.hid hr5
          clear h5 k5 z5 hr5
          go_wp2_with fail
          go_roundw
          case rel => exact ⟨j + 1, by omega, by omega, by go_num, H5.out, HR5.out, HB5.out⟩
          case measure => simp [intOf]; omega
        · obtain rfl : j = N := by omega
          go_wp2_with fail
          go_ret
          have hfin := HGR.out
          rw [List.take_of_length_le (by rw [HGL.out]; exact Nat.le_refl _)] at hfin
          refine ⟨B, ?_, by rw [HBE.out]; exact Nat.le_refl _, by rw [HGL.out]; exact hfin, HB.out⟩
          rw [HGL.out]
          rfl
end Go.Proofs.Ytbfdjjaonjepnaa
