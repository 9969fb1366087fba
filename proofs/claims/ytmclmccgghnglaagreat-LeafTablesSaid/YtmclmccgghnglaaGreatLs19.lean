/- proof.Fold, tallageref07.Fold. proof.Check, tallageref07.Check. -/
import Derived.Test.YtmclmccgghnglaaGreatLs18
import Derived.Deep.Cut
namespace Go.Proofs.YtmclmccgghnglaaGreat
section
open Go.RowKit

/-- One step up. -/
def stepK (k : Int) (q : Nat) (x h : List UInt8) : List UInt8 := if q % 2 = 0 then nodeK k x h else nodeK k h x
def stepN (k : Int) (q : Nat) (x h : List UInt8) : List (List UInt8) := if q % 2 = 0 then nodeN k x h else nodeN k h x
/-- What stands behind j steps, and the texts of them. -/
def foldAt (k : Int) (x : List UInt8) (i : Nat) (p : List (List UInt8)) : Nat → List UInt8
  | 0 => x
  | j + 1 => stepK k (i / 2 ^ j) (foldAt k x i p j) (hAt p j)
def foldNt (k : Int) (x : List UInt8) (i : Nat) (p : List (List UInt8)) : Nat → List (List UInt8)
  | 0 => []
  | j + 1 => foldNt k x i p j ++ stepN k (i / 2 ^ j) (foldAt k x i p j) (hAt p j)
def foldK (k : Int) (x : List UInt8) (i : Int) (p : List (List UInt8)) : List UInt8 := foldAt k x i.toNat p p.length
theorem stepK_length (k : Int) (q : Nat) (x h : List UInt8) : (stepK k q x h).length = 32 := by unfold stepK; split <;> exact nodeK_length _ _ _
theorem stepN_le (k : Int) (q : Nat) (x h : List UInt8) : (stepN k q x h).length ≤ 1 := by
  unfold stepN nodeN; split <;> split <;> simp
theorem foldAt_length (k : Int) (x : List UInt8) (hx : x.length = 32) (i : Nat) (p : List (List UInt8)) : ∀ j, (foldAt k x i p j).length = 32
  | 0 => hx
  | _ + 1 => stepK_length _ _ _ _
theorem foldNt_le (k : Int) (x : List UInt8) (i : Nat) (p : List (List UInt8)) : ∀ j, (foldNt k x i p j).length ≤ j
  | 0 => by simp [foldNt]
  | j + 1 => by
    have h1 := foldNt_le k x i p j
    have h2 := stepN_le k (i / 2 ^ j) (foldAt k x i p j) (hAt p j)
    rw [foldNt, List.length_append]
    omega

/-- What holds at the head of Fold's loop. -/
def FoldL (w : World) (g R : Nat) (s : List UInt8) (wr : World) : Prop := wr.heap[g]? = some (.cells (c8 s) 36 (0, 0)) ∧ Below g w wr ∧ wr.heap[R]? = some (.cells (cB 32 []) 36 (0, 0))

set_option maxRecDepth 100000 in
set_option maxHeartbeats 4000000 in
theorem pfold_any (k i : Int) (x : List UInt8) (p : List (List UInt8)) (v : Value) (w : World) (hx : x.length = 32) (hp : Rd w hE 32 v p) (h32 : All32 p) (hlen : p.length < 1099511627776) (hi64 : i < 9223372036854775808) :
    Calls Tryz.prog 192 #[.int .i64 k, .agg (c8 x), .int .i64 i, v] w (Ret w (.agg (c8 (foldK k x i p)))) := by
  obtain ⟨ad, cap, rfl, hc1, hc2⟩ := hp.shape
  obtain ⟨i0, hi0⟩ : ∃ i0, i0 = i.toNat := ⟨_, rfl⟩
  obtain ⟨m, hm⟩ : ∃ m, m = p.length := ⟨_, rfl⟩
  have hib : i0 < 9223372036854775808 := by omega
  have hi2 : (i < 0 ∧ i0 = 0) ∨ i = (i0 : Int) := by omega
  have hf : foldK k x i p = foldAt k x i0 p m := by rw [hi0, hm]; rfl
  rw [hf]
  rw [← hm] at hc1 hp hlen ⊢
  have HP := Lib.hid hp; have H32 := Lib.hid h32; have HM := Lib.hid hm; have HX := Lib.hid hx
  clear hp h32 hm hi0 hf hx hi64
  rcases hi2 with ⟨hi, h0⟩ | rfl
  all_goals
    go_enter Tryz.func192, Tryz.ntmps192
    go_wp2_with (refine wpList_alloc_g rfl _ rfl _ _ Tryz.zeroHash rfl ?_)
    intro R w1 h1
    obtain ⟨g, hg⟩ : ∃ g, g = w.heap.size := ⟨_, rfl⟩
    have hg1 : w1.heap[g]? = some (.cells (c8 x) 36 (0, 0)) := by rw [hg]; exact (h1.out.below.block _ (by simp)).trans (heap_alloc_new _ _)
    have hR : R = g + 1 := by rw [hg]; have := h1.out.eq; simpa using this
    have hb1 : Below g w w1 := by rw [hg]; exact ((Below.refl _ _).alloc (Nat.le_refl _) _).trans (h1.out.below.mono (by simp))
    have hr1 := h1.out.cells
    rw [← hg]
    have HG1 := Lib.hid hg1; have HR := Lib.hid hR; have HB1 := Lib.hid hb1; have HR1 := Lib.hid hr1; have HG := Lib.hid hg
    clear hg1 hR hb1 hr1 h1 hg
    go_wp2_with fail
    go_loopw [2, 15] (fun a b wr => ∃ j q : Nat, j ≤ m ∧ b = .int .i64 j ∧ Hid (q = i0 / 2 ^ j) ∧ a = .int .i64 q ∧ FoldL w g R (foldAt k x i0 p j) wr) (fun _ b _ => m - (intOf b).toNat)
    case atStart => exact ⟨0, i0, Nat.zero_le _, rfl, Lib.hid (by simp), (by first | rfl | (rw [(by assumption : i0 = 0)]; rfl)), HG1.out, HB1.out, HR1.out⟩
    case round =>
      obtain ⟨j, q, hj, rfl, hq, rfl, hgw, hbw, hrw⟩ := hrel
      have hs32 := foldAt_length k x HX.out i0 p j
      obtain ⟨s, hs⟩ : ∃ s, s = foldAt k x i0 p j := ⟨_, rfl⟩
      rw [← hs] at hgw hs32
      have HGW := Lib.hid hgw; have HBW := Lib.hid hbw; have HRW := Lib.hid hrw; have HS := Lib.hid hs; have HS32 := Lib.hid hs32
      clear hgw hbw hrw hs hs32
      by_cases hjm : j < m
      · obtain ⟨pb, po, had, hpb⟩ := HP.out.ptr (by rw [← HM.out]; omega)
        subst had
        have hpw : Rd wr hE 32 _ p := HP.out.later (by rw [← HG.out]; exact HBW.out)
        obtain ⟨_, _, e1, _, hrange⟩ := hpw.hash H32.out j (by rw [← HM.out]; exact hjm)
        cases e1
        rw [← hAt_eq _ j (by rw [← HM.out]; exact hjm)] at hrange
        obtain ⟨y, hy⟩ : ∃ y, y = hAt p j := ⟨_, rfl⟩
        have hy32 : y.length = 32 := by rw [hy]; exact hAt_length H32.out _
        rw [← hy] at hrange
        have HRG := Lib.hid hrange; have HY := Lib.hid hy; have HY32 := Lib.hid hy32
        clear hrange hy hy32 hpw
        have hq1 : q ≤ i0 := by rw [hq.out]; exact Nat.div_le_self _ _
        have hand : bits BinOp.and IntKind.i64 (q : Int) 1 = (q : Int) % 2 := i64_and1 _
        go_wp2_with (first
          | (refine wpList_load_mid rfl _ _ rfl pb (po + j * 32) rfl (y.map byteV) _ HRG.out Tryz.underlying36 rfl (Tryz.sizeHm _ HY32.out) ?_)
          | (refine wpList_alloc_g rfl _ rfl _ _ Tryz.zeroHash rfl ?_))
        intro Q w2 h2
        go_wp2_with (refine wpList_store_row_g (t := 36) (old := cB 32 []) rfl 36 _ _ rfl Q (c8 y) rfl rfl h2.out.cells (Tryz.sizeHs _ HY32.out) (by rw [c8_size, HY32.out]; rfl) (by rw [← cB_full 32 _ HY32.out]; exact one_b _ _) ?_)
        intro w3 h3 k3 z3
        have hb3 : Below wr.heap.size wr w3 := h2.out.below.trans (k3.below (B := wr.heap.size) (fun z hz e => by have := h2.out.eq; omega) h2.out.below.size)
        have hgz := HBW.out.size
        have HG3 := Lib.hid ((hb3.block g (heap_lt HGW.out)).trans HGW.out); have HR3 := Lib.hid ((hb3.block R (heap_lt HRW.out)).trans HRW.out); have HQ3 := Lib.hid h3
        have HB3 := Lib.hid (HBW.out.trans (hb3.mono (Nat.le_of_lt (heap_lt HGW.out))))
        clear hb3 h3 k3 z3 h2
        have hq2 : q % 2 = 0 ∨ q % 2 = 1 := by omega
        rcases hq2 with hq2 | hq2
        · have hm1 : ((q : Int) % 2 == 0) = true := by simp; omega
          have hst : nodeK k s y = foldAt k x i0 p (j + 1) := by
            show _ = stepK k (i0 / 2 ^ j) (foldAt k x i0 p j) (hAt p j)
            unfold stepK
            rw [← hq.out, if_pos hq2, ← HS.out, ← HY.out]
          have HST := Lib.hid hst; clear hst
          go_wp2_with (first
            | (refine wpList_load_row rfl _ _ rfl g rfl _ (c8 s) _ _ HG3.out Tryz.underlying36 rfl (Tryz.sizeHs _ HS32.out) ?_)
            | (refine wpList_load_row rfl _ _ rfl Q rfl _ (c8 y) _ _ HQ3.out Tryz.underlying36 rfl (Tryz.sizeHs _ HY32.out) ?_))
          refine (mnode_any k s y HS32.out HY32.out _).mono ?_
          rintro e w4 ⟨rfl, hb4⟩
          obtain ⟨z, hz⟩ : ∃ z, z = nodeK k s y := ⟨_, rfl⟩
          have hz32 : z.length = 32 := by rw [hz]; exact nodeK_length _ _ _
          rw [← hz] at HST ⊢
          have HZ32 := Lib.hid hz32
          have HG4 := Lib.hid ((hb4.block g (heap_lt HG3.out)).trans HG3.out); have HR4 := Lib.hid ((hb4.block R (heap_lt HR3.out)).trans HR3.out)
          have HB4 := Lib.hid (HB3.out.trans (hb4.mono (Nat.le_of_lt (heap_lt HG3.out))))
          clear hb4 hz hz32
          go_wp2_with (refine wpList_store_row_g (t := 36) (old := c8 s) rfl 36 _ _ rfl g (c8 z) rfl rfl HG4.out (Tryz.sizeHs _ HZ32.out) (by rw [c8_size, c8_size, HS32.out, HZ32.out]) (by rw [← cB_full 32 _ HZ32.out]; exact one_b _ _) ?_)
          intro w5 h5 k5 z5
          rw [HST.out] at h5
          have HG5 := Lib.hid h5; have HB5 := Lib.hid (k5.onto HB4.out (by rw [HG.out]; exact Nat.le_refl _) (Nat.le_refl _)); have HR5 := Lib.hid (k5.at HR4.out (by have := HR.out; omega))
          clear h5 k5 z5
          go_wp2_with fail
          go_roundw
          case rel => exact ⟨j + 1, q / 2, by omega, by go_num, Lib.hid (by rw [hq.out, place_next]), by go_num, HG5.out, HB5.out, HR5.out⟩
          case measure => simp [intOf]; omega
        · have hm1 : ((q : Int) % 2 == 0) = false := by simp; omega
          have hst : nodeK k y s = foldAt k x i0 p (j + 1) := by
            show _ = stepK k (i0 / 2 ^ j) (foldAt k x i0 p j) (hAt p j)
            unfold stepK
            rw [← hq.out, if_neg (by omega), ← HS.out, ← HY.out]
          have HST := Lib.hid hst; clear hst
          go_wp2_with (first
            | (refine wpList_load_row rfl _ _ rfl g rfl _ (c8 s) _ _ HG3.out Tryz.underlying36 rfl (Tryz.sizeHs _ HS32.out) ?_)
            | (refine wpList_load_row rfl _ _ rfl Q rfl _ (c8 y) _ _ HQ3.out Tryz.underlying36 rfl (Tryz.sizeHs _ HY32.out) ?_))
          refine (mnode_any k y s HY32.out HS32.out _).mono ?_
          rintro e w4 ⟨rfl, hb4⟩
          obtain ⟨z, hz⟩ : ∃ z, z = nodeK k y s := ⟨_, rfl⟩
          have hz32 : z.length = 32 := by rw [hz]; exact nodeK_length _ _ _
          rw [← hz] at HST ⊢
          have HZ32 := Lib.hid hz32
          have HG4 := Lib.hid ((hb4.block g (heap_lt HG3.out)).trans HG3.out); have HR4 := Lib.hid ((hb4.block R (heap_lt HR3.out)).trans HR3.out)
          have HB4 := Lib.hid (HB3.out.trans (hb4.mono (Nat.le_of_lt (heap_lt HG3.out))))
          clear hb4 hz hz32
          go_wp2_with (refine wpList_store_row_g (t := 36) (old := c8 s) rfl 36 _ _ rfl g (c8 z) rfl rfl HG4.out (Tryz.sizeHs _ HZ32.out) (by rw [c8_size, c8_size, HS32.out, HZ32.out]) (by rw [← cB_full 32 _ HZ32.out]; exact one_b _ _) ?_)
          intro w5 h5 k5 z5
          rw [HST.out] at h5
          have HG5 := Lib.hid h5; have HB5 := Lib.hid (k5.onto HB4.out (by rw [HG.out]; exact Nat.le_refl _) (Nat.le_refl _)); have HR5 := Lib.hid (k5.at HR4.out (by have := HR.out; omega))
          clear h5 k5 z5
          go_wp2_with fail
          go_roundw
          case rel => exact ⟨j + 1, q / 2, by omega, by go_num, Lib.hid (by rw [hq.out, place_next]), by go_num, HG5.out, HB5.out, HR5.out⟩
          case measure => simp [intOf]; omega
      · obtain rfl : j = m := by omega
        rw [← HS.out]
        go_wp2_with (first
          | (refine wpList_load_row rfl _ _ rfl g rfl _ (c8 s) _ _ HGW.out Tryz.underlying36 rfl (Tryz.sizeHs _ HS32.out) ?_)
          | (refine wpList_store_row_g (t := 36) (old := cB 32 []) rfl 36 _ _ rfl R (c8 s) rfl rfl HRW.out (Tryz.sizeHs _ HS32.out) (by rw [c8_size, HS32.out]; rfl) (by rw [← cB_full 32 _ HS32.out]; exact one_b _ _) ?_))
        intro w5 h5 k5 z5
        have H5 := Lib.hid h5
        have hbe := k5.onto HBW.out (by rw [HG.out]; exact Nat.le_refl _) (by have := HR.out; omega)
        rw [HG.out] at hbe
        have HB5 := Lib.hid hbe
        clear h5 k5 z5 hbe
        go_wp2_with fail
        exact bodyPost_ret (results_cell_row rfl _ _ R _ (c8 s) _ _ rfl H5.out Tryz.underlying36 rfl (Tryz.sizeHs _ HS32.out)) rfl ⟨by rw [HS.out], HB5.out⟩
/-- The same, with the reference's tree. -/
def FoldT (w : World) (g : Nat) (a : Option Nat) (texts : List (List UInt8)) (G R : Nat) (s : List UInt8) (wr : World) : Prop := ∃ a', Tr wr g a' texts ∧ Grew w g a wr a' ∧ wr.heap[G]? = some (.cells (c8 s) 36 (0, 0)) ∧ wr.heap[R]? = some (.cells (cB 32 []) 36 (0, 0))
set_option maxRecDepth 100000 in
set_option maxHeartbeats 4000000 in
theorem tfold_any (w : World) (g : Nat) (a : Option Nat) (texts : List (List UInt8)) (k i : Int) (x : List UInt8) (p : List (List UInt8)) (v : Value) (hx : x.length = 32) (hP : ∀ w' a', Grew w g a w' a' → Rd w' hE 32 v p) (ht : Tr w g a texts) (h32 : All32 p) (hlen : p.length < 1000000) (htl : texts.length < 900000000) (hi64 : i < 9223372036854775808) :
    Calls Tryz.prog 194 #[.pointer (some ⟨g, 0, none⟩), .int .i64 k, .agg (c8 x), .int .i64 i, v] w (TrRet w g a (texts ++ foldNt k x i.toNat p p.length) (.agg (c8 (foldK k x i p)))) := by
  obtain ⟨ad, cap, rfl, hc1, hc2⟩ := (hP w a (Grew.of_below g a (Below.refl _ _))).shape
  obtain ⟨i0, hi0⟩ : ∃ i0, i0 = i.toNat := ⟨_, rfl⟩
  obtain ⟨m, hm⟩ : ∃ m, m = p.length := ⟨_, rfl⟩
  have hib : i0 < 9223372036854775808 := by omega
  have hi2 : (i < 0 ∧ i0 = 0) ∨ i = (i0 : Int) := by omega
  have hf : foldK k x i p = foldAt k x i0 p m := by rw [hi0, hm]; rfl
  rw [hf]
  rw [← hi0]
  rw [← hm] at hc1 hP hlen ⊢
  have HP := Lib.hid hP; have H32 := Lib.hid h32; have HM := Lib.hid hm; have HX := Lib.hid hx; have HT := Lib.hid ht
  clear hP h32 hm hi0 hf hx hi64 ht
  rcases hi2 with ⟨hi, h0⟩ | rfl
  all_goals
    go_enter Tryz.func194, Tryz.ntmps194
    go_wp2_with (refine wpList_alloc_g rfl _ rfl _ _ Tryz.zeroHash rfl ?_)
    intro R w1 h1
    obtain ⟨G, hG⟩ : ∃ G, G = w.heap.size := ⟨_, rfl⟩
    have hg1 : w1.heap[G]? = some (.cells (c8 x) 36 (0, 0)) := by rw [hG]; exact (h1.out.below.block _ (by simp)).trans (heap_alloc_new _ _)
    have hR : R = G + 1 := by rw [hG]; have := h1.out.eq; simpa using this
    have hb1 : Below w.heap.size w w1 := ((Below.refl _ _).alloc (Nat.le_refl _) _).trans (h1.out.below.mono (by simp))
    have hr1 := h1.out.cells
    rw [← hG]
    have HT1 := Lib.hid (HT.out.later hb1)
    have HG1 := Lib.hid hg1; have HR := Lib.hid hR; have HGR1 := Lib.hid (Grew.of_below g a hb1); have HR1 := Lib.hid hr1; have HG := Lib.hid hG
    clear hg1 hR hb1 hr1 h1 hG
    go_wp2_with fail
    go_loopw [3, 17] (fun av bv wr => ∃ j q : Nat, j ≤ m ∧ bv = .int .i64 j ∧ Hid (q = i0 / 2 ^ j) ∧ av = .int .i64 q ∧ FoldT w g a (texts ++ foldNt k x i0 p j) G R (foldAt k x i0 p j) wr) (fun _ b _ => m - (intOf b).toNat)
    case atStart => exact ⟨0, i0, Nat.zero_le _, rfl, Lib.hid (by simp), (by first | rfl | (rw [(by assumption : i0 = 0)]; rfl)), a, (by show Tr _ _ _ (texts ++ []); rw [List.append_nil]; exact HT1.out), HGR1.out, HG1.out, HR1.out⟩
    case round =>
      obtain ⟨j, q, hj, rfl, hq, rfl, a1, htw, hgrw, hgw, hrw⟩ := hrel
      have hs32 := foldAt_length k x HX.out i0 p j
      obtain ⟨s, hs⟩ : ∃ s, s = foldAt k x i0 p j := ⟨_, rfl⟩
      rw [← hs] at hgw hs32
      have HGW := Lib.hid hgw; have HTW := Lib.hid htw; have HGRW := Lib.hid hgrw; have HRW := Lib.hid hrw; have HS := Lib.hid hs; have HS32 := Lib.hid hs32
      clear hgw htw hgrw hrw hs hs32
      by_cases hjm : j < m
      · have hpw : Rd wr hE 32 _ p := HP.out _ _ HGRW.out
        obtain ⟨pb, po, had, hpb⟩ := hpw.ptr (by rw [← HM.out]; omega)
        subst had
        obtain ⟨_, _, e1, _, hrange⟩ := hpw.hash H32.out j (by rw [← HM.out]; exact hjm)
        cases e1
        rw [← hAt_eq _ j (by rw [← HM.out]; exact hjm)] at hrange
        obtain ⟨y, hy⟩ : ∃ y, y = hAt p j := ⟨_, rfl⟩
        have hy32 : y.length = 32 := by rw [hy]; exact hAt_length H32.out _
        rw [← hy] at hrange
        have HTL : Hid ((texts ++ foldNt k x i0 p j).length < 1000000000) := Lib.hid (by rw [List.length_append]; have := foldNt_le k x i0 p j; omega)
        have HRG := Lib.hid hrange; have HY := Lib.hid hy; have HY32 := Lib.hid hy32
        clear hrange hy hy32 hpw
        have hq1 : q ≤ i0 := by rw [hq.out]; exact Nat.div_le_self _ _
        go_wp2_with (first
          | (refine wpList_load_mid rfl _ _ rfl pb (po + j * 32) rfl (y.map byteV) _ HRG.out Tryz.underlying36 rfl (Tryz.sizeHm _ HY32.out) ?_)
          | (refine wpList_alloc_g rfl _ rfl _ _ Tryz.zeroHash rfl ?_))
        intro Q w2 h2
        go_wp2_with (refine wpList_store_row_g (t := 36) (old := cB 32 []) rfl 36 _ _ rfl Q (c8 y) rfl rfl h2.out.cells (Tryz.sizeHs _ HY32.out) (by rw [c8_size, HY32.out]; rfl) (by rw [← cB_full 32 _ HY32.out]; exact one_b _ _) ?_)
        intro w3 h3 k3 z3
        have hb3 : Below wr.heap.size wr w3 := h2.out.below.trans (k3.below (B := wr.heap.size) (fun z hz e => by have := h2.out.eq; omega) h2.out.below.size)
        have HG3 := Lib.hid ((hb3.block G (heap_lt HGW.out)).trans HGW.out); have HR3 := Lib.hid ((hb3.block R (heap_lt HRW.out)).trans HRW.out); have HQ3 := Lib.hid h3
        have HT3 := Lib.hid (HTW.out.later hb3); have HGR3 := Lib.hid (HGRW.out.trans (Grew.of_below g a1 hb3))
        clear hb3 h3 k3 z3 h2
        have hq2 : q % 2 = 0 ∨ q % 2 = 1 := by omega
        rcases hq2 with hq2 | hq2
        · have hm1 : ((q : Int) % 2 == 0) = true := by simp; omega
          have hst : nodeK k s y = foldAt k x i0 p (j + 1) := by
            show _ = stepK k (i0 / 2 ^ j) (foldAt k x i0 p j) (hAt p j)
            unfold stepK
            rw [← hq.out, if_pos hq2, ← HS.out, ← HY.out]
          have hsn : foldNt k x i0 p j ++ nodeN k s y = foldNt k x i0 p (j + 1) := by
            show _ = foldNt k x i0 p j ++ stepN k (i0 / 2 ^ j) (foldAt k x i0 p j) (hAt p j)
            unfold stepN
            rw [← hq.out, if_pos hq2, ← HS.out, ← HY.out]
          have HST := Lib.hid hst; have HSN := Lib.hid hsn; clear hst hsn
          go_wp2_with (first
            | (refine wpList_load_row rfl _ _ rfl G rfl _ (c8 s) _ _ HG3.out Tryz.underlying36 rfl (Tryz.sizeHs _ HS32.out) ?_)
            | (refine wpList_load_row rfl _ _ rfl Q rfl _ (c8 y) _ _ HQ3.out Tryz.underlying36 rfl (Tryz.sizeHs _ HY32.out) ?_))
          refine (tnode_any w3 g a1 _ k s y HS32.out HY32.out HT3.out HTL.out).mono ?_
          rintro e w4 ⟨rfl, a4, ht4, hg4⟩
          rw [List.append_assoc, HSN.out] at ht4
          obtain ⟨z, hz⟩ : ∃ z, z = nodeK k s y := ⟨_, rfl⟩
          have hz32 : z.length = 32 := by rw [hz]; exact nodeK_length _ _ _
          rw [← hz] at HST ⊢
          have HZ32 := Lib.hid hz32
          have HG4 := Lib.hid (tr_other HT3.out hg4 HG3.out (by decide)); have HR4 := Lib.hid (tr_other HT3.out hg4 HR3.out (by decide))
          have HT4 := Lib.hid ht4; have HGR4 := Lib.hid (HGR3.out.trans hg4)
          clear ht4 hg4 hz hz32
          go_wp2_with (refine wpList_store_row_g (t := 36) (old := c8 s) rfl 36 _ _ rfl G (c8 z) rfl rfl HG4.out (Tryz.sizeHs _ HZ32.out) (by rw [c8_size, c8_size, HS32.out, HZ32.out]) (by rw [← cB_full 32 _ HZ32.out]; exact one_b _ _) ?_)
          intro w5 h5 k5 z5
          rw [HST.out] at h5
          have HT5 := Lib.hid (HT4.out.keep1 k5 HG4.out (by decide)); have HGR5 := Lib.hid (HGR4.out.to (by rw [HG.out]; exact Nat.le_refl _) k5)
          have HG5 := Lib.hid h5; have HR5 := Lib.hid (k5.at HR4.out (by have := HR.out; omega))
          clear h5 k5 z5
          go_wp2_with fail
          go_roundw
          case rel => exact ⟨j + 1, q / 2, by omega, by go_num, Lib.hid (by rw [hq.out, place_next]), by go_num, a4, HT5.out, HGR5.out, HG5.out, HR5.out⟩
          case measure => simp [intOf]; omega
        · have hm1 : ((q : Int) % 2 == 0) = false := by simp; omega
          have hst : nodeK k y s = foldAt k x i0 p (j + 1) := by
            show _ = stepK k (i0 / 2 ^ j) (foldAt k x i0 p j) (hAt p j)
            unfold stepK
            rw [← hq.out, if_neg (by omega), ← HS.out, ← HY.out]
          have hsn : foldNt k x i0 p j ++ nodeN k y s = foldNt k x i0 p (j + 1) := by
            show _ = foldNt k x i0 p j ++ stepN k (i0 / 2 ^ j) (foldAt k x i0 p j) (hAt p j)
            unfold stepN
            rw [← hq.out, if_neg (by omega), ← HS.out, ← HY.out]
          have HST := Lib.hid hst; have HSN := Lib.hid hsn; clear hst hsn
          go_wp2_with (first
            | (refine wpList_load_row rfl _ _ rfl G rfl _ (c8 s) _ _ HG3.out Tryz.underlying36 rfl (Tryz.sizeHs _ HS32.out) ?_)
            | (refine wpList_load_row rfl _ _ rfl Q rfl _ (c8 y) _ _ HQ3.out Tryz.underlying36 rfl (Tryz.sizeHs _ HY32.out) ?_))
          refine (tnode_any w3 g a1 _ k y s HY32.out HS32.out HT3.out HTL.out).mono ?_
          rintro e w4 ⟨rfl, a4, ht4, hg4⟩
          rw [List.append_assoc, HSN.out] at ht4
          obtain ⟨z, hz⟩ : ∃ z, z = nodeK k y s := ⟨_, rfl⟩
          have hz32 : z.length = 32 := by rw [hz]; exact nodeK_length _ _ _
          rw [← hz] at HST ⊢
          have HZ32 := Lib.hid hz32
          have HG4 := Lib.hid (tr_other HT3.out hg4 HG3.out (by decide)); have HR4 := Lib.hid (tr_other HT3.out hg4 HR3.out (by decide))
          have HT4 := Lib.hid ht4; have HGR4 := Lib.hid (HGR3.out.trans hg4)
          clear ht4 hg4 hz hz32
          go_wp2_with (refine wpList_store_row_g (t := 36) (old := c8 s) rfl 36 _ _ rfl G (c8 z) rfl rfl HG4.out (Tryz.sizeHs _ HZ32.out) (by rw [c8_size, c8_size, HS32.out, HZ32.out]) (by rw [← cB_full 32 _ HZ32.out]; exact one_b _ _) ?_)
          intro w5 h5 k5 z5
          rw [HST.out] at h5
          have HT5 := Lib.hid (HT4.out.keep1 k5 HG4.out (by decide)); have HGR5 := Lib.hid (HGR4.out.to (by rw [HG.out]; exact Nat.le_refl _) k5)
          have HG5 := Lib.hid h5; have HR5 := Lib.hid (k5.at HR4.out (by have := HR.out; omega))
          clear h5 k5 z5
          go_wp2_with fail
          go_roundw
          case rel => exact ⟨j + 1, q / 2, by omega, by go_num, Lib.hid (by rw [hq.out, place_next]), by go_num, a4, HT5.out, HGR5.out, HG5.out, HR5.out⟩
          case measure => simp [intOf]; omega
      · obtain rfl : j = m := by omega
        go_wp2_with (first
          | (refine wpList_load_row rfl _ _ rfl G rfl _ (c8 s) _ _ HGW.out Tryz.underlying36 rfl (Tryz.sizeHs _ HS32.out) ?_)
          | (refine wpList_store_row_g (t := 36) (old := cB 32 []) rfl 36 _ _ rfl R (c8 s) rfl rfl HRW.out (Tryz.sizeHs _ HS32.out) (by rw [c8_size, HS32.out]; rfl) (by rw [← cB_full 32 _ HS32.out]; exact one_b _ _) ?_))
        intro w5 h5 k5 z5
        have H5 := Lib.hid h5
        have HT5 := Lib.hid (HTW.out.keep1 k5 HRW.out (by decide)); have HGR5 := Lib.hid (HGRW.out.to (by have := HR.out; have := HG.out; omega) k5)
        clear h5 k5 z5
        go_wp2_with fail
        exact bodyPost_ret (results_cell_row rfl _ _ R _ (c8 s) _ _ rfl H5.out Tryz.underlying36 rfl (Tryz.sizeHs _ HS32.out)) rfl ⟨by rw [HS.out], a1, HT5.out, HGR5.out⟩
end
section
open Go.RowKit

/-- Check's answer. -/
def checkF (k : Int) (root leaf : List UInt8) (i : Int) (p : List (List UInt8)) : Int :=
  if k = 1 ∨ k = 2 then (if 10 < p.length then 19 else if i < 0 ∨ ((2 ^ p.length : Nat) : Int) ≤ i then 5 else if foldK k (leafK k leaf) i p = root then 0 else 15) else 2
theorem foldK_length (k : Int) (x : List UInt8) (hx : x.length = 32) (i : Int) (p : List (List UInt8)) : (foldK k x i p).length = 32 := foldAt_length k x hx _ p _

set_option maxRecDepth 100000 in
set_option maxHeartbeats 4000000 in
theorem pcheck_any (k i : Int) (root leaf : List UInt8) (p : List (List UInt8)) (vb vp : Value) (w : World) (hr : root.length = 32) (hb : Rd w u8E 1 vb leaf) (hl : leaf.length < 288230376151711744) (hp : Rd w hE 32 vp p) (h32 : All32 p) (hi64 : i < 9223372036854775808) :
    Calls Tryz.prog 96 #[.int .i64 k, .agg (c8 root), vb, .int .i64 i, vp] w (Ret w (.int .i64 (checkF k root leaf i p))) := by
  obtain ⟨ad, cap, rfl, hc1, hc2⟩ := hp.shape
  obtain ⟨bad, bcap, rfl, hd1, hd2⟩ := hb.shape
  obtain ⟨m, hm⟩ : ∃ m, m = p.length := ⟨_, rfl⟩
  obtain ⟨n, hn⟩ : ∃ n, n = leaf.length := ⟨_, rfl⟩
  rw [← hm] at hc1 hp ⊢
  rw [← hn] at hd1 hb hl ⊢
  have HP := Lib.hid hp; have HBR := Lib.hid hb; have H32 := Lib.hid h32; have HM := Lib.hid hm; have HN := Lib.hid hn; have HR := Lib.hid hr; have HI64 := Lib.hid hi64
  clear hp hb h32 hn hr hi64
  have hb1 : Below w.heap.size w (w.alloc (.cells (c8 root) 36)) := (Below.refl _ _).alloc (Nat.le_refl _) _
  have HB1 := Lib.hid hb1; clear hb1
  obtain ⟨z, hz⟩ : ∃ z, z = foldK k (leafK k leaf) i p := ⟨_, rfl⟩
  have hz32 : z.length = 32 := by rw [hz]; exact foldK_length _ _ (leafK_length _ _) _ _
  have HZ := Lib.hid hz; have HZ32 := Lib.hid hz32
  clear hz hz32
  obtain ⟨res, hres⟩ : ∃ res, res = checkF k root leaf i p := ⟨_, rfl⟩
  have HRES := Lib.hid hres; clear hres
  rcases kind_cases k with hk | hk | ⟨h1, h2⟩
  case inr.inr =>
    have he : checkF k root leaf i p = 2 := by unfold checkF; rw [if_neg (by omega)]
    rw [he]
    have b1 : (k != 1) = true := by simpa using h1
    have b2 : (k != 2) = true := by simpa using h2
    clear he hm
    go_enter Tryz.func96, Tryz.ntmps96
    go_wp2_with fail
    go_ret
    exact ⟨rfl, HB1.out⟩
  all_goals
    subst hk
    rcases Nat.lt_or_ge 10 m with h10 | h10
    · have he : ∀ k, (k = 1 ∨ k = 2) → checkF k root leaf i p = 19 := fun k hk => by unfold checkF; rw [if_pos hk, if_pos (by rw [← hm]; exact h10)]
      rw [he _ (by decide)]
      clear he hm
      have j1 : (m : Int) > 10 := by omega
      go_enter Tryz.func96, Tryz.ntmps96
      go_wp2_with fail
      go_ret
      exact ⟨rfl, HB1.out⟩
    · have j1 : ¬ (m : Int) > 10 := by omega
      obtain ⟨N, hN⟩ : ∃ N, N = 2 ^ m := ⟨_, rfl⟩
      have hN2 : N ≤ 1024 := by rw [hN]; exact Nat.le_trans (Nat.pow_le_pow_right (by omega) h10) (by decide)
      have hN3 : (2 : Int) ^ m = (N : Int) := by rw [hN]; simp
      have hw1 : IntKind.i64.wrap (N : Int) = (N : Int) := IntWalk.i64_in _ (by omega)
      by_cases hi : i < 0 ∨ (N : Int) ≤ i
      · have he : ∀ k, (k = 1 ∨ k = 2) → checkF k root leaf i p = 5 := fun k hk => by unfold checkF; rw [if_pos hk, if_neg (by rw [← hm]; omega), if_pos (by rw [← hm, ← hN]; exact hi)]
        rw [he _ (by decide)]
        clear he hm hN
        have hi2 : i < 0 ∨ (¬ i < 0 ∧ (N : Int) ≤ i) := by omega
        clear hi
        rcases hi2 with hi | ⟨hi, hi2⟩
        all_goals
          go_enter Tryz.func96, Tryz.ntmps96
          go_wp2_with fail
          go_ret
          exact ⟨rfl, HB1.out⟩
      · obtain ⟨i0, rfl⟩ : ∃ i0 : Nat, i = (i0 : Int) := ⟨i.toNat, by omega⟩
        have hi1 : ((i0 : Int) < 0) = False := eq_false (by omega)
        have hi2 : ¬ N ≤ i0 := by omega
        have hi3 : ¬ (N : Int) ≤ (i0 : Int) := by omega
        have he : ∀ k, (k = 1 ∨ k = 2) → checkF k root leaf i0 p = if foldK k (leafK k leaf) i0 p = root then 0 else 15 := fun k hk => by unfold checkF; rw [if_pos hk, if_neg (by rw [← hm]; omega), if_neg (by rw [← hm, ← hN]; exact hi)]
        rw [← HRES.out]
        have HE : Hid (res = if z = root then 0 else 15) := Lib.hid (by rw [HRES.out, HZ.out]; exact he _ (by decide))
        clear he hm hN hi
        go_enter Tryz.func96, Tryz.ntmps96
        go_upto_region 7 with fail
        have hg1 : (w.alloc (.cells (c8 root) 36)).heap[w.heap.size]? = some (.cells (c8 root) 36 (0, 0)) := heap_alloc_new _ _
        obtain ⟨w1, hw1'⟩ : ∃ w1, w1 = w.alloc (.cells (c8 root) 36) := ⟨_, rfl⟩
        rw [← hw1'] at hg1 HB1 ⊢
        clear hw1'
        have L : Hid (∀ w', Below w1.heap.size w1 w' → (Instr.loadAt 36 (.pointer (some ⟨w.heap.size, 0, none⟩))).run Tryz.prog w' = .ok (.agg (c8 root)) w') := Lib.hid fun w' e => by exact load_hash ((e.block _ (heap_lt hg1)).trans hg1) HR.out
        clear hg1
        have hS : Below w1.heap.size w1 w1.drew := (Below.refl _ _).drew
        refine wp_region_till (fun w' => Below w1.heap.size w1 w') 9 10 (by kernel_rfl) rfl ?_
        refine till_take 0 (some 33) rfl rfl (by kernel_rfl) (by kernel_rfl) (by kernel_rfl) (by kernel_rfl) (by kernel_rfl) (by kernel_rfl) (fun _ _ _ h => h) (.inl ⟨by rfl, fun w' _ => (by go_simp; rfl)⟩) hS ?_
        go_frame
        refine till_take 1 (some 34) rfl rfl (by kernel_rfl) (by kernel_rfl) (by kernel_rfl) (by kernel_rfl) (by kernel_rfl) (by kernel_rfl) (fun _ _ _ h => h) (.inl ⟨by rfl, fun w' _ => (by go_simp; rfl)⟩) hS ?_
        go_frame
        refine till_take 2 (some 35) rfl rfl (by kernel_rfl) (by kernel_rfl) (by kernel_rfl) (by kernel_rfl) (by kernel_rfl) (by kernel_rfl) (fun _ _ _ h => h) (.inl ⟨by rfl, fun w' _ => (by go_simp; rfl)⟩) hS ?_
        go_frame
        refine till_take 4 (some 37) rfl rfl (by kernel_rfl) (by kernel_rfl) (by kernel_rfl) (by kernel_rfl) (by kernel_rfl) (by kernel_rfl) (fun _ _ _ h => h) (.inl ⟨by rfl, fun w' _ => (by go_simp; rfl)⟩) hS ?_
        go_frame
        refine till_take 5 (some 38) rfl rfl (by kernel_rfl) (by kernel_rfl) (by kernel_rfl) (by kernel_rfl) (by kernel_rfl) (by kernel_rfl) (fun _ _ _ h => h) (.inl ⟨by rfl, fun w' _ => (by go_simp; rfl)⟩) hS ?_
        go_frame
        refine till_take 7 (some 40) rfl rfl (by kernel_rfl) (by kernel_rfl) (by kernel_rfl) (by kernel_rfl) (by kernel_rfl) (by kernel_rfl) (fun _ _ _ h => h) (yields_load (by rfl) 36 (.tmp 6) rfl (.pointer (some ⟨w.heap.size, 0, none⟩)) rfl _ L.out) hS ?_
        go_frame
        refine till_one 3 rfl (by kernel_rfl) fun K hK => ?_
        simp only [List.getElem_toArray, List.getElem_cons_succ, List.getElem_cons_zero]
        rw [if_pos (by rfl)]
        go_simp
        refine (mleaf_any _ leaf _ _ ((HBR.out.later HB1.out).later (Below.refl _ _).drew) (by rw [← HN.out]; exact hl)).mono ?_
        rintro e w2 ⟨rfl, hb2⟩
        have hS2 : Below w1.heap.size w1 w2 := hS.trans (hb2.mono hS.size)
        refine hK _ _ (fun _ _ => hS2) ?_
        clear hK hb2 hS
        refine till_one 6 rfl (by kernel_rfl) fun K hK => ?_
        simp only [List.getElem_toArray, List.getElem_cons_succ, List.getElem_cons_zero]
        rw [if_pos (by rfl)]
        go_simp
        refine (pfold_any _ i0 _ p _ _ (leafK_length _ _) ((HP.out.later HB1.out).later hS2) H32.out (by rw [← HM.out]; omega) HI64.out).mono ?_
        rintro e w3 ⟨rfl, hb3⟩
        have hS3 : Below w1.heap.size w1 w3 := hS2.trans (hb3.mono hS2.size)
        refine hK _ _ (fun _ _ => hS3) ?_
        clear hK hb3 hS2
        rw [← HZ.out]
        have heq := Tryz.eqH z root HZ32.out HR.out
        by_cases hzr : z = root
        · rw [decide_eq_true hzr] at heq
          have HZR := Lib.hid hzr; clear hzr
          refine till_take 8 (some 41) rfl rfl (by kernel_rfl) (by kernel_rfl) (by kernel_rfl) (by kernel_rfl) (by kernel_rfl) (by kernel_rfl) (fun _ _ _ h => h) (.inl ⟨by rfl, fun w' _ => (by go_simp; rfl)⟩) hS3 ?_
          go_frame
          refine till_one 9 rfl (by kernel_rfl) fun K hK => ?_
          simp only [List.getElem_toArray, List.getElem_cons_succ, List.getElem_cons_zero]
          rw [if_pos (by rfl)]
          go_simp
          refine hK _ _ (fun h => absurd rfl h) ?_
          clear hK heq
          refine till_done (by kernel_rfl) ?_ _
          have HS3 := Lib.hid hS3; clear hS3
          go_wp2_with fail
          go_ret
          exact ⟨by rw [HE.out, if_pos HZR.out]; rfl, HB1.out.trans (HS3.out.mono HB1.out.size)⟩
        · rw [decide_eq_false hzr] at heq
          have HZR := Lib.hid hzr; clear hzr
          refine till_take 8 (some 41) rfl rfl (by kernel_rfl) (by kernel_rfl) (by kernel_rfl) (by kernel_rfl) (by kernel_rfl) (by kernel_rfl) (fun _ _ _ h => h) (.inl ⟨by rfl, fun w' _ => (by go_simp; rfl)⟩) hS3 ?_
          go_frame
          refine till_one 9 rfl (by kernel_rfl) fun K hK => ?_
          simp only [List.getElem_toArray, List.getElem_cons_succ, List.getElem_cons_zero]
          rw [if_pos (by rfl)]
          go_simp
          refine hK _ _ (fun h => absurd rfl h) ?_
          clear hK heq
          refine till_done (by kernel_rfl) ?_ _
          have HS3 := Lib.hid hS3; clear hS3
          go_wp2_with fail
          go_ret
          exact ⟨by rw [HE.out, if_neg HZR.out]; rfl, HB1.out.trans (HS3.out.mono HB1.out.size)⟩
end
end Go.Proofs.YtmclmccgghnglaaGreat
