/- proof.Fold, tallageref07.Fold. -/
import Derived.Test.YtbfdjjaonjepnaaPrfA
namespace Go.Proofs.Ytbfdjjaonjepnaa
open Go.RowKit

/-- One step up. -/
def stepK (k : Int) (q : Nat) (x h : List UInt8) : List UInt8 := if q % 2 = 0 then nodeK k x h else nodeK k h x
def stepN (k : Int) (q : Nat) (x h : List UInt8) : List (List UInt8) := if q % 2 = 0 then nodeN k x h else nodeN k h x
/-- What stands behind j steps, and the texts of them. -/
def foldAt (k : Int) (x : List UInt8) (i : Nat) (p : List (List UInt8)) : Nat → List UInt8
  | 0 => x
  | j + 1 => stepK k (i / 2 ^ j) (foldAt k x i p j) (hAt p j)
def foldNt (k : Int) (x : List UInt8) (i : Nat) (p : List (List UInt8)) : Nat → List (List UInt8)
  | 0 => []
  | j + 1 => foldNt k x i p j ++ stepN k (i / 2 ^ j) (foldAt k x i p j) (hAt p j)
def foldK (k : Int) (x : List UInt8) (i : Int) (p : List (List UInt8)) : List UInt8 := foldAt k x i.toNat p p.length
theorem stepK_length (k : Int) (q : Nat) (x h : List UInt8) : (stepK k q x h).length = 32 := by unfold stepK; split <;> exact nodeK_length _ _ _
theorem stepN_le (k : Int) (q : Nat) (x h : List UInt8) : (stepN k q x h).length ≤ 1 := by
  unfold stepN nodeN; split <;> split <;> simp
theorem foldAt_length (k : Int) (x : List UInt8) (hx : x.length = 32) (i : Nat) (p : List (List UInt8)) : ∀ j, (foldAt k x i p j).length = 32
  | 0 => hx
  | _ + 1 => stepK_length _ _ _ _
theorem foldNt_le (k : Int) (x : List UInt8) (i : Nat) (p : List (List UInt8)) : ∀ j, (foldNt k x i p j).length ≤ j
  | 0 => by simp [foldNt]
  | j + 1 => by
    have h1 := foldNt_le k x i p j
    have h2 := stepN_le k (i / 2 ^ j) (foldAt k x i p j) (hAt p j)
    rw [foldNt, List.length_append]
    omega

/-- What holds at the head of Fold's loop. -/
def FoldL (w : World) (g R : Nat) (s : List UInt8) (wr : World) : Prop := wr.heap[g]? = some (.cells (c8 s) 48 (0, 0)) ∧ Below g w wr ∧ wr.heap[R]? = some (.cells (cB 32 []) 48 (0, 0))

set_option maxRecDepth 100000 in
set_option maxHeartbeats 4000000 in
theorem pfold_any (k i : Int) (x : List UInt8) (p : List (List UInt8)) (v : Value) (w : World) (hx : x.length = 32) (hp : Rd w hE 32 v p) (h32 : All32 p) (hlen : p.length < 1099511627776) (hi64 : i < 9223372036854775808) :
    Calls Try.prog 69 #[.int .i64 k, .agg (c8 x), .int .i64 i, v] w (Ret w (.agg (c8 (foldK k x i p)))) := by
  obtain ⟨ad, cap, rfl, hc1, hc2⟩ := hp.shape
  obtain ⟨i0, hi0⟩ : ∃ i0, i0 = i.toNat := ⟨_, rfl⟩
  obtain ⟨m, hm⟩ : ∃ m, m = p.length := ⟨_, rfl⟩
  have hib : i0 < 9223372036854775808 := by omega
  have hi2 : (i < 0 ∧ i0 = 0) ∨ i = (i0 : Int) := by omega
  have hf : foldK k x i p = foldAt k x i0 p m := by rw [hi0, hm]; rfl
  rw [hf]
  rw [← hm] at hc1 hp hlen ⊢
  have HP := Lib.hid hp; have H32 := Lib.hid h32; have HM := Lib.hid hm; have HX := Lib.hid hx
  clear hp h32 hm hi0 hf hx hi64
  rcases hi2 with ⟨hi, h0⟩ | rfl
  all_goals
    go_enter Try.func69, Try.ntmps69
    go_wp2_with (refine wpList_alloc_g rfl _ rfl _ _ Try.zeroHash rfl ?_)
    intro R w1 h1
    obtain ⟨g, hg⟩ : ∃ g, g = w.heap.size := ⟨_, rfl⟩
    have hg1 : w1.heap[g]? = some (.cells (c8 x) 48 (0, 0)) := by rw [hg]; exact (h1.out.below.block _ (by simp)).trans (heap_alloc_new _ _)
    have hR : R = g + 1 := by rw [hg]; have := h1.out.eq; simpa using this
    have hb1 : Below g w w1 := by rw [hg]; exact ((Below.refl _ _).alloc (Nat.le_refl _) _).trans (h1.out.below.mono (by simp))
    have hr1 := h1.out.cells
    rw [← hg]
    have HG1 := Lib.hid hg1; have HR := Lib.hid hR; have HB1 := Lib.hid hb1; have HR1 := Lib.hid hr1; have HG := Lib.hid hg
    clear hg1 hR hb1 hr1 h1 hg
    go_wp2_with fail
    go_loopw [2, 15] (fun a b wr => ∃ j q : Nat, j ≤ m ∧ b = .int .i64 j ∧ Hid (q = i0 / 2 ^ j) ∧ a = .int .i64 q ∧ FoldL w g R (foldAt k x i0 p j) wr) (fun _ b _ => m - (intOf b).toNat)
    case atStart => exact ⟨0, i0, Nat.zero_le _, rfl, Lib.hid (by simp), (by first | rfl | (rw [(by assumption : i0 = 0)]; rfl)), HG1.out, HB1.out, HR1.out⟩
    case round =>
      obtain ⟨j, q, hj, rfl, hq, rfl, hgw, hbw, hrw⟩ := hrel
      have hs32 := foldAt_length k x HX.out i0 p j
      obtain ⟨s, hs⟩ : ∃ s, s = foldAt k x i0 p j := ⟨_, rfl⟩
      rw [← hs] at hgw hs32
      have HGW := Lib.hid hgw; have HBW := Lib.hid hbw; have HRW := Lib.hid hrw; have HS := Lib.hid hs; have HS32 := Lib.hid hs32
      clear hgw hbw hrw hs hs32
      by_cases hjm : j < m
      · obtain ⟨pb, po, had, hpb⟩ := HP.out.ptr (by rw [← HM.out]; omega)
        subst had
        have hpw : Rd wr hE 32 _ p := HP.out.later (by rw [← HG.out]; exact HBW.out)
        obtain ⟨_, _, e1, _, hrange⟩ := hpw.hash H32.out j (by rw [← HM.out]; exact hjm)
        cases e1
        rw [← hAt_eq _ j (by rw [← HM.out]; exact hjm)] at hrange
        obtain ⟨y, hy⟩ : ∃ y, y = hAt p j := ⟨_, rfl⟩
        have hy32 : y.length = 32 := by rw [hy]; exact hAt_length H32.out _
        rw [← hy] at hrange
        have HRG := Lib.hid hrange; have HY := Lib.hid hy; have HY32 := Lib.hid hy32
        clear hrange hy hy32 hpw
        have hq1 : q ≤ i0 := by rw [hq.out]; exact Nat.div_le_self _ _
        have hand : bits BinOp.and IntKind.i64 (q : Int) 1 = (q : Int) % 2 := i64_and1 _
        go_wp2_with (first
          | (refine wpList_load_mid rfl _ _ rfl pb (po + j * 32) rfl (y.map byteV) _ HRG.out Try.underlying48 rfl (Try.sizeHm _ HY32.out) ?_)
          | (refine wpList_alloc_g rfl _ rfl _ _ Try.zeroHash rfl ?_))
        intro Q w2 h2
        go_wp2_with (refine wpList_store_row_g (t := 48) (old := cB 32 []) rfl 48 _ _ rfl Q (c8 y) rfl rfl h2.out.cells (Try.sizeHs _ HY32.out) (by rw [c8_size, HY32.out]; rfl) (by rw [← cB_full 32 _ HY32.out]; exact one_b _ _) ?_)
        intro w3 h3 k3 z3
        have hb3 : Below wr.heap.size wr w3 := h2.out.below.trans (k3.below (B := wr.heap.size) (fun z hz e => by have := h2.out.eq; omega) h2.out.below.size)
        have hgz := HBW.out.size
        have HG3 := Lib.hid ((hb3.block g (heap_lt HGW.out)).trans HGW.out); have HR3 := Lib.hid ((hb3.block R (heap_lt HRW.out)).trans HRW.out); have HQ3 := Lib.hid h3
        have HB3 := Lib.hid (HBW.out.trans (hb3.mono (Nat.le_of_lt (heap_lt HGW.out))))
        clear hb3 h3 k3 z3 h2
        have hq2 : q % 2 = 0 ∨ q % 2 = 1 := by omega
        rcases hq2 with hq2 | hq2
        · have hm1 : ((q : Int) % 2 == 0) = true := by simp; omega
          have hst : nodeK k s y = foldAt k x i0 p (j + 1) := by
            show _ = stepK k (i0 / 2 ^ j) (foldAt k x i0 p j) (hAt p j)
            unfold stepK
            rw [← hq.out, if_pos hq2, ← HS.out, ← HY.out]
          have HST := Lib.hid hst; clear hst
          go_wp2_with (first
            | (refine wpList_load_row rfl _ _ rfl g rfl _ (c8 s) _ _ HG3.out Try.underlying48 rfl (Try.sizeHs _ HS32.out) ?_)
            | (refine wpList_load_row rfl _ _ rfl Q rfl _ (c8 y) _ _ HQ3.out Try.underlying48 rfl (Try.sizeHs _ HY32.out) ?_))
          refine (mnode_any k s y HS32.out HY32.out _).mono ?_
          rintro e w4 ⟨rfl, hb4⟩
          obtain ⟨z, hz⟩ : ∃ z, z = nodeK k s y := ⟨_, rfl⟩
          have hz32 : z.length = 32 := by rw [hz]; exact nodeK_length _ _ _
          rw [← hz] at HST ⊢
          have HZ32 := Lib.hid hz32
          have HG4 := Lib.hid ((hb4.block g (heap_lt HG3.out)).trans HG3.out); have HR4 := Lib.hid ((hb4.block R (heap_lt HR3.out)).trans HR3.out)
          have HB4 := Lib.hid (HB3.out.trans (hb4.mono (Nat.le_of_lt (heap_lt HG3.out))))
          clear hb4 hz hz32
          go_wp2_with (refine wpList_store_row_g (t := 48) (old := c8 s) rfl 48 _ _ rfl g (c8 z) rfl rfl HG4.out (Try.sizeHs _ HZ32.out) (by rw [c8_size, c8_size, HS32.out, HZ32.out]) (by rw [← cB_full 32 _ HZ32.out]; exact one_b _ _) ?_)
          intro w5 h5 k5 z5
          rw [HST.out] at h5
          have HG5 := Lib.hid h5; have HB5 := Lib.hid (k5.onto HB4.out (by rw [HG.out]; exact Nat.le_refl _) (Nat.le_refl _)); have HR5 := Lib.hid (k5.at HR4.out (by have := HR.out; omega))
          clear h5 k5 z5
          go_wp2_with fail
          go_roundw
          case rel => exact ⟨j + 1, q / 2, by omega, by go_num, Lib.hid (by rw [hq.out, place_next]), by go_num, HG5.out, HB5.out, HR5.out⟩
          case measure => simp [intOf]; omega
        · have hm1 : ((q : Int) % 2 == 0) = false := by simp; omega
          have hst : nodeK k y s = foldAt k x i0 p (j + 1) := by
            show _ = stepK k (i0 / 2 ^ j) (foldAt k x i0 p j) (hAt p j)
            unfold stepK
            rw [← hq.out, if_neg (by omega), ← HS.out, ← HY.out]
          have HST := Lib.hid hst; clear hst
          go_wp2_with (first
            | (refine wpList_load_row rfl _ _ rfl g rfl _ (c8 s) _ _ HG3.out Try.underlying48 rfl (Try.sizeHs _ HS32.out) ?_)
            | (refine wpList_load_row rfl _ _ rfl Q rfl _ (c8 y) _ _ HQ3.out Try.underlying48 rfl (Try.sizeHs _ HY32.out) ?_))
          refine (mnode_any k y s HY32.out HS32.out _).mono ?_
          rintro e w4 ⟨rfl, hb4⟩
          obtain ⟨z, hz⟩ : ∃ z, z = nodeK k y s := ⟨_, rfl⟩
          have hz32 : z.length = 32 := by rw [hz]; exact nodeK_length _ _ _
          rw [← hz] at HST ⊢
          have HZ32 := Lib.hid hz32
          have HG4 := Lib.hid ((hb4.block g (heap_lt HG3.out)).trans HG3.out); have HR4 := Lib.hid ((hb4.block R (heap_lt HR3.out)).trans HR3.out)
          have HB4 := Lib.hid (HB3.out.trans (hb4.mono (Nat.le_of_lt (heap_lt HG3.out))))
          clear hb4 hz hz32
          go_wp2_with (refine wpList_store_row_g (t := 48) (old := c8 s) rfl 48 _ _ rfl g (c8 z) rfl rfl HG4.out (Try.sizeHs _ HZ32.out) (by rw [c8_size, c8_size, HS32.out, HZ32.out]) (by rw [← cB_full 32 _ HZ32.out]; exact one_b _ _) ?_)
          intro w5 h5 k5 z5
          rw [HST.out] at h5
          have HG5 := Lib.hid h5; have HB5 := Lib.hid (k5.onto HB4.out (by rw [HG.out]; exact Nat.le_refl _) (Nat.le_refl _)); have HR5 := Lib.hid (k5.at HR4.out (by have := HR.out; omega))
          clear h5 k5 z5
          go_wp2_with fail
          go_roundw
          case rel => exact ⟨j + 1, q / 2, by omega, by go_num, Lib.hid (by rw [hq.out, place_next]), by go_num, HG5.out, HB5.out, HR5.out⟩
          case measure => simp [intOf]; omega
      · obtain rfl : j = m := by omega
        rw [← HS.out]
        go_wp2_with (first
          | (refine wpList_load_row rfl _ _ rfl g rfl _ (c8 s) _ _ HGW.out Try.underlying48 rfl (Try.sizeHs _ HS32.out) ?_)
          | (refine wpList_store_row_g (t := 48) (old := cB 32 []) rfl 48 _ _ rfl R (c8 s) rfl rfl HRW.out (Try.sizeHs _ HS32.out) (by rw [c8_size, HS32.out]; rfl) (by rw [← cB_full 32 _ HS32.out]; exact one_b _ _) ?_))
        intro w5 h5 k5 z5
        have H5 := Lib.hid h5
        have hbe := k5.onto HBW.out (by rw [HG.out]; exact Nat.le_refl _) (by have := HR.out; omega)
        rw [HG.out] at hbe
        have HB5 := Lib.hid hbe
        clear h5 k5 z5 hbe
        go_wp2_with fail
        exact bodyPost_ret (results_cell_row rfl _ _ R _ (c8 s) _ _ rfl H5.out Try.underlying48 rfl (Try.sizeHs _ HS32.out)) rfl ⟨by rw [HS.out], HB5.out⟩
/-- The same, with the reference's tree. -/
def FoldT (w : World) (g : Nat) (a : Option Nat) (texts : List (List UInt8)) (G R : Nat) (s : List UInt8) (wr : World) : Prop := ∃ a', Tr wr g a' texts ∧ Grew w g a wr a' ∧ wr.heap[G]? = some (.cells (c8 s) 48 (0, 0)) ∧ wr.heap[R]? = some (.cells (cB 32 []) 48 (0, 0))
set_option maxRecDepth 100000 in
set_option maxHeartbeats 4000000 in
theorem tfold_any (w : World) (g : Nat) (a : Option Nat) (texts : List (List UInt8)) (k i : Int) (x : List UInt8) (p : List (List UInt8)) (v : Value) (hx : x.length = 32) (hP : ∀ w' a', Grew w g a w' a' → Rd w' hE 32 v p) (ht : Tr w g a texts) (h32 : All32 p) (hlen : p.length < 1000000) (htl : texts.length < 900000000) (hi64 : i < 9223372036854775808) :
    Calls Try.prog 70 #[.pointer (some ⟨g, 0, none⟩), .int .i64 k, .agg (c8 x), .int .i64 i, v] w (TrRet w g a (texts ++ foldNt k x i.toNat p p.length) (.agg (c8 (foldK k x i p)))) := by
  obtain ⟨ad, cap, rfl, hc1, hc2⟩ := (hP w a (Grew.of_below g a (Below.refl _ _))).shape
  obtain ⟨i0, hi0⟩ : ∃ i0, i0 = i.toNat := ⟨_, rfl⟩
  obtain ⟨m, hm⟩ : ∃ m, m = p.length := ⟨_, rfl⟩
  have hib : i0 < 9223372036854775808 := by omega
  have hi2 : (i < 0 ∧ i0 = 0) ∨ i = (i0 : Int) := by omega
  have hf : foldK k x i p = foldAt k x i0 p m := by rw [hi0, hm]; rfl
  rw [hf]
  rw [← hi0]
  rw [← hm] at hc1 hP hlen ⊢
  have HP := Lib.hid hP; have H32 := Lib.hid h32; have HM := Lib.hid hm; have HX := Lib.hid hx; have HT := Lib.hid ht
  clear hP h32 hm hi0 hf hx hi64 ht
  rcases hi2 with ⟨hi, h0⟩ | rfl
  all_goals
    go_enter Try.func70, Try.ntmps70
    go_wp2_with (refine wpList_alloc_g rfl _ rfl _ _ Try.zeroHash rfl ?_)
    intro R w1 h1
    obtain ⟨G, hG⟩ : ∃ G, G = w.heap.size := ⟨_, rfl⟩
    have hg1 : w1.heap[G]? = some (.cells (c8 x) 48 (0, 0)) := by rw [hG]; exact (h1.out.below.block _ (by simp)).trans (heap_alloc_new _ _)
    have hR : R = G + 1 := by rw [hG]; have := h1.out.eq; simpa using this
    have hb1 : Below w.heap.size w w1 := ((Below.refl _ _).alloc (Nat.le_refl _) _).trans (h1.out.below.mono (by simp))
    have hr1 := h1.out.cells
    rw [← hG]
    have HT1 := Lib.hid (HT.out.later hb1)
    have HG1 := Lib.hid hg1; have HR := Lib.hid hR; have HGR1 := Lib.hid (Grew.of_below g a hb1); have HR1 := Lib.hid hr1; have HG := Lib.hid hG
    clear hg1 hR hb1 hr1 h1 hG
    go_wp2_with fail
    go_loopw [3, 17] (fun av bv wr => ∃ j q : Nat, j ≤ m ∧ bv = .int .i64 j ∧ Hid (q = i0 / 2 ^ j) ∧ av = .int .i64 q ∧ FoldT w g a (texts ++ foldNt k x i0 p j) G R (foldAt k x i0 p j) wr) (fun _ b _ => m - (intOf b).toNat)
    case atStart => exact ⟨0, i0, Nat.zero_le _, rfl, Lib.hid (by simp), (by first | rfl | (rw [(by assumption : i0 = 0)]; rfl)), a, (by show Tr _ _ _ (texts ++ []); rw [List.append_nil]; exact HT1.out), HGR1.out, HG1.out, HR1.out⟩
    case round =>
      obtain ⟨j, q, hj, rfl, hq, rfl, a1, htw, hgrw, hgw, hrw⟩ := hrel
      have hs32 := foldAt_length k x HX.out i0 p j
      obtain ⟨s, hs⟩ : ∃ s, s = foldAt k x i0 p j := ⟨_, rfl⟩
      rw [← hs] at hgw hs32
      have HGW := Lib.hid hgw; have HTW := Lib.hid htw; have HGRW := Lib.hid hgrw; have HRW := Lib.hid hrw; have HS := Lib.hid hs; have HS32 := Lib.hid hs32
      clear hgw htw hgrw hrw hs hs32
      by_cases hjm : j < m
      · have hpw : Rd wr hE 32 _ p := HP.out _ _ HGRW.out
        obtain ⟨pb, po, had, hpb⟩ := hpw.ptr (by rw [← HM.out]; omega)
        subst had
        obtain ⟨_, _, e1, _, hrange⟩ := hpw.hash H32.out j (by rw [← HM.out]; exact hjm)
        cases e1
        rw [← hAt_eq _ j (by rw [← HM.out]; exact hjm)] at hrange
        obtain ⟨y, hy⟩ : ∃ y, y = hAt p j := ⟨_, rfl⟩
        have hy32 : y.length = 32 := by rw [hy]; exact hAt_length H32.out _
        rw [← hy] at hrange
        have HTL : Hid ((texts ++ foldNt k x i0 p j).length < 1000000000) := Lib.hid (by rw [List.length_append]; have := foldNt_le k x i0 p j; omega)
        have HRG := Lib.hid hrange; have HY := Lib.hid hy; have HY32 := Lib.hid hy32
        clear hrange hy hy32 hpw
        have hq1 : q ≤ i0 := by rw [hq.out]; exact Nat.div_le_self _ _
        go_wp2_with (first
          | (refine wpList_load_mid rfl _ _ rfl pb (po + j * 32) rfl (y.map byteV) _ HRG.out Try.underlying48 rfl (Try.sizeHm _ HY32.out) ?_)
          | (refine wpList_alloc_g rfl _ rfl _ _ Try.zeroHash rfl ?_))
        intro Q w2 h2
        go_wp2_with (refine wpList_store_row_g (t := 48) (old := cB 32 []) rfl 48 _ _ rfl Q (c8 y) rfl rfl h2.out.cells (Try.sizeHs _ HY32.out) (by rw [c8_size, HY32.out]; rfl) (by rw [← cB_full 32 _ HY32.out]; exact one_b _ _) ?_)
        intro w3 h3 k3 z3
        have hb3 : Below wr.heap.size wr w3 := h2.out.below.trans (k3.below (B := wr.heap.size) (fun z hz e => by have := h2.out.eq; omega) h2.out.below.size)
        have HG3 := Lib.hid ((hb3.block G (heap_lt HGW.out)).trans HGW.out); have HR3 := Lib.hid ((hb3.block R (heap_lt HRW.out)).trans HRW.out); have HQ3 := Lib.hid h3
        have HT3 := Lib.hid (HTW.out.later hb3); have HGR3 := Lib.hid (HGRW.out.trans (Grew.of_below g a1 hb3))
        clear hb3 h3 k3 z3 h2
        have hq2 : q % 2 = 0 ∨ q % 2 = 1 := by omega
        rcases hq2 with hq2 | hq2
        · have hm1 : ((q : Int) % 2 == 0) = true := by simp; omega
          have hst : nodeK k s y = foldAt k x i0 p (j + 1) := by
            show _ = stepK k (i0 / 2 ^ j) (foldAt k x i0 p j) (hAt p j)
            unfold stepK
            rw [← hq.out, if_pos hq2, ← HS.out, ← HY.out]
          have hsn : foldNt k x i0 p j ++ nodeN k s y = foldNt k x i0 p (j + 1) := by
            show _ = foldNt k x i0 p j ++ stepN k (i0 / 2 ^ j) (foldAt k x i0 p j) (hAt p j)
            unfold stepN
            rw [← hq.out, if_pos hq2, ← HS.out, ← HY.out]
          have HST := Lib.hid hst; have HSN := Lib.hid hsn; clear hst hsn
          go_wp2_with (first
            | (refine wpList_load_row rfl _ _ rfl G rfl _ (c8 s) _ _ HG3.out Try.underlying48 rfl (Try.sizeHs _ HS32.out) ?_)
            | (refine wpList_load_row rfl _ _ rfl Q rfl _ (c8 y) _ _ HQ3.out Try.underlying48 rfl (Try.sizeHs _ HY32.out) ?_))
          refine (tnode_any w3 g a1 _ k s y HS32.out HY32.out HT3.out HTL.out).mono ?_
          rintro e w4 ⟨rfl, a4, ht4, hg4⟩
          rw [List.append_assoc, HSN.out] at ht4
          obtain ⟨z, hz⟩ : ∃ z, z = nodeK k s y := ⟨_, rfl⟩
          have hz32 : z.length = 32 := by rw [hz]; exact nodeK_length _ _ _
          rw [← hz] at HST ⊢
          have HZ32 := Lib.hid hz32
          have HG4 := Lib.hid (tr_other HT3.out hg4 HG3.out (by decide)); have HR4 := Lib.hid (tr_other HT3.out hg4 HR3.out (by decide))
          have HT4 := Lib.hid ht4; have HGR4 := Lib.hid (HGR3.out.trans hg4)
          clear ht4 hg4 hz hz32
          go_wp2_with (refine wpList_store_row_g (t := 48) (old := c8 s) rfl 48 _ _ rfl G (c8 z) rfl rfl HG4.out (Try.sizeHs _ HZ32.out) (by rw [c8_size, c8_size, HS32.out, HZ32.out]) (by rw [← cB_full 32 _ HZ32.out]; exact one_b _ _) ?_)
          intro w5 h5 k5 z5
          rw [HST.out] at h5
          have HT5 := Lib.hid (HT4.out.keep1 k5 HG4.out (by decide)); have HGR5 := Lib.hid (HGR4.out.to (by rw [HG.out]; exact Nat.le_refl _) k5)
          have HG5 := Lib.hid h5; have HR5 := Lib.hid (k5.at HR4.out (by have := HR.out; omega))
          clear h5 k5 z5
          go_wp2_with fail
          go_roundw
          case rel => exact ⟨j + 1, q / 2, by omega, by go_num, Lib.hid (by rw [hq.out, place_next]), by go_num, a4, HT5.out, HGR5.out, HG5.out, HR5.out⟩
          case measure => simp [intOf]; omega
        · have hm1 : ((q : Int) % 2 == 0) = false := by simp; omega
          have hst : nodeK k y s = foldAt k x i0 p (j + 1) := by
            show _ = stepK k (i0 / 2 ^ j) (foldAt k x i0 p j) (hAt p j)
            unfold stepK
            rw [← hq.out, if_neg (by omega), ← HS.out, ← HY.out]
          have hsn : foldNt k x i0 p j ++ nodeN k y s = foldNt k x i0 p (j + 1) := by
            show _ = foldNt k x i0 p j ++ stepN k (i0 / 2 ^ j) (foldAt k x i0 p j) (hAt p j)
            unfold stepN
            rw [← hq.out, if_neg (by omega), ← HS.out, ← HY.out]
          have HST := Lib.hid hst; have HSN := Lib.hid hsn; clear hst hsn
          go_wp2_with (first
            | (refine wpList_load_row rfl _ _ rfl G rfl _ (c8 s) _ _ HG3.out Try.underlying48 rfl (Try.sizeHs _ HS32.out) ?_)
            | (refine wpList_load_row rfl _ _ rfl Q rfl _ (c8 y) _ _ HQ3.out Try.underlying48 rfl (Try.sizeHs _ HY32.out) ?_))
          refine (tnode_any w3 g a1 _ k y s HY32.out HS32.out HT3.out HTL.out).mono ?_
          rintro e w4 ⟨rfl, a4, ht4, hg4⟩
          rw [List.append_assoc, HSN.out] at ht4
          obtain ⟨z, hz⟩ : ∃ z, z = nodeK k y s := ⟨_, rfl⟩
          have hz32 : z.length = 32 := by rw [hz]; exact nodeK_length _ _ _
          rw [← hz] at HST ⊢
          have HZ32 := Lib.hid hz32
          have HG4 := Lib.hid (tr_other HT3.out hg4 HG3.out (by decide)); have HR4 := Lib.hid (tr_other HT3.out hg4 HR3.out (by decide))
          have HT4 := Lib.hid ht4; have HGR4 := Lib.hid (HGR3.out.trans hg4)
          clear ht4 hg4 hz hz32
          go_wp2_with (refine wpList_store_row_g (t := 48) (old := c8 s) rfl 48 _ _ rfl G (c8 z) rfl rfl HG4.out (Try.sizeHs _ HZ32.out) (by rw [c8_size, c8_size, HS32.out, HZ32.out]) (by rw [← cB_full 32 _ HZ32.out]; exact one_b _ _) ?_)
          intro w5 h5 k5 z5
          rw [HST.out] at h5
          have HT5 := Lib.hid (HT4.out.keep1 k5 HG4.out (by decide)); have HGR5 := Lib.hid (HGR4.out.to (by rw [HG.out]; exact Nat.le_refl _) k5)
          have HG5 := Lib.hid h5; have HR5 := Lib.hid (k5.at HR4.out (by have := HR.out; omega))
          clear h5 k5 z5
          go_wp2_with fail
          go_roundw
          case rel => exact ⟨j + 1, q / 2, by omega, by go_num, Lib.hid (by rw [hq.out, place_next]), by go_num, a4, HT5.out, HGR5.out, HG5.out, HR5.out⟩
          case measure => simp [intOf]; omega
      · obtain rfl : j = m := by omega
        go_wp2_with (first
          | (refine wpList_load_row rfl _ _ rfl G rfl _ (c8 s) _ _ HGW.out Try.underlying48 rfl (Try.sizeHs _ HS32.out) ?_)
          | (refine wpList_store_row_g (t := 48) (old := cB 32 []) rfl 48 _ _ rfl R (c8 s) rfl rfl HRW.out (Try.sizeHs _ HS32.out) (by rw [c8_size, HS32.out]; rfl) (by rw [← cB_full 32 _ HS32.out]; exact one_b _ _) ?_))
        intro w5 h5 k5 z5
        have H5 := Lib.hid h5
        have HT5 := Lib.hid (HTW.out.keep1 k5 HRW.out (by decide)); have HGR5 := Lib.hid (HGRW.out.to (by have := HR.out; have := HG.out; omega) k5)
        clear h5 k5 z5
        go_wp2_with fail
        exact bodyPost_ret (results_cell_row rfl _ _ R _ (c8 s) _ _ rfl H5.out Try.underlying48 rfl (Try.sizeHs _ HS32.out)) rfl ⟨by rw [HS.out], a1, HT5.out, HGR5.out⟩
end Go.Proofs.Ytbfdjjaonjepnaa
