/- A slice of slices of bytes, from the frame's reading. No condition. tallagelaw06.MerkleTrees: its walk. tallageref06.Tree.Twins. tallagelaw06.MerkleApart: its walk. tallagelaw06.MerkleRows: its walk. Proofs of places, plainly; tallagelaw07.light; proof.Build. -/
import Derived.Test.YtmclmccgghnglaaGreatLfOpen
import Derived.Test.YtmclmccgghnglaaGreatLf8
import Derived.Test.YtmclmccgghnglaaGreatLf15
import Derived.WalkMore
import Derived.Laws.BitsLemmas
namespace Go.Proofs.YtmclmccgghnglaaGreat
section
open Go.RowKit

section
variable {H : Type} {enc : TypeId × Value → H} {P : Program} {w : World} {base : Nat} {spare : Nat → Bool} {held : Bool}
end
end
section
open Go.RowKit

theorem Grew.far {w w' : World} {g : Nat} {a a' : Option Nat} {B : Nat} (h : Grew w g a w' a') (hB : B ≤ w.heap.size) (ha : ∀ k, a = some k → B ≤ k) : ∀ k, a' = some k → B ≤ k := by
  intro k hk
  rcases h.2 with h2 | ⟨x, h2, h3⟩
  · exact ha k (h2 ▸ hk)
  · rw [h2] at hk; cases hk; omega
def rowsV (k : Int) (l : List (List UInt8)) : List (List (List UInt8)) := if whyF k l.length = 0 then levelsF k.toNat l else []
theorem RowsOwn.nil (w : World) (B : Nat) : RowsOwn w B (.slice none 0 0) [] := ⟨[], Own.nil _ _ _ _ _, rfl, fun i u r p _ => by simp at p⟩
end
section
open Go.RowKit

theorem Tr.texts {w : World} {g : Nat} {a : Option Nat} {texts : List (List UInt8)} (h : Tr w g a texts) : ∃ v, w.heap[g]? = some (.cells #[v] 28 (0, 0)) ∧ Texts w v texts := by
  obtain ⟨v, vs, h1, h2, _, h4, h5⟩ := h
  exact ⟨v, h1, vs, h2.rd slE_len, h4, fun i u l p q => (h5 i u l p q).1⟩
/-- Text number i. -/
def tAt (l : List (List UInt8)) (i : Nat) : List UInt8 := l.getD i []
/-- What holds at the head of the loop over the texts. -/
def TwL (w : World) (l : List (List UInt8)) (i : Nat) (x : Value) (wr : World) : Prop := Below w.heap.size w wr ∧ Own wr w.heap.size 36 hE 32 x ((l.take i).map shaF) ∧ ¬ Twin (l.take i)
end
section
open Go.RowKit

/-- Alike up to number i. -/
def AlikeTo (a b : List (List UInt8)) (i : Nat) : Prop := ∀ j, j < i → tAt a j = tAt b j
theorem rootV_ok {k : Int} {l : List (List UInt8)} (h : whyF k l.length = 0) : rootV k l = .tuple #[.agg (c8 (rootF k.toNat l)), .int .i64 0] := by unfold rootV; rw [if_pos h]
end
section
open Go.RowKit

/-- Row number j. -/
def rowN (k : Int) (l : List (List UInt8)) (j : Nat) : List (List UInt8) := rowAt k.toNat (groundF k.toNat (depthF l.length) l) j
theorem rowN_32 (k : Int) (l : List (List UInt8)) (j : Nat) : All32 (rowN k l j) := rowAt_32 _ _ (groundF_32 _ _ _) j
theorem rowN_pow (k : Int) (l : List (List UInt8)) (j : Nat) (hj : j ≤ depthF l.length) : (rowN k l j).length = 2 ^ (depthF l.length - j) := rowAt_pow _ _ _ (groundF_length _ _ _) j hj
theorem rowN_half (k : Int) (l : List (List UInt8)) (j : Nat) (hj : j + 1 ≤ depthF l.length) : (rowN k l j).length = 2 * (rowN k l (j + 1)).length := by
  rw [rowN_pow k l j (by omega), rowN_pow k l (j + 1) hj, show depthF l.length - j = (depthF l.length - (j + 1)) + 1 by omega, Nat.pow_succ]
  omega
theorem rowN_len (k : Int) (l : List (List UInt8)) (j : Nat) (hj : j ≤ depthF l.length) (hn : l.length ≤ 1024) : 0 < (rowN k l j).length ∧ (rowN k l j).length ≤ 1024 := by
  rw [rowN_pow k l j hj]
  exact ⟨Nat.pow_pos (by omega), Nat.le_trans (Nat.pow_le_pow_right (by omega) (Nat.le_trans (Nat.sub_le _ _) (depthF_10 _ hn))) (by decide)⟩
theorem rowN_top (k : Int) (l : List (List UInt8)) : rowN k l (depthF l.length) = [rootF k.toNat l] := top_eq _ _
theorem rowN_node {k : Int} (hk : k = 1 ∨ k = 2) (l : List (List UInt8)) (j m : Nat) (hj : j + 1 ≤ depthF l.length) (hm : m < (rowN k l (j + 1)).length) : hAt (rowN k l (j + 1)) m = nodeK k (hAt (rowN k l j) (2 * m)) (hAt (rowN k l j) (2 * m + 1)) := by
  have h2 := rowN_half k l j hj
  have e := row_up k.toNat (rowN k l j)
  have hm2 : m < (upF k.toNat (rowN k l j)).length := hm
  rw [hAt_eq _ m hm]
  unfold nodeK
  rw [if_pos hk]
  have h3 : (rowN k l (j + 1))[m]? = some (nodeF k.toNat (hAt (rowN k l j) (2 * m)) (hAt (rowN k l j) (2 * m + 1))) := by
    show (upF k.toNat (rowN k l j))[m]? = _
    rw [← e, List.getElem?_map, List.getElem?_range (by omega)]; rfl
  rw [List.getElem?_eq_getElem hm] at h3
  exact Option.some.inj h3
theorem rowN_leaf {k : Int} (hk : k = 1 ∨ k = 2) (l : List (List UInt8)) (i : Nat) (hi : i < l.length) : hAt (rowN k l 0) i = leafK k (tAt l i) ∧ i < (rowN k l 0).length := by
  have h0 := depthF_ge l.length
  have h1 : i < (rowN k l 0).length := by rw [rowN_pow k l 0 (Nat.zero_le _), Nat.sub_zero]; omega
  refine ⟨?_, h1⟩
  rw [hAt_eq _ i h1]
  unfold leafK
  rw [if_pos hk]
  have h3 : (rowN k l 0)[i]? = some (leafF k.toNat (l.getD i [])) := groundF_at _ _ _ _ (by omega)
  rw [List.getElem?_eq_getElem h1] at h3
  exact Option.some.inj h3
theorem rows_at {w : World} {rb ro n cap : Nat} {k : Int} {l : List (List UInt8)} (h : RowsAt w (.slice (some ⟨rb, ro, none⟩) n cap) (levelsF k.toNat l)) (j : Nat) (hj : j ≤ depthF l.length) (hn : l.length ≤ 1024) :
    ∃ p q rc len, len = (rowN k l j).length ∧ 0 < len ∧ len ≤ 1024 ∧ rb < w.heap.size ∧ w.cell? ⟨rb, ro + j, none⟩ = some (.slice (some ⟨p, q, none⟩) len rc) ∧ p < w.heap.size ∧ Rd w hE 32 (.slice (some ⟨p, q, none⟩) len rc) (rowN k l j) := by
  obtain ⟨b, off, u, e, hb, hc, hr⟩ := h.at j (by rw [levelsF_length]; omega)
  cases e
  have he := levelsF_at k.toNat l j hj
  rw [List.getElem?_eq_getElem (by rw [levelsF_length]; omega)] at he
  have he2 : (levelsF k.toNat l)[j]'(by rw [levelsF_length]; omega) = rowN k l j := Option.some.inj he
  rw [he2] at hr
  have hl := rowN_len k l j hj hn
  obtain ⟨rad, rc, hu, _, _⟩ := hr.shape
  subst hu
  obtain ⟨p, q, hpq, hp⟩ := hr.ptr hl.1
  subst hpq
  exact ⟨p, q, rc, _, rfl, hl.1, hl.2, hb, hc, hp, hr⟩
end
section
open Go.RowKit

/-- Beside number x. -/
def bes (x : Nat) : Nat := if x % 2 = 1 then x - 1 else x + 1
theorem bes_lt {x m : Nat} (h : x < 2 ^ (m + 1)) : bes x < 2 ^ (m + 1) := by
  rw [Nat.pow_succ] at h ⊢
  unfold bes; split <;> omega
/-- The hashes beside the way of number i. -/
def proofF (k : Int) (l : List (List UInt8)) (i : Nat) : List (List UInt8) := (List.range (depthF l.length)).map fun j => hAt (rowN k l j) (bes (i / 2 ^ j))
/-- Build's error, and its hashes. -/
def proofE (k : Int) (l : List (List UInt8)) (i : Int) : Int := if whyF k l.length = 0 then (if i < 0 ∨ (l.length : Int) ≤ i then 5 else 0) else whyF k l.length
def proofV (k : Int) (l : List (List UInt8)) (i : Int) : List (List UInt8) := if proofE k l i = 0 then proofF k l i.toNat else []
theorem proofF_length (k : Int) (l : List (List UInt8)) (i : Nat) : (proofF k l i).length = depthF l.length := by simp [proofF]
theorem proofF_32 (k : Int) (l : List (List UInt8)) (i : Nat) : All32 (proofF k l i) := by
  intro x hx
  unfold proofF at hx
  obtain ⟨j, _, rfl⟩ := List.mem_map.1 hx
  exact hAt_length (rowN_32 _ _ _) _
theorem proofF_take (k : Int) (l : List (List UInt8)) (i j : Nat) (hj : j < depthF l.length) : (proofF k l i).take (j + 1) = (proofF k l i).take j ++ [hAt (rowN k l j) (bes (i / 2 ^ j))] := by
  rw [List.take_succ_eq_append_getElem (by rw [proofF_length]; exact hj)]
  simp [proofF]
theorem place_lt {i n j : Nat} (hi : i < n) (hj : j ≤ depthF n) : i / 2 ^ j < 2 ^ (depthF n - j) := by
  have h := depthF_ge n
  rw [Nat.div_lt_iff_lt_mul (Nat.pow_pos (by omega)), ← Nat.pow_add, Nat.sub_add_cancel hj]
  omega
theorem place_next (i j : Nat) : i / 2 ^ (j + 1) = i / 2 ^ j / 2 := by rw [Nat.pow_succ, Nat.div_div_eq_div_mul]
theorem rootV_no {k : Int} {l : List (List UInt8)} (h : ¬ whyF k l.length = 0) : rootV k l = .tuple #[.agg (c8 zero32), .int .i64 (whyF k l.length)] := by unfold rootV; rw [if_neg h]

theorem nat_xor1 (x : Nat) : x ^^^ 1 = bes x := by
  have h1 : (x ^^^ 1) / 2 = x / 2 := by rw [Nat.xor_div_two]; simp
  have h2 := @Nat.xor_mod_two_eq_one x 1
  unfold bes
  split <;> omega
theorem i64_xor1 (x : Nat) (hx : x < 9223372036854775807) : bits .xor .i64 (x : Int) 1 = (bes x : Int) := by
  show IntKind.i64.wrap ((BitVec.ofInt 64 (x : Int) ^^^ BitVec.ofInt 64 1).toNat : Int) = _
  have h1 : (BitVec.ofInt 64 1).toNat = 1 := by decide
  have h2 : (BitVec.ofInt 64 (x : Int)).toNat = x := by
    rw [BitVec.ofInt_natCast, BitVec.toNat_ofNat]; exact Nat.mod_eq_of_lt (by omega)
  have h3 : bes x ≤ x + 1 := by unfold bes; split <;> omega
  rw [BitVec.toNat_xor, h1, h2, nat_xor1, IntKind.wrap_i64]
  omega
theorem i64_and1 (n : Int) : bits .and .i64 n 1 = n % 2 := by
  have h1 : (BitVec.ofInt 64 1).toNat = 2 ^ 1 - 1 := by decide
  have key : (BitVec.ofInt 64 n &&& BitVec.ofInt 64 1).toNat = (n % ((2 ^ 64 : Nat) : Int)).toNat % 2 ^ 1 := by
    rw [BitVec.toNat_and, BitVec.toNat_ofInt, h1, Nat.and_two_pow_sub_one_eq_mod]
  show IntKind.i64.wrap ((BitVec.ofInt 64 n &&& BitVec.ofInt 64 1).toNat : Nat) = n % 2
  rw [key, IntKind.wrap_i64]
  omega

set_option maxRecDepth 100000 in
set_option maxHeartbeats 4000000 in
theorem pbuild_any (k i : Int) (l : List (List UInt8)) (v : Value) (w : World) (h : Texts w v l) (hf : Fair l) :
    Calls Tryz.prog 91 #[.int .i64 k, v, .int .i64 i] w fun e w' => ∃ v', e = .returned (.tuple #[v', .int .i64 (proofE k l i)]) ∧ Own w' w.heap.size 36 hE 32 v' (proofV k l i) ∧ Below w.heap.size w w' := by
  obtain ⟨ad, cap, rfl, hc1, hc2⟩ := h.shape
  have H := Lib.hid h; have HF := Lib.hid hf
  clear h hf
  obtain ⟨n, hn⟩ : ∃ n, n = l.length := ⟨_, rfl⟩
  rw [← hn] at hc1 H ⊢
  have HN := Lib.hid hn
  by_cases hy : whyF k l.length = 0
  · obtain ⟨hk, h1, hn1⟩ := why_zero hy
    obtain ⟨ga, hra, hga32⟩ : ∃ ga, rootV k l = .tuple #[.agg (c8 ga), .int .i64 0] ∧ ga.length = 32 := ⟨_, rootV_ok hy, rootF_length _ _⟩
    rw [← hn] at h1 hn1
    by_cases hi : i < 0 ∨ (n : Int) ≤ i
    · have hE : proofE k l i = 5 := by unfold proofE; rw [if_pos hy, if_pos (by rw [← hn]; exact hi)]
      have hV : proofV k l i = [] := by unfold proofV; rw [hE]; rfl
      rw [hE, hV]
      have HRA := Lib.hid hra; have HG32 := Lib.hid hga32
      clear hra hga32 hE hV hy hn
      have hi2 : i < 0 ∨ (¬ i < 0 ∧ (n : Int) ≤ i) := by omega
      clear hi
      rcases hi2 with hi | ⟨hi, hi3⟩
      all_goals
        go_enter Tryz.func91, Tryz.ntmps91
        go_wp2_with fail
        go_step3
        go_wp2_with fail
        refine (mroot_any k l _ _ H.out HF.out).mono ?_
        rintro e w2 ⟨rfl, hb2⟩
        rw [HRA.out]
        have HB2 := Lib.hid hb2; clear hb2
        go_wp2_with (refine wpList_alloc_g rfl _ rfl _ _ Tryz.zeroHash rfl ?_)
        intro R w3 h3
        go_wp2_with (refine wpList_store_row_g (t := 36) (old := cB 32 []) rfl 36 _ _ rfl R (c8 ga) rfl rfl h3.out.cells (Tryz.sizeHs _ HG32.out) (by rw [c8_size, HG32.out]; rfl) (by rw [← cB_full 32 _ HG32.out]; exact one_b _ _) ?_)
        intro w4 h4 k4 z4
        have hb24 : Below w2.heap.size w2 w4 := h3.out.below.trans (k4.below (B := w2.heap.size) (fun q hq e => by have := h3.out.eq; omega) h3.out.below.size)
        have HB4 := Lib.hid (HB2.out.trans (hb24.mono HB2.out.size))
        clear hb24 h4 k4 z4 h3 HB2
        go_wp2_with fail
        rw [Exit.noGoto_ret]
        go_ret2
        exact ⟨_, rfl, Own.nil _ _ _ _ _, HB4.out⟩
    · have hi1 : ¬ i < 0 := by omega
      have hi2 : ¬ (n : Int) ≤ i := by omega
      have hE : proofE k l i = 0 := by unfold proofE; rw [if_pos hy, if_neg (by rw [← hn]; exact hi)]
      have hV : proofV k l i = proofF k l i.toNat := by unfold proofV; rw [hE]; rfl
      rw [hE, hV]
      have HRA := Lib.hid hra; have HG32 := Lib.hid hga32; have HK := Lib.hid hk
      clear hra hga32 hE hV hy hn hi hk
      obtain ⟨i0, rfl⟩ : ∃ i0 : Nat, i = (i0 : Int) := ⟨i.toNat, by omega⟩
      rw [Int.toNat_natCast]
      have hin : i0 < n := by omega
      replace hi1 : ((i0 : Int) < 0) = False := eq_false hi1
      have hi3 : ¬ n ≤ i0 := by omega
      go_enter Tryz.func91, Tryz.ntmps91
      go_wp2_with fail
      go_step3
      go_wp2_with fail
      refine (mroot_any k l _ _ H.out HF.out).mono ?_
      rintro e w2 ⟨rfl, hb2⟩
      rw [HRA.out]
      have HB2 := Lib.hid hb2; clear hb2
      go_wp2_with (refine wpList_alloc_g rfl _ rfl _ _ Tryz.zeroHash rfl ?_)
      intro R w3 h3
      go_wp2_with (refine wpList_store_row_g (t := 36) (old := cB 32 []) rfl 36 _ _ rfl R (c8 ga) rfl rfl h3.out.cells (Tryz.sizeHs _ HG32.out) (by rw [c8_size, HG32.out]; rfl) (by rw [← cB_full 32 _ HG32.out]; exact one_b _ _) ?_)
      intro w4 h4 k4 z4
      have hb24 : Below w2.heap.size w2 w4 := h3.out.below.trans (k4.below (B := w2.heap.size) (fun q hq e => by have := h3.out.eq; omega) h3.out.below.size)
      have HB4 := Lib.hid (HB2.out.trans (hb24.mono HB2.out.size))
      clear hb24 h4 k4 z4 h3 HB2
      go_wp2_with fail
      obtain ⟨d, hd⟩ : ∃ d, d = depthF l.length := ⟨_, rfl⟩
      have hd10 : d ≤ 10 := by rw [hd]; exact depthF_10 _ (by have := HN.out; omega)
      have HD := Lib.hid hd; have HN10 : Hid (l.length ≤ 1024) := Lib.hid (by have := HN.out; omega)
      clear hd
      refine (levels_any k l _ _ (H.out.later HB4.out) HK.out (by have := HN.out; omega) HN10.out HF.out).mono ?_
      rintro e w5 ⟨v5, rfl, hr5, hb5⟩
      replace hr5 := hr5.rows
      obtain ⟨rad, rcap, hv5, hrc1, hrc2⟩ := hr5.shape
      rw [levelsF_length, ← HD.out] at hv5 hrc1
      subst hv5
      obtain ⟨rb, ro, u0, hrad, hrb, _, _⟩ := hr5.at 0 (by rw [levelsF_length]; omega)
      subst hrad
      have hrow : ∀ j, j ≤ d → _ := fun j hj => rows_at hr5 j (by rw [← HD.out]; exact hj) HN10.out
      have HROW := Lib.hid hrow; have HB5 := Lib.hid (HB4.out.trans (hb5.mono HB4.out.size))
      clear hrow hr5 hb5
      go_wp2_with fail
      go_step3
      go_wp2_with fail
      go_loopw [2, 10, 36] (fun x y z wr => ∃ j p : Nat, j ≤ d ∧ z = .int .i64 j ∧ Hid (p = i0 / 2 ^ j) ∧ x = .int .i64 p ∧ Own wr w5.heap.size 36 hE 32 y ((proofF k l i0).take j) ∧ Below w5.heap.size w5 wr) (fun _ _ z _ => d + 1 - (intOf z).toNat)
      case atStart => exact ⟨0, i0, Nat.zero_le _, rfl, Lib.hid (by simp), rfl, Own.nil _ _ _ _ _, Below.refl _ _⟩
      case round =>
        obtain ⟨j, p, hj, rfl, hp, rfl, hown, hb⟩ := hrel
        have hjd : (j : Int) < (d : Int) + 1 := by omega
        obtain ⟨pj, qj, rcj, h, hh, hh1, hh2, hrb5, hcj, hpj, hrdj⟩ := HROW.out j hj
        have hcw := (hb.cell (p := ⟨rb, ro + j, none⟩) hrb5).trans hcj
        have hlen : h = 2 ^ (d - j) := by rw [hh, rowN_pow k l j (by rw [← HD.out]; exact hj), HD.out]
        by_cases hjd2 : j < d
        · have hpl : p < 2 ^ (d - j) := by rw [hp.out, HD.out]; exact place_lt (by rw [← HN.out]; exact hin) (by rw [← HD.out]; exact hj)
          have hbl : bes p < h := by
            rw [hlen, show d - j = d - j - 1 + 1 by omega] at *
            exact bes_lt hpl
          have hh3 : 2 ≤ h := by
            have : 2 ^ 1 ≤ 2 ^ (d - j) := Nat.pow_le_pow_right (by omega) (by omega)
            rw [hlen]; exact this
          rw [← hlen] at hpl
          have hne : ((h : Int) == 1) = false := by simp; omega
          obtain ⟨y, hy⟩ : ∃ y, y = hAt (rowN k l j) (bes p) := ⟨_, rfl⟩
          have hy32 : y.length = 32 := by rw [hy]; exact hAt_length (rowN_32 _ _ _) _
          obtain ⟨_, _, e1, _, hrange⟩ := (hrdj.later hb).hash (rowN_32 _ _ _) (bes p) (by rw [← hh]; exact hbl)
          cases e1
          rw [← hAt_eq _ (bes p) (by rw [← hh]; exact hbl), ← hy] at hrange
          have htk := proofF_take k l i0 j (by rw [← HD.out]; exact hjd2)
          rw [← hp.out, ← hy] at htk
          have hlr : ((proofF k l i0).take j).length = j := by rw [List.length_take, proofF_length, ← HD.out]; omega
          obtain ⟨oad, on, ocap, hox⟩ := hown.slice
          subst hox
          have hxor : bits BinOp.xor IntKind.i64 (p : Int) 1 = (bes p : Int) := i64_xor1 p (by omega)
          have hbi : (bes p : Int) < (h : Int) := by omega
          obtain ⟨q, hq⟩ : ∃ q, q = bes p := ⟨_, rfl⟩
          rw [← hq] at hxor hbi hrange
          have HRG := Lib.hid hrange; have HY32 := Lib.hid hy32; have HTK := Lib.hid htk; have HOWN := Lib.hid hown; have HBR := Lib.hid hb; have HLR := Lib.hid hlr
          clear hrange hy hy32 htk hown hb hlr hh hlen hq hcj hrdj hbl hh1 hpl
          go_wp2_with (first
            | (refine wpList_load_mid rfl _ _ rfl pj (qj + q * 32) rfl (y.map byteV) _ HRG.out Tryz.underlying36 rfl (Tryz.sizeHm _ HY32.out) ?_)
            | (refine wpList_build1 rfl 42 _ rfl Tryz.underlying42 Tryz.infoHash rfl (by omega) (by omega) (.agg (c8 y)) (c8 y) rfl rfl (by rw [c8_size, HY32.out]) ?_)
            | (at_builtin; refine own_app rfl _ _ _ rfl Tryz.underlying42 Tryz.infoHash rfl (by omega) (B := w5.heap.size) (base := w5.heap.size) (w0 := w5) (us := c8 y) y HOWN.out rfl rfl (by rw [hE_32 _ HY32.out]; rfl) (hE_len _) (hE_one _) (by rw [HLR.out]; unfold maxLen; omega) (by rw [HLR.out]; omega) HBR.out (Nat.le_refl _) HBR.out.size (Nat.le_refl _) ?_))
          intro v' w7 hown7 hb7 hg7 _
          obtain ⟨oad', on', ocap', hox⟩ := hown7.slice
          subst hox
          rw [← HTK.out] at hown7
          have HO7 := Lib.hid hown7; have HB7 := Lib.hid hb7
          clear hown7 hb7 hg7 hcw
          go_wp2_with fail
          go_roundw
          case rel => exact ⟨j + 1, p / 2, by omega, by go_num, Lib.hid (by rw [hp.out, place_next]), by go_num, HO7.out, HB7.out⟩
          case measure => simp [intOf]; omega
        · obtain rfl : j = d := by omega
          have hl1 : h = 1 := by rw [hlen, Nat.sub_self]
          subst hl1
          rw [List.take_of_length_le (by rw [proofF_length, ← HD.out]; exact Nat.le_refl _)] at hown
          obtain ⟨oad, on, ocap, hox⟩ := hown.slice
          subst hox
          have HOWN := Lib.hid (hown.mono HB5.out.size); have HBR := Lib.hid (HB5.out.trans (hb.mono HB5.out.size))
          clear hown hb hh hlen hcj hrdj
          go_wp2_with fail
          rw [Exit.noGoto_ret]
          go_ret2
          exact ⟨_, rfl, HOWN.out, HBR.out⟩
  · have hE : proofE k l i = whyF k l.length := by unfold proofE; rw [if_neg hy]
    have hV : proofV k l i = [] := by unfold proofV; rw [hE, if_neg hy]
    rw [hE, hV]
    obtain ⟨ga, hra, hga32⟩ : ∃ ga, rootV k l = .tuple #[.agg (c8 ga), .int .i64 (whyF k l.length)] ∧ ga.length = 32 := ⟨_, rootV_no hy, rfl⟩
    have HRA := Lib.hid hra; have HG32 := Lib.hid hga32
    have hne : (whyF k l.length != 0) = true := by simpa using hy
    obtain ⟨ye, hye⟩ : ∃ ye, ye = whyF k l.length := ⟨_, rfl⟩
    rw [← hye] at hne HRA ⊢
    clear hra hga32 hE hV hy hn hye
    go_enter Tryz.func91, Tryz.ntmps91
    go_wp2_with fail
    go_step3
    go_wp2_with fail
    refine (mroot_any k l _ _ H.out HF.out).mono ?_
    rintro e w2 ⟨rfl, hb2⟩
    rw [HRA.out]
    have HB2 := Lib.hid hb2; clear hb2
    go_wp2_with (refine wpList_alloc_g rfl _ rfl _ _ Tryz.zeroHash rfl ?_)
    intro R w3 h3
    go_wp2_with (refine wpList_store_row_g (t := 36) (old := cB 32 []) rfl 36 _ _ rfl R (c8 ga) rfl rfl h3.out.cells (Tryz.sizeHs _ HG32.out) (by rw [c8_size, HG32.out]; rfl) (by rw [← cB_full 32 _ HG32.out]; exact one_b _ _) ?_)
    intro w4 h4 k4 z4
    have hb24 : Below w2.heap.size w2 w4 := h3.out.below.trans (k4.below (B := w2.heap.size) (fun q hq e => by have := h3.out.eq; omega) h3.out.below.size)
    have HB4 := Lib.hid (HB2.out.trans (hb24.mono HB2.out.size))
    clear hb24 h4 k4 z4 h3 HB2
    go_wp2_with fail
    rw [Exit.noGoto_ret]
    go_ret2
    exact ⟨_, rfl, Own.nil _ _ _ _ _, HB4.out⟩
end
end Go.Proofs.YtmclmccgghnglaaGreat
