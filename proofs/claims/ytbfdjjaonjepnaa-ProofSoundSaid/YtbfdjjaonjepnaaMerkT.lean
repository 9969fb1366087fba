/- tallagelaw06.MerkleTrees: its walk. -/
import Derived.Test.YtbfdjjaonjepnaaMerkS
import Derived.Test.YtbfdjjaonjepnaaOpenT
namespace Go.Proofs.Ytbfdjjaonjepnaa
open Go.RowKit

theorem light_fair {l : List (List UInt8)} (h : lightB l = true) : Fair l ∧ l.length ≤ 40 := by
  unfold lightB at h
  have h2 := of_decide_eq_true h
  refine ⟨fun b hb => ?_, h2.1⟩
  obtain ⟨i, hi, rfl⟩ := List.getElem_of_mem hb
  have h3 := flat_le l i hi
  have h4 := h2.2
  unfold total at h4
  omega
theorem texts_grew {w w1 : World} {v : Value} {l : List (List UInt8)} {g : Nat} {a : Option Nat} (hT : Texts w v l) (hb : Below w.heap.size w w1) (hg : w.heap.size ≤ g) (ha : ∀ k, a = some k → w.heap.size ≤ k) : ∀ w' a', Grew w1 g a w' a' → Texts w' v l :=
  fun _ _ h => hT.later (hb.trans (h.below hb.size hg ha))
theorem Grew.far {w w' : World} {g : Nat} {a a' : Option Nat} {B : Nat} (h : Grew w g a w' a') (hB : B ≤ w.heap.size) (ha : ∀ k, a = some k → B ≤ k) : ∀ k, a' = some k → B ≤ k := by
  intro k hk
  rcases h.2 with h2 | ⟨x, h2, h3⟩
  · exact ha k (h2 ▸ hk)
  · rw [h2] at hk; cases hk; omega
/-- A root's value has two parts. -/
theorem rootV_two (k : Int) (l : List (List UInt8)) : ∃ h e, rootV k l = .tuple #[.agg (c8 h), .int .i64 e] ∧ h.length = 32 := by
  unfold rootV
  split
  · exact ⟨_, _, rfl, rootF_length _ _⟩
  · exact ⟨_, _, rfl, zero32_length⟩
def rowsV (k : Int) (l : List (List UInt8)) : List (List (List UInt8)) := if whyF k l.length = 0 then levelsF k.toNat l else []
theorem RowsOwn.nil (w : World) (B : Nat) : RowsOwn w B (.slice none 0 0) [] := ⟨[], Own.nil _ _ _ _ _, rfl, fun i u r p _ => by simp at p⟩
theorem levels_all (k : Int) (l : List (List UInt8)) (v : Value) (w : World) (h : Texts w v l) (hf : Fair l) : Calls Try.prog 52 #[.int .i64 k, v] w fun e w' => ∃ v', e = .returned v' ∧ RowsOwn w' w.heap.size v' (rowsV k l) ∧ Below w.heap.size w w' := by
  by_cases hy : whyF k l.length = 0
  · obtain ⟨hk, h1, hn⟩ := why_zero hy
    have : rowsV k l = levelsF k.toNat l := by unfold rowsV; rw [if_pos hy]
    rw [this]
    exact levels_any k l v w h hk h1 hn hf
  · have : rowsV k l = [] := by unfold rowsV; rw [if_neg hy]
    rw [this]
    obtain ⟨ad, cap, rfl, _⟩ := h.shape
    exact (levels_no k ad l.length cap w hy).mono fun e w' h => ⟨_, h.1, RowsOwn.nil _ _, h.2⟩
theorem tlevels_all (w : World) (g : Nat) (a : Option Nat) (texts : List (List UInt8)) (k : Int) (l : List (List UInt8)) (v : Value) (hT : ∀ w' a', Grew w g a w' a' → Texts w' v l) (ht : Tr w g a texts) (hf : Fair l) (htl : texts.length < 900000000) :
    Calls Try.prog 53 #[.pointer (some ⟨g, 0, none⟩), .int .i64 k, v] w fun e w' => ∃ v' a', e = .returned v' ∧ RowsAt w' v' (rowsV k l) ∧ Tr w' g a' (texts ++ notesV k l) ∧ Grew w g a w' a' := by
  by_cases hy : whyF k l.length = 0
  · obtain ⟨hk, h1, hn⟩ := why_zero hy
    have e1 : rowsV k l = levelsF k.toNat l := by unfold rowsV; rw [if_pos hy]
    have e2 : notesV k l = notesF k.toNat l := by unfold notesV; rw [if_pos hy]
    rw [e1, e2]
    exact tlevels_any w g a texts k l v hT ht hk h1 hn hf htl
  · have e1 : rowsV k l = [] := by unfold rowsV; rw [if_neg hy]
    have e2 : notesV k l = [] := by unfold notesV; rw [if_neg hy]
    rw [e1, e2, List.append_nil]
    obtain ⟨ad, cap, rfl, _⟩ := (hT w a (Grew.of_below g a (Below.refl _ _))).shape
    exact (tlevels_no w g k ad l.length cap hy).mono fun e w' h => ⟨_, a, h.1, RowsAt.nil _, h.2 ▸ ht, h.2 ▸ Grew.of_below g a (Below.refl _ _)⟩
theorem notesF_len (k : Nat) (l : List (List UInt8)) (hn : l.length ≤ 1024) : (notesF k l).length < 100000 := by
  have h1 : 2 ^ depthF l.length ≤ 2 ^ 10 := Nat.pow_le_pow_right (by omega) (depthF_10 _ hn)
  have h2 := noteTo_le k (depthF l.length) (groundT k (depthF l.length) l) (groundF k (depthF l.length) l) (groundT_length _ _ _) (groundF_length _ _ _) (depthF l.length) (Nat.le_refl _)
  have h3 : depthF l.length * 2 ^ depthF l.length ≤ 10 * 1024 := Nat.mul_le_mul (depthF_10 _ hn) (by omega)
  unfold noteTo at h2
  unfold notesF
  omega
theorem notesV_len (k : Int) (l : List (List UInt8)) : (notesV k l).length < 100000 := by
  unfold notesV
  split
  · rename_i hy
    exact notesF_len _ _ (why_zero hy).2.2
  · simp
theorem rowsV_32 (k : Int) (l : List (List UInt8)) : ∀ r ∈ rowsV k l, All32 r := by
  unfold rowsV
  split
  · intro r hr
    unfold levelsF at hr
    obtain ⟨j, _, rfl⟩ := List.mem_map.1 hr
    exact rowAt_32 _ _ (groundF_32 _ _ _) j
  · intro r hr; simp at hr
theorem rowsV_len (k : Int) (l : List (List UInt8)) : ∀ r ∈ rowsV k l, r.length < 1099511627776 := by
  unfold rowsV
  split
  · rename_i hy
    obtain ⟨_, _, hn⟩ := why_zero hy
    intro r hr
    unfold levelsF at hr
    obtain ⟨j, _, rfl⟩ := List.mem_map.1 hr
    rw [rowAt_length, groundF_length]
    have h1 : 2 ^ depthF l.length ≤ 2 ^ 10 := Nat.pow_le_pow_right (by omega) (depthF_10 _ hn)
    have h2 := Nat.div_le_self (2 ^ depthF l.length) (2 ^ j)
    omega
  · intro r hr; simp at hr

set_option maxRecDepth 100000 in
set_option maxHeartbeats 4000000 in
theorem law_trees (k n : Int) (l : List (List UInt8)) (v : Value) (w : World) (h : Texts w v l) (hz : ∀ b ∈ l, b.length ≤ 140737488355328) (hn : n < 9223372036854775808) : Calls Try.prog 10 #[.int .i64 k, v, .int .i64 n] w (Ret w (.bool true)) := by
  obtain ⟨ad, cap, rfl, hc1, hc2⟩ := h.shape
  have H := Lib.hid h; have HZ := Lib.hid hz
  clear h hz
  cases hb : lightB l with
  | false =>
    have HB := Lib.hid hb; clear hb
    go_enter Try.func10, Try.ntmps10
    go_wp2_with fail
    refine (light_any _ l _ H.out HZ.out).mono ?_
    rintro e w1 ⟨rfl, rfl⟩
    rw [HB.out]
    go_wp2_with fail
    refine (lives06_any _).mono ?_
    rintro e w1 ⟨rfl, hb1⟩
    go_wp2_with fail
    go_ret
    exact ⟨rfl, hb1⟩
  | true =>
    obtain ⟨hf, h40⟩ := light_fair hb
    obtain ⟨x, e, hv, hx⟩ := rootV_two k l
    have HB := Lib.hid hb; have HF := Lib.hid hf; have HV := Lib.hid hv; have HX := Lib.hid hx
    clear hb hf hv hx
    go_enter Try.func10, Try.ntmps10
    go_wp2_with fail
    refine (light_any _ l _ H.out HZ.out).mono ?_
    rintro e' w1 ⟨rfl, rfl⟩
    rw [HB.out]
    go_wp2_with fail
    obtain ⟨g, hg⟩ : ∃ g, g = w.heap.size := ⟨_, rfl⟩
    rw [← hg]
    obtain ⟨w1, hw1⟩ : ∃ w1, w1 = w.alloc (.cells #[.slice none 0 0] 70) := ⟨_, rfl⟩
    rw [← hw1]
    have hb1 : Below w.heap.size w w1 := by rw [hw1]; exact (Below.refl _ _).alloc (Nat.le_refl _) _
    have ht1 : Tr w1 g none [] := tr_new (by rw [hw1, hg]; exact heap_alloc_new _ _)
    have HG := Lib.hid hg; have HB1 := Lib.hid hb1; have HT1 := Lib.hid ht1
    clear hg hw1 hb1 ht1
    refine (mroot_any k l _ _ (H.out.later HB1.out) HF.out).mono ?_
    rintro e' w2 ⟨rfl, hb2⟩
    rw [HV.out]
    have HB2 := Lib.hid (HB1.out.trans (hb2.mono HB1.out.size)); have HT2 := Lib.hid (HT1.out.later hb2)
    clear hb2
    go_wp2_with (refine wpList_alloc_g rfl _ rfl _ _ Try.zeroHash rfl ?_)
    intro R1 w3 h3
    go_wp2_with (refine wpList_store_row_g (t := 48) (old := cB 32 []) rfl 48 _ _ rfl R1 (c8 x) rfl rfl h3.out.cells (Try.sizeHs _ HX.out) (by rw [c8_size, HX.out]; rfl) (by rw [← cB_full 32 _ HX.out]; exact one_b _ _) ?_)
    intro w4 h4 k4 z4
    have hb24 : Below w2.heap.size w2 w4 := h3.out.below.trans (k4.below (B := w2.heap.size) (fun q hq e => by have := h3.out.eq; omega) h3.out.below.size)
    have HB4 := Lib.hid (HB2.out.trans (hb24.mono HB2.out.size)); have HT4 := Lib.hid (HT2.out.later hb24); have HR4 := Lib.hid h4
    clear hb24 h4 k4 z4 h3 HT2
    go_wp2_with fail
    refine (troot_any w4 g none [] k l _ (texts_grew H.out HB4.out (by rw [HG.out]; exact Nat.le_refl _) (fun _ h => by cases h)) HT4.out HF.out (by simp)).mono ?_
    rintro e' w5 ⟨rfl, a5, ht5, hg5⟩
    rw [HV.out]
    have hfar := hg5.far HB4.out.size (fun _ h => by cases h)
    have hb5 := HB4.out.trans (hg5.below HB4.out.size (by rw [HG.out]; exact Nat.le_refl _) (fun _ h => by cases h))
    have hr5 := tr_other HT4.out hg5 HR4.out (by decide)
    have HT5 := Lib.hid ht5; have HB5 := Lib.hid hb5; have HR5 := Lib.hid hr5; have HFAR := Lib.hid hfar
    clear ht5 hg5 hb5 hr5 hfar HT4 HB4 HR4
    go_wp2_with (refine wpList_alloc_g rfl _ rfl _ _ Try.zeroHash rfl ?_)
    intro R2 w6 h6
    go_wp2_with (refine wpList_store_row_g (t := 48) (old := cB 32 []) rfl 48 _ _ rfl R2 (c8 x) rfl rfl h6.out.cells (Try.sizeHs _ HX.out) (by rw [c8_size, HX.out]; rfl) (by rw [← cB_full 32 _ HX.out]; exact one_b _ _) ?_)
    intro w7 h7 k7 z7
    have hb57 : Below w5.heap.size w5 w7 := h6.out.below.trans (k7.below (B := w5.heap.size) (fun q hq e => by have := h6.out.eq; omega) h6.out.below.size)
    have HB7 := Lib.hid (HB5.out.trans (hb57.mono HB5.out.size)); have HT7 := Lib.hid (HT5.out.later hb57); have HR7 := Lib.hid ((hb57.block R1 (heap_lt HR5.out)).trans HR5.out); have HS7 := Lib.hid h7
    clear hb57 h7 k7 z7 h6 HT5 HB5 HR5
    have heq := Try.eqH x x HX.out HX.out
    rw [decide_eq_true (rfl : x = x)] at heq
    have htl : ([] ++ notesV k l).length < 900000000 := by
      have := notesV_len k l
      rw [List.nil_append]
      omega
    have HTL := Lib.hid htl
    clear htl
    go_wp2_with (first
      | (refine wpList_load_row rfl _ _ rfl R1 rfl _ (c8 x) _ _ HR7.out Try.underlying48 rfl (Try.sizeHs _ HX.out) ?_)
      | (refine wpList_load_row rfl _ _ rfl R2 rfl _ (c8 x) _ _ HS7.out Try.underlying48 rfl (Try.sizeHs _ HX.out) ?_))
    refine (levels_all k l _ _ (H.out.later HB7.out) HF.out).mono ?_
    rintro e' w8 ⟨v8, rfl, hr8, hb8⟩
    have HB8 := Lib.hid (HB7.out.trans (hb8.mono HB7.out.size)); have HT8 := Lib.hid (HT7.out.later hb8); have HR8 := Lib.hid hr8
    clear hb8 hr8 HB7 HT7
    go_wp2_with fail
    refine (tlevels_all w8 g a5 _ k l _ (texts_grew H.out HB8.out (by rw [HG.out]; exact Nat.le_refl _) HFAR.out) HT8.out HF.out HTL.out).mono ?_
    rintro e' w9 ⟨v9, a9, rfl, hr9, ht9, hg9⟩
    have hrr := (rows_other HT8.out hg9 HR8.out).rows
    have HB9 := Lib.hid (HB8.out.trans (hg9.below HB8.out.size (by rw [HG.out]; exact Nat.le_refl _) HFAR.out)); have HR9 := Lib.hid hr9; have HRR := Lib.hid hrr
    clear hr9 ht9 hg9 hrr HB8 HT8 HR8
    go_wp2_with fail
    refine (same_any v8 v9 (rowsV k l) w9 HRR.out HR9.out (rowsV_32 k l) (rowsV_len k l)).mono ?_
    rintro e' w10 ⟨rfl, hb10⟩
    have HB10 := Lib.hid (HB9.out.trans (hb10.mono HB9.out.size))
    clear hb10 HB9
    go_wp2_with fail
    refine (mdepth_any n hn _).mono ?_
    rintro e' w11 ⟨rfl, rfl⟩
    go_wp2_with fail
    refine (tdepth_any n hn _).mono ?_
    rintro e' w11 ⟨rfl, rfl⟩
    go_wp2_with fail
    refine (lives06_any _).mono ?_
    rintro e' w12 ⟨rfl, hb12⟩
    have HB12 := Lib.hid (HB10.out.trans (hb12.mono HB10.out.size))
    clear hb12 HB10 heq
    go_wp2_with fail
    go_ret
    exact ⟨rfl, HB12.out⟩
end Go.Proofs.Ytbfdjjaonjepnaa
