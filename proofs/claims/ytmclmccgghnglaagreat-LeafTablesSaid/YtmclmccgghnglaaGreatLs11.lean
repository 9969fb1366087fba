/- merkle.sum, Leaf, Node, Empty, Depth, why. merkle.is, Leaf, Node, Empty, Depth, why. -/
import Derived.Test.YtmclmccgghnglaaGreatLs10
import Derived.Test.YtmclmccgghnglaaGreatLs1
namespace Go.Proofs.YtmclmccgghnglaaGreat
section
open Go.RowKit

/-- A slice's cell. -/
def slE (v : Value) : List Value := [v]
theorem slE_len (v : Value) : (slE v).length = 1 := rfl
/-- A slice of slices that read as texts. -/
def Texts (w : World) (v : Value) (ls : List (List UInt8)) : Prop := ∃ vs : List Value, Rd w slE 1 v vs ∧ vs.length = ls.length ∧ ∀ (i : Nat) u l, vs[i]? = some u → ls[i]? = some l → Rd w u8E 1 u l
theorem Texts.later {w w' : World} {v : Value} {ls : List (List UInt8)} (h : Texts w v ls) (hb : Below w.heap.size w w') : Texts w' v ls := by
  obtain ⟨vs, h1, h2, h3⟩ := h
  exact ⟨vs, h1.later hb, h2, fun i u l a b => (h3 i u l a b).later hb⟩
theorem Texts.shape {w : World} {v : Value} {ls : List (List UInt8)} (h : Texts w v ls) : ∃ ad cap, v = .slice ad ls.length cap ∧ ls.length ≤ cap ∧ cap ≤ 9223372036854775807 := by
  obtain ⟨vs, h1, h2, _⟩ := h
  rw [← h2]; exact h1.shape
theorem Texts.at {w : World} {ad : Option Addr} {n cap : Nat} {ls : List (List UInt8)} (h : Texts w (.slice ad n cap) ls) (k : Nat) (hk : k < ls.length) :
    ∃ b off u, ad = some ⟨b, off, none⟩ ∧ b < w.heap.size ∧ w.cell? ⟨b, off + k, none⟩ = some u ∧ Rd w u8E 1 u ls[k] := by
  obtain ⟨vs, h1, h2, h3⟩ := h
  obtain ⟨b, off, h4, h5, h6⟩ := h1.at k (by omega)
  exact ⟨b, off, vs[k], h4, h5, h6, h3 k _ _ (List.getElem?_eq_getElem (by omega)) (List.getElem?_eq_getElem hk)⟩
theorem texts_new1 {w w' : World} {u : Value} {l : List UInt8} (h : Rd w u8E 1 u l) (e : TypeId) (hw : w' = w.alloc (.cells #[u] e)) : Texts w' (.slice (some ⟨w.heap.size, 0, none⟩) 1 1) [l] := by
  subst hw
  refine ⟨[u], rd_new1 w slE slE_len e [u] _ 1 rfl (by omega) rfl, rfl, fun i x y hx hy => ?_⟩
  match i, hx, hy with
  | 0, hx, hy => simp at hx hy; subst hx; subst hy; exact h.alloc _
  | i + 1, hx, hy => simp at hx
theorem texts_new2 {w w' : World} {u v : Value} {l m : List UInt8} (h : Rd w u8E 1 u l) (h2 : Rd w u8E 1 v m) (e : TypeId) (hw : w' = w.alloc (.cells #[u, v] e)) : Texts w' (.slice (some ⟨w.heap.size, 0, none⟩) 2 2) [l, m] := by
  subst hw
  refine ⟨[u, v], rd_new1 w slE slE_len e [u, v] _ 2 rfl (by omega) rfl, rfl, fun i x y hx hy => ?_⟩
  match i, hx, hy with
  | 0, hx, hy => simp at hx hy; subst hx; subst hy; exact h.alloc _
  | 1, hx, hy => simp at hx hy; subst hx; subst hy; exact h2.alloc _
  | i + 2, hx, hy => simp at hx
theorem flat_take (ls : List (List UInt8)) (k : Nat) (hk : k < ls.length) : (ls.take (k + 1)).flatten = (ls.take k).flatten ++ ls[k] := by
  rw [List.take_succ_eq_append_getElem hk, List.flatten_append]; simp
theorem flat_le (ls : List (List UInt8)) (k : Nat) (hk : k < ls.length) : ((ls.take k).flatten).length + ls[k].length ≤ ls.flatten.length := by
  have h := flat_take ls k hk
  have h2 : ((ls.take (k + 1)).flatten).length ≤ ls.flatten.length := by
    conv => rhs; rw [← List.take_append_drop (k + 1) ls, List.flatten_append, List.length_append]
    omega
  rw [h, List.length_append] at h2
  exact h2

set_option maxRecDepth 100000 in
set_option maxHeartbeats 1000000 in
theorem msum_any (f : Int) (hf : 0 ≤ f) (hf2 : f < 256) (ls : List (List UInt8)) (v : Value) (w : World) (h : Texts w v ls) (hlen : ls.flatten.length < 576460752303423488) :
    Calls Tryz.prog 288 #[.int .i64 f, v] w (Ret w (.agg (c8 (shaF (UInt8.ofNat f.toNat :: ls.flatten))))) := by
  obtain ⟨ad, cap, rfl, hc1, hc2⟩ := h.shape
  have H := Lib.hid h; clear h
  have hw0 : f % 256 = f := by omega
  go_enter Tryz.func288, Tryz.ntmps288
  go_wp2_with (refine wpList_alloc_g rfl _ rfl _ _ Tryz.zeroHash rfl ?_)
  intro R w1 h1
  go_wp2_with fail
  refine (new_any _).mono ?_
  rintro e w2 ⟨g, rfl, hg, hst, hb2⟩
  have hT2 := (H.out.later h1.out.below).later hb2
  have hR2 : w2.heap[R]? = some (.cells (cB 32 []) 36 (0, 0)) := (hb2.block R (heap_lt h1.out.cells)).trans h1.out.cells
  have hwR := h1.out.eq
  have hB2 : Below w.heap.size w w2 := h1.out.below.trans (hb2.mono h1.out.below.size)
  have hlt : w.heap.size ≤ w1.heap.size := h1.out.below.size
  have HT2 := Lib.hid hT2; have HR2 := Lib.hid hR2; have HB2 := Lib.hid hB2; have HST := Lib.hid hst; have HWR := Lib.hid hwR
  have hRg : R < g := by have := heap_lt h1.out.cells; omega
  have hgw : w.heap.size ≤ g := by omega
  clear hT2 hR2 hB2 hst hb2 h1 hwR hlt
  go_wp2_with fail
  have hrd0 : Rd (w2.alloc (.cells #[.int .u8 f] 5)) u8E 1 (.slice (some ⟨w2.heap.size, 0, none⟩) 1 1) [UInt8.ofNat f.toNat] := rd_new1 w2 u8E (fun _ => rfl) 5 _ _ 1 rfl (by omega) (by simp [u8E, byteV_of f hf hf2])
  have hst0 : StM (w2.alloc (.cells #[.int .u8 f] 5)) g [] := HST.out.below ((Below.refl _ _).alloc (Nat.le_refl _) _)
  have hg2 : g < w2.heap.size := by obtain ⟨wt, h, _⟩ := HST.out; exact heap_lt h.1
  refine (write_any _ g [] [UInt8.ofNat f.toNat] _ hrd0 hst0 (fun k hk _ e => ?_) (by simp)).mono ?_
  · simp [Value.ownBlock] at hk; omega
  rintro e w3 ⟨rfl, hst3, hk3⟩
  have hk23 : Keep (· = g) w2 w3 := (Keep.refl _ _ |>.alloc _).then hk3 (fun x hx => .inl hx)
  have HK3 := Lib.hid hk23; have HST3 := Lib.hid hst3
  clear hrd0 hst0 hst3 hk3 hk23
  go_wp2_with fail
  go_loopw [16] (fun x wr => ∃ i : Nat, i ≤ ls.length ∧ x = .int .i64 i ∧ StM wr g (UInt8.ofNat f.toNat :: (ls.take i).flatten) ∧ Keep (· = g) w2 wr) (fun x _ => ls.length - (intOf x).toNat)
  case atStart => exact ⟨0, Nat.zero_le _, rfl, HST3.out, HK3.out⟩
  case round =>
    obtain ⟨i, hi, rfl, hst, hk⟩ := hrel
    have HS := Lib.hid hst; have HK := Lib.hid hk
    clear hst hk HST3 HK3
    by_cases hlt : i < ls.length
    · obtain ⟨b, off, u, rfl, hb, hcell, hru⟩ := H.out.at i hlt
      have hbg : b ≠ g := by omega
      have hcw : wr.cell? ⟨b, off + i, none⟩ = some u := by
        rw [World.cell?_of_block (w := w2) (w' := wr) (HK.out.block b (Nat.lt_of_lt_of_le hb HB2.out.size) hbg), HB2.out.cell (p := ⟨b, _, none⟩) hb, hcell]
      have hrw : Rd wr u8E 1 u ls[i] := ((hru.later HB2.out).keep HK.out (fun k hk hl e => by have := hru.lt k hk hl; omega))
      have hug : ∀ k, u.ownBlock = some k → ls[i] ≠ [] → k ≠ g := fun k hk hl e => by have := hru.lt k hk hl; omega
      have hfl := flat_le ls i hlt
      have hft := flat_take ls i hlt
      have HRW := Lib.hid hrw; have HUG := Lib.hid hug; have HFT := Lib.hid hft; have HFL := Lib.hid hfl
      clear hru hrw hug hft hcell hfl
      go_wp2_with fail
      refine (write_any _ g _ ls[i] u HRW.out HS.out HUG.out (by have := HFL.out; simp only [List.length_cons]; omega)).mono ?_
      rintro e w4 ⟨rfl, hst4, hk4⟩
      rw [List.cons_append, ← HFT.out] at hst4
      have HS4 := Lib.hid hst4; have HK4 := Lib.hid (HK.out.then hk4 (fun x hx => .inl hx))
      clear hst4 hk4 hcw
      go_wp2_with fail
      go_roundw
      case rel => exact ⟨i + 1, by omega, by go_num, HS4.out, HK4.out⟩
      case measure => simp [intOf]; omega
    · obtain rfl : i = ls.length := by omega
      rw [List.take_length] at HS
      go_wp2_with fail
      refine (sum_any _ g _ HS.out (by simp only [List.length_cons]; omega)).mono ?_
      rintro e w4 ⟨rfl, hb4⟩
      have hR4 : w4.heap[R]? = some (.cells (cB 32 []) 36 (0, 0)) := (hb4.block R (by have := heap_lt HR2.out; have := HK.out.size; omega)).trans (HK.out.at HR2.out (by omega))
      have hbl : Below w.heap.size w w4 := HB2.out.trans ((HK.out.below (B := w.heap.size) (by intro k hk e; omega) HB2.out.size).trans (hb4.mono (Nat.le_trans HB2.out.size HK.out.size)))
      have HR4 := Lib.hid hR4; have HBL := Lib.hid hbl
      clear hR4 hbl hb4 HS HK
      go_wp2_with (refine wpList_store_row_g (t := 36) (old := cB 32 []) rfl 36 _ _ rfl R (c8 (shaF (UInt8.ofNat f.toNat :: ls.flatten))) rfl rfl HR4.out (Tryz.sizeHs _ (shaF_length _)) (by rw [c8_size, shaF_length]; rfl) (by rw [← cB_full 32 _ (shaF_length _)]; exact one_b _ _) ?_)
      intro w5 h5 k5 z5
      have H5 := Lib.hid h5
      have H6 := Lib.hid (k5.onto HBL.out (Nat.le_refl _) (by have := HWR.out; omega))
      clear h5 k5 z5
      go_wp2_with fail
      exact bodyPost_ret (results_cell_row rfl _ _ R _ (c8 (shaF (UInt8.ofNat f.toNat :: ls.flatten))) _ _ rfl H5.out Tryz.underlying36 rfl (Tryz.sizeHs _ (shaF_length _))) rfl ⟨rfl, H6.out⟩
end
section
open Go.RowKit

/-- Is it a kind? -/
def kindB (k : Int) : Bool := decide (k = 1 ∨ k = 2)
theorem kindB_yes {k : Int} (h : k = 1 ∨ k = 2) : kindB k = true := by unfold kindB; simpa using h
theorem kindB_no {k : Int} (h1 : ¬ k = 1) (h2 : ¬ k = 2) : kindB k = false := by unfold kindB; simp [h1, h2]
theorem kind_cases (k : Int) : k = 1 ∨ k = 2 ∨ (¬ k = 1 ∧ ¬ k = 2) := by omega
set_option maxHeartbeats 1000000 in
theorem mis_any (k : Int) (w : World) : Calls Tryz.prog 283 #[.int .i64 k] w fun e w' => e = .returned (.bool (kindB k)) ∧ w = w' := by
  rcases kind_cases k with rfl | rfl | ⟨h1, h2⟩
  · go_enter Tryz.func283, Tryz.ntmps283
    go_wp2
    go_ret
    exact ⟨rfl, rfl⟩
  · go_enter Tryz.func283, Tryz.ntmps283
    go_wp2
    go_ret
    exact ⟨rfl, rfl⟩
  · rw [kindB_no h1 h2]
    have b1 : (k == 1) = false := by simpa using h1
    have b2 : (k == 2) = false := by simpa using h2
    go_enter Tryz.func283, Tryz.ntmps283
    go_wp2
    go_ret
    exact ⟨rfl, rfl⟩

def zero32 : List UInt8 := List.replicate 32 0
theorem zero32_length : zero32.length = 32 := rfl
def leafK (k : Int) (b : List UInt8) : List UInt8 := if k = 1 ∨ k = 2 then leafF k.toNat b else zero32
def nodeK (k : Int) (a b : List UInt8) : List UInt8 := if k = 1 ∨ k = 2 then nodeF k.toNat a b else zero32
theorem leafK_length (k : Int) (b : List UInt8) : (leafK k b).length = 32 := by unfold leafK; split; exact leafF_length _ _; rfl
theorem nodeK_length (k : Int) (a b : List UInt8) : (nodeK k a b).length = 32 := by unfold nodeK; split; exact nodeF_length _ _ _; rfl

set_option maxRecDepth 100000 in
set_option maxHeartbeats 1000000 in
theorem mleaf_any (k : Int) (b : List UInt8) (v : Value) (w : World) (h : Rd w u8E 1 v b) (hlen : b.length < 288230376151711744) :
    Calls Tryz.prog 193 #[.int .i64 k, v] w (Ret w (.agg (c8 (leafK k b)))) := by
  obtain ⟨ad, cap, rfl, hc1, hc2⟩ := h.shape
  have H := Lib.hid h; clear h
  have key : ∀ (f : Int), 0 ≤ f → f < 256 → leafK k b = shaF (UInt8.ofNat f.toNat :: b) → k = 1 ∨ k = 2 → 2 * k = f → Calls Tryz.prog 193 #[.int .i64 k, .slice ad b.length cap] w (Ret w (.agg (c8 (leafK k b)))) := by
    intro f hf hf2 he hk hkf
    have HE := Lib.hid he
    have hkb := kindB_yes hk
    have HKF := Lib.hid hkf
    have hk1 : 1 ≤ k := by omega
    have hk2 : k ≤ 2 := by omega
    clear he hk hkf
    go_enter Tryz.func193, Tryz.ntmps193
    go_wp2_with (refine wpList_alloc_g rfl _ rfl _ _ Tryz.zeroHash rfl ?_)
    intro R w1 h1
    go_wp2_with fail
    refine (mis_any _ _).mono ?_
    rintro e w2 ⟨rfl, rfl⟩
    go_wp2_with fail
    rw [HKF.out]
    refine (msum_any f hf hf2 [b] _ _ (texts_new1 (H.out.later h1.out.below) _ rfl) (by simp; omega)).mono ?_
    rintro e w3 ⟨rfl, hb3⟩
    simp only [List.flatten_cons, List.flatten_nil, List.append_nil]
    rw [← HE.out]
    obtain ⟨q1, q2, q3⟩ := boxed1 hb3
    have hR3 : w3.heap[R]? = some (.cells (cB 32 []) 36 (0, 0)) := (q1.block R (heap_lt h1.out.cells)).trans h1.out.cells
    have hb4 : Below w.heap.size w w3 := h1.out.below.trans (q1.mono h1.out.below.size)
    have HR3 := Lib.hid hR3; have HB4 := Lib.hid hb4; have HW := Lib.hid h1.out.eq
    clear hb3 q1 q2 q3 hR3 hb4 h1
    go_wp2_with (refine wpList_store_row_g (t := 36) (old := cB 32 []) rfl 36 _ _ rfl R (c8 (leafK k b)) rfl rfl HR3.out (Tryz.sizeHs _ (leafK_length _ _)) (by rw [c8_size, leafK_length]; rfl) (by rw [← cB_full 32 _ (leafK_length _ _)]; exact one_b _ _) ?_)
    intro w5 h5 k5 z5
    have H5 := Lib.hid h5
    have H6 := Lib.hid (k5.onto HB4.out (Nat.le_refl _) (by have := HW.out; omega))
    clear h5 k5 z5
    go_wp2_with fail
    exact bodyPost_ret (results_cell_row rfl _ _ R _ (c8 (leafK k b)) _ _ rfl H5.out Tryz.underlying36 rfl (Tryz.sizeHs _ (leafK_length _ _))) rfl ⟨rfl, H6.out⟩
  rcases kind_cases k with rfl | rfl | ⟨h1, h2⟩
  · exact key 2 (by omega) (by omega) rfl (by omega) rfl
  · exact key 4 (by omega) (by omega) rfl (by omega) rfl
  · have he : leafK k b = zero32 := by unfold leafK; rw [if_neg (by omega)]
    rw [he]
    have hkb := kindB_no h1 h2
    clear he key
    go_enter Tryz.func193, Tryz.ntmps193
    go_wp2_with (refine wpList_alloc_g rfl _ rfl _ _ Tryz.zeroHash rfl ?_)
    intro R w1 h1
    go_wp2_with fail
    refine (mis_any _ _).mono ?_
    rintro e w2 ⟨rfl, rfl⟩
    go_wp2_with (refine wpList_store_row_g (t := 36) (old := cB 32 []) rfl 36 _ _ rfl R (c8 zero32) rfl rfl h1.out.cells (Tryz.sizeHs _ zero32_length) (by rw [c8_size, zero32_length]; rfl) (by rw [← cB_full 32 _ zero32_length]; exact one_b _ _) ?_)
    intro w5 h5 k5 z5
    have H5 := Lib.hid h5
    have H6 := Lib.hid (k5.onto h1.out.below (Nat.le_refl _) (by have := h1.out.eq; omega))
    clear h5 k5 z5
    go_wp2_with fail
    exact bodyPost_ret (results_cell_row rfl _ _ R _ (c8 zero32) _ _ rfl H5.out Tryz.underlying36 rfl (Tryz.sizeHs _ zero32_length)) rfl ⟨rfl, H6.out⟩

set_option maxRecDepth 100000 in
set_option maxHeartbeats 1000000 in
theorem mempty_any (k : Int) (w : World) : Calls Tryz.prog 327 #[.int .i64 k] w (Ret w (.agg (c8 (leafK k [])))) := by
  go_enter Tryz.func327, Tryz.ntmps327
  go_wp2_with (refine wpList_alloc_g rfl _ rfl _ _ Tryz.zeroHash rfl ?_)
  intro R w1 h1
  go_wp2_with fail
  refine (mleaf_any k [] _ _ (Rd.nil _ _ _) (by simp)).mono ?_
  rintro e w2 ⟨rfl, hb2⟩
  have hR2 : w2.heap[R]? = some (.cells (cB 32 []) 36 (0, 0)) := (hb2.block R (heap_lt h1.out.cells)).trans h1.out.cells
  have hb4 : Below w.heap.size w w2 := h1.out.below.trans (hb2.mono h1.out.below.size)
  have HR3 := Lib.hid hR2; have HB4 := Lib.hid hb4; have HW := Lib.hid h1.out.eq
  clear hb2 hR2 hb4 h1
  go_wp2_with (refine wpList_store_row_g (t := 36) (old := cB 32 []) rfl 36 _ _ rfl R (c8 (leafK k [])) rfl rfl HR3.out (Tryz.sizeHs _ (leafK_length _ _)) (by rw [c8_size, leafK_length]; rfl) (by rw [← cB_full 32 _ (leafK_length _ _)]; exact one_b _ _) ?_)
  intro w5 h5 k5 z5
  have H5 := Lib.hid h5
  have H6 := Lib.hid (k5.onto HB4.out (Nat.le_refl _) (by have := HW.out; omega))
  clear h5 k5 z5
  go_wp2_with fail
  exact bodyPost_ret (results_cell_row rfl _ _ R _ (c8 (leafK k [])) _ _ rfl H5.out Tryz.underlying36 rfl (Tryz.sizeHs _ (leafK_length _ _))) rfl ⟨rfl, H6.out⟩
end
end Go.Proofs.YtmclmccgghnglaaGreat
