/- sha.Sum, Digit, Hex and their references. -/
import Derived.Test.YtbfdjjaonjepnaaShaI
namespace Go.Proofs.Ytbfdjjaonjepnaa
open Go.RowKit

set_option maxHeartbeats 1000000 in
theorem sha_any (w : World) (b : List UInt8) (v : Value) (hb : Rd w u8E 1 v b) (hlen : b.length < 1152921504606846976) : Calls Try.prog 38 #[v] w (Ret w (.agg (c8 (shaF b)))) := by
  have H := Lib.hid hb; clear hb
  go_enter Try.func38, Try.ntmps38
  go_wp2_with (refine wpList_alloc_g rfl _ rfl _ _ Try.zeroHash rfl ?_)
  intro R w1 h1
  go_wp2_with fail
  refine (new_any _).mono ?_
  rintro e w2 ⟨g, rfl, hg, hst, hb2⟩
  have hrd := (H.out.later h1.out.below).later hb2
  have hvb : ∀ k, v.ownBlock = some k → b ≠ [] → k ≠ g := by
    intro k hk hl e
    have := H.out.lt k hk hl
    have := h1.out.below.size
    omega
  have hR : w2.heap[R]? = some (.cells (cB 32 []) 48 (0, 0)) := (hb2.block R (heap_lt h1.out.cells)).trans h1.out.cells
  have HRD := Lib.hid hrd; have HVB := Lib.hid hvb; have HST := Lib.hid hst; have HB2 := Lib.hid hb2; have HR := Lib.hid hR
  clear hrd hvb hst hb2 hR
  go_wp2_with fail
  refine (write_any _ g [] b v HRD.out HST.out HVB.out (by simp; omega)).mono ?_
  rintro e w3 ⟨rfl, hst3, hk3⟩
  have HST3 := Lib.hid hst3; have HK3 := Lib.hid hk3; clear hst3 hk3
  go_wp2_with fail
  refine (sum_any _ g ([] ++ b) HST3.out (by simpa using hlen)).mono ?_
  rintro e w4 ⟨rfl, hb4⟩
  rw [List.nil_append]
  have hRlt := heap_lt HR.out
  have hR4 : w4.heap[R]? = some (.cells (cB 32 []) 48 (0, 0)) := (hb4.block R (Nat.lt_of_lt_of_le hRlt HK3.out.size)).trans (HK3.out.at HR.out (by have := heap_lt h1.out.cells; omega))
  have hwR := h1.out.eq
  have hbl : Below w.heap.size w w4 := h1.out.below.trans ((HB2.out.mono h1.out.below.size).trans ((HK3.out.below (B := w.heap.size) (by intro k hk e; have := h1.out.below.size; omega) (Nat.le_trans h1.out.below.size HB2.out.size)).trans (hb4.mono (Nat.le_trans h1.out.below.size (Nat.le_trans HB2.out.size HK3.out.size)))))
  have HR4 := Lib.hid hR4; have HBL := Lib.hid hbl
  have HWR := Lib.hid hwR
  clear hR4 hbl hb4 hwR hRlt
  go_wp2_with (refine wpList_store_row_g (t := 48) (old := cB 32 []) rfl 48 (.tmp 2) _ rfl R (c8 (shaF b)) rfl rfl HR4.out (by rw [c8_size, shaF_length]; kernel_rfl) (by rw [c8_size, shaF_length]; rfl) (by rw [← cB_full 32 _ (shaF_length b)]; exact one_b _ _) ?_)
  intro w5 h5 k5 z5
  have H5 := Lib.hid h5
  have H6 := Lib.hid (HBL.out.trans (k5.below (B := w.heap.size) (by intro k hk2 e; have := HWR.out; omega) HBL.out.size))
  clear h5 k5 z5
  go_wp2_with fail
  exact bodyPost_ret (results_cell_row rfl _ _ R _ (c8 (shaF b)) _ _ rfl H5.out Try.underlying48 rfl (by rw [c8_size, shaF_length]; kernel_rfl)) rfl ⟨rfl, H6.out⟩

/-- A digit's value; -1: it is none. -/
def digF (c : UInt8) : Int := if 48 ≤ c.toNat ∧ c.toNat ≤ 57 then (c.toNat : Int) - 48 else if 97 ≤ c.toNat ∧ c.toNat ≤ 102 then (c.toNat : Int) - 87 else -1
theorem digit_any (c : UInt8) (w : World) : Calls Try.prog 46 #[.int .u8 c.toNat] w fun e w' => e = .returned (.int .i64 (digF c)) ∧ w = w' := by
  have hc := c.toNat_lt
  have h : c.toNat < 48 ∨ (48 ≤ c.toNat ∧ c.toNat ≤ 57) ∨ (57 < c.toNat ∧ c.toNat < 97) ∨ (97 ≤ c.toNat ∧ c.toNat ≤ 102) ∨ 102 < c.toNat := by omega
  unfold digF
  rcases h with h | ⟨h1, h2⟩ | ⟨h1, h2⟩ | ⟨h1, h2⟩ | h
  all_goals
    go_enter Try.func46, Try.ntmps46
    go_wp2
    go_ret
    refine ⟨ret_val ?_, rfl⟩
    (repeat (first | (rw [if_pos (by omega)]) | (rw [if_neg (by omega)])))
    try omega
theorem refDigit_any (c : UInt8) (w : World) : Calls Try.prog 95 #[.int .u8 c.toNat] w fun e w' => e = .returned (.int .i64 (digF c)) ∧ w = w' := by
  have hc := c.toNat_lt
  have h : c.toNat < 48 ∨ (48 ≤ c.toNat ∧ c.toNat ≤ 57) ∨ (57 < c.toNat ∧ c.toNat < 97) ∨ (97 ≤ c.toNat ∧ c.toNat ≤ 102) ∨ 102 < c.toNat := by omega
  unfold digF
  rcases h with h | ⟨h1, h2⟩ | ⟨h1, h2⟩ | ⟨h1, h2⟩ | h
  all_goals
    go_enter Try.func95, Try.ntmps95
    go_wp2
    go_ret
    refine ⟨ret_val ?_, rfl⟩
    (repeat (first | (rw [if_pos (by omega)]) | (rw [if_neg (by omega)])))
    try omega
end Go.Proofs.Ytbfdjjaonjepnaa
