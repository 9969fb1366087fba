/- tallagelaw06.lives. -/
import Derived.Test.YtbfdjjaonjepnaaMerkO
import Derived.Lib.SlBytesConst
namespace Go.Proofs.Ytbfdjjaonjepnaa
open Go.RowKit

theorem root_one (k : Nat) (b : List UInt8) : rootF k [b] = leafF k b := by
  have h : depthF 1 = 0 := by unfold depthF; rw [bitsN_zero]
  unfold rootF
  simp only [List.length_singleton, h, rowAt]
  rw [List.getD_eq_getElem?_getD, groundF_at k 0 [b] 0 (by omega)]
  rfl
theorem leafK_yes (k : Int) (n : Nat) (h : (k = 1 ∨ k = 2) ∧ k.toNat = n) (b : List UInt8) : leafK k b = leafF n b := by unfold leafK; rw [if_pos h.1, h.2]
theorem depth_three : depthF 3 = 2 := by
  unfold depthF
  rw [show 3 - 1 = 2 from rfl, bitsN_pos 2 (by omega), show 2 / 2 = 1 from rfl, bitsN_pos 1 (by omega), show 1 / 2 = 0 from rfl, bitsN_zero]
set_option maxRecDepth 100000 in
set_option maxHeartbeats 1000000 in
theorem lives06_any (w : World) : Calls Try.prog 48 #[] w (Ret w (.bool true)) := by
  go_enter Try.func48, Try.ntmps48
  go_wp2_with fail
  have hrd : Rd (w.alloc (.cells #[.int .u8 1] 5)) u8E 1 (.slice (some ⟨w.heap.size, 0, none⟩) 1 1) [1] := rd_new1 w u8E (fun _ => rfl) 5 [1] _ 1 rfl (by omega) rfl
  have htx := texts_new1 hrd 43 rfl
  rw [World.size_alloc] at htx
  refine (mroot_any 1 [[1]] _ _ htx (by intro b hb; simp at hb; subst hb; simp)).mono ?_
  rintro e w2 ⟨rfl, hb2⟩
  have hv : rootV 1 [[1]] = .tuple #[.agg (c8 (leafK 1 [1])), .int .i64 0] := by
    unfold rootV
    rw [if_pos (show whyF 1 ([[1]] : List (List UInt8)).length = 0 by decide), show Int.toNat 1 = 1 from rfl, root_one, leafK_yes 1 1 (by decide)]
  obtain ⟨x, hx⟩ : ∃ x, x = leafK 1 [1] := ⟨_, rfl⟩
  have x32 : x.length = 32 := by rw [hx]; exact leafK_length _ _
  rw [hv, ← hx]
  have HX := Lib.hid hx; have X32 := Lib.hid x32
  clear hx x32
  have hb02 : Below w.heap.size w w2 := ((Below.refl _ _).alloc (Nat.le_refl _) _ |>.alloc (by simp) _).trans (hb2.mono (by simp; omega))
  have HB2 := Lib.hid hb02
  clear hrd htx hb2 hb02 hv
  go_wp2_with (refine wpList_alloc_g rfl _ rfl _ _ Try.zeroHash rfl ?_)
  intro R w3 h3
  go_wp2_with (refine wpList_store_row_g (t := 48) (old := cB 32 []) rfl 48 _ _ rfl R (c8 x) rfl rfl h3.out.cells (Try.sizeHs _ X32.out) (by rw [c8_size, X32.out]; rfl) (by rw [← cB_full 32 _ X32.out]; exact one_b _ _) ?_)
  intro w4 h4 k4 z4
  have hb4 : Below w.heap.size w w4 := k4.onto (HB2.out.trans (h3.out.below.mono HB2.out.size)) (Nat.le_refl _) (by have := h3.out.eq; have := HB2.out.size; omega)
  have HB4 := Lib.hid hb4; have H4 := Lib.hid h4
  clear hb4 h4 k4 z4 h3
  go_wp2_with fail
  have hl : ∀ w', Below w4.heap.size w4 w' → (Instr.loadAt 48 (.pointer (some ⟨R, 0, none⟩))).run Try.prog w' = .ok (.agg (c8 x)) w' := fun w' h => load_hash ((h.block R (heap_lt H4.out)).trans H4.out) X32.out
  have HL := Lib.hid hl
  have heq := Try.eqH x x X32.out X32.out
  rw [decide_eq_true (rfl : x = x)] at heq
  have hS : Below w4.heap.size w4 w4.drew := (Below.refl _ _).drew
  clear hl
  refine wp_region_till (fun w' => Below w4.heap.size w4 w') 12 13 (by kernel_rfl) rfl ?_
  refine till_take 0 (some 9) rfl rfl (by kernel_rfl) (by kernel_rfl) (by kernel_rfl) (by kernel_rfl) (by kernel_rfl) (by kernel_rfl) (fun _ _ _ h => h) (.inl ⟨by rfl, fun w' _ => (by go_simp; rfl)⟩) hS ?_
  go_frame
  refine till_take 1 (some 10) rfl rfl (by kernel_rfl) (by kernel_rfl) (by kernel_rfl) (by kernel_rfl) (by kernel_rfl) (by kernel_rfl) (fun _ _ _ h => h) (.inl ⟨by rfl, fun w' _ => (by go_simp; rfl)⟩) hS ?_
  go_frame
  refine till_take 2 (some 11) rfl rfl (by kernel_rfl) (by kernel_rfl) (by kernel_rfl) (by kernel_rfl) (by kernel_rfl) (by kernel_rfl) (fun _ _ _ h => h) (.inl ⟨by rfl, fun w' _ => (by go_simp; rfl)⟩) hS ?_
  go_frame
  refine till_take 3 (some 12) rfl rfl (by kernel_rfl) (by kernel_rfl) (by kernel_rfl) (by kernel_rfl) (by kernel_rfl) (by kernel_rfl) (fun _ _ _ h => h) (yields_load (by rfl) 48 (.tmp 1) rfl (.pointer (some ⟨R, 0, none⟩)) rfl _ HL.out) hS ?_
  go_frame
  refine till_one 4 rfl (by kernel_rfl) fun K hK => ?_
  simp only [List.getElem_toArray, List.getElem_cons_succ, List.getElem_cons_zero]
  rw [if_pos (by rfl)]
  go_simp
  have hS1 : Below w4.heap.size w4 (w4.drew.alloc (.cells #[.int .u8 1] 5)) := hS.alloc (Nat.le_refl _) _
  refine hK _ _ (fun _ _ => hS1) ?_
  clear hK
  have hrd : Rd (w4.drew.alloc (.cells #[.int .u8 1] 5)) u8E 1 (.slice (some ⟨w4.heap.size, 0, none⟩) 1 1) [1] := rd_new1 w4.drew u8E (fun _ => rfl) 5 [1] _ 1 rfl (by omega) rfl
  refine till_one 5 rfl (by kernel_rfl) fun K hK => ?_
  simp only [List.getElem_toArray, List.getElem_cons_succ, List.getElem_cons_zero]
  rw [if_pos (by rfl)]
  go_simp
  refine (mleaf_any 1 [1] _ _ hrd (by simp)).mono ?_
  rintro e w5 ⟨rfl, hb5⟩
  have hS5 : Below w4.heap.size w4 w5 := hS1.trans (hb5.mono hS1.size)
  refine hK _ _ (fun _ _ => hS5) ?_
  clear hK hb5 hS1 hrd hS
  rw [← HX.out]
  refine till_take 6 (some 15) rfl rfl (by kernel_rfl) (by kernel_rfl) (by kernel_rfl) (by kernel_rfl) (by kernel_rfl) (by kernel_rfl) (fun _ _ _ h => h) (.inl ⟨by rfl, fun w' _ => (by go_simp; rfl)⟩) hS5 ?_
  go_frame
  refine till_take 7 (some 16) rfl rfl (by kernel_rfl) (by kernel_rfl) (by kernel_rfl) (by kernel_rfl) (by kernel_rfl) (by kernel_rfl) (fun _ _ _ h => h) (.inl ⟨by rfl, fun w' _ => (by go_simp; rfl)⟩) hS5 ?_
  go_frame
  refine till_take 8 (some 17) rfl rfl (by kernel_rfl) (by kernel_rfl) (by kernel_rfl) (by kernel_rfl) (by kernel_rfl) (by kernel_rfl) (fun _ _ _ h => h) (.inl ⟨by rfl, fun w' _ => (by go_simp; rfl)⟩) hS5 ?_
  go_frame
  refine till_one 9 rfl (by kernel_rfl) fun K hK => ?_
  simp only [List.getElem_toArray, List.getElem_cons_succ, List.getElem_cons_zero]
  rw [if_pos (by rfl)]
  go_simp
  refine (mdepth_any 3 (by omega) _).mono ?_
  rintro e w6 ⟨rfl, rfl⟩
  refine hK _ _ (fun _ _ => hS5) ?_
  clear hK
  rw [show Int.toNat 3 = 3 from rfl, depth_three]
  refine till_take 10 (some 19) rfl rfl (by kernel_rfl) (by kernel_rfl) (by kernel_rfl) (by kernel_rfl) (by kernel_rfl) (by kernel_rfl) (fun _ _ _ h => h) (.inl ⟨by rfl, fun w' _ => (by go_simp; rfl)⟩) hS5 ?_
  go_frame
  refine till_take 11 (some 20) rfl rfl (by kernel_rfl) (by kernel_rfl) (by kernel_rfl) (by kernel_rfl) (by kernel_rfl) (by kernel_rfl) (fun _ _ _ h => h) (.inl ⟨by rfl, fun w' _ => (by go_simp; rfl)⟩) hS5 ?_
  go_frame
  refine till_one 12 rfl (by kernel_rfl) fun K hK => ?_
  simp only [List.getElem_toArray, List.getElem_cons_succ, List.getElem_cons_zero]
  rw [if_pos (by rfl)]
  go_simp
  refine hK _ _ (fun h => absurd rfl h) ?_
  clear hK heq
  refine till_done (by kernel_rfl) ?_ _
  go_wp2_with fail
  go_ret
  exact ⟨rfl, HB4.out.trans (hS5.mono HB4.out.size)⟩
end Go.Proofs.Ytbfdjjaonjepnaa
