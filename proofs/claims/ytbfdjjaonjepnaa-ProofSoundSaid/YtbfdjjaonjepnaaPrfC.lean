/- tallagelaw07.lives; tallagelaw07.ProofBuilds: its walk. -/
import Derived.Test.YtbfdjjaonjepnaaPrfB
namespace Go.Proofs.Ytbfdjjaonjepnaa
open Go.RowKit

theorem depth_two : depthF 2 = 1 := by
  unfold depthF
  rw [show 2 - 1 = 1 from rfl, bitsN_pos 1 (by omega), show 1 / 2 = 0 from rfl, bitsN_zero]
theorem proof_two : proofE 2 [[1], [2]] 0 = 0 ∧ proofV 2 [[1], [2]] 0 = [leafK 2 [2]] := by
  have hE : proofE 2 [[1], [2]] 0 = 0 := by
    unfold proofE
    rw [if_pos (show whyF 2 ([[1], [2]] : List (List UInt8)).length = 0 by decide), if_neg (by simp)]
  refine ⟨hE, ?_⟩
  unfold proofV
  rw [if_pos hE]
  unfold proofF
  rw [show ([[1], [2]] : List (List UInt8)).length = 2 from rfl, depth_two]
  exact congrArg (fun x => [x]) (rowN_leaf (k := 2) (.inr rfl) [[1], [2]] 1 (by decide)).1

set_option maxRecDepth 100000 in
set_option maxHeartbeats 1000000 in
theorem lives07_any (w : World) : Calls Try.prog 63 #[] w (Ret w (.bool true)) := by
  go_enter Try.func63, Try.ntmps63
  go_wp2_with fail
  have hrd1 : Rd (w.alloc (.cells #[.int .u8 1] 5)) u8E 1 (.slice (some ⟨w.heap.size, 0, none⟩) 1 1) [1] := rd_new1 w u8E (fun _ => rfl) 5 [1] _ 1 rfl (by omega) rfl
  have hrd2 : Rd ((w.alloc (.cells #[.int .u8 1] 5)).alloc (.cells #[.int .u8 2] 5)) u8E 1 (.slice (some ⟨(w.alloc (.cells #[.int .u8 1] 5)).heap.size, 0, none⟩) 1 1) [2] := rd_new1 _ u8E (fun _ => rfl) 5 [2] _ 1 rfl (by omega) rfl
  have htx := texts_new2 (hrd1.alloc _) hrd2 43 rfl
  simp only [World.size_alloc] at htx
  refine (pbuild_any 2 0 [[1], [2]] _ _ htx (by intro b hb; simp at hb; rcases hb with rfl | rfl <;> simp)).mono ?_
  rintro e w2 ⟨v2, rfl, hown, hb2⟩
  rw [proof_two.1]
  rw [proof_two.2] at hown
  obtain ⟨x, hx⟩ : ∃ x, x = leafK 2 [2] := ⟨_, rfl⟩
  have x32 : x.length = 32 := by rw [hx]; exact leafK_length _ _
  rw [← hx] at hown
  have hrd := hown.rd hE_len
  obtain ⟨rad, rcap, hv2, _, _⟩ := hrd.shape
  simp only [List.length_singleton] at hv2
  subst hv2
  obtain ⟨rb, ro, hrp, hrb⟩ := hrd.ptr (by simp)
  subst hrp
  have hb02 : Below w.heap.size w w2 := (((Below.refl _ _).alloc (Nat.le_refl _) _ |>.alloc (by simp) _).alloc (by simp; omega) _).trans (hb2.mono (by simp; omega))
  have hl : ∀ w', Below w2.heap.size w2 w' → (Instr.loadAt 48 (.pointer (some ⟨rb, ro, none⟩))).run Try.prog w' = .ok (.agg (c8 x)) w' := fun w' h => load_hash_at (S := fun x => w2.heap.size ≤ x) hrd (by intro y hy; simp at hy; subst hy; exact x32) 0 (by simp) ⟨h.os, h.tape, h.output, h.size, fun k hk _ => h.block k hk⟩ (by omega)
  have HX := Lib.hid hx; have X32 := Lib.hid x32
  have HB2 := Lib.hid hb02; have HL := Lib.hid hl
  clear hrd1 hrd2 htx hb2 hb02 hown hrd hl hx x32
  have heq := Try.eqH x x X32.out X32.out
  rw [decide_eq_true (rfl : x = x)] at heq
  have hS : Below w2.heap.size w2 w2.drew := (Below.refl _ _).drew
  go_wp2_with fail
  refine wp_region_till (fun w' => Below w2.heap.size w2 w') 15 16 (by kernel_rfl) rfl ?_
  refine till_take 0 (some 10) rfl rfl (by kernel_rfl) (by kernel_rfl) (by kernel_rfl) (by kernel_rfl) (by kernel_rfl) (by kernel_rfl) (fun _ _ _ h => h) (.inl ⟨by rfl, fun w' _ => (by go_simp; rfl)⟩) hS ?_
  go_frame
  refine till_take 1 (some 11) rfl rfl (by kernel_rfl) (by kernel_rfl) (by kernel_rfl) (by kernel_rfl) (by kernel_rfl) (by kernel_rfl) (fun _ _ _ h => h) (.inl ⟨by rfl, fun w' _ => (by go_simp; rfl)⟩) hS ?_
  go_frame
  refine till_take 2 (some 12) rfl rfl (by kernel_rfl) (by kernel_rfl) (by kernel_rfl) (by kernel_rfl) (by kernel_rfl) (by kernel_rfl) (fun _ _ _ h => h) (.inl ⟨by rfl, fun w' _ => (by go_simp; rfl)⟩) hS ?_
  go_frame
  refine till_take 3 (some 13) rfl rfl (by kernel_rfl) (by kernel_rfl) (by kernel_rfl) (by kernel_rfl) (by kernel_rfl) (by kernel_rfl) (fun _ _ _ h => h) (.inl ⟨by rfl, fun w' _ => (by go_simp; rfl)⟩) hS ?_
  go_frame
  refine till_take 4 (some 14) rfl rfl (by kernel_rfl) (by kernel_rfl) (by kernel_rfl) (by kernel_rfl) (by kernel_rfl) (by kernel_rfl) (fun _ _ _ h => h) (.inl ⟨by rfl, fun w' _ => (by go_simp; rfl)⟩) hS ?_
  go_frame
  refine till_take 5 (some 15) rfl rfl (by kernel_rfl) (by kernel_rfl) (by kernel_rfl) (by kernel_rfl) (by kernel_rfl) (by kernel_rfl) (fun _ _ _ h => h) (.inl ⟨by rfl, fun w' _ => (by go_simp; rfl)⟩) hS ?_
  go_frame
  refine till_take 6 (some 16) rfl rfl (by kernel_rfl) (by kernel_rfl) (by kernel_rfl) (by kernel_rfl) (by kernel_rfl) (by kernel_rfl) (fun _ _ _ h => h) (.inl ⟨by rfl, fun w' _ => (by go_simp; rfl)⟩) hS ?_
  go_frame
  refine till_take 7 (some 17) rfl rfl (by kernel_rfl) (by kernel_rfl) (by kernel_rfl) (by kernel_rfl) (by kernel_rfl) (by kernel_rfl) (fun _ _ _ h => h) (.inl ⟨by rfl, fun w' _ => (by go_simp; rfl)⟩) hS ?_
  go_frame
  refine till_take 8 (some 18) rfl rfl (by kernel_rfl) (by kernel_rfl) (by kernel_rfl) (by kernel_rfl) (by kernel_rfl) (by kernel_rfl) (fun _ _ _ h => h) (.inl ⟨by rfl, fun w' _ => (by go_simp; rfl)⟩) hS ?_
  go_frame
  refine till_take 9 (some 19) rfl rfl (by kernel_rfl) (by kernel_rfl) (by kernel_rfl) (by kernel_rfl) (by kernel_rfl) (by kernel_rfl) (fun _ _ _ h => h) (.inl ⟨by rfl, fun w' _ => (by go_simp; rfl)⟩) hS ?_
  go_frame
  refine till_take 10 (some 20) rfl rfl (by kernel_rfl) (by kernel_rfl) (by kernel_rfl) (by kernel_rfl) (by kernel_rfl) (by kernel_rfl) (fun _ _ _ h => h) (yields_load (by rfl) 48 (.tmp 19) rfl (.pointer (some ⟨rb, ro, none⟩)) rfl _ HL.out) hS ?_
  go_frame
  refine till_one 11 rfl (by kernel_rfl) fun K hK => ?_
  simp only [List.getElem_toArray, List.getElem_cons_succ, List.getElem_cons_zero]
  rw [if_pos (by rfl)]
  go_simp
  have hS1 : Below w2.heap.size w2 (w2.drew.alloc (.cells #[.int .u8 2] 5)) := hS.alloc (Nat.le_refl _) _
  refine hK _ _ (fun _ _ => hS1) ?_
  clear hK
  have hrd : Rd (w2.drew.alloc (.cells #[.int .u8 2] 5)) u8E 1 (.slice (some ⟨w2.heap.size, 0, none⟩) 1 1) [2] := rd_new1 w2.drew u8E (fun _ => rfl) 5 [2] _ 1 rfl (by omega) rfl
  refine till_one 12 rfl (by kernel_rfl) fun K hK => ?_
  simp only [List.getElem_toArray, List.getElem_cons_succ, List.getElem_cons_zero]
  rw [if_pos (by rfl)]
  go_simp
  refine (mleaf_any 2 [2] _ _ hrd (by simp)).mono ?_
  rintro e w5 ⟨rfl, hb5⟩
  have hS5 : Below w2.heap.size w2 w5 := hS1.trans (hb5.mono hS1.size)
  refine hK _ _ (fun _ _ => hS5) ?_
  clear hK hb5 hS1 hrd hS
  rw [← HX.out]
  refine till_take 13 (some 23) rfl rfl (by kernel_rfl) (by kernel_rfl) (by kernel_rfl) (by kernel_rfl) (by kernel_rfl) (by kernel_rfl) (fun _ _ _ h => h) (.inl ⟨by rfl, fun w' _ => (by go_simp; rfl)⟩) hS5 ?_
  go_frame
  refine till_take 14 (some 24) rfl rfl (by kernel_rfl) (by kernel_rfl) (by kernel_rfl) (by kernel_rfl) (by kernel_rfl) (by kernel_rfl) (fun _ _ _ h => h) (.inl ⟨by rfl, fun w' _ => (by go_simp; rfl)⟩) hS5 ?_
  go_frame
  refine till_one 15 rfl (by kernel_rfl) fun K hK => ?_
  simp only [List.getElem_toArray, List.getElem_cons_succ, List.getElem_cons_zero]
  rw [if_pos (by rfl)]
  go_simp
  refine hK _ _ (fun h => absurd rfl h) ?_
  clear hK heq
  refine till_done (by kernel_rfl) ?_ _
  have HS5 := Lib.hid hS5; clear hS5
  go_wp2_with fail
  go_ret
  exact ⟨rfl, HB2.out.trans (HS5.out.mono HB2.out.size)⟩

set_option maxRecDepth 100000 in
set_option maxHeartbeats 4000000 in
theorem law_builds (k i : Int) (l : List (List UInt8)) (v : Value) (w : World) (h : Texts w v l) (hz : ∀ b ∈ l, b.length ≤ 140737488355328) : Calls Try.prog 14 #[.int .i64 k, v, .int .i64 i] w (Ret w (.bool true)) := by
  obtain ⟨ad, cap, rfl, hc1, hc2⟩ := h.shape
  have H := Lib.hid h; have HZ := Lib.hid hz
  clear h hz
  cases hb : lightB l with
  | false =>
    have HB := Lib.hid hb; clear hb
    go_enter Try.func14, Try.ntmps14
    go_wp2_with fail
    refine (light07_any _ l _ H.out HZ.out).mono ?_
    rintro e w1 ⟨rfl, rfl⟩
    rw [HB.out]
    go_wp2_with fail
    refine (lives07_any _).mono ?_
    rintro e w1 ⟨rfl, hb1⟩
    go_wp2_with fail
    go_ret
    exact ⟨rfl, hb1⟩
  | true =>
    obtain ⟨hf, h40⟩ := light_fair hb
    have HB := Lib.hid hb; have HF := Lib.hid hf
    clear hb hf
    go_enter Try.func14, Try.ntmps14
    go_wp2_with fail
    refine (light07_any _ l _ H.out HZ.out).mono ?_
    rintro e' w1 ⟨rfl, rfl⟩
    rw [HB.out]
    go_wp2_with fail
    refine (pbuild_any k i l _ _ H.out HF.out).mono ?_
    rintro e' w1 ⟨v1, rfl, hown1, hb1⟩
    obtain ⟨oad, on, ocap, hox⟩ := hown1.slice
    subst hox
    obtain ⟨ye, hye⟩ : ∃ ye, ye = proofE k l i := ⟨_, rfl⟩
    rw [← hye]
    have HYE := Lib.hid hye; have HO1 := Lib.hid hown1; have HB1 := Lib.hid hb1
    clear hye hown1 hb1
    go_wp2_with fail
    obtain ⟨g, hg⟩ : ∃ g, g = w1.heap.size := ⟨_, rfl⟩
    rw [← hg]
    obtain ⟨w2, hw2⟩ : ∃ w2, w2 = w1.alloc (.cells #[.slice none 0 0] 70) := ⟨_, rfl⟩
    rw [← hw2]
    have hb12 : Below w1.heap.size w1 w2 := by rw [hw2]; exact (Below.refl _ _).alloc (Nat.le_refl _) _
    have hb2 : Below w.heap.size w w2 := HB1.out.trans (hb12.mono HB1.out.size)
    have ht2 : Tr w2 g none [] := tr_new (by rw [hw2, hg]; exact heap_alloc_new _ _)
    have hgw : w.heap.size ≤ g := by rw [hg]; exact HB1.out.size
    have HB2 := Lib.hid hb2; have HT2 := Lib.hid ht2; have HO2 := Lib.hid (HO1.out.later hb12)
    clear hg hw2 hb2 ht2 hb12
    refine (tbuild_any w2 g none [] k i l _ (texts_grew H.out HB2.out hgw (fun _ h => by cases h)) HT2.out HF.out (by simp)).mono ?_
    rintro e' w3 ⟨v3, a3, rfl, hrd3, hg3⟩
    obtain ⟨tad, tcap, hox, _⟩ := hrd3.shape
    obtain ⟨N, hN⟩ : ∃ N, N = (proofV k l i).length := ⟨_, rfl⟩
    rw [← hN] at hox
    subst hox
    clear hN
    rw [← HYE.out]
    have HB3 := Lib.hid (HB2.out.trans (hg3.below HB2.out.size hgw (fun _ h => by cases h))); have HR3 := Lib.hid hrd3; have HO3 := Lib.hid ((own_other HT2.out hg3 HO2.out (by decide)).rd hE_len)
    clear hrd3 hg3
    go_wp2_with fail
    refine (hsame_any _ _ (proofV k l i) w3 HO3.out HR3.out (proofV_32 _ _ _)).mono ?_
    rintro e' w4 ⟨rfl, hb4⟩
    have HB4 := Lib.hid (HB3.out.trans (hb4.mono HB3.out.size))
    clear hb4
    go_wp2_with fail
    refine (lives07_any _).mono ?_
    rintro e' w5 ⟨rfl, hb5⟩
    go_wp2_with fail
    go_ret
    exact ⟨rfl, HB4.out.trans (hb5.mono HB4.out.size)⟩
end Go.Proofs.Ytbfdjjaonjepnaa
