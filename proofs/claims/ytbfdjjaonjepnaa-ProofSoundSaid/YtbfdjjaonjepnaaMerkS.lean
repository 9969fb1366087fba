/- tallagelaw06.MerkleNodes: its walk. -/
import Derived.Test.YtbfdjjaonjepnaaMerkQ
namespace Go.Proofs.Ytbfdjjaonjepnaa
open Go.RowKit

/-- The law's tree, and all else as it was. -/
def TreeOnly (wb : World) (g : Nat) (w' : World) : Prop := ∃ a tx, Tr w' g a tx ∧ tx.length < 100000 ∧ Grew wb g none w' a
/-- The same, with fewer than n texts. -/
def TreeFew (n : Nat) (wb : World) (g : Nat) (w' : World) : Prop := ∃ a tx, Tr w' g a tx ∧ tx.length < n ∧ Grew wb g none w' a
theorem TreeFew.only {n : Nat} {wb w' : World} {g : Nat} (h : TreeFew n wb g w') (hn : n ≤ 100000) : TreeOnly wb g w' := by
  obtain ⟨a, tx, h1, h2, h3⟩ := h; exact ⟨a, tx, h1, by omega, h3⟩
theorem TreeFew.below {n : Nat} {wb w' w'' : World} {g : Nat} (h : TreeFew n wb g w') (hb : Below w'.heap.size w' w'') : TreeFew n wb g w'' := by
  obtain ⟨a, tx, h1, h2, h3⟩ := h; exact ⟨a, tx, h1.later hb, h2, h3.trans (Grew.of_below g a hb)⟩
theorem TreeOnly.keep {wb w' : World} {g : Nat} (h : TreeOnly wb g w') : Keep (· = g) wb w' := by
  obtain ⟨a, tx, _, _, h3⟩ := h
  exact h3.1.mono (fun k _ e => e.elim id (fun e => by cases e))
theorem tr_new {w : World} {g : Nat} (h : w.heap[g]? = some (.cells #[.slice none 0 0] 70 (0, 0))) : Tr w g none [] := ⟨_, [], h, Own.nil _ _ _ _ _, rfl, rfl, fun i u l p _ => by simp at p⟩
theorem leafN_le (k : Int) (b : List UInt8) : (leafN k b).length ≤ 1 := by unfold leafN; split <;> simp
theorem nodeN_le (k : Int) (a b : List UInt8) : (nodeN k a b).length ≤ 1 := by unfold nodeN; split <;> simp
theorem tleaf_few (n : Nat) (wb w : World) (g : Nat) (k : Int) (b : List UInt8) (u : Value) (hb : Rd w u8E 1 u b) (hl : b.length < 1000000000000) (h : TreeFew n wb g w) (hn : n < 1000) :
    Calls Try.prog 57 #[.pointer (some ⟨g, 0, none⟩), .int .i64 k, u] w fun e w' => e = .returned (.agg (c8 (leafK k b))) ∧ TreeFew (n + 1) wb g w' := by
  obtain ⟨a, tx, h1, h2, h3⟩ := h
  refine (tleaf_any w g a tx k b u hb hl h1 (by omega)).mono ?_
  rintro e w' ⟨rfl, a', h4, h5⟩
  exact ⟨rfl, a', _, h4, by rw [List.length_append]; have := leafN_le k b; omega, h3.trans h5⟩
theorem tnode_few (n : Nat) (wb w : World) (g : Nat) (k : Int) (a b : List UInt8) (ha : a.length = 32) (hb : b.length = 32) (h : TreeFew n wb g w) (hn : n < 1000) :
    Calls Try.prog 59 #[.pointer (some ⟨g, 0, none⟩), .int .i64 k, .agg (c8 a), .agg (c8 b)] w fun e w' => e = .returned (.agg (c8 (nodeK k a b))) ∧ TreeFew (n + 1) wb g w' := by
  obtain ⟨ar, tx, h1, h2, h3⟩ := h
  refine (tnode_any w g ar tx k a b ha hb h1 (by omega)).mono ?_
  rintro e w' ⟨rfl, a', h4, h5⟩
  exact ⟨rfl, a', _, h4, by rw [List.length_append]; have := nodeN_le k a b; omega, h3.trans h5⟩
set_option maxRecDepth 100000 in
set_option maxHeartbeats 4000000 in
theorem law_nodes (k : Int) (b l : List UInt8) (vb : Value) (w : World) (rb : Rd w u8E 1 vb b) (hl : l.length = 64) : Calls Try.prog 11 #[.int .i64 k, vb, .agg (c8 l)] w (Ret w (.bool true)) := by
  obtain ⟨ad, cap, rfl, hc1, hc2⟩ := rb.shape
  obtain ⟨n, hn⟩ : ∃ n, n = b.length := ⟨_, rfl⟩
  rw [← hn] at hc1 rb ⊢
  have RB := Lib.hid rb; have HN := Lib.hid hn; have HL := Lib.hid hl
  clear rb hn hl
  by_cases hbig : 500 < n
  · go_enter Try.func11, Try.ntmps11
    go_wp2_with fail
    refine (lives06_any _).mono ?_
    rintro e w1 ⟨rfl, hb1⟩
    go_wp2_with fail
    go_ret
    exact ⟨rfl, ((Below.refl _ _).alloc (Nat.le_refl _) _).trans (hb1.mono (by simp))⟩
  · obtain ⟨x0, hx0⟩ : ∃ x0, x0 = l.take 32 := ⟨_, rfl⟩
    obtain ⟨x1, hx1⟩ : ∃ x1, x1 = l.drop 32 := ⟨_, rfl⟩
    have h0 : x0.length = 32 := by rw [hx0, List.length_take, HL.out]; rfl
    have h1 : x1.length = 32 := by rw [hx1, List.length_drop, HL.out]
    obtain ⟨w1, hw1⟩ : ∃ w1, w1 = (w.alloc (.cells (c8 l) 81)).alloc (.cells #[.slice none 0 0] 70) := ⟨_, rfl⟩
    have hb1 : Below w.heap.size w w1 := by rw [hw1]; exact (Below.refl _ _).alloc (Nat.le_refl _) _ |>.alloc (by simp) _
    have hB : w1.heap[w.heap.size]? = some (.cells (c8 l) 81 (0, 0)) := by rw [hw1, Below.heap_alloc _ _ _ (by simp)]; exact heap_alloc_new _ _
    have hG : w1.heap[w.heap.size + 1]? = some (.cells #[.slice none 0 0] 70 (0, 0)) := by rw [hw1]; have := heap_alloc_new (w.alloc (.cells (c8 l) 81)) (.cells #[.slice none 0 0] 70 (0, 0)); rwa [World.size_alloc] at this
    obtain ⟨g, hg⟩ : ∃ g, g = w.heap.size + 1 := ⟨_, rfl⟩
    rw [← hg] at hG
    have hf1 : TreeFew 1 w1 g w1 := ⟨none, [], tr_new hG, by simp, Grew.of_below g none (Below.refl _ _)⟩
    have hrb : ∀ w', TreeOnly w1 g w' → Rd w' u8E 1 (.slice ad n cap) b := fun w' h => (RB.out.later hb1).keep h.keep (fun q hq hne e => by have := RB.out.lt q hq hne; omega)
    have r0 : ∀ w', TreeOnly w1 g w' → (Instr.loadAt 48 (.pointer (some ⟨w.heap.size, 0, none⟩))).run Try.prog w' = .ok (.agg (c8 x0)) w' := fun w' h => by
      have hh := h.keep.at hB (by omega)
      refine run_loadAt_mid w' _ 0 48 (x0.map byteV) _ (range_of_heap hh 0 _ ?_) Try.underlying48 rfl (Try.sizeHm _ h0)
      rw [List.length_map, h0, hx0]; simp [c8]
    have r1 : ∀ w', TreeOnly w1 g w' → (Instr.loadAt 48 (.pointer (some ⟨w.heap.size, 32, none⟩))).run Try.prog w' = .ok (.agg (c8 x1)) w' := fun w' h => by
      have hh := h.keep.at hB (by omega)
      refine run_loadAt_mid w' _ 32 48 (x1.map byteV) _ (range_of_heap hh 32 _ ?_) Try.underlying48 rfl (Try.sizeHm _ h1)
      rw [List.length_map, h1, hx1, List.take_of_length_le (by simp [c8, HL.out])]; simp [c8]
    obtain ⟨y0, hy0⟩ : ∃ y0, y0 = leafK k b := ⟨_, rfl⟩
    obtain ⟨y1, hy1⟩ : ∃ y1, y1 = nodeK k x0 x1 := ⟨_, rfl⟩
    obtain ⟨y2, hy2⟩ : ∃ y2, y2 = leafK k [] := ⟨_, rfl⟩
    have e0 := Try.eqH y0 y0 (by rw [hy0]; exact leafK_length _ _) (by rw [hy0]; exact leafK_length _ _)
    have e1 := Try.eqH y1 y1 (by rw [hy1]; exact nodeK_length _ _ _) (by rw [hy1]; exact nodeK_length _ _ _)
    have e2 := Try.eqH y2 y2 (by rw [hy2]; exact leafK_length _ _) (by rw [hy2]; exact leafK_length _ _)
    rw [decide_eq_true (rfl : y0 = y0)] at e0
    rw [decide_eq_true (rfl : y1 = y1)] at e1
    rw [decide_eq_true (rfl : y2 = y2)] at e2
    have HY0 := Lib.hid hy0; have HY1 := Lib.hid hy1; have HY2 := Lib.hid hy2; have HRB := Lib.hid hrb; have HR0 := Lib.hid r0; have HR1 := Lib.hid r1; have HF1 := Lib.hid hf1; have HB1 := Lib.hid hb1; have HW1 := Lib.hid hw1; have HGE := Lib.hid hg
    clear hy0 hy1 hy2 hrb r0 r1 hf1 hb1 hw1 hB hG hx0 hx1 hg
    have E0 := Lib.hid e0; have E1 := Lib.hid e1; have E2 := Lib.hid e2
    clear e0 e1 e2
    go_enter Try.func11, Try.ntmps11
    go_wp2_with fail
    rw [← HW1.out, ← HGE.out]
    have hS : TreeOnly w1 g w1.drew := (HF1.out.below (Below.refl _ _).drew).only (by omega)
    have hF : TreeFew 1 w1 g w1.drew := HF1.out.below (Below.refl _ _).drew
    refine wp_region_till (TreeOnly w1 g) 35 36 (by kernel_rfl) rfl ?_
    refine till_take 0 (some 14) rfl rfl (by kernel_rfl) (by kernel_rfl) (by kernel_rfl) (by kernel_rfl) (by kernel_rfl) (by kernel_rfl) (fun _ _ _ h => h) (.inl ⟨by rfl, fun w' _ => (by go_simp; rfl)⟩) hS ?_
    go_frame
    refine till_take 1 (some 15) rfl rfl (by kernel_rfl) (by kernel_rfl) (by kernel_rfl) (by kernel_rfl) (by kernel_rfl) (by kernel_rfl) (fun _ _ _ h => h) (.inl ⟨by rfl, fun w' _ => (by go_simp; rfl)⟩) hS ?_
    go_frame
    refine till_take 3 (some 17) rfl rfl (by kernel_rfl) (by kernel_rfl) (by kernel_rfl) (by kernel_rfl) (by kernel_rfl) (by kernel_rfl) (fun _ _ _ h => h) (.inl ⟨by rfl, fun w' _ => (by go_simp; rfl)⟩) hS ?_
    go_frame
    refine till_take 4 (some 18) rfl rfl (by kernel_rfl) (by kernel_rfl) (by kernel_rfl) (by kernel_rfl) (by kernel_rfl) (by kernel_rfl) (fun _ _ _ h => h) (.inl ⟨by rfl, fun w' _ => (by go_simp; rfl)⟩) hS ?_
    go_frame
    refine till_take 5 (some 19) rfl rfl (by kernel_rfl) (by kernel_rfl) (by kernel_rfl) (by kernel_rfl) (by kernel_rfl) (by kernel_rfl) (fun _ _ _ h => h) (.inl ⟨by rfl, fun w' _ => (by go_simp; rfl)⟩) hS ?_
    go_frame
    refine till_one 2 rfl (by kernel_rfl) fun K hK => ?_
    simp only [List.getElem_toArray, List.getElem_cons_succ, List.getElem_cons_zero]
    rw [if_pos (by rfl)]
    go_simp
    refine (mleaf_any k b _ _ (HRB.out _ hS) (by have := HN.out; omega)).mono ?_
    rintro e wq ⟨rfl, hbq⟩
    replace hF := hF.below hbq
    replace hS := hF.only (by omega)
    refine hK _ _ (fun _ _ => hS) ?_
    clear hK hbq
    rw [← HY0.out]
    refine till_one 6 rfl (by kernel_rfl) fun K hK => ?_
    simp only [List.getElem_toArray, List.getElem_cons_succ, List.getElem_cons_zero]
    rw [if_pos (by rfl)]
    go_simp
    refine (tleaf_few 1 w1 _ g k b _ (HRB.out _ hS) (by have := HN.out; omega) hF (by omega)).mono ?_
    rintro e wq ⟨rfl, hfq⟩
    replace hF := hfq
    replace hS := hF.only (by omega)
    refine hK _ _ (fun _ _ => hS) ?_
    clear hK hfq
    rw [← HY0.out]
    refine till_take 7 (some 21) rfl rfl (by kernel_rfl) (by kernel_rfl) (by kernel_rfl) (by kernel_rfl) (by kernel_rfl) (by kernel_rfl) (fun _ _ _ h => h) (.inl ⟨by rfl, fun w' _ => (by have hq := E0.out w'; go_simp; rfl)⟩) hS ?_
    go_frame
    refine till_take 8 (some 22) rfl rfl (by kernel_rfl) (by kernel_rfl) (by kernel_rfl) (by kernel_rfl) (by kernel_rfl) (by kernel_rfl) (fun _ _ _ h => h) (.inl ⟨by rfl, fun w' _ => (by go_simp; rfl)⟩) hS ?_
    go_frame
    refine till_take 9 (some 23) rfl rfl (by kernel_rfl) (by kernel_rfl) (by kernel_rfl) (by kernel_rfl) (by kernel_rfl) (by kernel_rfl) (fun _ _ _ h => h) (.inl ⟨by rfl, fun w' _ => (by go_simp; rfl)⟩) hS ?_
    go_frame
    refine till_take 10 (some 24) rfl rfl (by kernel_rfl) (by kernel_rfl) (by kernel_rfl) (by kernel_rfl) (by kernel_rfl) (by kernel_rfl) (fun _ _ _ h => h) (.inl ⟨by rfl, fun w' _ => (by go_simp; rfl)⟩) hS ?_
    go_frame
    refine till_take 11 (some 25) rfl rfl (by kernel_rfl) (by kernel_rfl) (by kernel_rfl) (by kernel_rfl) (by kernel_rfl) (by kernel_rfl) (fun _ _ _ h => h) (yields_load (by rfl) 48 (.tmp 24) rfl (.pointer (some ⟨w.heap.size, 0, none⟩)) rfl _ HR0.out) hS ?_
    go_frame
    refine till_take 12 (some 26) rfl rfl (by kernel_rfl) (by kernel_rfl) (by kernel_rfl) (by kernel_rfl) (by kernel_rfl) (by kernel_rfl) (fun _ _ _ h => h) (.inl ⟨by rfl, fun w' _ => (by go_simp; rfl)⟩) hS ?_
    go_frame
    refine till_take 13 (some 27) rfl rfl (by kernel_rfl) (by kernel_rfl) (by kernel_rfl) (by kernel_rfl) (by kernel_rfl) (by kernel_rfl) (fun _ _ _ h => h) (yields_load (by rfl) 48 (.tmp 26) rfl (.pointer (some ⟨w.heap.size, 32, none⟩)) rfl _ HR1.out) hS ?_
    go_frame
    refine till_take 15 (some 29) rfl rfl (by kernel_rfl) (by kernel_rfl) (by kernel_rfl) (by kernel_rfl) (by kernel_rfl) (by kernel_rfl) (fun _ _ _ h => h) (.inl ⟨by rfl, fun w' _ => (by go_simp; rfl)⟩) hS ?_
    go_frame
    refine till_take 16 (some 30) rfl rfl (by kernel_rfl) (by kernel_rfl) (by kernel_rfl) (by kernel_rfl) (by kernel_rfl) (by kernel_rfl) (fun _ _ _ h => h) (.inl ⟨by rfl, fun w' _ => (by go_simp; rfl)⟩) hS ?_
    go_frame
    refine till_take 17 (some 31) rfl rfl (by kernel_rfl) (by kernel_rfl) (by kernel_rfl) (by kernel_rfl) (by kernel_rfl) (by kernel_rfl) (fun _ _ _ h => h) (.inl ⟨by rfl, fun w' _ => (by go_simp; rfl)⟩) hS ?_
    go_frame
    refine till_take 18 (some 32) rfl rfl (by kernel_rfl) (by kernel_rfl) (by kernel_rfl) (by kernel_rfl) (by kernel_rfl) (by kernel_rfl) (fun _ _ _ h => h) (yields_load (by rfl) 48 (.tmp 31) rfl (.pointer (some ⟨w.heap.size, 0, none⟩)) rfl _ HR0.out) hS ?_
    go_frame
    refine till_take 19 (some 33) rfl rfl (by kernel_rfl) (by kernel_rfl) (by kernel_rfl) (by kernel_rfl) (by kernel_rfl) (by kernel_rfl) (fun _ _ _ h => h) (.inl ⟨by rfl, fun w' _ => (by go_simp; rfl)⟩) hS ?_
    go_frame
    refine till_take 20 (some 34) rfl rfl (by kernel_rfl) (by kernel_rfl) (by kernel_rfl) (by kernel_rfl) (by kernel_rfl) (by kernel_rfl) (fun _ _ _ h => h) (yields_load (by rfl) 48 (.tmp 33) rfl (.pointer (some ⟨w.heap.size, 32, none⟩)) rfl _ HR1.out) hS ?_
    go_frame
    refine till_one 14 rfl (by kernel_rfl) fun K hK => ?_
    simp only [List.getElem_toArray, List.getElem_cons_succ, List.getElem_cons_zero]
    rw [if_pos (by rfl)]
    go_simp
    refine (mnode_any k x0 x1 h0 h1 _).mono ?_
    rintro e wq ⟨rfl, hbq⟩
    replace hF := hF.below hbq
    replace hS := hF.only (by omega)
    refine hK _ _ (fun _ _ => hS) ?_
    clear hK hbq
    rw [← HY1.out]
    refine till_one 21 rfl (by kernel_rfl) fun K hK => ?_
    simp only [List.getElem_toArray, List.getElem_cons_succ, List.getElem_cons_zero]
    rw [if_pos (by rfl)]
    go_simp
    refine (tnode_few 2 w1 _ g k x0 x1 h0 h1 hF (by omega)).mono ?_
    rintro e wq ⟨rfl, hfq⟩
    replace hF := hfq
    replace hS := hF.only (by omega)
    refine hK _ _ (fun _ _ => hS) ?_
    clear hK hfq
    rw [← HY1.out]
    refine till_take 22 (some 36) rfl rfl (by kernel_rfl) (by kernel_rfl) (by kernel_rfl) (by kernel_rfl) (by kernel_rfl) (by kernel_rfl) (fun _ _ _ h => h) (.inl ⟨by rfl, fun w' _ => (by have hq := E1.out w'; go_simp; rfl)⟩) hS ?_
    go_frame
    refine till_take 23 (some 37) rfl rfl (by kernel_rfl) (by kernel_rfl) (by kernel_rfl) (by kernel_rfl) (by kernel_rfl) (by kernel_rfl) (fun _ _ _ h => h) (.inl ⟨by rfl, fun w' _ => (by go_simp; rfl)⟩) hS ?_
    go_frame
    refine till_take 24 (some 38) rfl rfl (by kernel_rfl) (by kernel_rfl) (by kernel_rfl) (by kernel_rfl) (by kernel_rfl) (by kernel_rfl) (fun _ _ _ h => h) (.inl ⟨by rfl, fun w' _ => (by go_simp; rfl)⟩) hS ?_
    go_frame
    refine till_take 25 (some 39) rfl rfl (by kernel_rfl) (by kernel_rfl) (by kernel_rfl) (by kernel_rfl) (by kernel_rfl) (by kernel_rfl) (fun _ _ _ h => h) (.inl ⟨by rfl, fun w' _ => (by go_simp; rfl)⟩) hS ?_
    go_frame
    refine till_take 27 (some 41) rfl rfl (by kernel_rfl) (by kernel_rfl) (by kernel_rfl) (by kernel_rfl) (by kernel_rfl) (by kernel_rfl) (fun _ _ _ h => h) (.inl ⟨by rfl, fun w' _ => (by go_simp; rfl)⟩) hS ?_
    go_frame
    refine till_take 28 (some 42) rfl rfl (by kernel_rfl) (by kernel_rfl) (by kernel_rfl) (by kernel_rfl) (by kernel_rfl) (by kernel_rfl) (fun _ _ _ h => h) (.inl ⟨by rfl, fun w' _ => (by go_simp; rfl)⟩) hS ?_
    go_frame
    refine till_one 26 rfl (by kernel_rfl) fun K hK => ?_
    simp only [List.getElem_toArray, List.getElem_cons_succ, List.getElem_cons_zero]
    rw [if_pos (by rfl)]
    go_simp
    refine (mempty_any k _).mono ?_
    rintro e wq ⟨rfl, hbq⟩
    replace hF := hF.below hbq
    replace hS := hF.only (by omega)
    refine hK _ _ (fun _ _ => hS) ?_
    clear hK hbq
    rw [← HY2.out]
    refine till_one 29 rfl (by kernel_rfl) fun K hK => ?_
    simp only [List.getElem_toArray, List.getElem_cons_succ, List.getElem_cons_zero]
    rw [if_pos (by rfl)]
    go_simp
    refine (tleaf_few 3 w1 _ g k [] _ (Rd.nil _ _ _) (by simp) hF (by omega)).mono ?_
    rintro e wq ⟨rfl, hfq⟩
    replace hF := hfq
    replace hS := hF.only (by omega)
    refine hK _ _ (fun _ _ => hS) ?_
    clear hK hfq
    rw [← HY2.out]
    refine till_take 30 (some 44) rfl rfl (by kernel_rfl) (by kernel_rfl) (by kernel_rfl) (by kernel_rfl) (by kernel_rfl) (by kernel_rfl) (fun _ _ _ h => h) (.inl ⟨by rfl, fun w' _ => (by have hq := E2.out w'; go_simp; rfl)⟩) hS ?_
    go_frame
    refine till_take 31 (some 45) rfl rfl (by kernel_rfl) (by kernel_rfl) (by kernel_rfl) (by kernel_rfl) (by kernel_rfl) (by kernel_rfl) (fun _ _ _ h => h) (.inl ⟨by rfl, fun w' _ => (by go_simp; rfl)⟩) hS ?_
    go_frame
    refine till_take 32 (some 46) rfl rfl (by kernel_rfl) (by kernel_rfl) (by kernel_rfl) (by kernel_rfl) (by kernel_rfl) (by kernel_rfl) (fun _ _ _ h => h) (.inl ⟨by rfl, fun w' _ => (by go_simp; rfl)⟩) hS ?_
    go_frame
    refine till_one 33 rfl (by kernel_rfl) fun K hK => ?_
    simp only [List.getElem_toArray, List.getElem_cons_succ, List.getElem_cons_zero]
    rw [if_pos (by rfl)]
    go_simp
    refine (lives06_any _).mono ?_
    rintro e wq ⟨rfl, hbq⟩
    replace hF := hF.below hbq
    replace hS := hF.only (by omega)
    refine hK _ _ (fun _ _ => hS) ?_
    clear hK hbq
    refine till_take 34 (some 48) rfl rfl (by kernel_rfl) (by kernel_rfl) (by kernel_rfl) (by kernel_rfl) (by kernel_rfl) (by kernel_rfl) (fun _ _ _ h => h) (.inl ⟨by rfl, fun w' _ => (by go_simp; rfl)⟩) hS ?_
    go_frame
    refine till_one 35 rfl (by kernel_rfl) fun K hK => ?_
    simp only [List.getElem_toArray, List.getElem_cons_succ, List.getElem_cons_zero]
    rw [if_pos (by rfl)]
    go_simp
    refine hK _ _ (fun h => absurd rfl h) ?_
    clear hK
    refine till_done (by kernel_rfl) ?_ _
    go_wp2_with fail
    go_ret
    exact ⟨rfl, HB1.out.trans (hS.keep.below (B := w.heap.size) (fun q hq e => by have := HGE.out; omega) HB1.out.size)⟩
end Go.Proofs.Ytbfdjjaonjepnaa
