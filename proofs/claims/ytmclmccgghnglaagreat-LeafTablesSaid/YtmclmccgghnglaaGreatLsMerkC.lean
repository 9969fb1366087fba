/- merkle.Node. -/
import Derived.Test.YtmclmccgghnglaaGreatLs11
import Derived.Deep.RegionHeld3
namespace Go.Proofs.YtmclmccgghnglaaGreat
open Go.RowKit

theorem setCells_keep (b : Nat) : ∀ (vs : List Value) (o : Nat) (w : World), Keep (· = b) w (w.setCells b o vs) ∧ (w.setCells b o vs).heap.size = w.heap.size
  | [], _, w => ⟨Keep.refl _ _, rfl⟩
  | v :: r, o, w => by
    obtain ⟨h1, h2⟩ := setCells_keep b r (o + 1) (w.setCell ⟨b, o, none⟩ v)
    refine ⟨(Keep.setCell (S := (· = b)) (p := ⟨b, o, none⟩) (Keep.refl _ _) (.inl rfl) v).then h1 (fun x hx => .inl hx), ?_⟩
    rw [World.setCells, h2]; simp [World.setCell]
theorem setCells_at (b : Nat) (t : TypeId) : ∀ (vs : List Value) (o : Nat) (w : World) (cs : List Value), w.heap[b]? = some (.cells cs.toArray t (0, 0)) → o + vs.length ≤ cs.length →
    (w.setCells b o vs).heap[b]? = some (.cells (cs.take o ++ vs ++ cs.drop (o + vs.length)).toArray t (0, 0))
  | [], o, w, cs, h, hl => by rw [World.setCells, h]; simp
  | v :: r, o, w, cs, h, hl => by
    simp only [List.length_cons] at hl
    have h1 := heap_setCell_same w b o cs.toArray t v h
    rw [List.setIfInBounds_toArray] at h1
    rw [World.setCells, setCells_at b t r (o + 1) _ (cs.set o v) h1 (by simp; omega)]
    have e : (cs.set o v).take (o + 1) = cs.take o ++ [v] := by
      rw [List.take_set, List.take_succ_eq_append_getElem (by omega), List.set_append_right _ _ (by simp; omega)]
      simp [Nat.min_eq_left (show o ≤ cs.length by omega)]
    rw [e, List.drop_set_of_lt (by omega), List.length_cons, show o + 1 + r.length = o + (r.length + 1) by omega]
    simp
/-- A whole block is laid. -/
theorem setCells_row {b : Nat} {t : TypeId} {vs : List Value} {w : World} {old : Array Value} (h : w.heap[b]? = some (.cells old t (0, 0))) (hl : vs.length = old.size) : (w.setCells b 0 vs).heap[b]? = some (.cells vs.toArray t (0, 0)) := by
  have := setCells_at b t vs 0 w old.toList h (by simp; omega)
  rw [this]
  simp [hl]
theorem there_row {b : Nat} {t : TypeId} {w : World} {cs : Array Value} (h : w.heap[b]? = some (.cells cs t (0, 0))) : w.there b 0 cs.size := fun j hj => by
  rw [Nat.zero_add]
  exact ⟨by rw [Lib.cell_of_heap h, Array.getElem?_eq_getElem hj]; rfl, Lib.frozen_of_heap h j⟩
/-- A variable that holds a row, as a slice of bytes. -/
theorem rd_box {w : World} {g : Nat} {l : List UInt8} {T : TypeId} {fr : Nat × Nat} (h : w.heap[g]? = some (.cells (c8 l) T fr)) (n : Nat) (hn : n = l.length) (hm : n ≤ 9223372036854775807) : Rd w u8E 1 (.slice (some ⟨g, 0, none⟩) n n) l := by
  subst hn
  refine ⟨_, _, rfl, Nat.le_refl _, by unfold maxLen; omega, fun _ => ⟨g, 0, rfl, heap_lt h, fun i hi j hj => ?_⟩⟩
  obtain rfl : j = 0 := by omega
  rw [Lib.cell_of_heap h]
  simp [c8, u8E, List.getElem?_eq_getElem hi]

set_option maxRecDepth 100000 in
set_option maxHeartbeats 1000000 in
theorem mnode_any (k : Int) (a b : List UInt8) (ha : a.length = 32) (hb : b.length = 32) (w : World) :
    Calls Tryz.prog 286 #[.int .i64 k, .agg (c8 a), .agg (c8 b)] w (Ret w (.agg (c8 (nodeK k a b)))) := by
  have HA := Lib.hid ha; have HB := Lib.hid hb; clear ha hb
  rcases (show (k = 1 ∨ k = 2) ∨ (¬ k = 1 ∧ ¬ k = 2) by omega) with hk | ⟨h1, h2⟩
  · have hkb := kindB_yes hk
    have hn : nodeK k a b = shaF (UInt8.ofNat (2 * k + 1).toNat :: (a ++ b)) := by
      unfold nodeK; rw [if_pos hk]; rcases hk with rfl | rfl <;> rfl
    have HN := Lib.hid hn
    have hk1 : 1 ≤ k := by omega
    have hk2 : k ≤ 2 := by omega
    clear hk hn
    go_enter Tryz.func286, Tryz.ntmps286
    go_wp2_with (refine wpList_alloc_g rfl _ rfl _ _ Tryz.zeroHash rfl ?_)
    intro R w1 h1
    go_wp2_with fail
    refine (mis_any _ _).mono ?_
    rintro e w2 ⟨rfl, rfl⟩
    go_wp2_with fail
    have w0 : IntKind.i64.wrap (2 * k) = 2 * k := IntWalk.i64_in _ (by omega)
    have w1' : IntKind.i64.wrap (2 * k + 1) = 2 * k + 1 := IntWalk.i64_in _ (by omega)
    have hA1 : w1.heap[w.heap.size]? = some (.cells (c8 a) 36 (0, 0)) := (h1.out.below.block _ (by simp; omega)).trans (by rw [Below.heap_alloc _ _ _ (by simp)]; exact heap_alloc_new _ _)
    have hB1 : w1.heap[w.heap.size + 1]? = some (.cells (c8 b) 36 (0, 0)) := (h1.out.below.block _ (by simp)).trans (by have := heap_alloc_new (w.alloc (.cells (c8 a) 36)) (.cells (c8 b) 36 (0, 0)); rwa [World.size_alloc] at this)
    have hT : Texts (w1.alloc (.cells #[.slice (some ⟨w.heap.size, 0, none⟩) 32 32, .slice (some ⟨w.heap.size + 1, 0, none⟩) 32 32] 100)).drew (.slice (some ⟨w1.heap.size, 0, none⟩) 2 2) [a, b] :=
      (texts_new2 (rd_box hA1 32 HA.out.symm (by omega)) (rd_box hB1 32 HB.out.symm (by omega)) _ rfl).later (Below.refl _ _).drew
    have hC := msum_any (2 * k + 1) (by omega) (by omega) [a, b] _ _ hT (by simp [HA.out, HB.out])
    simp only [List.flatten_cons, List.flatten_nil, List.append_nil] at hC
    rw [← HN.out] at hC
    obtain ⟨cs, hcs⟩ : ∃ cs, cs = (nodeK k a b).map byteV := ⟨_, rfl⟩
    have hc8 : c8 (nodeK k a b) = cs.toArray := by rw [hcs]; rfl
    have hc32 : cs.length = 32 := by rw [hcs, List.length_map, nodeK_length]
    have hone : ∀ v ∈ cs, v.oneCell' = true := by rw [hcs]; intro v hv; obtain ⟨x, _, rfl⟩ := List.mem_map.1 hv; rfl
    have hsz : (Tryz.prog.info? 36).map (·.size) = some cs.length := by rw [hc32]; kernel_rfl
    have hz1 : w1.heap.size = w.heap.size + 3 := by have := h1.out.size; simpa using this
    have hR : R = w.heap.size + 2 := by have := h1.out.eq; simpa using this
    rw [hc8] at hC
    have HC := Lib.hid hC; have HZ := Lib.hid hz1; have HRE := Lib.hid hR; have HC8 := Lib.hid hc8; have HONE := Lib.hid hone; have HCS := Lib.hid hcs
    clear hC hz1 hR hc8 hcs hT hA1 hB1
    rw [HC8.out]
    go_region_held3 (fun _ => True) (trivial) (first
      | (go_at_call 288; ((with_reducible refine HC.out.mono ?_); rintro e w' ⟨rfl, hbq⟩; have hR4 : w'.heap[R]? = some (.cells (cB 32 []) 36 (0, 0)) := (hbq.block R (by show _ < (World.alloc _ _).heap.size; rw [World.size_alloc]; have := heap_lt h1.out.cells; omega)).trans ((Below.heap_alloc _ _ _ (heap_lt h1.out.cells)).trans h1.out.cells); have hth := there_row hR4)))
    all_goals
      have h5 := setCells_row (vs := cs) hR4 (by rw [cB_size _ _ (by simp)]; exact hc32)
      have h0 : Below w.heap.size w w1 := ((Below.refl _ _).alloc (Nat.le_refl _) _ |>.alloc (by simp) _).trans (h1.out.below.mono (by simp; omega))
      have h6 : Below w.heap.size w w' := (h0.alloc h0.size _).drew.trans (hbq.mono (by show _ ≤ (World.alloc _ _).heap.size; rw [World.size_alloc]; have := h0.size; omega))
      have h7 := (setCells_keep R cs 0 w').1.onto h6 (Nat.le_refl _) (by have := HRE.out; omega)
      have H5 := Lib.hid h5; have H7 := Lib.hid h7; have HS := Lib.hid hsz
      clear h5 h6 h7 h0 hbq hth hR4 hsz
      go_wp2_with fail
      exact bodyPost_ret (results_cell_row rfl _ _ R _ cs.toArray _ _ rfl H5.out Tryz.underlying36 rfl (by rw [List.size_toArray]; exact HS.out)) rfl ⟨by rw [HC8.out], H7.out⟩
  · have he : nodeK k a b = zero32 := by unfold nodeK; rw [if_neg (by omega)]
    rw [he]
    have hkb := kindB_no h1 h2
    clear he
    go_enter Tryz.func286, Tryz.ntmps286
    go_wp2_with (refine wpList_alloc_g rfl _ rfl _ _ Tryz.zeroHash rfl ?_)
    intro R w1 h1
    go_wp2_with fail
    refine (mis_any _ _).mono ?_
    rintro e w2 ⟨rfl, rfl⟩
    go_wp2_with (refine wpList_store_row_g (t := 36) (old := cB 32 []) rfl 36 _ _ rfl R (c8 zero32) rfl rfl h1.out.cells (Tryz.sizeHs _ zero32_length) (by rw [c8_size, zero32_length]; rfl) (by rw [← cB_full 32 _ zero32_length]; exact one_b _ _) ?_)
    intro w5 h5 k5 z5
    have h0 : Below w.heap.size w w1 := ((Below.refl _ _).alloc (Nat.le_refl _) _ |>.alloc (by simp) _).trans (h1.out.below.mono (by simp; omega))
    have H5 := Lib.hid h5
    have H6 := Lib.hid (k5.onto h0 (Nat.le_refl _) (by have := h1.out.eq; simp at this; omega))
    clear h5 k5 z5 h0
    go_wp2_with fail
    exact bodyPost_ret (results_cell_row rfl _ _ R _ (c8 zero32) _ _ rfl H5.out Tryz.underlying36 rfl (Tryz.sizeHs _ zero32_length)) rfl ⟨rfl, H6.out⟩
end Go.Proofs.YtmclmccgghnglaaGreat
