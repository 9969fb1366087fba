/- The leaves of a group (code). No condition. -/
import Derived.Test.YtmclmccgghnglaaGreatLsLeaH
namespace Go.Proofs.YtmclmccgghnglaaGreat
open Go.RowKit

def stE (s : SlV) : List Value := [slV s]
theorem stE_len (s : SlV) : (stE s).length = 1 := rfl
/-- Texts in a slice of the call's own, each in a row of its own. -/
def OTx (w : World) (B : Nat) (vo : Value) (ss : List SlV) (ls : List (List UInt8)) : Prop := Own w B 100 stE 1 vo ss ∧ ss.length = ls.length ∧ ∀ (i : Nat) (s : SlV) (l : List UInt8), ss[i]? = some s → ls[i]? = some l → Own w 0 5 u8E 1 (slV s) l
theorem OTx.nil (w : World) (B : Nat) : OTx w B (.slice none 0 0) [] [] := ⟨Own.nil _ _ _ _ _, rfl, fun i s l h => by simp at h⟩
theorem OTx.later {w w' : World} {B : Nat} {vo : Value} {ss : List SlV} {ls : List (List UInt8)} (h : OTx w B vo ss ls) (hb : Below w.heap.size w w') : OTx w' B vo ss ls := ⟨h.1.later hb, h.2.1, fun i s l h1 h2 => (h.2.2 i s l h1 h2).later hb⟩
theorem OTx.keep {w w' : World} {B : Nat} {vo : Value} {ss : List SlV} {ls : List (List UInt8)} (h : OTx w B vo ss ls) {S : Nat → Prop} (k : Keep S w w') (hS : ∀ x, S x → ∃ cs T fr, w.heap[x]? = some (.cells cs T fr) ∧ T ≠ 5 ∧ T ≠ 100) : OTx w' B vo ss ls := by
  refine ⟨h.1.keep k fun x hx hs => ?_, h.2.1, fun i s l h1 h2 => (h.2.2 i s l h1 h2).keep k fun x hx hs => ?_⟩
  · obtain ⟨cs, T, fr, e, _, h2⟩ := hS x hs
    obtain ⟨cs', fr', e'⟩ := h.1.cellsAt hx
    rw [e] at e'; cases e'; exact h2 rfl
  · obtain ⟨cs, T, fr, e, h3, _⟩ := hS x hs
    obtain ⟨cs', fr', e'⟩ := (h.2.2 i s l h1 h2).cellsAt hx
    rw [e] at e'; cases e'; exact h3 rfl
theorem Own.grow_apart {α : Type} {w w' : World} {B : Nat} {e : TypeId} {enc : α → List Value} {sz : Nat} {v : Value} {l : List α} {row : Option Nat} (h : Own w B e enc sz v l) (hg : w.grownBy w' row) (hr : ∀ k, row = some k → ∃ cs T fr, w.heap[k]? = some (.cells cs T fr) ∧ T ≠ e) : Own w' B e enc sz v l := by
  refine ⟨h.1, ?_⟩
  rcases h.2 with h2 | ⟨g, cap, cur, rfl, hB, hh, r⟩
  · exact .inl h2
  · refine .inr ⟨g, cap, cur, rfl, hB, ?_, r⟩
    rw [hg.block g (heap_lt hh) (fun e1 => ?_)]
    · exact hh
    · obtain ⟨cs, T, fr, h1, h2⟩ := hr g e1.symm
      rw [hh] at h1; cases h1; exact h2 rfl
theorem OTx.snoc {w w' : World} {B : Nat} {vo vo' : Value} {ss : List SlV} {ls : List (List UInt8)} {s : SlV} {l : List UInt8} (h : OTx w B vo ss ls) (hs : Own w 0 5 u8E 1 (slV s) l) (hg : w.grownBy w' vo.ownBlock) (ho : Own w' B 100 stE 1 vo' (ss ++ [s])) : OTx w' B vo' (ss ++ [s]) (ls ++ [l]) := by
  have hap : ∀ k, vo.ownBlock = some k → ∃ cs T fr, w.heap[k]? = some (.cells cs T fr) ∧ T ≠ 5 := fun k hk => by
    obtain ⟨cs, fr, e⟩ := h.1.cellsAt hk
    exact ⟨cs, _, fr, e, by decide⟩
  refine ⟨ho, by simp [h.2.1], fun i t x h1 h2 => ?_⟩
  rcases Nat.lt_or_ge i ss.length with hi | hi
  · rw [List.getElem?_append_left hi] at h1
    rw [List.getElem?_append_left (by rw [← h.2.1]; exact hi)] at h2
    exact (h.2.2 i t x h1 h2).grow_apart hg hap
  · rw [List.getElem?_append_right hi] at h1
    rw [List.getElem?_append_right (by rw [← h.2.1]; exact hi)] at h2
    have h0 : i - ss.length = 0 := by
      rcases Nat.eq_zero_or_pos (i - ss.length) with h | h
      · exact h
      · rw [List.getElem?_eq_none (by simp; omega)] at h1; cases h1
    rw [h0] at h1; rw [← h.2.1, h0] at h2
    simp at h1 h2
    subst h1 h2
    exact hs.grow_apart hg hap
theorem Rd.mapV {w : World} {v : Value} {ss : List SlV} (h : Rd w stE 1 v ss) : Rd w slE 1 v (ss.map slV) := by
  obtain ⟨ad, cap, rfl, h1, h2, h3⟩ := h
  refine ⟨ad, cap, by rw [List.length_map], by rw [List.length_map]; exact h1, h2, fun hne => ?_⟩
  obtain ⟨b, off, rfl, hb, hc⟩ := h3 (by intro e; subst e; simp at hne)
  refine ⟨b, off, rfl, hb, fun i hi j hj => ?_⟩
  rw [List.length_map] at hi
  rw [hc i hi j hj]; simp [stE, slE]
theorem OTx.texts {w : World} {B : Nat} {vo : Value} {ss : List SlV} {ls : List (List UInt8)} (h : OTx w B vo ss ls) : Texts w vo ls :=
  ⟨ss.map slV, (h.1.rd stE_len).mapV, by rw [List.length_map]; exact h.2.1, fun i u l h1 h2 => by
    rw [List.getElem?_map] at h1
    cases hs : ss[i]? with
    | none => rw [hs] at h1; cases h1
    | some s =>
      rw [hs] at h1; cases h1
      exact (h.2.2 i s l hs h2).rd u8_len⟩
/-- The leaves of rows. -/
def leavesG (rows : List LRow) : List (List UInt8) := rows.map fun r => tokL r.t r.m
def TxRet (w : World) (ls : List (List UInt8)) (e : Ending) (w' : World) : Prop := ∃ v, e = .returned v ∧ Texts w' v ls ∧ Below w.heap.size w w'
theorem leavesG_take (rows : List LRow) (i : Nat) (h : i < rows.length) : leavesG (rows.take (i + 1)) = leavesG (rows.take i) ++ [tokL rows[i].t rows[i].m] := by
  unfold leavesG; rw [List.take_succ_eq_append_getElem h, List.map_append]; rfl
theorem Tryz.infoTx : (Tryz.prog.info? 100).map (fun i => (i.zero, i.size, i.bytes)) = some (some (.slice none 0 0), 1, 24) := by kernel_rfl
set_option maxHeartbeats 16000000 in
set_option maxRecDepth 100000 in
theorem leaves_any (w : World) (x : Int) (ad : Option Addr) (n cap : Nat) (rows : List LRow) (hr : Rd w rowE 6 (.slice ad n cap) rows) (hok : ∀ r ∈ rows, ROk r) (hlen : n < 1000000) :
    Calls Tryz.prog 90 #[.agg #[.int .i64 x, .slice ad n cap]] w (TxRet w (leavesG rows)) := by
  have hn := hr.size
  have HR := Lib.hid hr; have HOK := Lib.hid hok; have HN := Lib.hid hn
  clear hr hok hn
  go_enter Tryz.func90, Tryz.ntmps90
  go_wp2_with fail
  obtain ⟨w1, hw1⟩ : ∃ w1, w1 = w.alloc (.cells #[.int .i64 x, .slice ad n cap] 157) := ⟨_, rfl⟩
  rw [← hw1]
  have HB1 := Lib.hid (show Below w.heap.size w w1 by rw [hw1]; exact (Below.refl _ _).alloc (Nat.le_refl _) _)
  clear hw1
  go_loopw [3, 9] (fun vo y wr => ∃ (i : Nat) (ss : List SlV), y = .int .i64 i ∧ i ≤ n ∧ Hid (OTx wr w.heap.size vo ss (leavesG (rows.take i))) ∧ Hid (ss.length = i) ∧ Hid (Below w.heap.size w wr)) (fun _ y _ => n - (intOf y).toNat)
  case atStart => exact ⟨0, [], rfl, by omega, Lib.hid (OTx.nil _ _), Lib.hid rfl, HB1⟩
  case round =>
    clear HB1
    obtain ⟨i, ss, rfl, hin, HO, HSL, HB⟩ := hrel
    by_cases hlt : i < n
    · have hi : i < rows.length := by have := HN.out; omega
      obtain ⟨bb, off, rfl, _, c0, c1, c2, c3, c4, c5⟩ := (HR.out.later HB.out).six i hi
      have hrk := HOK.out _ (List.getElem_mem hi)
      have htk := leavesG_take rows i hi
      obtain ⟨r, hrr⟩ : ∃ r, r = rows[i] := ⟨_, rfl⟩
      rw [← hrr] at c0 c1 c2 c3 c4 c5 hrk htk
      have HRK := Lib.hid hrk; have HTK := Lib.hid htk
      clear hrk htk hrr hi
      go_wp2_with (refine wpList_alloc_g rfl _ rfl _ _ Tryz.zeroRow rfl ?_)
      intro X d1 hX
      go_wp2_with (refine wpList_store_row_g (t := 127) (old := #[.int .i64 0, .int .i64 0, .int .u64 0, .int .u64 0, .int .u64 0, .int .u64 0]) rfl 127 _ _ rfl X #[.int .i64 r.e, .int .i64 r.t, .int .u64 (uw0 r.m), .int .u64 (uw1 r.m), .int .u64 (uw2 r.m), .int .u64 (uw3 r.m)] rfl rfl hX.out.cells Tryz.sizeRow rfl (one_row r) ?_)
      intro d2 hxX kX zX
      clear zX
      have hbX : Below wr.heap.size wr d2 := hX.out.below.trans (kX.below (B := wr.heap.size) (fun x hx e => by have := hX.out.eq; omega) hX.out.below.size)
      have HO2 := Lib.hid (HO.out.later hbX); have HB2 := Lib.hid (HB.out.trans (hbX.mono HB.out.size))
      have q1 : d2.cell? ⟨X, 1, none⟩ = some (.int .i64 r.t) := Lib.cell_of_heap hxX 1
      have q2 : d2.cell? ⟨X, 2, none⟩ = some (.int .u64 (uw0 r.m)) := Lib.cell_of_heap hxX 2
      have q3 : d2.cell? ⟨X, 3, none⟩ = some (.int .u64 (uw1 r.m)) := Lib.cell_of_heap hxX 3
      have q4 : d2.cell? ⟨X, 4, none⟩ = some (.int .u64 (uw2 r.m)) := Lib.cell_of_heap hxX 4
      have q5 : d2.cell? ⟨X, 5, none⟩ = some (.int .u64 (uw3 r.m)) := Lib.cell_of_heap hxX 5
      clear hX hxX kX hbX HO HB c0 c1 c2 c3 c4 c5
      go_wp2_with fail
      refine (tok_any d2 r.t HRK.out.1.2.2 (uw_is HRK.out.2)).mono ?_
      rintro e w3 ⟨v3, rfl, ho3, hb3⟩
      obtain ⟨ad3, cap3, rfl, _, _⟩ := (ho3.rd u8_len).shape
      obtain ⟨k3, hk3⟩ : ∃ k, k = (tokL r.t r.m).length := ⟨_, rfl⟩
      rw [← hk3] at ho3 ⊢
      have HT3 := Lib.hid (show Own w3 0 5 u8E 1 (slV (ad3, k3, cap3)) (tokL r.t r.m) from ho3.mono (Nat.zero_le _))
      have HO3 := Lib.hid (HO2.out.later hb3); have HB3 := Lib.hid (HB2.out.trans (hb3.mono HB2.out.size))
      clear ho3 hb3 hk3 HO2 HB2 q1 q2 q3 q4 q5
      go_wp2_with (at_builtin; refine own_app1 (enc := stE) rfl _ _ _ rfl Tryz.underlying26 Tryz.infoTx rfl ((ad3, k3, cap3) : SlV) HO3.out.1 rfl rfl rfl rfl (by have := HSL.out; unfold maxLen; omega) (by have := HSL.out; omega) HB3.out (Nat.le_refl _) HB3.out.size (Nat.le_refl _) ?_)
      intro v' w' ho' hb' hg'
      have HO4 := Lib.hid (HO3.out.snoc HT3.out hg' ho'); have HB4 := Lib.hid hb'
      rw [← HTK.out] at HO4
      clear ho' hb' hg' HO3 HT3 HB3
      go_wp2_with fail
      go_roundw
      case rel => exact ⟨i + 1, _, by go_num, hlt, HO4, Lib.hid (by rw [List.length_append, HSL.out]; rfl), HB4⟩
      case measure => simp [intOf]; omega
    · obtain rfl : i = n := by omega
      have HE := Lib.hid (show leavesG (rows.take i) = leavesG rows by rw [List.take_of_length_le (by rw [HN.out]; exact Nat.le_refl _)])
      rw [HE.out] at HO
      go_wp2_with fail
      go_ret
      exact ⟨_, rfl, HO.out.texts, HB.out⟩
end Go.Proofs.YtmclmccgghnglaaGreat
