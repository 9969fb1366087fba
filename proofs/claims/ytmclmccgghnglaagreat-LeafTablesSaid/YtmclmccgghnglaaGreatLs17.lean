/- Tables: leaf.of, leaf.Root (code). No condition. leaf.Root (code). No condition. -/
import Derived.Test.YtmclmccgghnglaaGreatLsLeaI
import Derived.Test.YtmclmccgghnglaaGreatLs15
namespace Go.Proofs.YtmclmccgghnglaaGreat
section
open Go.RowKit

theorem wp_store1_l {P : Program} {o : Oper} {a : Act} {w : World} {K : Act → World → Prop} {Q : Exit → Act → World → Prop} (ty : TypeId) (x y : Operand) (ho : o.op = .store ty x y)
    (g i : Nat) (v : Value) (hx : a.eval x = .pointer (some ⟨g, i, none⟩)) (hy : a.eval y = v) (hv : v.cells = #[v]) (h1 : v.oneCell' = true)
    (t : TypeId) (cs : Array Value) (hg : w.heap[g]? = some (.cells cs t (0, 0))) (hi : (P.info? ty).map (·.size) = some 1) (hb : i < cs.size) (new : Array Value) (hnew : cs.setIfInBounds i v = new)
    (h : ∀ w', w'.heap[g]? = some (.cells new t (0, 0)) → Keep (· = g) w w' → w'.heap.size = w.heap.size → K (a.put o.dst undef) w') : o.wp P a w K Q := by
  have hc : (w.cell? ⟨g, i, none⟩).isSome = true := by rw [Lib.cell_of_heap hg, Array.getElem?_eq_getElem hb]; rfl
  have hf : w.frozen? ⟨g, i, none⟩ = false := Lib.frozen_of_heap hg i
  have z0 : ∀ j, j < [v].length → j = 0 := fun j hj => by simpa using hj
  have hst := run_storeCells_cells (P := P) g i [v] 0 w (fun j hj => by rw [z0 j hj]; exact hc) (fun j hj => by rw [z0 j hj]; exact hf) (fun u hu => (by simpa using hu : u = v) ▸ h1)
  have hsv : (storeVar ty ⟨g, i, none⟩ v).run P w = .ok () (w.setCell ⟨g, i, none⟩ v) := by
    cases hq : P.info? ty with
    | none => simp [hq] at hi
    | some inf =>
      have hs : inf.size = 1 := by simpa [hq] using hi
      simp only [Nat.add_zero] at hst
      simp [storeVar, sizeOf, typeInfo, hq, hv, hs, hst, World.setCells]
  unfold Oper.wp execOp
  simp only [ho, hx, hy, Instr.storeAt, Instr.sureAddr, Sem.run_bind, Sem.run_pure, Result.andThen_ok, hsv]
  exact h _ (by rw [heap_setCell_same _ _ _ _ _ _ hg, hnew]) (Keep.setCell (S := (· = g)) (p := ⟨g, i, none⟩) (Keep.refl _ _) (.inl rfl) _) (by simp [World.setCell])
theorem groupsF_ind {C : List LRow → Prop} (h0 : C []) (h1 : ∀ r l, C (l.drop (lead r.e l)) → C (r :: l)) : ∀ (n : Nat) (l : List LRow), l.length ≤ n → C l := by
  intro n
  induction n with
  | zero => intro l hl; have : l = [] := List.eq_nil_of_length_eq_zero (by omega); rw [this]; exact h0
  | succ n ih =>
    intro l hl
    cases l with
    | nil => exact h0
    | cons r l => exact h1 r l (ih _ (by rw [List.length_drop]; simp at hl; omega))
theorem groupsF_mem (l : List LRow) : (groupsF l).length ≤ l.length ∧ ∀ g ∈ groupsF l, g.2 ≠ [] ∧ g.2.length ≤ l.length ∧ ∀ r ∈ g.2, r ∈ l ∧ r.e = g.1 := by
  refine groupsF_ind (C := fun l => (groupsF l).length ≤ l.length ∧ ∀ g ∈ groupsF l, g.2 ≠ [] ∧ g.2.length ≤ l.length ∧ ∀ r ∈ g.2, r ∈ l ∧ r.e = g.1) ?_ ?_ l.length l (Nat.le_refl _)
  · rw [groupsF_nil]; exact ⟨Nat.le_refl _, fun g h => by simp at h⟩
  · rintro r l ⟨h1, h2⟩
    rw [groupsF_cons]
    have hd : (l.drop (lead r.e l)).length ≤ l.length := by rw [List.length_drop]; omega
    refine ⟨by simp only [List.length_cons]; omega, fun g hg => ?_⟩
    rcases List.mem_cons.1 hg with rfl | hg
    · refine ⟨by simp, by simp only [List.length_cons, List.length_take]; omega, fun x hx => ?_⟩
      rcases List.mem_cons.1 hx with rfl | hx
      · exact ⟨by simp, rfl⟩
      · refine ⟨List.mem_cons_of_mem _ (List.mem_of_mem_take hx), ?_⟩
        obtain ⟨j, hj, rfl⟩ := List.mem_iff_getElem.1 hx
        rw [List.length_take] at hj
        rw [List.getElem_take]
        exact lead_at r.e l j (by omega) (by omega)
    · obtain ⟨a, b, c⟩ := h2 g hg
      exact ⟨a, by simp only [List.length_cons]; omega, fun x hx => ⟨List.mem_cons_of_mem _ (List.mem_of_mem_drop (c x hx).1), (c x hx).2⟩⟩
theorem groupsF_ne {l : List LRow} (h : l ≠ []) : groupsF l ≠ [] := by
  cases l with
  | nil => exact absurd rfl h
  | cons r l => rw [groupsF_cons]; simp
/-- The earners' leaves. -/
def earLeaf (g : Int × List LRow) : List UInt8 := earL g.1 (rootF 2 (leavesG g.2))
def tableL (s : List LRow) : List (List UInt8) := (groupsF s).map earLeaf
theorem sortR_mem {l : List LRow} (h : (l.map rkey).Nodup) : ∀ r ∈ sortR l, r ∈ l := by
  intro r hr
  obtain ⟨k, hk, rfl⟩ := List.mem_map.1 hr
  have hk2 : k ∈ l.map rkey := (sortK_perm _).mem_iff.1 hk
  obtain ⟨j, hj, rfl⟩ := key_at hk2
  rw [lookR_at h j hj]
  exact List.getElem_mem hj
theorem sortedF_mem {l s : List LRow} (h : sortedF l = some s) : SortOk l ∧ s = sortR l ∧ (∀ r ∈ s, r ∈ l) ∧ s.length = l.length := by
  unfold sortedF at h
  split at h
  · rename_i hk
    cases h
    exact ⟨hk, rfl, sortR_mem hk.2.2, sortR_len l⟩
  · cases h
theorem fair_leaves {rows : List LRow} (h : ∀ r ∈ rows, ROk r) : Fair (leavesG rows) := by
  intro b hb
  obtain ⟨r, hr, rfl⟩ := List.mem_map.1 hb
  have := tokL_len (t := r.t) (m := r.m) (h r hr).1.2.2
  omega
theorem root_good {k : Int} {ls : List (List UInt8)} (hk : k = 1 ∨ k = 2) (h1 : ls ≠ []) (h2 : ls.length ≤ 1024) : rootV k ls = .tuple #[.agg (c8 (rootF k.toNat ls)), .int .i64 0] := by
  unfold rootV
  have h0 : ls.length ≠ 0 := fun e => h1 (List.eq_nil_of_length_eq_zero e)
  rw [if_pos]
  unfold whyF
  rw [if_pos hk, if_neg h0, if_neg (by omega)]
theorem c8_ones (l : List UInt8) : (c8 l).all (·.oneCell') = true := by
  rw [Array.all_eq_true']
  intro x hx
  simp only [c8, List.mem_toArray, List.mem_map] at hx
  obtain ⟨y, _, rfl⟩ := hx
  rfl
theorem leavesG_len (rows : List LRow) : (leavesG rows).length = rows.length := by unfold leavesG; rw [List.length_map]
theorem tableL_len (s : List LRow) : (tableL s).length = (groupsF s).length := by unfold tableL; rw [List.length_map]
theorem rootF_32 (k : Nat) (l : List (List UInt8)) : (rootF k l).length = 32 := rootF_length k l
theorem Tryz.zeroTab (w : World) : (zeroValue 148).run Tryz.prog w = .ok (.agg #[.slice none 0 0, .slice none 0 0]) w := by kernel_rfl
theorem Tryz.sizeTab : (Tryz.prog.info? 148).map (·.size) = some 2 := by kernel_rfl
theorem Tryz.zeroGrp (w : World) : (zeroValue 157).run Tryz.prog w = .ok (.agg #[.int .i64 0, .slice none 0 0]) w := by kernel_rfl
theorem Tryz.sizeTxs : (Tryz.prog.info? 26).map (·.size) = some 1 := by kernel_rfl
theorem stE_one (s : SlV) : ∀ u ∈ stE s, u.oneCell' = true := by
  intro u hu
  obtain rfl : u = slV s := by simpa [stE] using hu
  rfl
theorem Own.apart_at {α : Type} {w w' : World} {B : Nat} {e T : TypeId} {enc : α → List Value} {sz : Nat} {v : Value} {l : List α} (h : Own w B e enc sz v l) (hg : w.grownBy w' v.ownBlock) {k : Nat} {cs : Array Value} {fr : Nat × Nat} (ho : w.heap[k]? = some (.cells cs T fr)) (hT : T ≠ e) : w'.heap[k]? = some (.cells cs T fr) := by
  rw [hg.block k (heap_lt ho) (fun e1 => ?_)]
  · exact ho
  · obtain ⟨cs', fr', e'⟩ := h.cellsAt e1.symm
    rw [ho] at e'; cases e'; exact hT rfl
theorem one_sl2 (a c : Option Addr) (n m k l : Nat) : (#[Value.slice a n k, .slice c m l].all (·.oneCell')) = true := by simp [Value.oneCell']
theorem one_grp (x : Int) (a : Option Addr) (n k : Nat) : (#[Value.int .i64 x, .slice a n k].all (·.oneCell')) = true := by simp [Value.oneCell']
/-- The table while it is made: in block t. -/
structure OfSt (w w' : World) (t : Nat) (vg vo : Value) (raws : List (Int × SlV)) (b : Option Nat) (gs : List (Int × List LRow)) (ss : List SlV) (ls : List (List UInt8)) : Prop where
  tab : w'.heap[t]? = some (.cells #[vg, vo] 148 (0, 0))
  own : Own w' (t + 1) 157 gE 2 vg raws
  pair : GPair w' b raws gs
  txt : OTx w' (t + 1) vo ss ls
  below : Below w.heap.size w w'
theorem OfSt.later {w w' w2 : World} {t : Nat} {vg vo : Value} {raws : List (Int × SlV)} {b : Option Nat} {gs : List (Int × List LRow)} {ss : List SlV} {ls : List (List UInt8)} (h : OfSt w w' t vg vo raws b gs ss ls) (hb : Below w'.heap.size w' w2) : OfSt w w2 t vg vo raws b gs ss ls :=
  ⟨below_at2 hb h.tab, h.own.later hb, h.pair.later hb, h.txt.later hb, h.below.trans (hb.mono h.below.size)⟩
/-- What leaf.of hands back. -/
def OfRet (w : World) (l : List LRow) (e : Ending) (w' : World) : Prop := Below w.heap.size w w' ∧
  ((sortedF l = none ∧ e = .returned (.tuple #[.agg #[.slice none 0 0, .slice none 0 0], .bool false])) ∨
   ∃ s vg vo raws b, sortedF l = some s ∧ e = .returned (.tuple #[.agg #[vg, vo], .bool true]) ∧ Rd w' gE 2 vg raws ∧ GPair w' b raws (groupsF s) ∧ Texts w' vo (tableL s))
set_option maxHeartbeats 16000000 in
set_option maxRecDepth 100000 in
theorem of_any (w : World) (v : Value) (l : List LRow) (hr : Rd w rowE 6 v l) (hok : ∀ r ∈ l, ROk r) (hlen : l.length < 1000000000) : Calls Tryz.prog 84 #[v] w (OfRet w l) := by
  have HR := Lib.hid hr; have HOK := Lib.hid hok; have HL := Lib.hid hlen
  clear hr hok hlen
  go_enter Tryz.func84, Tryz.ntmps84
  go_wp2_with (refine wpList_alloc_g rfl _ rfl _ _ Tryz.zeroTab rfl ?_)
  intro R a1 hR
  go_wp2_with (refine wpList_alloc_g rfl _ rfl _ _ Tryz.zeroTab rfl ?_)
  intro t a2 ht
  have hb12 : Below a1.heap.size a1 a2 := ht.out.below
  have HB2 := Lib.hid (hR.out.below.trans (hb12.mono hR.out.below.size))
  have HRb := Lib.hid (below_at2 hb12 hR.out.cells); have HT := Lib.hid ht.out.cells
  have WR := Lib.hid (show R = w.heap.size ∧ t = w.heap.size + 1 ∧ a2.heap.size = w.heap.size + 2 by have := hR.out.eq; have := hR.out.size; have := ht.out.eq; have := ht.out.size; omega)
  clear hb12 hR ht
  go_wp2_with fail
  refine (sorted_any a2 v l (HR.out.later HB2.out) HOK.out HL.out).mono ?_
  rintro e a3 ⟨hb3, ⟨hF, rfl⟩ | ⟨vs, s, hF, rfl, ho⟩⟩
  · have HF := Lib.hid hF
    have HRb3 := Lib.hid (below_at2 hb3 HRb.out); have HT3 := Lib.hid (below_at2 hb3 HT.out); have HB3 := Lib.hid (HB2.out.trans (hb3.mono HB2.out.size))
    clear hb3 hF HRb HT HB2
    go_wp2_with (first
      | (refine wpList_load_row rfl 148 _ rfl t rfl 148 _ _ _ HT3.out Tryz.underlying148 rfl Tryz.sizeTab ?_)
      | (refine wpList_store_row_g (t := 148) (old := #[.slice none 0 0, .slice none 0 0]) rfl 148 _ _ rfl R #[.slice none 0 0, .slice none 0 0] rfl rfl HRb3.out Tryz.sizeTab rfl (one_sl2 _ _ _ _ _ _) ?_))
    intro a4 h4 k4 z4
    clear z4
    have HB4 := Lib.hid (HB3.out.trans (k4.below (B := w.heap.size) (fun q hq e => by have := WR.out; omega) HB3.out.size))
    have HR4 := Lib.hid h4
    clear h4 k4
    go_wp2_with fail
    exact bodyPost_ret (res_row_val rfl _ _ R _ _ _ _ rfl HR4.out Tryz.underlying148 rfl Tryz.sizeTab _ rfl) rfl ⟨HB4.out, .inl ⟨HF.out, rfl⟩⟩
  · have hmem := sortedF_mem hF
    have hvs := ho.rd rowE_len
    obtain ⟨ad, cap, rfl, _, _⟩ := hvs.shape
    obtain ⟨n, hn⟩ : ∃ n, n = s.length := ⟨_, rfl⟩
    rw [← hn] at ho hvs ⊢
    have HF := Lib.hid hF; have HMM := Lib.hid hmem; have HVS := Lib.hid hvs; have HN := Lib.hid hn
    have HRb3 := Lib.hid (below_at2 hb3 HRb.out); have HT3 := Lib.hid (below_at2 hb3 HT.out); have HB3 := Lib.hid (HB2.out.trans (hb3.mono HB2.out.size))
    have HBT : Hid (∀ x, Value.ownBlock (.slice ad n cap) = some x → x ≠ t ∧ x ≠ R) := Lib.hid (fun x hx => by have := (ho.lt x hx).1; have := WR.out; omega)
    clear hb3 hF hmem hvs hn ho HRb HT HB2
    go_wp2_with fail
    refine (groups_any a3 _ s HVS.out (by have := HMM.out; have := HMM.out.1.1; omega)).mono ?_
    rintro e a4 ⟨vg, raws, rfl, hog, hgp, hb4⟩
    have hgr := hog.rd gE_len
    obtain ⟨adg, capg, rfl, _, _⟩ := hgr.shape
    obtain ⟨m, hm⟩ : ∃ m, m = raws.length := ⟨_, rfl⟩
    rw [← hm] at hog ⊢
    have HM := Lib.hid hm
    have HRb4 := Lib.hid (below_at2 hb4 HRb3.out); have hT4 := below_at2 hb4 HT3.out; have HB4 := Lib.hid (HB3.out.trans (hb4.mono HB3.out.size))
    have hgp4 := hgp.later hb4
    have HOG := Lib.hid hog; have HGP := Lib.hid hgp4; have HT4 := Lib.hid hT4
    have WA := Lib.hid (show t < a3.heap.size from heap_lt HT3.out)
    have cT : a4.cell? ⟨t, 0, none⟩ = some (.slice none 0 0) := Lib.cell_of_heap hT4 0
    have fT : a4.frozen? ⟨t, 0, none⟩ = false := Lib.frozen_of_heap hT4 0
    clear hb4 hgr hm hog hgp hgp4 hT4 HRb3 HT3 HB3 HVS
    go_wp2_with fail
    obtain ⟨w5, hw5⟩ : ∃ w5, w5 = a4.setCell ⟨t, 0, none⟩ (.slice adg m capg) := ⟨_, rfl⟩
    rw [← hw5]
    have hk5 : Keep (· = t) a4 w5 := by rw [hw5]; exact Keep.setCell (S := (· = t)) (p := ⟨t, 0, none⟩) (Keep.refl _ _) (.inl rfl) _
    have hT5 : w5.heap[t]? = some (.cells #[.slice adg m capg, .slice none 0 0] 148 (0, 0)) := by rw [hw5]; exact heap_setCell_same a4 t 0 _ _ _ HT4.out
    have HK5 := Lib.hid hk5; have HT5 := Lib.hid hT5
    have cT5 : w5.cell? ⟨t, 0, none⟩ = some (.slice adg m capg) := Lib.cell_of_heap hT5 0
    obtain ⟨M, hMM⟩ : ∃ M, M = a4.heap.size := ⟨_, rfl⟩
    have HMM2 := Lib.hid hMM
    have WB := Lib.hid (show t < M by have := heap_lt HT4.out; omega)
    have HM2 := Lib.hid (show m = (groupsF s).length ∧ (groupsF s).length ≤ 1024 ∧ s.length ≤ 1024 by have := HM.out; have := HGP.out.1; have := HMM.out; have := (groupsF_mem s).1; have := HMM.out.1.1; omega)
    have hm30 : m < 1000000 := by have := HM2.out; omega
    clear hw5 hk5 hT5 cT fT HT4 hMM
    go_wp2_with fail
    clear cT5
    go_loopw [24] (fun y wr => ∃ (i : Nat) (ss : List SlV) (vo : Value), y = .int .i64 i ∧ i ≤ m ∧ Hid (wr.heap[t]? = some (.cells #[.slice adg m capg, vo] 148 (0, 0))) ∧ Hid (OTx wr M vo ss ((tableL s).take i)) ∧ Hid (ss.length = i) ∧ Hid (Keep (· = t) a4 wr)) (fun y _ => m - (intOf y).toNat)
    case atStart => exact ⟨0, [], _, rfl, by omega, HT5, Lib.hid (OTx.nil _ _), Lib.hid rfl, HK5⟩
    case round =>
      clear HK5 HT5
      obtain ⟨i, ss, vo, rfl, hin, HTi, HO, HSL, HK⟩ := hrel
      by_cases hlt : i < m
      · have hi : i < raws.length := by have := HM.out; omega
        have hig : i < (groupsF s).length := by have := HM2.out; omega
        obtain ⟨gb, goff, rfl, _, c0, c1⟩ := ((HOG.out.rd gE_len).keep HK.out fun k e _ he => by have := (HOG.out.lt k e).1; have := WA.out; subst he; omega).grp i hi
        have hpr := HGP.out.2.1 i raws[i] (groupsF s)[i] (List.getElem?_eq_getElem hi) (List.getElem?_eq_getElem hig)
        have hrd := hpr.2.keep HK.out fun k e _ he => (HBT.out k (HGP.out.2.2 raws[i] (List.getElem_mem hi) k e)).1 he
        have hgm := (groupsF_mem s).2 (groupsF s)[i] (List.getElem_mem hig)
        have htk : (tableL s).take (i + 1) = (tableL s).take i ++ [earLeaf (groupsF s)[i]] := by
          rw [List.take_succ_eq_append_getElem (by rw [tableL_len]; exact hig)]; congr 2; unfold tableL; rw [List.getElem_map]
        have hre := hpr.1
        obtain ⟨⟨ge, ga, gn, gc⟩, hraw⟩ : ∃ x, x = raws[i] := ⟨_, rfl⟩
        rw [← hraw] at c0 c1 hrd hre
        obtain ⟨g, hg⟩ : ∃ g, g = (groupsF s)[i] := ⟨_, rfl⟩
        rw [← hg] at hrd hgm htk hre
        clear hpr hraw hg hi hig
        obtain ⟨g1, g2⟩ := g
        simp only [] at hre c0 c1
        subst hre
        have hgn : gn = g2.length := hrd.size
        have HGR := Lib.hid (show Rd wr rowE 6 (.slice ga gn gc) g2 from hrd)
        have HGM := Lib.hid hgm; have HTK := Lib.hid htk
        have HGO := Lib.hid (show ∀ r ∈ g2, ROk r from fun r hr => HOK.out r (HMM.out.2.2.1 r (hgm.2.2 r hr).1))
        have HE1 := Lib.hid (show ge < 9223372036854775808 by
          cases g2 with
          | nil => exact absurd rfl hgm.1
          | cons r0 tl =>
            have := (hgm.2.2 r0 (by simp)).2
            have h3 := HOK.out r0 (HMM.out.2.2.1 r0 (hgm.2.2 r0 (by simp)).1)
            rw [← show r0.e = ge from this]; exact h3.1.1.2)
        have HGN := Lib.hid (show gn = g2.length ∧ gn ≤ 1024 ∧ gn < 1000000 by have := HM2.out; have : g2.length ≤ s.length := hgm.2.1; omega)
        have HBw := Lib.hid (HK.out.onto HB4.out (by have := WR.out; have := WB.out; have := HMM2.out; omega) (by have := WR.out; omega))
        clear hgm htk hgn hrd
        go_wp2_with (refine wpList_alloc_g rfl _ rfl _ _ Tryz.zeroGrp rfl ?_)
        intro G d1 hG
        go_wp2_with (refine wpList_store_row_g (t := 157) (old := #[.int .i64 0, .slice none 0 0]) rfl 157 _ _ rfl G #[.int .i64 ge, .slice ga gn gc] rfl rfl hG.out.cells Tryz.sizeGrp rfl (one_grp _ _ _ _) ?_)
        intro d2 hgX kG zG
        have hbG : Below wr.heap.size wr d2 := hG.out.below.trans (kG.below (B := wr.heap.size) (fun x hx e => by have := hG.out.eq; omega) hG.out.below.size)
        have HT2 := Lib.hid (below_at2 hbG HTi.out); have HO2 := Lib.hid (HO.out.later hbG); have HK2 := Lib.hid (HK.out.then_below hbG)
        have HG2 := Lib.hid hgX
        have HGR2 := Lib.hid (HGR.out.later hbG)
        clear hG hgX kG zG hbG HTi HO HK c0 c1 HGR
        have cG0 : d2.cell? ⟨G, 0, none⟩ = some (.int .i64 ge) := Lib.cell_of_heap HG2.out 0
        have cG1 : d2.cell? ⟨G, 1, none⟩ = some (.slice ga gn gc) := Lib.cell_of_heap HG2.out 1
        go_wp2_with fail
        refine (leaves_any d2 ge ga gn gc g2 HGR2.out HGO.out HGN.out.2.2).mono ?_
        rintro e d3 ⟨v3, rfl, htx, hb3⟩
        have HTX := Lib.hid htx
        have HT3 := Lib.hid (below_at2 hb3 HT2.out); have HO3 := Lib.hid (HO2.out.later hb3); have HK3 := Lib.hid (HK2.out.then_below hb3); have HG3 := Lib.hid (below_at2 hb3 HG2.out)
        clear htx hb3 HT2 HO2 HK2 HG2 HGR2 cG0 cG1
        go_wp2_with fail
        refine (mroot_any 2 (leavesG g2) v3 d3 HTX.out (fair_leaves HGO.out)).mono ?_
        rw [root_good (.inr rfl) (by intro h; have := congrArg List.length h; rw [leavesG_len] at this; exact HGM.out.1 (List.eq_nil_of_length_eq_zero this)) (by rw [leavesG_len]; have := HGN.out; omega)]
        rintro e d4 ⟨rfl, hb4⟩
        obtain ⟨rt, hrt⟩ : ∃ rt, rt = rootF 2 (leavesG g2) := ⟨_, rfl⟩
        have hr2 : rootF (2 : Int).toNat (leavesG g2) = rt := by rw [hrt]; rfl
        rw [hr2]
        have HRT := Lib.hid hrt; have HR32 := Lib.hid (show rt.length = 32 by rw [hrt]; exact rootF_32 _ _)
        have HT4 := Lib.hid (below_at2 hb4 HT3.out); have HO4 := Lib.hid (HO3.out.later hb4); have HK4 := Lib.hid (HK3.out.then_below hb4); have HG4 := Lib.hid (below_at2 hb4 HG3.out)
        clear hrt hr2 hb4 HT3 HO3 HK3 HG3 HTX
        go_wp2_with (refine wpList_alloc_g rfl _ rfl _ _ Tryz.zeroHash rfl ?_)
        intro H d5 hH
        go_wp2_with (refine wpList_store_row_g (t := 36) (old := cB 32 []) rfl 36 _ _ rfl H (c8 rt) rfl rfl hH.out.cells (Tryz.sizeHc rt HR32.out) (by rw [c8_size, HR32.out]; rfl) (c8_ones rt) ?_)
        intro d6 hhX kH zH
        have hbH : Below d4.heap.size d4 d6 := hH.out.below.trans (kH.below (B := d4.heap.size) (fun x hx e => by have := hH.out.eq; omega) hH.out.below.size)
        have HT6 := Lib.hid (below_at2 hbH HT4.out); have HO6 := Lib.hid (HO4.out.later hbH); have HK6 := Lib.hid (HK4.out.then_below hbH); have HG6 := Lib.hid (below_at2 hbH HG4.out); have HH6 := Lib.hid hhX
        clear hH hhX kH zH hbH HT4 HO4 HK4 HG4
        go_upto_region 10 with fail
        obtain ⟨wz, hwz⟩ : ∃ wz, wz = d6.drew := ⟨_, rfl⟩
        have hbz : Below d6.heap.size d6 wz := by rw [hwz]; exact (Below.refl _ _).drew
        have hS := And.intro (below_at2 hbz HT6.out) (And.intro (below_at2 hbz HG6.out) (below_at2 hbz HH6.out))
        have HOz := Lib.hid (HO6.out.later hbz); have HKz := Lib.hid (HK6.out.then_below hbz)
        clear hbz HT6 HG6 HH6 HO6 HK6
        refine wp_region_till (fun w' => w'.heap[t]? = some (.cells #[.slice (some ⟨gb, goff, none⟩) m capg, vo] 148 (0, 0)) ∧ w'.heap[G]? = some (.cells #[.int .i64 ge, .slice ga gn gc] 157 (0, 0)) ∧ w'.heap[H]? = some (.cells (c8 rt) 36 (0, 0))) 9 10 (by kernel_rfl) rfl ?_
        rw [← hwz]
        clear hwz
        refine till_take 0 (some 34) rfl rfl (by kernel_rfl) (by kernel_rfl) (by kernel_rfl) (by kernel_rfl) (by kernel_rfl) (by kernel_rfl) (fun _ _ _ h => h) (.inl ⟨by rfl, fun w' _ => (by go_simp; rfl)⟩) hS ?_
        go_frame
        refine till_take 1 (some 35) rfl rfl (by kernel_rfl) (by kernel_rfl) (by kernel_rfl) (by kernel_rfl) (by kernel_rfl) (by kernel_rfl) (fun _ _ _ h => h) (.inl ⟨by rfl, fun w' hS' => (by have hc : w'.cell? ⟨t, 1, none⟩ = some (vo) := Lib.cell_of_heap hS'.1 1; go_simp; rfl)⟩) hS ?_
        go_frame
        refine till_take 2 (some 36) rfl rfl (by kernel_rfl) (by kernel_rfl) (by kernel_rfl) (by kernel_rfl) (by kernel_rfl) (by kernel_rfl) (fun _ _ _ h => h) (.inl ⟨by rfl, fun w' _ => (by go_simp; rfl)⟩) hS ?_
        go_frame
        refine till_take 3 (some 37) rfl rfl (by kernel_rfl) (by kernel_rfl) (by kernel_rfl) (by kernel_rfl) (by kernel_rfl) (by kernel_rfl) (fun _ _ _ h => h) (.inl ⟨by rfl, fun w' hS' => (by have hc : w'.cell? ⟨G, 0, none⟩ = some (.int .i64 ge) := Lib.cell_of_heap hS'.2.1 0; go_simp; rfl)⟩) hS ?_
        go_frame
        refine till_take 4 (some 38) rfl rfl (by kernel_rfl) (by kernel_rfl) (by kernel_rfl) (by kernel_rfl) (by kernel_rfl) (by kernel_rfl) (fun _ _ _ h => h) (yields_load (by rfl) 36 _ rfl (.pointer (some ⟨H, 0, none⟩)) rfl (.agg (c8 rt)) (fun w' hS' => load_blk hS'.2.2 Tryz.underlying36 rfl (Tryz.sizeHc rt HR32.out))) hS ?_
        go_frame
        refine till_one 5 rfl (by kernel_rfl) fun K hK => ?_
        simp only [List.getElem_toArray, List.getElem_cons_succ, List.getElem_cons_zero]
        rw [if_pos (by rfl)]
        go_simp
        refine (ear_any _ ge HE1.out HR32.out).mono ?_
        rintro e w2 ⟨v2, rfl, ho, hb⟩
        obtain ⟨ad2, cap2, rfl, _, _⟩ := (ho.rd u8_len).shape
        obtain ⟨k2, hk2⟩ : ∃ k, k = (earL ge rt).length := ⟨_, rfl⟩
        rw [← hk2] at ho ⊢
        have HS2 := Lib.hid (show Own w2 0 5 u8E 1 (slV (ad2, k2, cap2)) (earL ge rt) from ho.mono (Nat.zero_le _))
        have HO7 := Lib.hid (HOz.out.later hb); have HK7 := Lib.hid (HKz.out.then_below hb)
        clear ho hk2 HOz HKz
        have hSn := And.intro (below_at2 hb hS.1) (And.intro (below_at2 hb hS.2.1) (below_at2 hb hS.2.2))
        refine hK _ _ (fun _ _ => hSn) ?_
        clear hK hS
        have hS := hSn
        clear hSn
        clear hb
        refine till_one 6 rfl (by kernel_rfl) fun K hK => ?_
        simp only [List.getElem_toArray, List.getElem_cons_succ, List.getElem_cons_zero]
        rw [if_pos (by rfl)]
        go_simp
        obtain ⟨w6, hw6⟩ : ∃ w6, w6 = w2.alloc (.cells #[.slice ad2 k2 cap2] 100) := ⟨_, rfl⟩
        have hb : Below w2.heap.size w2 w6 := by rw [hw6]; exact (Below.refl _ _).alloc (Nat.le_refl _) _
        have HL6 := Lib.hid (show Rd w6 stE 1 (.slice (some ⟨w2.heap.size, 0, none⟩) 1 1) [((ad2, k2, cap2) : SlV)] by rw [hw6]; exact rd_new1 w2 stE stE_len _ _ _ 1 rfl (by omega) rfl)
        have HS6 := Lib.hid (HS2.out.later hb)
        have HO8 := Lib.hid (HO7.out.later hb); have HK8 := Lib.hid (HK7.out.then_below hb)
        rw [← hw6]
        clear hw6 HO7 HK7 HS2
        have hSn := And.intro (below_at2 hb hS.1) (And.intro (below_at2 hb hS.2.1) (below_at2 hb hS.2.2))
        refine hK _ _ (fun _ _ => hSn) ?_
        clear hK hS
        have hS := hSn
        clear hSn
        clear hb
        refine till_one 7 rfl (by kernel_rfl) fun K hK => ?_
        simp only [List.getElem_toArray, List.getElem_cons_succ, List.getElem_cons_zero]
        rw [if_pos (by rfl)]
        refine wp_own_apps (.tmp 35) (.tmp 40) 26 rfl Tryz.underlying26 Tryz.infoTx rfl (by decide) stE_len stE_one HO8.out.1 rfl _ rfl HL6.out (by have := HSL.out; simp; unfold maxLen; omega) (by have := HSL.out; simp; omega) (B := M) (w0 := w6) (Below.refl _ _) (Nat.le_refl _) (by rw [HMM2.out]; exact HK8.out.size) ?_
        intro v7 w7 ho7 hb7 hg7
        have HO9 := Lib.hid (HO8.out.snoc HS6.out hg7 ho7)
        have HK9 := Lib.hid (HK8.out.then (S' := fun x => M ≤ x) ⟨hb7.os, hb7.tape, hb7.output, hb7.size, fun i _ hn => hb7.block i (by omega)⟩ fun x hx => .inr (by rw [← HMM2.out]; exact hx))
        have hS7 := And.intro (HO8.out.1.other hg7 WB.out hS.1) (And.intro (HO8.out.1.apart_at hg7 hS.2.1 (by decide)) (HO8.out.1.apart_at hg7 hS.2.2 (by decide)))
        refine hK _ _ (fun _ _ => hS7) ?_
        clear hK ho7 hb7 hg7 HO8 HK8 HS6 HL6 hS
        have hS := hS7
        clear hS7
        obtain ⟨ad7, cap7, rfl, _, _⟩ := (HO9.out.1.rd stE_len).shape
        obtain ⟨k7, hk7⟩ : ∃ k, k = (ss ++ [((ad2, k2, cap2) : SlV)]).length := ⟨_, rfl⟩
        rw [← hk7] at HO9 ⊢
        clear hk7
        refine till_take 8 (some 42) rfl rfl (by kernel_rfl) (by kernel_rfl) (by kernel_rfl) (by kernel_rfl) (by kernel_rfl) (by kernel_rfl) (fun _ _ _ h => h) (.inl ⟨by rfl, fun w' _ => (by go_simp; rfl)⟩) hS ?_
        go_frame
        refine till_one 9 rfl (by kernel_rfl) fun K hK => ?_
        simp only [List.getElem_toArray, List.getElem_cons_succ, List.getElem_cons_zero]
        rw [if_pos (by rfl)]
        refine wp_store1_l 26 _ _ rfl t 1 (.slice ad7 k7 cap7) rfl rfl rfl rfl 148 #[.slice (some ⟨gb, goff, none⟩) m capg, vo] hS.1 Tryz.sizeTxs (by simp) #[.slice (some ⟨gb, goff, none⟩) m capg, .slice ad7 k7 cap7] rfl ?_
        intro w8 h8 k8 z8
        have HT10 := Lib.hid h8
        have HK10 := Lib.hid (HK9.out.then k8 fun x hx => .inl hx)
        have HO10 := Lib.hid (HO9.out.keep k8 fun x hx => ⟨#[.slice (some ⟨gb, goff, none⟩) m capg, vo], 148, (0, 0), (by rw [hx]; exact hS.1), by decide, by decide⟩)
        refine hK _ _ (fun h => absurd rfl h) ?_
        clear hK h8 k8 z8 hS HO9 HK9
        refine till_done (by kernel_rfl) ?_ _
        rw [HRT.out] at HO10
        have hte : (tableL s).take i ++ [earL ge (rootF 2 (leavesG g2))] = (tableL s).take (i + 1) := HTK.out.symm
        rw [hte] at HO10
        clear hte
        go_wp2_with fail
        go_roundw
        case rel => exact ⟨i + 1, _, _, by go_num, hlt, HT10, HO10, Lib.hid (by rw [List.length_append, HSL.out]; rfl), HK10⟩
        case measure => simp [intOf]; omega
      · obtain rfl : i = m := by omega
        obtain ⟨ad7, cap7, rfl, _, _⟩ := (HO.out.1.rd stE_len).shape
        obtain ⟨k7, hk7⟩ : ∃ k, k = ss.length := ⟨_, rfl⟩
        rw [← hk7] at HO HTi
        rw [List.take_of_length_le (by rw [tableL_len]; have := HM2.out; omega)] at HO
        have HRw := Lib.hid (HK.out.at HRb4.out (by have := WR.out; omega))
        have HBw := Lib.hid (HK.out.onto HB4.out (by have := WR.out; have := WB.out; have := HMM2.out; omega) (by have := WR.out; omega))
        clear hk7
        go_wp2_with (first
          | (refine wpList_load_row rfl 148 _ rfl t rfl 148 _ _ _ HTi.out Tryz.underlying148 rfl Tryz.sizeTab ?_)
          | (refine wpList_store_row_g (t := 148) (old := #[.slice none 0 0, .slice none 0 0]) rfl 148 _ _ rfl R #[.slice adg i capg, .slice ad7 k7 cap7] rfl rfl HRw.out Tryz.sizeTab rfl (one_sl2 _ _ _ _ _ _) ?_))
        intro d2 h4 k4 z4
        have HRd := Lib.hid (((HOG.out.rd gE_len).keep HK.out fun k e _ he => by have := (HOG.out.lt k e).1; have := WA.out; subst he; omega).keep k4 fun k e _ he => by have := (HOG.out.lt k e).1; have := WA.out; have := WR.out; omega)
        have HGPd := Lib.hid ((HGP.out.keep HK.out fun x e he => (HBT.out x e).1 he).keep k4 fun x e he => (HBT.out x e).2 he)
        have HTXd := Lib.hid (HO.out.keep k4 fun x hx => ⟨#[.slice none 0 0, .slice none 0 0], 148, (0, 0), (by rw [hx]; exact HRw.out), by decide, by decide⟩).texts
        have HBd := Lib.hid (HBw.out.trans (k4.below (B := w.heap.size) (fun q hq e => by have := WR.out; omega) HBw.out.size))
        have HR4 := Lib.hid h4
        clear h4 k4 z4
        go_wp2_with fail
        exact bodyPost_ret (res_row_val rfl _ _ R _ _ _ _ rfl HR4.out Tryz.underlying148 rfl Tryz.sizeTab _ rfl) rfl ⟨HBd.out, .inr ⟨s, _, _, raws, _, HF.out, rfl, HRd.out, HGPd.out, HTXd⟩⟩
end
section
open Go.RowKit

theorem sort_ok {l s : List LRow} (h : sortedF l = some s) (hok : ∀ r ∈ l, ROk r) : (∀ r ∈ s, ROk r) ∧ 0 < s.length ∧ s.length ≤ 1024 := by
  obtain ⟨h1, _, h3, h4⟩ := sortedF_mem h
  exact ⟨fun r hr => hok r (h3 r hr), by rw [h4]; exact h1.1.1, by rw [h4]; exact h1.1.2⟩
theorem groups_ok {s : List LRow} (hok : ∀ r ∈ s, ROk r) : ∀ g ∈ groupsF s, g.1 < 9223372036854775808 ∧ ∀ r ∈ g.2, ROk r := by
  intro g hg
  obtain ⟨a, b, c⟩ := (groupsF_mem s).2 g hg
  refine ⟨?_, fun r hr => hok r (c r hr).1⟩
  obtain ⟨g1, g2⟩ := g
  cases g2 with
  | nil => exact absurd rfl a
  | cons r0 tl =>
    obtain ⟨h1, h2⟩ := c r0 (by simp)
    have h3 := (hok r0 h1).1.1.2
    rw [← show r0.e = g1 from h2]; exact h3
theorem fair_table {s : List LRow} (hok : ∀ r ∈ s, ROk r) : Fair (tableL s) := by
  intro b hb
  obtain ⟨g, hg, rfl⟩ := List.mem_map.1 hb
  have := earL_len (e := g.1) (h := rootF 2 (leavesG g.2)) (groups_ok hok g hg).1 (rootF_32 _ _)
  unfold earLeaf; omega
theorem table_ne {s : List LRow} (h : 0 < s.length) : tableL s ≠ [] := by
  intro e
  have := congrArg List.length e
  rw [tableL_len] at this
  exact groupsF_ne (l := s) (by intro h2; subst h2; simp at h) (List.eq_nil_of_length_eq_zero this)
theorem table_1024 {s : List LRow} (h : s.length ≤ 1024) : (tableL s).length ≤ 1024 := by
  rw [tableL_len]; have := (groupsF_mem s).1; omega
/-- A table's root, and why it has none. -/
def rootT (l : List LRow) : List UInt8 × Int := match sortedF l with
  | some s => (rootF 1 (tableL s), 0)
  | none => (zero32, 2)
theorem rootT_32 (l : List LRow) : (rootT l).1.length = 32 := by
  unfold rootT
  split
  · exact rootF_32 _ _
  · exact zero32_length
set_option maxHeartbeats 4000000 in
set_option maxRecDepth 100000 in
theorem lroot_any (w : World) (v : Value) (l : List LRow) (hr : Rd w rowE 6 v l) (hok : ∀ r ∈ l, ROk r) (hlen : l.length < 1000000000) :
    Calls Tryz.prog 17 #[v] w (Ret w (.tuple #[.agg (c8 (rootT l).1), .int .i64 (rootT l).2])) := by
  have HR := Lib.hid hr; have HOK := Lib.hid hok; have HL := Lib.hid hlen
  obtain ⟨RV, hRV⟩ : ∃ x, x = (Value.tuple #[.agg (c8 (rootT l).1), .int .i64 (rootT l).2]) := ⟨_, rfl⟩
  rw [← hRV]
  have HRV := Lib.hid hRV
  clear hr hok hlen hRV
  go_enter Tryz.func17, Tryz.ntmps17
  go_wp2_with (refine wpList_alloc_g rfl _ rfl _ _ Tryz.zeroHash rfl ?_)
  intro R w1 h1'
  go_wp2_with fail
  refine (of_any w1 v l (HR.out.later h1'.out.below) HOK.out HL.out).mono ?_
  rintro e w2 ⟨hb2, hF⟩
  have HR2 := Lib.hid (below_at2 hb2 h1'.out.cells); have HB2 := Lib.hid (h1'.out.below.trans (hb2.mono h1'.out.below.size)); have HWR := Lib.hid h1'.out.eq
  clear hb2 h1'
  rcases hF with ⟨hF, rfl⟩ | ⟨s, vg, vo, raws, b, hF, rfl, hvg, _, htx⟩
  · have hv : RV = (.tuple #[.agg (c8 zero32), .int .i64 2]) := by rw [HRV.out]; unfold rootT; rw [hF]
    have HV := Lib.hid hv
    clear hv hF
    go_wp2_with (refine wpList_alloc_g rfl _ rfl _ _ Tryz.zeroTab rfl ?_)
    intro X w3 h3
    go_wp2_with (refine wpList_store_row_g (t := 148) (old := #[.slice none 0 0, .slice none 0 0]) rfl 148 _ _ rfl X #[.slice none 0 0, .slice none 0 0] rfl rfl h3.out.cells Tryz.sizeTab rfl (one_sl2 _ _ _ _ _ _) ?_)
    intro w4 h4 k4 z4
    have hb : Below w2.heap.size w2 w4 := h3.out.below.trans (k4.below (B := w2.heap.size) (fun q hq e => by have := h3.out.eq; omega) h3.out.below.size)
    have HR4 := Lib.hid (below_at2 hb HR2.out); have HB4 := Lib.hid (HB2.out.trans (hb.mono HB2.out.size))
    clear h3 h4 k4 z4 hb HR2 HB2
    go_wp2_with (refine wpList_store_row_g (t := 36) (old := cB 32 []) rfl 36 _ _ rfl R (c8 zero32) rfl rfl HR4.out (Tryz.sizeHs _ zero32_length) (by rw [c8_size, zero32_length]; rfl) (by rw [← cB_full 32 _ zero32_length]; exact one_b _ _) ?_)
    intro w5 h5 k5 z5
    have H5 := Lib.hid h5
    have H6 := Lib.hid (k5.onto HB4.out (Nat.le_refl _) (by have := HWR.out; omega))
    clear h5 k5 z5
    go_wp2_with fail
    exact bodyPost_ret (res_row_val rfl _ _ R _ (c8 zero32) _ _ rfl H5.out Tryz.underlying36 rfl (Tryz.sizeHs _ zero32_length) _ rfl) rfl ⟨by rw [HV.out]; rfl, H6.out⟩
  · have hv : RV = (.tuple #[.agg (c8 (rootF 1 (tableL s))), .int .i64 0]) := by rw [HRV.out]; unfold rootT; rw [hF]
    have HV := Lib.hid hv
    obtain ⟨hok2, hn1, hn2⟩ := sort_ok hF HOK.out
    obtain ⟨rt, hrt⟩ : ∃ rt, rt = rootF 1 (tableL s) := ⟨_, rfl⟩
    have hgood := root_good (k := 1) (.inl rfl) (table_ne hn1) (table_1024 hn2)
    rw [show rootF (1 : Int).toNat (tableL s) = rt by rw [hrt]; rfl] at hgood
    rw [← hrt] at HV
    have HGO := Lib.hid hgood; have HR32 := Lib.hid (show rt.length = 32 by rw [hrt]; exact rootF_32 _ _)
    have HFT := Lib.hid (fair_table hok2); have HTX := Lib.hid htx
    obtain ⟨ad1, cap1, rfl, _, _⟩ := hvg.shape
    obtain ⟨n1, hn1'⟩ : ∃ n, n = raws.length := ⟨_, rfl⟩
    rw [← hn1']
    obtain ⟨ad2, cap2, rfl, _, _⟩ := htx.shape
    obtain ⟨n2, hn2'⟩ : ∃ n, n = (tableL s).length := ⟨_, rfl⟩
    rw [← hn2'] at HTX ⊢
    clear hv hF hvg htx hok2 hn1 hn2 hgood hrt hn1' hn2'
    go_wp2_with (refine wpList_alloc_g rfl _ rfl _ _ Tryz.zeroTab rfl ?_)
    intro X w3 h3
    go_wp2_with (refine wpList_store_row_g (t := 148) (old := #[.slice none 0 0, .slice none 0 0]) rfl 148 _ _ rfl X #[.slice ad1 n1 cap1, .slice ad2 n2 cap2] rfl rfl h3.out.cells Tryz.sizeTab rfl (one_sl2 _ _ _ _ _ _) ?_)
    intro w4 h4 k4 z4
    have hb : Below w2.heap.size w2 w4 := h3.out.below.trans (k4.below (B := w2.heap.size) (fun q hq e => by have := h3.out.eq; omega) h3.out.below.size)
    have HR4 := Lib.hid (below_at2 hb HR2.out); have HB4 := Lib.hid (HB2.out.trans (hb.mono HB2.out.size)); have HTX4 := Lib.hid (HTX.out.later hb)
    have q1 : w4.cell? ⟨X, 1, none⟩ = some (.slice ad2 n2 cap2) := Lib.cell_of_heap h4 1
    clear h3 h4 k4 z4 hb HR2 HB2 HTX
    go_wp2_with fail
    refine (mroot_any 1 (tableL s) _ w4 HTX4.out HFT.out).mono ?_
    rw [HGO.out]
    rintro e w5 ⟨rfl, hb5⟩
    have HR5 := Lib.hid (below_at2 hb5 HR4.out); have HB5 := Lib.hid (HB4.out.trans (hb5.mono HB4.out.size))
    clear hb5 HR4 HB4 HTX4 q1
    go_wp2_with (refine wpList_store_row_g (t := 36) (old := cB 32 []) rfl 36 _ _ rfl R (c8 rt) rfl rfl HR5.out (Tryz.sizeHc rt HR32.out) (by rw [c8_size, HR32.out]; rfl) (c8_ones rt) ?_)
    intro w6 h6 k6 z6
    have H6 := Lib.hid h6
    have H7 := Lib.hid (k6.onto HB5.out (Nat.le_refl _) (by have := HWR.out; omega))
    clear h6 k6 z6
    go_wp2_with fail
    exact bodyPost_ret (res_row_val rfl _ _ R _ (c8 rt) _ _ rfl H6.out Tryz.underlying36 rfl (Tryz.sizeHc rt HR32.out) _ rfl) rfl ⟨by rw [HV.out]; rfl, H7.out⟩
end
end Go.Proofs.YtmclmccgghnglaaGreat
