/- tallagelaw16.LeafBack: its walk. -/
import Derived.Test.YtmclmccgghnglaaLeaQ
namespace Go.Proofs.Ytmclmccgghnglaa
open Go.RowKit

theorem range_later {w w' : World} {b o : Nat} {cs : List Value} (hb : Below w.heap.size w w') (hlt : b < w.heap.size) (h : w.rangeAt b o cs) : w'.rangeAt b o cs := fun j v hj => by
  rw [(bcell hb).1 b (o + j) hlt]; exact h j v hj
set_option maxHeartbeats 16000000 in
set_option maxRecDepth 100000 in
theorem lback_any (w : World) (v : Value) (l : List LRow) (u : Int) (hr : Rd w rowE 6 v l) (hok : ∀ r ∈ l, ROk r) (hu : 0 ≤ u) (_hu2 : u < 18446744073709551616) (hlen : l.length ≤ 140737488351232) :
    Calls Try.prog 4 #[v, .int .u64 u] w (Ret w (.bool true)) := by
  obtain ⟨ad, cap, rfl, _, _⟩ := hr.shape
  obtain ⟨n, hn⟩ : ∃ n, n = l.length := ⟨_, rfl⟩
  rw [← hn] at hr hlen ⊢
  have HR := Lib.hid hr; have HOK := Lib.hid hok; have HN := Lib.hid hn
  clear hr hok hn
  by_cases h40 : 40 < n
  · go_enter Try.func4, Try.ntmps4
    go_wp2_with fail
    refine (lives16_any _).mono ?_
    rintro e w1 ⟨rfl, hb1⟩
    go_wp2_with fail
    go_ret
    exact ⟨rfl, hb1⟩
  · have hn40 : n ≤ 40 := by omega
    clear h40
    go_enter Try.func4, Try.ntmps4
    go_wp2_with fail
    refine (sorted_any w _ l HR.out HOK.out (by have := HN.out; omega)).mono ?_
    rintro e w1 ⟨hb1, ⟨hF, rfl⟩ | ⟨vs, s, hF, rfl, ho⟩⟩
    · have HB1 := Lib.hid hb1; have HF := Lib.hid hF
      clear hb1 hF
      go_wp2_with fail
      refine (lroot_any w1 _ l (HR.out.later HB1.out) HOK.out (by have := HN.out; omega)).mono ?_
      rintro e w2 ⟨rfl, hb2⟩
      have hr2 : rootT l = (zero32, 2) := by unfold rootT; rw [HF.out]
      rw [hr2]
      simp only []
      have HB2 := Lib.hid (HB1.out.trans (hb2.mono HB1.out.size))
      clear hb2 hr2 HB1
      go_wp2_with (refine wpList_alloc_g rfl _ rfl _ _ Try.zeroHash rfl ?_)
      intro H w3 hH
      go_wp2_with (refine wpList_store_row_g (t := 23) (old := cB 32 []) rfl 23 _ _ rfl H (c8 zero32) rfl rfl hH.out.cells (Try.sizeHs _ zero32_length) (by rw [c8_size, zero32_length]; rfl) (by rw [← cB_full 32 _ zero32_length]; exact one_b _ _) ?_)
      intro w4 h4 k4 z4
      have hb4 : Below w2.heap.size w2 w4 := hH.out.below.trans (k4.below (B := w2.heap.size) (fun x hx e => by have := hH.out.eq; omega) hH.out.below.size)
      have HB4 := Lib.hid (HB2.out.trans (hb4.mono HB2.out.size))
      clear hH h4 k4 z4 hb4 HB2
      go_wp2_with fail
      refine (lives16_any _).mono ?_
      rintro e w5 ⟨rfl, hb5⟩
      have HB5 := Lib.hid (HB4.out.trans (hb5.mono HB4.out.size))
      clear hb5
      go_wp2_with fail
      go_ret
      exact ⟨rfl, HB5.out⟩
    · have hvs := ho.rd rowE_len
      obtain ⟨hs1, hs2, hs3⟩ := sort_ok hF HOK.out
      have hsl := (sortedF_mem hF).2.2.2
      obtain ⟨sad, scap, rfl, _, _⟩ := hvs.shape
      obtain ⟨m, hm⟩ : ∃ m, m = s.length := ⟨_, rfl⟩
      rw [← hm] at hvs ⊢
      have hm1 : ((m : Int) == 0) = false := by simp; omega
      have hm40 : m ≤ 40 := by have := HN.out; omega
      obtain ⟨mI, hmI⟩ : ∃ mI : Int, mI = (m : Int) := ⟨_, rfl⟩
      have hmI1 : 0 < mI := by omega
      obtain ⟨j, hj⟩ : ∃ j : Nat, (j : Int) = u % mI := ⟨(u % mI).toNat, by have := Int.emod_nonneg u (show mI ≠ 0 by omega); omega⟩
      have hjm : j < m := by have := Int.emod_lt_of_pos u hmI1; omega
      have hwn : IntKind.u64.wrap (m : Int) = mI := by rw [← hmI]; exact IntWalk.u64_in _ (by omega)
      have hn0 : (mI = 0) = False := eq_false (by omega)
      have htm : u.tmod mI = (j : Int) := by rw [Int.tmod_eq_emod_of_nonneg hu]; exact hj.symm
      have hwj : IntKind.i64.wrap (j : Int) = (j : Int) := IntWalk.i64_in _ (by omega)
      have hjs : j < s.length := by omega
      have hb := back_law hF (List.getElem_mem hjs)
      obtain ⟨b, off, rfl, _, c0, c1, c2, c3, c4, c5⟩ := hvs.six j hjs
      have hri := hs1 _ (List.getElem_mem hjs)
      obtain ⟨r, hrr⟩ : ∃ r, r = s[j] := ⟨_, rfl⟩
      rw [← hrr] at hb c0 c1 c2 c3 c4 c5 hri
      obtain ⟨c, ci, cp1, hcl, hce, hclv, _, _, hop⟩ := hb
      have hcok := claimR_ok hcl HOK.out hri.1.1.2 (by intro t ht; obtain rfl : t = r.t := by simpa using ht
                                                       exact hri.1.2.2)
      have hrt2 : rootT l = ((rootT l).1, 0) := by unfold rootT; rw [hF]
      have hr32 := rootT_32 l
      obtain ⟨rt, hrt⟩ : ∃ rt, rt = (rootT l).1 := ⟨_, rfl⟩
      rw [← hrt] at hrt2 hop hr32
      obtain ⟨crt, cix, ce, ch, cp, clv, cto⟩ := c
      simp only [] at hce hclv
      subst hce hclv
      have HB1 := Lib.hid hb1; have HCL := Lib.hid hcl; have HOP := Lib.hid hop; have HCOK := Lib.hid hcok; have HRT := Lib.hid hrt2; have HR32 := Lib.hid hr32; have H32 := Lib.hid (show ch.length = 32 from hcok.1); have HRI := Lib.hid hri
      clear hb1 hF ho hvs hs1 hs2 hs3 hsl hm hj hmI hjs hrr hri hcl hcok hop hrt2 hr32 hrt
      go_wp2_with (refine wpList_alloc_g rfl _ rfl _ _ Try.zeroRow rfl ?_)
      intro X d1 hX
      go_wp2_with (refine wpList_store_row_g (t := 49) (old := #[.int .i64 0, .int .i64 0, .int .u64 0, .int .u64 0, .int .u64 0, .int .u64 0]) rfl 49 _ _ rfl X #[.int .i64 r.e, .int .i64 r.t, .int .u64 (uw0 r.m), .int .u64 (uw1 r.m), .int .u64 (uw2 r.m), .int .u64 (uw3 r.m)] rfl rfl hX.out.cells Try.sizeRow rfl (one_row r) ?_)
      intro w2 h2 k2 z2
      have hb2 : Below w1.heap.size w1 w2 := hX.out.below.trans (k2.below (B := w1.heap.size) (fun x hx e => by have := hX.out.eq; omega) hX.out.below.size)
      have HX2 := Lib.hid h2; have HB2 := Lib.hid (HB1.out.trans (hb2.mono HB1.out.size))
      clear hX h2 k2 z2 hb2 HB1 c0 c1 c2 c3 c4 c5
      go_wp2_with fail
      refine (lroot_any w2 _ l (HR.out.later HB2.out) HOK.out (by have := HN.out; omega)).mono ?_
      rintro e w3 ⟨rfl, hb3⟩
      rw [HRT.out]
      simp only []
      have HX3 := Lib.hid (below_at2 hb3 HX2.out); have HB3 := Lib.hid (HB2.out.trans (hb3.mono HB2.out.size))
      clear hb3 HX2 HB2
      go_wp2_with (refine wpList_alloc_g rfl _ rfl _ _ Try.zeroHash rfl ?_)
      intro H d4 hH
      go_wp2_with (refine wpList_store_row_g (t := 23) (old := cB 32 []) rfl 23 _ _ rfl H (c8 rt) rfl rfl hH.out.cells (Try.sizeHc rt HR32.out) (by rw [c8_size, HR32.out]; rfl) (c8_ones rt) ?_)
      intro w4 h4 k4 z4
      have hb4 : Below w3.heap.size w3 w4 := hH.out.below.trans (k4.below (B := w3.heap.size) (fun x hx e => by have := hH.out.eq; omega) hH.out.below.size)
      have HH4 := Lib.hid h4; have HX4 := Lib.hid (below_at2 hb4 HX3.out); have HB4 := Lib.hid (HB3.out.trans (hb4.mono HB3.out.size))
      have q0 : w4.cell? ⟨X, 0, none⟩ = some (.int .i64 r.e) := Lib.cell_of_heap HX4.out 0
      have q1 : w4.cell? ⟨X, 1, none⟩ = some (.int .i64 r.t) := Lib.cell_of_heap HX4.out 1
      clear hH h4 k4 z4 hb4 HX3 HB3
      go_wp2_with fail
      obtain ⟨w5, hw5⟩ : ∃ w5, w5 = w4.alloc (.cells #[.int .i64 r.t] 3) := ⟨_, rfl⟩
      have hb5 : Below w4.heap.size w4 w5 := by rw [hw5]; exact (Below.refl _ _).alloc (Nat.le_refl _) _
      have hT5 : Rd w5 intE 1 (.slice (some ⟨w4.heap.size, 0, none⟩) 1 1) [r.t] := by rw [hw5]; exact rd_new1 w4 intE (fun _ => rfl) _ _ _ 1 rfl (by omega) rfl
      have HB5 := Lib.hid (HB4.out.trans (hb5.mono HB4.out.size))
      have hcall := lclaim_any w5 _ _ l r.e [r.t] (HR.out.later HB5.out) HOK.out (by have := HN.out; omega) hT5 (by simp)
      rw [HCL.out] at hcall
      rw [← hw5]
      have HX5 := Lib.hid (below_at2 hb5 HX4.out); have HH5 := Lib.hid (below_at2 hb5 HH4.out)
      clear hw5 hb5 hT5 q0 q1 HX4 HH4 HB4
      refine hcall.mono ?_
      rintro e w6 ⟨hb6, v6, rfl, hca⟩
      have HB6 := Lib.hid (HB5.out.trans (hb6.mono HB5.out.size)); have HX6 := Lib.hid (below_at2 hb6 HX5.out); have HH6 := Lib.hid (below_at2 hb6 HH5.out)
      clear hb6 hcall HB5 HX5 HH5
      have HCA := Lib.hid hca
      obtain ⟨⟨pa, pn, pc⟩, ⟨la, ln, lc⟩, rfl, _, xs, hxl, hlv, _⟩ := hca
      have hx1 : xs.length = 1 := by have h := congrArg List.length hxl; rw [List.length_map] at h; exact h
      have hln : ln = 1 := (hlv.size).trans hx1
      subst hln
      obtain ⟨⟨x1, ⟨sa, sn, sc⟩⟩, rfl⟩ : ∃ x, xs = [x] := List.length_eq_one_iff.1 hx1
      obtain rfl : x1 = ⟨ci, r.t, r.m, cp1⟩ := by simpa using hxl
      obtain ⟨lb, lo, rfl, _, l1, l2, l3, l4, l5, _⟩ := hlv.leaf 0 (by simp)
      have HL1 := Lib.hid (show w6.cell? ⟨lb, lo + 1, none⟩ = some (.int .i64 r.t) from l1)
      have HL2 := Lib.hid (show w6.rangeAt lb (lo + 2) [.int .u64 (uw0 r.m), .int .u64 (uw1 r.m), .int .u64 (uw2 r.m), .int .u64 (uw3 r.m)] from fun j v hj => by
        match j, hj with
        | 0, hj => cases hj; exact l2
        | 1, hj => cases hj; exact l3
        | 2, hj => cases hj; exact l4
        | 3, hj => cases hj; exact l5
        | j + 4, hj => simp at hj)
      have HLB := Lib.hid (show lb < w6.heap.size from block_lt_of_cell HL1.out)
      clear hxl hlv hx1 l1 l2 l3 l4 l5
      go_wp2_with (refine wpList_alloc_g rfl _ rfl _ _ Try.zeroCl rfl ?_)
      intro C d7 hC
      go_wp2_with (refine wpList_store_row_g (t := 27) (old := clZ) rfl 27 _ _ rfl C (clC crt cix r.e ch (pa, pn, pc) (some ⟨lb, lo, none⟩, 1, lc) cto) rfl rfl hC.out.cells (Try.sizeCl _ _ _ H32.out _ _ _) (by rw [clC_size _ _ _ H32.out]; rfl) (clC_one _ _ _ _ _ _ _) ?_)
      intro w7 h7 k7 z7
      have hb7 : Below w6.heap.size w6 w7 := hC.out.below.trans (k7.below (B := w6.heap.size) (fun x hx e => by have := hC.out.eq; omega) hC.out.below.size)
      have HC7 := Lib.hid h7; have HX7 := Lib.hid (below_at2 hb7 HX6.out); have HH7 := Lib.hid (below_at2 hb7 HH6.out); have HB7 := Lib.hid (HB6.out.trans (hb7.mono HB6.out.size)); have HCA7 := Lib.hid (HCA.out.later hb7)
      have HL17 := Lib.hid (((bcell hb7).1 lb (lo + 1) HLB.out).trans HL1.out); have HL27 := Lib.hid (range_later hb7 HLB.out HL2.out); have HLB7 := Lib.hid (Nat.lt_of_lt_of_le HLB.out hb7.size)
      clear hC h7 k7 z7 hb7 HX6 HH6 HB6 HCA HL1 HL2 HLB
      go_upto_region 12 with fail
      obtain ⟨wz, hwz⟩ : ∃ wz, wz = w7.drew := ⟨_, rfl⟩
      have hb : Below w7.heap.size w7 wz := by rw [hwz]; exact (Below.refl _ _).drew
      have hS := And.intro (below_at2 hb HC7.out) (And.intro (below_at2 hb HX7.out) (And.intro (below_at2 hb HH7.out) (And.intro (((bcell hb).1 lb (lo + 1) HLB7.out).trans HL17.out) (range_later hb HLB7.out HL27.out))))
      have HBz := Lib.hid (HB7.out.trans (hb.mono HB7.out.size)); have HCAz := Lib.hid (HCA7.out.later hb)
      clear hb HC7 HX7 HH7 HB7 HCA7 HL17 HL27 HLB7
      refine wp_region_till (fun w' => w'.heap[C]? = some (.cells (clC crt cix r.e ch (pa, pn, pc) (some ⟨lb, lo, none⟩, 1, lc) cto) 27 (0, 0)) ∧ w'.heap[X]? = some (.cells #[.int .i64 r.e, .int .i64 r.t, .int .u64 (uw0 r.m), .int .u64 (uw1 r.m), .int .u64 (uw2 r.m), .int .u64 (uw3 r.m)] 49 (0, 0)) ∧ w'.heap[H]? = some (.cells (c8 rt) 23 (0, 0)) ∧ w'.cell? ⟨lb, lo + 1, none⟩ = some (.int .i64 r.t) ∧ w'.rangeAt lb (lo + 2) [.int .u64 (uw0 r.m), .int .u64 (uw1 r.m), .int .u64 (uw2 r.m), .int .u64 (uw3 r.m)]) 49 49 (by kernel_rfl) rfl ?_
      rw [← hwz]
      clear hwz
      refine till_take 0 (some 62) rfl rfl (by kernel_rfl) (by kernel_rfl) (by kernel_rfl) (by kernel_rfl) (by kernel_rfl) (by kernel_rfl) (fun _ _ _ h => h) (.inl ⟨by rfl, fun w' _ => (by go_simp; rfl)⟩) hS ?_
      go_frame
      refine till_take 1 (some 63) rfl rfl (by kernel_rfl) (by kernel_rfl) (by kernel_rfl) (by kernel_rfl) (by kernel_rfl) (by kernel_rfl) (fun _ _ _ h => h) (.inl ⟨by rfl, fun w' _ => (by go_simp; rfl)⟩) hS ?_
      go_frame
      refine till_take 2 (some 64) rfl rfl (by kernel_rfl) (by kernel_rfl) (by kernel_rfl) (by kernel_rfl) (by kernel_rfl) (by kernel_rfl) (fun _ _ _ h => h) (.inl ⟨by rfl, fun w' _ => (by go_simp; rfl)⟩) hS ?_
      go_frame
      refine till_take 3 (some 65) rfl rfl (by kernel_rfl) (by kernel_rfl) (by kernel_rfl) (by kernel_rfl) (by kernel_rfl) (by kernel_rfl) (fun _ _ _ h => h) (.inl ⟨by rfl, fun w' _ => (by go_simp; rfl)⟩) hS ?_
      go_frame
      refine till_take 4 (some 66) rfl rfl (by kernel_rfl) (by kernel_rfl) (by kernel_rfl) (by kernel_rfl) (by kernel_rfl) (by kernel_rfl) (fun _ _ _ h => h) (.inl ⟨by rfl, fun w' _ => (by go_simp; rfl)⟩) hS ?_
      go_frame
      refine till_take 5 (some 67) rfl rfl (by kernel_rfl) (by kernel_rfl) (by kernel_rfl) (by kernel_rfl) (by kernel_rfl) (by kernel_rfl) (fun _ _ _ h => h) (.inl ⟨by rfl, fun w' _ => (by go_simp; rfl)⟩) hS ?_
      go_frame
      refine till_take 6 (some 68) rfl rfl (by kernel_rfl) (by kernel_rfl) (by kernel_rfl) (by kernel_rfl) (by kernel_rfl) (by kernel_rfl) (fun _ _ _ h => h) (.inl ⟨by rfl, fun w' _ => (by go_simp; rfl)⟩) hS ?_
      go_frame
      refine till_take 7 (some 69) rfl rfl (by kernel_rfl) (by kernel_rfl) (by kernel_rfl) (by kernel_rfl) (by kernel_rfl) (by kernel_rfl) (fun _ _ _ h => h) (yields_load (by rfl) 27 _ rfl (.pointer (some ⟨C, 0, none⟩)) rfl (.agg (clC crt cix r.e ch (pa, pn, pc) (some ⟨lb, lo, none⟩, 1, lc) cto)) (fun w' hS' => load_blk hS'.1 Try.underlying27 rfl (Try.sizeCl _ _ _ H32.out _ _ _))) hS ?_
      go_frame
      refine till_take 8 (some 70) rfl rfl (by kernel_rfl) (by kernel_rfl) (by kernel_rfl) (by kernel_rfl) (by kernel_rfl) (by kernel_rfl) (fun _ _ _ h => h) (yields_load (by rfl) 23 _ rfl (.pointer (some ⟨H, 0, none⟩)) rfl (.agg (c8 rt)) (fun w' hS' => load_blk hS'.2.2.1 Try.underlying23 rfl (Try.sizeHc rt HR32.out))) hS ?_
      go_frame
      refine till_one 9 rfl (by kernel_rfl) fun K hK => ?_
      simp only [List.getElem_toArray, List.getElem_cons_succ, List.getElem_cons_zero]
      rw [if_pos (by rfl)]
      go_simp
      refine (lopen_any wz _ _ rt HCAz.out HCOK.out HR32.out).mono ?_
      rintro e w8 ⟨rfl, hb⟩
      rw [HOP.out]
      clear HCAz
      have hSn := And.intro (below_at2 hb hS.1) (And.intro (below_at2 hb hS.2.1) (And.intro (below_at2 hb hS.2.2.1) (And.intro (((bcell hb).1 lb (lo + 1) (block_lt_of_cell hS.2.2.2.1)).trans hS.2.2.2.1) (range_later hb (block_lt_of_cell hS.2.2.2.1) hS.2.2.2.2))))
      have HB8 := Lib.hid (HBz.out.trans (hb.mono HBz.out.size))
      refine hK _ _ (fun _ _ => hSn) ?_
      clear hK hS hb HBz
      have hS := hSn
      clear hSn
      refine till_take 10 (some 72) rfl rfl (by kernel_rfl) (by kernel_rfl) (by kernel_rfl) (by kernel_rfl) (by kernel_rfl) (by kernel_rfl) (fun _ _ _ h => h) (.inl ⟨by rfl, fun w' _ => (by go_simp; rfl)⟩) hS ?_
      go_frame
      refine till_take 11 (some 73) rfl rfl (by kernel_rfl) (by kernel_rfl) (by kernel_rfl) (by kernel_rfl) (by kernel_rfl) (by kernel_rfl) (fun _ _ _ h => h) (.inl ⟨by rfl, fun w' _ => (by go_simp; rfl)⟩) hS ?_
      go_frame
      refine till_take 12 (some 74) rfl rfl (by kernel_rfl) (by kernel_rfl) (by kernel_rfl) (by kernel_rfl) (by kernel_rfl) (by kernel_rfl) (fun _ _ _ h => h) (.inl ⟨by rfl, fun w' _ => (by go_simp; rfl)⟩) hS ?_
      go_frame
      refine till_take 13 (some 75) rfl rfl (by kernel_rfl) (by kernel_rfl) (by kernel_rfl) (by kernel_rfl) (by kernel_rfl) (by kernel_rfl) (fun _ _ _ h => h) (.inl ⟨by rfl, fun w' _ => (by go_simp; rfl)⟩) hS ?_
      go_frame
      refine till_take 14 (some 76) rfl rfl (by kernel_rfl) (by kernel_rfl) (by kernel_rfl) (by kernel_rfl) (by kernel_rfl) (by kernel_rfl) (fun _ _ _ h => h) (.inl ⟨by rfl, fun w' hS' => (by have hc : w'.cell? ⟨C, 2, none⟩ = some (.int .i64 r.e) := (Lib.cell_of_heap hS'.1 2).trans (clC_2 _ _ _ _ _ _ _); go_simp; rfl)⟩) hS ?_
      go_frame
      refine till_take 15 (some 77) rfl rfl (by kernel_rfl) (by kernel_rfl) (by kernel_rfl) (by kernel_rfl) (by kernel_rfl) (by kernel_rfl) (fun _ _ _ h => h) (.inl ⟨by rfl, fun w' _ => (by go_simp; rfl)⟩) hS ?_
      go_frame
      refine till_take 16 (some 78) rfl rfl (by kernel_rfl) (by kernel_rfl) (by kernel_rfl) (by kernel_rfl) (by kernel_rfl) (by kernel_rfl) (fun _ _ _ h => h) (.inl ⟨by rfl, fun w' hS' => (by have hc : w'.cell? ⟨X, 0, none⟩ = some (.int .i64 r.e) := Lib.cell_of_heap hS'.2.1 0; go_simp; rfl)⟩) hS ?_
      go_frame
      refine till_take 17 (some 79) rfl rfl (by kernel_rfl) (by kernel_rfl) (by kernel_rfl) (by kernel_rfl) (by kernel_rfl) (by kernel_rfl) (fun _ _ _ h => h) (.inl ⟨by rfl, fun w' _ => (by go_simp; rfl)⟩) hS ?_
      go_frame
      refine till_take 18 (some 80) rfl rfl (by kernel_rfl) (by kernel_rfl) (by kernel_rfl) (by kernel_rfl) (by kernel_rfl) (by kernel_rfl) (fun _ _ _ h => h) (.inl ⟨by rfl, fun w' _ => (by go_simp; rfl)⟩) hS ?_
      go_frame
      refine till_take 19 (some 81) rfl rfl (by kernel_rfl) (by kernel_rfl) (by kernel_rfl) (by kernel_rfl) (by kernel_rfl) (by kernel_rfl) (fun _ _ _ h => h) (.inl ⟨by rfl, fun w' _ => (by go_simp; rfl)⟩) hS ?_
      go_frame
      refine till_take 20 (some 82) rfl rfl (by kernel_rfl) (by kernel_rfl) (by kernel_rfl) (by kernel_rfl) (by kernel_rfl) (by kernel_rfl) (fun _ _ _ h => h) (.inl ⟨by rfl, fun w' _ => (by go_simp; rfl)⟩) hS ?_
      go_frame
      refine till_take 21 (some 83) rfl rfl (by kernel_rfl) (by kernel_rfl) (by kernel_rfl) (by kernel_rfl) (by kernel_rfl) (by kernel_rfl) (fun _ _ _ h => h) (.inl ⟨by rfl, fun w' hS' => (by have hc : w'.cell? ⟨C, 36, none⟩ = some (.slice (some ⟨lb, lo, none⟩) 1 lc) := (Lib.cell_of_heap hS'.1 36).trans (clC_36 _ _ _ H32.out _ _ _); go_simp; rfl)⟩) hS ?_
      go_frame
      refine till_take 22 (some 84) rfl rfl (by kernel_rfl) (by kernel_rfl) (by kernel_rfl) (by kernel_rfl) (by kernel_rfl) (by kernel_rfl) (fun _ _ _ h => h) (.inl ⟨by rfl, fun w' _ => (by go_simp; rfl)⟩) hS ?_
      go_frame
      refine till_take 23 (some 85) rfl rfl (by kernel_rfl) (by kernel_rfl) (by kernel_rfl) (by kernel_rfl) (by kernel_rfl) (by kernel_rfl) (fun _ _ _ h => h) (.inl ⟨by rfl, fun w' _ => (by go_simp; rfl)⟩) hS ?_
      go_frame
      refine till_take 24 (some 86) rfl rfl (by kernel_rfl) (by kernel_rfl) (by kernel_rfl) (by kernel_rfl) (by kernel_rfl) (by kernel_rfl) (fun _ _ _ h => h) (.inl ⟨by rfl, fun w' _ => (by go_simp; rfl)⟩) hS ?_
      go_frame
      refine till_take 25 (some 87) rfl rfl (by kernel_rfl) (by kernel_rfl) (by kernel_rfl) (by kernel_rfl) (by kernel_rfl) (by kernel_rfl) (fun _ _ _ h => h) (.inl ⟨by rfl, fun w' _ => (by go_simp; rfl)⟩) hS ?_
      go_frame
      refine till_take 26 (some 88) rfl rfl (by kernel_rfl) (by kernel_rfl) (by kernel_rfl) (by kernel_rfl) (by kernel_rfl) (by kernel_rfl) (fun _ _ _ h => h) (.inl ⟨by rfl, fun w' _ => (by go_simp; rfl)⟩) hS ?_
      go_frame
      refine till_take 27 (some 89) rfl rfl (by kernel_rfl) (by kernel_rfl) (by kernel_rfl) (by kernel_rfl) (by kernel_rfl) (by kernel_rfl) (fun _ _ _ h => h) (.inl ⟨by rfl, fun w' hS' => (by have hc : w'.cell? ⟨C, 36, none⟩ = some (.slice (some ⟨lb, lo, none⟩) 1 lc) := (Lib.cell_of_heap hS'.1 36).trans (clC_36 _ _ _ H32.out _ _ _); go_simp; rfl)⟩) hS ?_
      go_frame
      refine till_take 28 (some 90) rfl rfl (by kernel_rfl) (by kernel_rfl) (by kernel_rfl) (by kernel_rfl) (by kernel_rfl) (by kernel_rfl) (fun _ _ _ h => h) (.inl ⟨by rfl, fun w' _ => (by go_simp; rfl)⟩) hS ?_
      go_frame
      refine till_take 29 (some 91) rfl rfl (by kernel_rfl) (by kernel_rfl) (by kernel_rfl) (by kernel_rfl) (by kernel_rfl) (by kernel_rfl) (fun _ _ _ h => h) (.inl ⟨by rfl, fun w' _ => (by go_simp; rfl)⟩) hS ?_
      go_frame
      refine till_take 30 (some 92) rfl rfl (by kernel_rfl) (by kernel_rfl) (by kernel_rfl) (by kernel_rfl) (by kernel_rfl) (by kernel_rfl) (fun _ _ _ h => h) (.inl ⟨by rfl, fun w' hS' => (by have hc := hS'.2.2.2.1; go_simp; rfl)⟩) hS ?_
      go_frame
      refine till_take 31 (some 93) rfl rfl (by kernel_rfl) (by kernel_rfl) (by kernel_rfl) (by kernel_rfl) (by kernel_rfl) (by kernel_rfl) (fun _ _ _ h => h) (.inl ⟨by rfl, fun w' _ => (by go_simp; rfl)⟩) hS ?_
      go_frame
      refine till_take 32 (some 94) rfl rfl (by kernel_rfl) (by kernel_rfl) (by kernel_rfl) (by kernel_rfl) (by kernel_rfl) (by kernel_rfl) (fun _ _ _ h => h) (.inl ⟨by rfl, fun w' hS' => (by have hc : w'.cell? ⟨X, 1, none⟩ = some (.int .i64 r.t) := Lib.cell_of_heap hS'.2.1 1; go_simp; rfl)⟩) hS ?_
      go_frame
      refine till_take 33 (some 95) rfl rfl (by kernel_rfl) (by kernel_rfl) (by kernel_rfl) (by kernel_rfl) (by kernel_rfl) (by kernel_rfl) (fun _ _ _ h => h) (.inl ⟨by rfl, fun w' _ => (by go_simp; rfl)⟩) hS ?_
      go_frame
      refine till_take 34 (some 96) rfl rfl (by kernel_rfl) (by kernel_rfl) (by kernel_rfl) (by kernel_rfl) (by kernel_rfl) (by kernel_rfl) (fun _ _ _ h => h) (.inl ⟨by rfl, fun w' _ => (by go_simp; rfl)⟩) hS ?_
      go_frame
      refine till_take 35 (some 97) rfl rfl (by kernel_rfl) (by kernel_rfl) (by kernel_rfl) (by kernel_rfl) (by kernel_rfl) (by kernel_rfl) (fun _ _ _ h => h) (.inl ⟨by rfl, fun w' _ => (by go_simp; rfl)⟩) hS ?_
      go_frame
      refine till_take 36 (some 98) rfl rfl (by kernel_rfl) (by kernel_rfl) (by kernel_rfl) (by kernel_rfl) (by kernel_rfl) (by kernel_rfl) (fun _ _ _ h => h) (.inl ⟨by rfl, fun w' _ => (by go_simp; rfl)⟩) hS ?_
      go_frame
      refine till_take 37 (some 99) rfl rfl (by kernel_rfl) (by kernel_rfl) (by kernel_rfl) (by kernel_rfl) (by kernel_rfl) (by kernel_rfl) (fun _ _ _ h => h) (.inl ⟨by rfl, fun w' hS' => (by have hc : w'.cell? ⟨C, 36, none⟩ = some (.slice (some ⟨lb, lo, none⟩) 1 lc) := (Lib.cell_of_heap hS'.1 36).trans (clC_36 _ _ _ H32.out _ _ _); go_simp; rfl)⟩) hS ?_
      go_frame
      refine till_take 38 (some 100) rfl rfl (by kernel_rfl) (by kernel_rfl) (by kernel_rfl) (by kernel_rfl) (by kernel_rfl) (by kernel_rfl) (fun _ _ _ h => h) (.inl ⟨by rfl, fun w' _ => (by go_simp; rfl)⟩) hS ?_
      go_frame
      refine till_take 39 (some 101) rfl rfl (by kernel_rfl) (by kernel_rfl) (by kernel_rfl) (by kernel_rfl) (by kernel_rfl) (by kernel_rfl) (fun _ _ _ h => h) (.inl ⟨by rfl, fun w' _ => (by go_simp; rfl)⟩) hS ?_
      go_frame
      refine till_take 40 (some 102) rfl rfl (by kernel_rfl) (by kernel_rfl) (by kernel_rfl) (by kernel_rfl) (by kernel_rfl) (by kernel_rfl) (fun _ _ _ h => h) (yieldsIf_load_mid (by rfl) 31 _ rfl lb (lo + 2) rfl [.int .u64 (uw0 r.m), .int .u64 (uw1 r.m), .int .u64 (uw2 r.m), .int .u64 (uw3 r.m)] _ (fun w' hS' => hS'.2.2.2.2) Try.underlying31 rfl Try.sizeU) hS ?_
      go_frame
      refine till_take 41 (some 103) rfl rfl (by kernel_rfl) (by kernel_rfl) (by kernel_rfl) (by kernel_rfl) (by kernel_rfl) (by kernel_rfl) (fun _ _ _ h => h) (.inl ⟨by rfl, fun w' _ => (by go_simp; rfl)⟩) hS ?_
      go_frame
      refine till_take 42 (some 104) rfl rfl (by kernel_rfl) (by kernel_rfl) (by kernel_rfl) (by kernel_rfl) (by kernel_rfl) (by kernel_rfl) (fun _ _ _ h => h) (yieldsIf_load_mid (by rfl) 31 _ rfl X 2 rfl [.int .u64 (uw0 r.m), .int .u64 (uw1 r.m), .int .u64 (uw2 r.m), .int .u64 (uw3 r.m)] _ (fun w' hS' => range_of_heap hS'.2.1 2 _ rfl) Try.underlying31 rfl Try.sizeU) hS ?_
      go_frame
      refine till_take 43 (some 105) rfl rfl (by kernel_rfl) (by kernel_rfl) (by kernel_rfl) (by kernel_rfl) (by kernel_rfl) (by kernel_rfl) (fun _ _ _ h => h) (.inl ⟨by rfl, fun w' hS' => (by have heq := Try.eqUn (uw_is HRI.out.2) (uw_is HRI.out.2); simp only [eq_self, decide_true] at heq; go_simp; rfl)⟩) hS ?_
      go_frame
      refine till_take 44 (some 106) rfl rfl (by kernel_rfl) (by kernel_rfl) (by kernel_rfl) (by kernel_rfl) (by kernel_rfl) (by kernel_rfl) (fun _ _ _ h => h) (.inl ⟨by rfl, fun w' _ => (by go_simp; rfl)⟩) hS ?_
      go_frame
      refine till_take 45 (some 107) rfl rfl (by kernel_rfl) (by kernel_rfl) (by kernel_rfl) (by kernel_rfl) (by kernel_rfl) (by kernel_rfl) (fun _ _ _ h => h) (.inl ⟨by rfl, fun w' _ => (by go_simp; rfl)⟩) hS ?_
      go_frame
      refine till_one 46 rfl (by kernel_rfl) fun K hK => ?_
      simp only [List.getElem_toArray, List.getElem_cons_succ, List.getElem_cons_zero]
      rw [if_pos (by rfl)]
      go_simp
      refine (lives16_any w8).mono ?_
      rintro e w9 ⟨rfl, hb⟩
      have hSn := And.intro (below_at2 hb hS.1) (And.intro (below_at2 hb hS.2.1) (And.intro (below_at2 hb hS.2.2.1) (And.intro (((bcell hb).1 lb (lo + 1) (block_lt_of_cell hS.2.2.2.1)).trans hS.2.2.2.1) (range_later hb (block_lt_of_cell hS.2.2.2.1) hS.2.2.2.2))))
      have HB9 := Lib.hid (HB8.out.trans (hb.mono HB8.out.size))
      refine hK _ _ (fun _ _ => hSn) ?_
      clear hK hS hb HB8
      have hS := hSn
      clear hSn
      refine till_take 47 (some 109) rfl rfl (by kernel_rfl) (by kernel_rfl) (by kernel_rfl) (by kernel_rfl) (by kernel_rfl) (by kernel_rfl) (fun _ _ _ h => h) (.inl ⟨by rfl, fun w' _ => (by go_simp; rfl)⟩) hS ?_
      go_frame
      refine till_take 48 (some 4) rfl rfl (by kernel_rfl) (by kernel_rfl) (by kernel_rfl) (by kernel_rfl) (by kernel_rfl) (by kernel_rfl) (fun _ _ _ h => h) (.inl ⟨by rfl, fun w' _ => (by go_simp; rfl)⟩) hS ?_
      go_frame
      refine till_done (by kernel_rfl) ?_ _
      clear hS
      go_wp2_with fail
      go_ret
      exact ⟨rfl, HB9.out⟩
end Go.Proofs.Ytmclmccgghnglaa
