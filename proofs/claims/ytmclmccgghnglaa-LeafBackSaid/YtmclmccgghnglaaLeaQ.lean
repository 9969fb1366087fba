/- tallagelaw16.lives (code). No condition. -/
import Derived.Test.YtmclmccgghnglaaLeaP
namespace Go.Proofs.Ytmclmccgghnglaa
open Go.RowKit

abbrev row0 : LRow := ⟨7, 1, 10⟩
theorem sortOk0 : SortOk [row0] := by decide
theorem sort0 : sortedF [row0] = some [row0] := by
  rw [sortedF_yes sortOk0]
  have h1 := sortR_len [row0]
  have h2 := sortR_mem sortOk0.2.2
  cases hs : sortR [row0] with
  | nil => rw [hs] at h1; cases h1
  | cons r tl =>
    rw [hs] at h1 h2
    have h3 : tl = [] := List.eq_nil_of_length_eq_zero (by simpa using h1)
    have h4 : r = row0 := by simpa using h2 r (by simp)
    rw [h3, h4]
theorem depthF_1 : depthF 1 = 0 := by unfold depthF; exact bitsN_zero
theorem lives_back : ∃ (cix ce cto i : Int) (ch : List UInt8) (crt : Int), claimR [row0] 7 [1] = .ok ⟨crt, cix, ce, ch, [], [⟨i, 1, 10, []⟩], cto⟩ ∧ openR ⟨crt, cix, ce, ch, [], [⟨i, 1, 10, []⟩], cto⟩ (rootT [row0]).1 = 0 := by
  obtain ⟨c, i, p, h1, h2, h3, h4, ⟨n, n1, n2, n3⟩, h5⟩ := back_law sort0 (row := row0) (by simp)
  have hn : n = 1 := by simp at n2; omega
  subst hn
  have hp : p = [] := List.eq_nil_of_length_eq_zero (by rw [n3, depthF_1])
  have hcp : c.p = [] := List.eq_nil_of_length_eq_zero (by
    rw [h4]
    have t1 := table_ne (s := [row0]) (by simp)
    have t2 : (tableL [row0]).length ≤ 1 := by rw [tableL_len]; exact (groupsF_mem [row0]).1
    have t3 : (tableL [row0]).length = 1 := by
      rcases Nat.eq_zero_or_pos (tableL [row0]).length with z | z
      · exact absurd (List.eq_nil_of_length_eq_zero z) t1
      · omega
    rw [t3, depthF_1])
  obtain ⟨crt, cix, ce, ch, cp, clv, cto⟩ := c
  simp only [] at h2 h3 hcp
  subst hp hcp h3
  exact ⟨cix, ce, cto, i, ch, crt, h1, h5⟩
theorem rok0 : ∀ r ∈ [row0], ROk r := by
  intro r hr
  obtain rfl : r = row0 := by simpa using hr
  exact ⟨by unfold I64k; decide, by show (10 : Nat) < uMax; decide⟩
set_option maxHeartbeats 16000000 in
set_option maxRecDepth 100000 in
theorem lives16_any (w : World) : Calls Try.prog 5 #[] w (Ret w (.bool true)) := by
  obtain ⟨cix, ce, cto, i, ch, crt, hcl, hop⟩ := lives_back
  have hcok := claimR_ok hcl rok0 (by decide) (by decide)
  have HCL := Lib.hid hcl; have HOP := Lib.hid hop; have HCOK := Lib.hid hcok
  clear hcl hop hcok
  go_enter Try.func5, Try.ntmps5
  go_wp2_with fail
  obtain ⟨w1, hw1⟩ : ∃ w1, w1 = w.alloc (.cells (rowC row0) 49) := ⟨_, rfl⟩
  obtain ⟨w2, hw2⟩ : ∃ w2, w2 = w1.alloc (.cells #[.int .i64 1] 3) := ⟨_, rfl⟩
  have hb1 : Below w.heap.size w w1 := by rw [hw1]; exact (Below.refl _ _).alloc (Nat.le_refl _) _
  have hb2 : Below w1.heap.size w1 w2 := by rw [hw2]; exact (Below.refl _ _).alloc (Nat.le_refl _) _
  have hs1 : w1.heap.size = w.heap.size + 1 := by rw [hw1]; exact Array.size_push _
  have hR1 : Rd w1 rowE 6 (.slice (some ⟨w.heap.size, 0, none⟩) 1 1) [row0] := by rw [hw1]; exact rd_row w row0 _
  have hT2 : Rd w2 intE 1 (.slice (some ⟨w.heap.size + 1, 0, none⟩) 1 1) [1] := by rw [← hs1, hw2]; exact rd_new1 w1 intE (fun _ => rfl) _ _ _ 1 rfl (by omega) rfl
  have HB2 := Lib.hid (hb1.trans (hb2.mono hb1.size)); have HR2 := Lib.hid (hR1.later hb2); have HT2 := Lib.hid hT2
  have hcall := lclaim_any w2 _ _ [row0] 7 [1] HR2.out rok0 (by simp) HT2.out (by simp)
  rw [HCL.out] at hcall
  have hcall2 : Calls Try.prog 10 #[.slice (some ⟨w.heap.size, 0, none⟩) 1 1, .int .i64 7, .slice (some ⟨w.heap.size + 1, 0, none⟩) 1 1] ((w.alloc (.cells #[.int .i64 7, .int .i64 1, .int .u64 10, .int .u64 0, .int .u64 0, .int .u64 0] 49)).alloc (.cells #[.int .i64 1] 3)) (ClaimRet w2 (.ok ⟨crt, cix, ce, ch, [], [⟨i, 1, 10, []⟩], cto⟩)) := by
    rw [hw2, hw1] at hcall ⊢; exact hcall
  clear hw1 hw2 hb1 hb2 hs1 hR1 hT2 hcall
  refine hcall2.mono ?_
  rintro e w3 ⟨hb3, v3, rfl, hca⟩
  have HB3 := Lib.hid (HB2.out.trans (hb3.mono HB2.out.size)); have HR3 := Lib.hid (HR2.out.later hb3)
  clear hb3 hcall2 HB2 HR2 HT2
  have HCA := Lib.hid hca
  obtain ⟨⟨pa, pn, pc⟩, ⟨la, ln, lc⟩, rfl, hp, xs, hxl, hlv, hpr⟩ := hca
  have hpn : pn = 0 := hp.size
  have hx1 : xs.length = 1 := by have h := congrArg List.length hxl; rw [List.length_map] at h; exact h
  have hln : ln = 1 := (hlv.size).trans hx1
  subst hpn hln
  obtain ⟨⟨x1, ⟨sa, sn, sc⟩⟩, rfl⟩ : ∃ x, xs = [x] := List.length_eq_one_iff.1 hx1
  obtain rfl : x1 = ⟨i, 1, 10, []⟩ := by simpa using hxl
  have hsn : sn = 0 := (hpr _ (List.mem_singleton_self _)).size
  subst hsn
  obtain ⟨lb, lo, rfl, _, _, _, _, _, _, c6⟩ := hlv.leaf 0 (by simp)
  have h32 : ch.length = 32 := HCOK.out.1
  have H32 := Lib.hid h32
  have HC6 := Lib.hid (show w3.cell? ⟨lb, lo + 6, none⟩ = some (.slice sa 0 sc) from c6)
  clear hp hxl hlv hpr hx1 c6 h32
  go_wp2_with (refine wpList_alloc_g rfl _ rfl _ _ Try.zeroCl rfl ?_)
  intro C d1 hC
  go_wp2_with (refine wpList_store_row_g (t := 27) (old := clZ) rfl 27 _ _ rfl C (clC crt cix ce ch (pa, 0, pc) (some ⟨lb, lo, none⟩, 1, lc) cto) rfl rfl hC.out.cells (Try.sizeCl _ _ _ H32.out _ _ _) (by rw [clC_size _ _ _ H32.out]; rfl) (clC_one _ _ _ _ _ _ _) ?_)
  intro w4 h4 k4 z4
  have hb4 : Below w3.heap.size w3 w4 := hC.out.below.trans (k4.below (B := w3.heap.size) (fun x hx e => by have := hC.out.eq; omega) hC.out.below.size)
  have HC4 := Lib.hid h4
  have HB4 := Lib.hid (HB3.out.trans (hb4.mono HB3.out.size)); have HR4 := Lib.hid (HR3.out.later hb4); have HCA4 := Lib.hid (HCA.out.later hb4)
  have HL4 := Lib.hid (((bcell hb4).1 lb (lo + 6) (block_lt_of_cell HC6.out)).trans HC6.out)
  clear hC h4 k4 z4 hb4 HB3 HR3 HCA HC6
  go_wp2_with fail
  refine (lroot_any w4 _ [row0] HR4.out rok0 (by simp)).mono ?_
  rintro e w5 ⟨rfl, hb5⟩
  have hr2 : (rootT [row0]).2 = 0 := by unfold rootT; rw [sort0]
  rw [hr2]
  have hr32 := rootT_32 [row0]
  obtain ⟨rt, hrt⟩ : ∃ rt, rt = (rootT [row0]).1 := ⟨_, rfl⟩
  rw [← hrt] at hr32 ⊢
  have HOP2 := Lib.hid (show openR ⟨crt, cix, ce, ch, [], [⟨i, 1, 10, []⟩], cto⟩ rt = 0 by rw [hrt]; exact HOP.out)
  have HR32 := Lib.hid hr32
  have HC5 := Lib.hid (below_at2 hb5 HC4.out); have HB5 := Lib.hid (HB4.out.trans (hb5.mono HB4.out.size)); have HCA5 := Lib.hid (HCA4.out.later hb5)
  have HL5 := Lib.hid (((bcell hb5).1 lb (lo + 6) (block_lt_of_cell HL4.out)).trans HL4.out)
  clear hr2 hr32 hrt hb5 HC4 HB4 HR4 HCA4 HL4
  go_wp2_with (refine wpList_alloc_g rfl _ rfl _ _ Try.zeroHash rfl ?_)
  intro H d5 hH
  go_wp2_with (refine wpList_store_row_g (t := 23) (old := cB 32 []) rfl 23 _ _ rfl H (c8 rt) rfl rfl hH.out.cells (Try.sizeHc rt HR32.out) (by rw [c8_size, HR32.out]; rfl) (c8_ones rt) ?_)
  intro w6 h6 k6 z6
  have hb6 : Below w5.heap.size w5 w6 := hH.out.below.trans (k6.below (B := w5.heap.size) (fun x hx e => by have := hH.out.eq; omega) hH.out.below.size)
  have HH6 := Lib.hid h6
  have HC6 := Lib.hid (below_at2 hb6 HC5.out); have HB6 := Lib.hid (HB5.out.trans (hb6.mono HB5.out.size)); have HCA6 := Lib.hid (HCA5.out.later hb6)
  have c6 := ((bcell hb6).1 lb (lo + 6) (block_lt_of_cell HL5.out)).trans HL5.out
  have c35 : w6.cell? ⟨C, 35, none⟩ = some (.slice pa 0 pc) := (Lib.cell_of_heap HC6.out 35).trans (clC_35 _ _ _ H32.out _ _ _)
  have c36 : w6.cell? ⟨C, 36, none⟩ = some (.slice (some ⟨lb, lo, none⟩) 1 lc) := (Lib.cell_of_heap HC6.out 36).trans (clC_36 _ _ _ H32.out _ _ _)
  clear hH h6 k6 z6 hb6 HC5 HB5 HCA5 HL5
  go_wp2_with (first
    | (refine wpList_load_row_y (by rfl) 27 _ rfl C rfl 27 _ _ _ HC6.out Try.underlying27 rfl (Try.sizeCl _ _ _ H32.out _ _ _) ?_)
    | (refine wpList_load_row_y (by rfl) 23 _ rfl H rfl 23 _ _ _ HH6.out Try.underlying23 rfl (Try.sizeHc rt HR32.out) ?_))
  refine (lopen_any w6 _ _ rt HCA6.out HCOK.out HR32.out).mono ?_
  rintro e w7 ⟨rfl, hb7⟩
  rw [HOP2.out]
  have HB7 := Lib.hid (HB6.out.trans (hb7.mono HB6.out.size))
  clear hb7
  go_wp2_with fail
  go_ret
  exact ⟨rfl, HB7.out⟩
end Go.Proofs.Ytmclmccgghnglaa
