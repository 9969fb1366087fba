/- All and Copy of a store: no condition. -/
import Derived.Test.YtohedljdkfmkdaaStoV
namespace Go.Proofs.Ytohedljdkfmkdaa
open Go.RowKit

theorem sall_any {w : World} {g : Nat} {s : PS} {F : List Nat} (h : St w g s F) (htl : s.t.length < 1099511627776) :
    Calls Try.prog 26 #[.pointer (some ⟨g, 0, none⟩)] w (CloneRet w 127 pairE 2 s.t) := by
  have HS := Lib.hid h; have HT := Lib.hid htl
  clear h htl
  go_enter Try.func26, Try.ntmps26
  go_wp2_with fail
  refine (sunder_any HS.out HT.out []).mono ?_
  rintro e w1 ⟨v, rfl, r1, r2, r3⟩
  rw [under_nil] at r1
  have R1 := Lib.hid r1; have R2 := Lib.hid r2; have R3 := Lib.hid r3
  clear r1 r2 r3
  go_wp2_with fail
  go_ret
  exact ⟨_, rfl, R1.out, R2.out, R3.out⟩
/-- A copy of its own. -/
def CopyRet (w : World) (s : PS) (e : Ending) (w' : World) : Prop := ∃ X F', e = .returned (.pointer (some ⟨X, 0, none⟩)) ∧ St w' X s F' ∧ Below w.heap.size w w' ∧ ∀ x ∈ F', w.heap.size ≤ x

set_option maxHeartbeats 16000000 in
set_option maxRecDepth 100000 in
theorem scopy_any {w : World} {g : Nat} {s : PS} {F : List Nat} (h : St w g s F) (htl : s.t.length < 1099511627776) (hpl : s.past.length < 1099511627776) :
    Calls Try.prog 22 #[.pointer (some ⟨g, 0, none⟩)] w (CopyRet w s) := by
  obtain ⟨bm, vb, vp, zs, h, hF⟩ := h
  obtain ⟨ad, cap, hvb, h1, h2⟩ := h.bk.blocks.shape
  rw [List.length_map] at hvb h1
  obtain ⟨n, hn⟩ : ∃ n, n = zs.length := ⟨_, rfl⟩
  rw [← hn] at hvb h1
  subst hvb
  obtain ⟨adp, capp, hvp, hp1, hp2⟩ := h.past.shape
  obtain ⟨np, hnp⟩ : ∃ np, np = s.past.length := ⟨_, rfl⟩
  rw [← hnp] at hvp hp1
  subst hvp
  have hlz : n < 1099511627776 := by rw [hn]; exact Nat.lt_of_le_of_lt h.few htl
  have H := Lib.hid h; have HN := Lib.hid hn; have HTL := Lib.hid htl; have HPL := Lib.hid hpl; have HH := Lib.hid h.bk.head
  have CC : Hid (∀ wx : World, Below w.heap.size w wx → wx.cell? ⟨g, 1, none⟩ = some (.map (some bm)) ∧ wx.cell? ⟨g, 2, none⟩ = some (.slice ad n cap) ∧ wx.cell? ⟨g, 3, none⟩ = some (.slice adp np capp)) := Lib.hid fun wx hb =>
    have hg := (hb.block g (heap_lt h.bk.head)).trans h.bk.head
    ⟨Lib.cell_of_heap hg 1, Lib.cell_of_heap hg 2, Lib.cell_of_heap hg 3⟩
  clear hF h hn htl hpl hnp
  go_enter Try.func22, Try.ntmps22
  go_wp2_with fail
  refine (is_made g _ _ _ HH.out rfl).mono ?_
  rintro e w1 ⟨rfl, rfl⟩
  go_wp2_with fail
  have hS : Below w.heap.size w w.drew := (Below.refl _ _).drew
  refine wp_region_till (fun w' => Below w.heap.size w w') 12 13 (by kernel_rfl) rfl ?_
  refine till_take 0 (some 9) rfl rfl (by kernel_rfl) (by kernel_rfl) (by kernel_rfl) (by kernel_rfl) (by kernel_rfl) (by kernel_rfl) (fun _ _ _ h => h) (.inl ⟨by rfl, fun w' _ => (by go_simp; rfl)⟩) hS ?_
  go_frame
  refine till_take 1 (some 10) rfl rfl (by kernel_rfl) (by kernel_rfl) (by kernel_rfl) (by kernel_rfl) (by kernel_rfl) (by kernel_rfl) (fun _ _ _ h => h) (.inl ⟨by rfl, fun w' _ => (by go_simp; rfl)⟩) hS ?_
  go_frame
  refine till_take 2 (some 11) rfl rfl (by kernel_rfl) (by kernel_rfl) (by kernel_rfl) (by kernel_rfl) (by kernel_rfl) (by kernel_rfl) (fun _ _ _ h => h) (.inl ⟨by rfl, fun w' _ => (by go_simp; rfl)⟩) hS ?_
  go_frame
  refine till_take 3 (some 12) rfl rfl (by kernel_rfl) (by kernel_rfl) (by kernel_rfl) (by kernel_rfl) (by kernel_rfl) (by kernel_rfl) (fun _ _ _ h => h) (.inl ⟨by rfl, fun w' hS' => (by have hc := (CC.out w' hS').1; go_simp; rfl)⟩) hS ?_
  go_frame
  refine till_take 5 (some 14) rfl rfl (by kernel_rfl) (by kernel_rfl) (by kernel_rfl) (by kernel_rfl) (by kernel_rfl) (by kernel_rfl) (fun _ _ _ h => h) (.inl ⟨by rfl, fun w' _ => (by go_simp; rfl)⟩) hS ?_
  go_frame
  refine till_take 6 (some 15) rfl rfl (by kernel_rfl) (by kernel_rfl) (by kernel_rfl) (by kernel_rfl) (by kernel_rfl) (by kernel_rfl) (fun _ _ _ h => h) (.inl ⟨by rfl, fun w' _ => (by go_simp; rfl)⟩) hS ?_
  go_frame
  refine till_take 7 (some 16) rfl rfl (by kernel_rfl) (by kernel_rfl) (by kernel_rfl) (by kernel_rfl) (by kernel_rfl) (by kernel_rfl) (fun _ _ _ h => h) (.inl ⟨by rfl, fun w' _ => (by go_simp; rfl)⟩) hS ?_
  go_frame
  refine till_take 8 (some 17) rfl rfl (by kernel_rfl) (by kernel_rfl) (by kernel_rfl) (by kernel_rfl) (by kernel_rfl) (by kernel_rfl) (fun _ _ _ h => h) (.inl ⟨by rfl, fun w' hS' => (by have hc := (CC.out w' hS').2.2; go_simp; rfl)⟩) hS ?_
  go_frame
  refine till_one 4 rfl (by kernel_rfl) fun K hK => ?_
  simp only [List.getElem_toArray, List.getElem_cons_succ, List.getElem_cons_zero]
  rw [if_pos (by rfl)]
  go_simp
  refine (clone_map _ bm s.t (H.out.map.keep (Keep.of_below (S := fun _ => False) hS) id)).mono ?_
  rintro e w2 ⟨rfl, hm2, hb2⟩
  have hMB : MapIs w2 w.heap.size s.t := hm2
  have hS2 := hS.trans (hb2.mono hS.size)
  refine hK _ _ (fun _ _ => hS2) ?_
  clear hK hS
  have hS := hS2
  refine till_one 9 rfl (by kernel_rfl) fun K hK => ?_
  simp only [List.getElem_toArray, List.getElem_cons_succ, List.getElem_cons_zero]
  rw [if_pos (by rfl)]
  go_simp
  refine (clone_past _ (.slice adp np capp) s.past ((H.out.past.later hS).rd wasE_len) HPL.out).mono ?_
  rintro e w3 ⟨vq, rfl, hl3, hb3, ho3⟩
  have hS3 := hS.trans (hb3.mono hS.size)
  have hq : ∀ k, vq.ownBlock = some k → w.heap.size ≤ k := fun k e => Nat.le_trans hS.size (ho3 k e)
  have hm3 : MapIs w3 w.heap.size s.t := hMB.keep (Keep.of_below (S := fun _ => False) hb3) id
  refine hK _ _ (fun _ _ => hS3) ?_
  have HM := Lib.hid hm3; have HQ := Lib.hid hl3; have HQO := Lib.hid hq; have HS3 := Lib.hid hS3
  clear hK hS hS2 hm2 hMB hb2 hb3 ho3 hl3 hm3 hq
  have hS := hS3
  clear hS3
  obtain ⟨adq, capq, hvq, _, _⟩ := HQ.out.shape
  obtain ⟨nq, hnq⟩ : ∃ nq, nq = s.past.length := ⟨_, rfl⟩
  rw [← hnq] at hvq
  clear hnq
  subst hvq
  refine till_take 10 (some 19) rfl rfl (by kernel_rfl) (by kernel_rfl) (by kernel_rfl) (by kernel_rfl) (by kernel_rfl) (by kernel_rfl) (fun _ _ _ h => h) (.inl ⟨by rfl, fun w' _ => (by go_simp; rfl)⟩) hS ?_
  go_frame
  refine till_one 11 rfl (by kernel_rfl) fun K hK => ?_
  simp only [List.getElem_toArray, List.getElem_cons_succ, List.getElem_cons_zero]
  rw [if_pos (by rfl)]
  go_simp
  obtain ⟨w4, hw4⟩ : ∃ w4, w4 = w3.alloc (.cells #[.bool true, .map (some w.heap.size), .slice none 0 0, .slice adq nq capq] 60) := ⟨_, rfl⟩
  obtain ⟨X, hX⟩ : ∃ X, X = w3.heap.size := ⟨_, rfl⟩
  rw [← hw4, ← hX]
  have hb34 : Below w3.heap.size w3 w4 := by rw [hw4]; exact (Below.refl _ _).alloc (Nat.le_refl _) _
  have hx4 : w4.heap[X]? = some (.cells #[.bool true, .map (some w.heap.size), .slice none 0 0, .slice adq nq capq] 60 (0, 0)) := by rw [hw4, hX]; exact heap_alloc_new _ _
  have hS4 := HS3.out.trans (hb34.mono HS3.out.size)
  have hXw : w.heap.size < X := by rw [hX]; exact HM.out.lt
  refine hK _ _ (fun _ _ => hS4) ?_
  have HM4 := Lib.hid (HM.out.keep (Keep.of_below (S := fun _ => False) hb34) id); have HQ4 := Lib.hid (HQ.out.later hb34); have HX4 := Lib.hid hx4; have HS4 := Lib.hid hS4; have HXW := Lib.hid hXw
  have hmx : w.heap.size ≠ X := by omega
  clear hK hS hw4 hX hb34 hx4 hXw
  have hS := hS4
  clear hS4
  refine till_one 12 rfl (by kernel_rfl) fun K hK => ?_
  simp only [List.getElem_toArray, List.getElem_cons_succ, List.getElem_cons_zero]
  rw [if_pos (by rfl)]
  go_simp
  refine hK _ _ (fun h => absurd rfl h) ?_
  clear hK hS
  refine till_done (by kernel_rfl) ?_ _
  obtain ⟨d1, d2, d3⟩ := CC.out w4 HS4.out
  go_wp2_with fail
  clear d1 d2 d3
  go_loopw [5, 26] (fun _ vi wr => ∃ (i : Nat) (vbx : Value) (zsx : List (Value × List Txt)), vi = .int .i64 i ∧ i ≤ n ∧ Hid (Bk wr X w.heap.size vbx (.slice adq nq capq) zsx) ∧ Hid (zsx.map (·.2) = (zs.take i).map (·.2)) ∧ Hid (∀ x ∈ footB vbx zsx, w.heap.size ≤ x) ∧ Hid (MapIs wr w.heap.size s.t) ∧ Hid (LO wr 131 wasE 3 (.slice adq nq capq) s.past) ∧ Hid (Below w.heap.size w wr)) (fun _ vi _ => n - (intOf vi).toNat)
  case atStart => exact ⟨0, .slice none 0 0, [], rfl, Nat.zero_le _, Lib.hid ⟨HX4.out, LO.nil _ _ _ _, ⟨fun z hz => absurd hz (by simp), List.Pairwise.nil⟩, fun z hz => absurd hz (by simp)⟩, Lib.hid rfl, Lib.hid fun x hx => absurd hx (by simp [footB, Value.ownBlock]), HM4, HQ4, HS4⟩
  case round =>
    obtain ⟨i, vbx, zsx, rfl, hin, BX, MX, FX, MM, QQ, BW⟩ := hrel
    by_cases hlt : i < n
    · have hil : i < zs.length := by rw [← HN.out]; exact hlt
      obtain ⟨z, hz⟩ : ∃ z, z = zs[i] := ⟨_, rfl⟩
      have hzm : z ∈ zs := by rw [hz]; exact List.getElem_mem _
      have htk : (zs.take (i + 1)).map (·.2) = (zs.take i).map (·.2) ++ [z.2] := by rw [List.take_succ_eq_append_getElem hil, List.map_append, hz]; rfl
      have hrz := (H.out.bk.rows.rows z hzm).rd tE_len
      have hne := H.out.bk.ne z hzm
      obtain ⟨bv, off, e1, hbv, hcv⟩ := (H.out.bk.blocks.rd vE_len).at i (by rw [List.length_map]; exact hil)
      subst e1
      have hcz : wr.cell? ⟨bv, off + i, none⟩ = some z.1 := by
        rw [List.getElem_map, ← hz] at hcv
        exact (BW.out.cell (p := ⟨bv, off + i, none⟩) hbv).trans hcv
      obtain ⟨x, ks⟩ := z
      simp only at hcz hrz hne htk
      obtain ⟨adx, capx, hvx, ex1, ex2⟩ := BX.out.blocks.shape
      have hlx : zsx.length = i := by
        have h8 := congrArg List.length MX.out
        rw [List.length_map, List.length_map, List.length_take] at h8
        omega
      rw [List.length_map, hlx] at hvx
      subst hvx
      have cx : wr.cell? ⟨X, 2, none⟩ = some (.slice adx i capx) := Lib.cell_of_heap BX.out.head 2
      have HLX := Lib.hid hlx; have HRZ := Lib.hid hrz; have HNE := Lib.hid hne; have HTK := Lib.hid htk; have CX := Lib.hid cx
      clear hil hz hzm htk hrz hne hbv hcv ex1 hlx cx
      go_wp2_with fail
      clear hcz
      have hS : wr.drew.cell? ⟨X, 2, none⟩ = some (.slice adx i capx) := CX.out
      have hbr : Below wr.heap.size wr wr.drew := (Below.refl _ _).drew
      have HBR := Lib.hid hbr
      clear hbr
      refine wp_region_till (fun w' => w'.cell? ⟨X, 2, none⟩ = some (.slice adx i capx)) 11 12 (by kernel_rfl) rfl ?_
      refine till_take 0 (some 30) rfl rfl (by kernel_rfl) (by kernel_rfl) (by kernel_rfl) (by kernel_rfl) (by kernel_rfl) (by kernel_rfl) (fun _ _ _ h => h) (.inl ⟨by rfl, fun w' _ => (by go_simp; rfl)⟩) hS ?_
      go_frame
      refine till_take 1 (some 31) rfl rfl (by kernel_rfl) (by kernel_rfl) (by kernel_rfl) (by kernel_rfl) (by kernel_rfl) (by kernel_rfl) (fun _ _ _ h => h) (.inl ⟨by rfl, fun w' _ => (by go_simp; rfl)⟩) hS ?_
      go_frame
      refine till_take 2 (some 32) rfl rfl (by kernel_rfl) (by kernel_rfl) (by kernel_rfl) (by kernel_rfl) (by kernel_rfl) (by kernel_rfl) (fun _ _ _ h => h) (.inl ⟨by rfl, fun w' _ => (by go_simp; rfl)⟩) hS ?_
      go_frame
      refine till_take 3 (some 33) rfl rfl (by kernel_rfl) (by kernel_rfl) (by kernel_rfl) (by kernel_rfl) (by kernel_rfl) (by kernel_rfl) (fun _ _ _ h => h) (.inl ⟨by rfl, fun w' _ => (by go_simp; rfl)⟩) hS ?_
      go_frame
      refine till_take 4 (some 34) rfl rfl (by kernel_rfl) (by kernel_rfl) (by kernel_rfl) (by kernel_rfl) (by kernel_rfl) (by kernel_rfl) (fun _ _ _ h => h) (.inl ⟨by rfl, fun w' hS' => (by have hc : w'.cell? ⟨X, 2, none⟩ = _ := hS'; go_simp; rfl)⟩) hS ?_
      go_frame
      refine till_take 5 (some 35) rfl rfl (by kernel_rfl) (by kernel_rfl) (by kernel_rfl) (by kernel_rfl) (by kernel_rfl) (by kernel_rfl) (fun _ _ _ h => h) (.inl ⟨by rfl, fun w' _ => (by go_simp; rfl)⟩) hS ?_
      go_frame
      refine till_one 6 rfl (by kernel_rfl) fun K hK => ?_
      simp only [List.getElem_toArray, List.getElem_cons_succ, List.getElem_cons_zero]
      rw [if_pos (by rfl)]
      go_simp
      refine (clone_keys _ x ks (HRZ.out.later (BW.out.trans (HBR.out.mono BW.out.size))) (by have := HNE.out.2; omega)).mono ?_
      rintro e w5 ⟨x4, rfl, hlo5, hb5, ho5⟩
      have hb5' : Below wr.heap.size wr w5 := HBR.out.trans hb5
      have ho5' : ∀ k, x4.ownBlock = some k → wr.heap.size ≤ k := ho5
      have hS5 : w5.cell? ⟨X, 2, none⟩ = some (.slice adx i capx) := (hb5'.cell (p := ⟨X, 2, none⟩) (heap_lt BX.out.head)).trans CX.out
      refine hK _ _ (fun _ _ => hS5) ?_
      obtain ⟨ad4, cap4, hx4, _, _⟩ := hlo5.shape
      obtain ⟨n4, hn4⟩ : ∃ n4, n4 = ks.length := ⟨_, rfl⟩
      rw [← hn4] at hx4
      clear hn4
      subst hx4
      have HLO5 := Lib.hid hlo5; have HB5 := Lib.hid hb5'; have HO5 := Lib.hid ho5'
      clear hK hS hlo5 hb5 ho5 hb5' ho5'
      have hS := hS5
      clear hS5
      refine till_one 7 rfl (by kernel_rfl) fun K hK => ?_
      simp only [List.getElem_toArray, List.getElem_cons_succ, List.getElem_cons_zero]
      rw [if_pos (by rfl)]
      go_simp
      obtain ⟨w6, hw6⟩ : ∃ w6, w6 = w5.alloc (.cells #[.slice ad4 n4 cap4] 133) := ⟨_, rfl⟩
      obtain ⟨Y, hY⟩ : ∃ Y, Y = w5.heap.size := ⟨_, rfl⟩
      rw [← hw6, ← hY]
      have hb56 : Below w5.heap.size w5 w6 := by rw [hw6]; exact (Below.refl _ _).alloc (Nat.le_refl _) _
      have hy6 : w6.heap[Y]? = some (.cells #[.slice ad4 n4 cap4] 133 (0, 0)) := by rw [hw6, hY]; exact heap_alloc_new _ _
      have hb6 : Below wr.heap.size wr w6 := HB5.out.trans (hb56.mono HB5.out.size)
      have hS6 : w6.cell? ⟨X, 2, none⟩ = some (.slice adx i capx) := (hb6.cell (p := ⟨X, 2, none⟩) (heap_lt BX.out.head)).trans CX.out
      refine hK _ _ (fun _ _ => hS6) ?_
      have HB6 := Lib.hid hb6; have HY6 := Lib.hid hy6; have HB56 := Lib.hid hb56
      clear hK hS hw6 hY hb56 hy6 hb6
      have hS := hS6
      clear hS6
      refine till_one 8 rfl (by kernel_rfl) fun K hK => ?_
      simp only [List.getElem_toArray, List.getElem_cons_succ, List.getElem_cons_zero]
      rw [if_pos (by rfl)]
      refine wp_lo_apps (l2 := [Value.slice ad4 n4 cap4]) _ _ 57 57 rfl Try.underlying57 Try.underlying57 Try.infoIB rfl (by decide) vE_len (vE_one _ (by simp [Value.oneCell'])) (BX.out.blocks.later HB6.out) rfl _ rfl
        ⟨some ⟨Y, 0, none⟩, 1, rfl, Nat.le_refl _, by unfold maxLen; omega, fun _ => ⟨Y, 0, rfl, heap_lt HY6.out, fun j hj q hq => by
          have h0 : j = 0 := by simpa using hj
          subst h0
          rw [Lib.cell_of_heap HY6.out]
          simp [vE]⟩⟩ (by have := HLX.out; unfold maxLen; simp; omega) (by have := HLX.out; simp; omega) ?_
      intro vb' w7 hlo7 k67 hm7
      have hg6 := (HB6.out.block X (heap_lt BX.out.head)).trans BX.out.head
      have hap6 := (BX.out.blocks.later HB6.out).apart hg6 (by decide)
      have hg7 := k67.at hg6 hap6
      refine hK _ _ (fun _ _ => Lib.cell_of_heap hg7 2) ?_
      have hr5 : RowsZ w5 zsx := BX.out.rows.keep (Keep.of_below (S := fun _ => False) HB5.out) fun _ _ => id
      have hr5' : RowsZ w5 (zsx ++ [(.slice ad4 n4 cap4, ks)]) := by
        refine RowsZ.insert (post := []) (by rw [List.append_nil]; exact hr5) HLO5.out fun k e hk => ?_
        rw [List.append_nil] at hk
        have h8 := HO5.out k e
        obtain ⟨y, hy, e2⟩ := List.mem_filterMap.1 hk
        have := (BX.out.rows.rows y hy).lt k e2
        omega
      have hr6 := hr5'.keep (Keep.of_below (S := fun _ => False) HB56.out) fun _ _ => id
      have hr7 : RowsZ w7 (zsx ++ [(.slice ad4 n4 cap4, ks)]) := hr6.keep k67 fun q hq e => by
        obtain ⟨cs, hc⟩ := (BX.out.blocks.later HB6.out).kind e
        exact hr6.apart hc (by decide) q hq rfl
      have hm7' : MapIs w7 w.heap.size s.t := (MM.out.keep (Keep.of_below (S := fun _ => False) HB6.out) id).keep k67 fun e => by
        obtain ⟨cs, hc⟩ := (BX.out.blocks.later HB6.out).kind e
        exact mapIs_apart (MM.out.keep (Keep.of_below (S := fun _ => False) HB6.out) id) hc rfl
      have hq7 := (QQ.out.later HB6.out).keep k67 fun q e e2 => by
        obtain ⟨cs, hc⟩ := (BX.out.blocks.later HB6.out).kind e2
        exact (QQ.out.later HB6.out).apart hc (by decide) e
      have hbw7 : Below w.heap.size w w7 := (BW.out.trans (HB6.out.mono BW.out.size)).trans (k67.below (B := w.heap.size) (fun q hq e => by
        have := FX.out q (by unfold footB; rw [e]; simp)
        omega) (Nat.le_trans BW.out.size HB6.out.size))
      obtain ⟨ad7, cap7, hvb7, _, _⟩ := hlo7.shape
      obtain ⟨n7, hn7⟩ : ∃ n7, n7 = (zsx.map (·.1) ++ [Value.slice ad4 n4 cap4]).length := ⟨_, rfl⟩
      rw [← hn7] at hvb7
      subst hvb7
      have hf7 : ∀ q ∈ footB (.slice ad7 n7 cap7) (zsx ++ [(Value.slice ad4 n4 cap4, ks)]), w.heap.size ≤ q := by
        intro q hq
        unfold footB at hq
        rcases List.mem_append.1 hq with hq | hq
        · rw [Option.mem_toList] at hq
          rcases hm7 with h | ⟨q', h, h'⟩
          · exact FX.out q (by unfold footB; rw [← h, hq]; simp)
          · rw [hq] at h; cases h; exact Nat.le_trans (Nat.le_trans BW.out.size HB6.out.size) h'
        · rw [List.filterMap_append] at hq
          rcases List.mem_append.1 hq with hq | hq
          · exact FX.out q (by unfold footB; exact List.mem_append_right _ hq)
          · obtain ⟨y, hy, e⟩ := List.mem_filterMap.1 hq
            rw [List.mem_singleton.1 hy] at e
            exact Nat.le_trans BW.out.size (HO5.out q e)
      have HLO7 := Lib.hid hlo7; have HG7 := Lib.hid hg7; have HR7 := Lib.hid hr7; have HM7 := Lib.hid hm7'; have HQ7 := Lib.hid hq7; have HBW7 := Lib.hid hbw7; have HF7 := Lib.hid hf7
      clear hK hS hlo7 k67 hm7 hg6 hap6 hg7 hr5 hr5' hr6 hr7 hm7' hq7 hbw7 hn7 hf7
      have hS : w7.cell? ⟨X, 2, none⟩ = some (.slice adx i capx) := Lib.cell_of_heap HG7.out 2
      refine till_take 9 (some 39) rfl rfl (by kernel_rfl) (by kernel_rfl) (by kernel_rfl) (by kernel_rfl) (by kernel_rfl) (by kernel_rfl) (fun _ _ _ h => h) (.inl ⟨by rfl, fun w' _ => (by go_simp; rfl)⟩) hS ?_
      go_frame
      refine till_take 10 (some 40) rfl rfl (by kernel_rfl) (by kernel_rfl) (by kernel_rfl) (by kernel_rfl) (by kernel_rfl) (by kernel_rfl) (fun _ _ _ h => h) (.inl ⟨by rfl, fun w' _ => (by go_simp; rfl)⟩) hS ?_
      go_frame
      refine till_one 11 rfl (by kernel_rfl) fun K hK => ?_
      simp only [List.getElem_toArray, List.getElem_cons_succ, List.getElem_cons_zero]
      rw [if_pos (by rfl)]
      refine wp_store1_g 57 _ _ rfl X 2 _ rfl rfl rfl rfl 60 _ HG7.out (by kernel_rfl) (by simp) _ rfl ?_
      intro w8 h8 k78 z8
      refine hK _ _ (fun h => absurd rfl h) ?_
      refine till_done (by kernel_rfl) ?_ _
      have hb8 : Bk w8 X w.heap.size (.slice ad7 n7 cap7) (.slice adq nq capq) (zsx ++ [(Value.slice ad4 n4 cap4, ks)]) := by
        refine ⟨h8, ?_, HR7.out.keep k78 (fun q hq => HR7.out.apart HG7.out (by decide) q hq), fun y hy => ?_⟩
        · rw [List.map_append]
          exact HLO7.out.keep k78 fun q e e2 => HLO7.out.apart HG7.out (by decide) (by rw [e, e2])
        · rcases List.mem_append.1 hy with hy | hy
          · exact BX.out.ne y hy
          · rw [List.mem_singleton.1 hy]; exact HNE.out
      have hx8 : (zsx ++ [(Value.slice ad4 n4 cap4, ks)]).map (·.2) = (zs.take (i + 1)).map (·.2) := by rw [List.map_append, MX.out, HTK.out]; rfl
      have hm8 := HM7.out.keep k78 hmx
      have hq8 := HQ7.out.keep k78 fun q e e2 => HQ7.out.apart HG7.out (by decide) (by rw [e, e2])
      have hbw8 : Below w.heap.size w w8 := HBW7.out.trans (k78.below (B := w.heap.size) (fun q hq e => by have := HXW.out; omega) HBW7.out.size)
      have B8 := Lib.hid hb8; have X8 := Lib.hid hx8; have M8 := Lib.hid hm8; have Q8 := Lib.hid hq8; have W8 := Lib.hid hbw8
      clear hK hS h8 k78 z8 hb8 hx8 hm8 hq8 hbw8
      go_wp2_with fail
      go_roundw
      case rel => exact ⟨i + 1, _, _, by go_num, hlt, B8, X8, HF7, M8, Q8, W8⟩
      case measure => simp [intOf]; omega
    · have hfin : Hid (zsx.map (·.2) = zs.map (·.2)) := by
        have h8 := MX.out
        rw [List.take_of_length_le (by rw [← HN.out]; omega)] at h8
        exact Lib.hid h8
      go_wp2_with fail
      go_ret
      refine ⟨X, _, rfl, ⟨w.heap.size, vbx, .slice adq nq capq, zsx, ⟨BX.out, MM.out, QQ.out, H.out.up, by rw [hfin.out]; exact H.out.flat⟩, rfl⟩, BW.out, fun x hx => ?_⟩
      rw [foot_eq] at hx
      have := HXW.out
      rcases hx with h | h | h | h
      · omega
      · omega
      · exact HQO.out x h
      · exact FX.out x h
end Go.Proofs.Ytohedljdkfmkdaa
