/- Set, Delete, Settle and Undo of a store: no condition. -/
import Derived.Test.YthnjakomkdlglaaStoL
namespace Go.Proofs.Ythnjakomkdlglaa
open Go.RowKit

theorem foot_eq (g bm : Nat) (vb vp : Value) (zs : List (Value × List Txt)) (x : Nat) : x ∈ foot g bm vb vp zs ↔ x = g ∨ x = bm ∨ vp.ownBlock = some x ∨ x ∈ footB vb zs := by
  unfold foot
  simp only [List.mem_cons, List.mem_append, Option.mem_toList]
/-- The list of changes has grown. -/
theorem past_close {w w2 w4 w5 : World} {g bm : Nat} {vb vp vb2 vp' : Value} {zs zs2 : List (Value × List Txt)} {s : PS} {t' : Tab} {p' : List WasP} (_h0 : StAt w g s bm vb vp zs) (h2 : StAt w2 g ⟨t', s.past⟩ bm vb2 vp zs2) (k02 : Keep (fun x => x = g ∨ x = bm ∨ x ∈ footB vb zs) w w2) (hf2 : ∀ x ∈ footB vb2 zs2, x ∈ footB vb zs ∨ w.heap.size ≤ x)
    (hp : LO w4 142 wasE 3 vp' p') (k24 : Keep (fun k => vp.ownBlock = some k) w2 w4) (hm : vp'.ownBlock = vp.ownBlock ∨ ∀ k, vp'.ownBlock = some k → w2.heap.size ≤ k)
    (h5 : w5.heap[g]? = some (.cells #[.bool true, .map (some bm), vb2, vp'] 63 (0, 0))) (k45 : Keep (· = g) w4 w5) :
    StAt w5 g ⟨t', p'⟩ bm vb2 vp' zs2 ∧ Keep (· ∈ foot g bm vb vp zs) w w5 ∧ ∀ x ∈ foot g bm vb2 vp' zs2, x ∈ foot g bm vb vp zs ∨ w.heap.size ≤ x := by
  have hgp : vp.ownBlock ≠ some g := h2.past.apart h2.bk.head (by decide)
  have hg4 := k24.at h2.bk.head hgp
  have hb4 : Bk w4 g bm vb2 vp zs2 := h2.bk.keep k24 hgp fun x hx => foot_past h2.bk h2.past x hx
  have hm4 : MapIs w4 bm t' := h2.map.keep k24 fun e => by
    obtain ⟨cs, hc⟩ := h2.past.kind e
    exact mapIs_apart h2.map hc rfl
  refine ⟨⟨⟨h5, ?_, ?_, h2.bk.ne⟩, ?_, ?_, h2.up, h2.flat⟩, ?_, ?_⟩
  · exact hb4.blocks.keep k45 fun k e e2 => hb4.blocks.apart hg4 (by decide) (by rw [e, e2])
  · exact hb4.rows.keep k45 fun q hq => hb4.rows.apart hg4 (by decide) q hq
  · exact hm4.keep k45 fun e => mapIs_apart hm4 hg4 e
  · exact hp.keep k45 fun k e e2 => hp.apart hg4 (by decide) (by rw [e, e2])
  · refine ((k02.mono ?_).then k24 ?_).then k45 ?_
    · intro x _ hx
      rw [foot_eq]
      rcases hx with h | h | h
      · exact .inl h
      · exact .inr (.inl h)
      · exact .inr (.inr (.inr h))
    · intro x hx; left; rw [foot_eq]; exact .inr (.inr (.inl hx))
    · intro x hx; left; rw [foot_eq]; exact .inl hx
  · intro x hx
    rw [foot_eq] at hx ⊢
    rcases hx with h | h | h | h
    · exact .inl (.inl h)
    · exact .inl (.inr (.inl h))
    · rcases hm with hm | hm
      · rw [hm] at h; exact .inl (.inr (.inr (.inl h)))
      · exact .inr (Nat.le_trans k02.size (hm x h))
    · rcases hf2 x h with h | h
      · exact .inl (.inr (.inr (.inr h)))
      · exact .inr h

set_option maxHeartbeats 8000000 in
set_option maxRecDepth 100000 in
/-- Set. -/
theorem sset_any {w : World} {g : Nat} {s : PS} {F : List Nat} (h : St w g s F) (htl : s.t.length < 1099511627776) (hpl : s.past.length < 1099511627776) (k v : Txt) :
    Calls Try.prog 110 #[.pointer (some ⟨g, 0, none⟩), .string (bs k), .string (bs v)] w (StRet w g F (s.set k v) (.int .i64 (setE k))) := by
  obtain ⟨bm, vb, vp, zs, h, rfl⟩ := h
  obtain ⟨ad, cap, hvp, h1, h2⟩ := h.past.shape
  obtain ⟨n, hn⟩ : ∃ n, n = s.past.length := ⟨_, rfl⟩
  rw [← hn] at hvp h1 hpl
  subst hvp
  have c3 : w.cell? ⟨g, 3, none⟩ = some (.slice ad n cap) := Lib.cell_of_heap h.bk.head 3
  obtain ⟨ok, hok⟩ : ∃ ok, ok = (getP s.t k).isSome := ⟨_, rfl⟩
  obtain ⟨old, hold⟩ : ∃ old, old = (getP s.t k).getD [] := ⟨_, rfl⟩
  have H := Lib.hid h; have C3 := Lib.hid c3; have HN := Lib.hid hn; have HTL := Lib.hid htl; have HOK := Lib.hid hok; have HOLD := Lib.hid hold
  have c1 : w.cell? ⟨g, 1, none⟩ = some (.map (some bm)) := Lib.cell_of_heap H.out.bk.head 1
  clear h hn htl hok hold c3
  by_cases hk : k = []
  · have je : (bs k).toList.isEmpty = true := by rw [toList_bs, hk]; rfl
    have hres : s.set k v = s := by unfold PS.set; rw [if_pos (.inl hk)]
    have hE : setE k = 2 := by unfold setE; rw [if_pos hk]
    rw [hres, hE]
    clear hk hres hE
    go_enter Try.func110, Try.ntmps110
    go_wp2_with fail
    refine (is_made g _ _ _ H.out.bk.head rfl).mono ?_
    rintro e w1 ⟨rfl, rfl⟩
    go_wp2_with fail
    go_ret
    exact ⟨rfl, _, ⟨bm, vb, _, zs, H.out, rfl⟩, Keep.refl _ _, fun x hx => .inl hx⟩
  · have je : (bs k).toList.isEmpty = false := by rw [toList_bs]; cases k with | nil => exact absurd rfl hk | cons _ _ => rfl
    have hE : setE k = 0 := by unfold setE; rw [if_neg hk]
    rw [hE]
    by_cases hsame : getP s.t k = some v
    · have hres : s.set k v = s := by unfold PS.set; rw [if_pos (.inr hsame)]
      have ho : old = v := by rw [HOLD.out, hsame]; rfl
      have hk1 : ok = true := by rw [HOK.out, hsame]; rfl
      have jv : ((bs old).toList == (bs v).toList) = true := by rw [ho]; simp
      rw [hres]
      clear hk hres hE ho hsame
      subst hk1
      go_enter Try.func110, Try.ntmps110
      go_wp2_with fail
      refine (is_made g _ _ _ H.out.bk.head rfl).mono ?_
      rintro e w1 ⟨rfl, rfl⟩
      go_wp2_with (refine wp_map_look_ok rfl 59 _ _ rfl Try.underlying59 Try.underlying9 zeroStr H.out.map k rfl rfl ?_; rw [← HOK.out, ← HOLD.out])
      go_ret
      exact ⟨rfl, _, ⟨bm, vb, _, zs, H.out, rfl⟩, Keep.refl _ _, fun x hx => .inl hx⟩
    · have hres : s.set k v = s.put k v true := by unfold PS.set; rw [if_neg (by rintro (h | h); exact hk h; exact hsame h)]
      have hput : s.put k v true = ⟨layP s.t k v true, s.past ++ [(k, old, ok)]⟩ := by unfold PS.put; rw [← HOLD.out, ← HOK.out]
      rw [hres, hput]
      have hn2 : n < 1099511627776 := hpl
      have hjv : ok = true → ((bs old).toList == (bs v).toList) = false := by
        intro e
        rw [toList_bs, toList_bs]
        rw [beq_eq_false_iff_ne]
        intro e2
        apply hsame
        have h3 := HOK.out
        rw [e] at h3
        cases hg : getP s.t k with
        | none => rw [hg] at h3; cases h3
        | some z => have := HOLD.out; rw [hg] at this; rw [← e2, this]; rfl
      clear hk hres hput hE hsame
      go_enter Try.func110, Try.ntmps110
      go_wp2_with fail
      refine (is_made g _ _ _ H.out.bk.head rfl).mono ?_
      rintro e w1 ⟨rfl, rfl⟩
      have HJ := Lib.hid hjv
      clear hjv
      cases ok with
      | true =>
        have jv := HJ.out rfl
        go_wp2_with (refine wp_map_look_ok rfl 59 _ _ rfl Try.underlying59 Try.underlying9 zeroStr H.out.map k rfl rfl ?_; rw [← HOK.out, ← HOLD.out])
        have hS : w.drew.cell? ⟨g, 3, none⟩ = some (.slice ad n cap) := C3.out
        have hst : StAt w.drew g s bm vb (.slice ad n cap) zs := H.out.keep (Keep.of_below (S := fun _ => False) (Below.refl _ _).drew) fun _ _ => id
        have HD := Lib.hid hst
        clear hst
        refine wp_region_till (fun w' => w'.cell? ⟨g, 3, none⟩ = some (.slice ad n cap)) 13 14 (by kernel_rfl) rfl ?_
        refine till_take 0 (some 32) rfl rfl (by kernel_rfl) (by kernel_rfl) (by kernel_rfl) (by kernel_rfl) (by kernel_rfl) (by kernel_rfl) (fun _ _ _ h => h) (.inl ⟨by rfl, fun w' _ => (by go_simp; rfl)⟩) hS ?_
        go_frame
        refine till_take 1 (some 33) rfl rfl (by kernel_rfl) (by kernel_rfl) (by kernel_rfl) (by kernel_rfl) (by kernel_rfl) (by kernel_rfl) (fun _ _ _ h => h) (.inl ⟨by rfl, fun w' _ => (by go_simp; rfl)⟩) hS ?_
        go_frame
        refine till_take 2 (some 34) rfl rfl (by kernel_rfl) (by kernel_rfl) (by kernel_rfl) (by kernel_rfl) (by kernel_rfl) (by kernel_rfl) (fun _ _ _ h => h) (.inl ⟨by rfl, fun w' _ => (by go_simp; rfl)⟩) hS ?_
        go_frame
        refine till_take 3 (some 35) rfl rfl (by kernel_rfl) (by kernel_rfl) (by kernel_rfl) (by kernel_rfl) (by kernel_rfl) (by kernel_rfl) (fun _ _ _ h => h) (.inl ⟨by rfl, fun w' _ => (by go_simp; rfl)⟩) hS ?_
        go_frame
        refine till_take 4 (some 36) rfl rfl (by kernel_rfl) (by kernel_rfl) (by kernel_rfl) (by kernel_rfl) (by kernel_rfl) (by kernel_rfl) (fun _ _ _ h => h) (.inl ⟨by rfl, fun w' hS' => (by have hc : w'.cell? ⟨g, 3, none⟩ = _ := hS'; go_simp; rfl)⟩) hS ?_
        go_frame
        refine till_take 5 (some 37) rfl rfl (by kernel_rfl) (by kernel_rfl) (by kernel_rfl) (by kernel_rfl) (by kernel_rfl) (by kernel_rfl) (fun _ _ _ h => h) (.inl ⟨by rfl, fun w' _ => (by go_simp; rfl)⟩) hS ?_
        go_frame
        refine till_take 6 (some 38) rfl rfl (by kernel_rfl) (by kernel_rfl) (by kernel_rfl) (by kernel_rfl) (by kernel_rfl) (by kernel_rfl) (fun _ _ _ h => h) (.inl ⟨by rfl, fun w' _ => (by go_simp; rfl)⟩) hS ?_
        go_frame
        refine till_take 7 (some 39) rfl rfl (by kernel_rfl) (by kernel_rfl) (by kernel_rfl) (by kernel_rfl) (by kernel_rfl) (by kernel_rfl) (fun _ _ _ h => h) (.inl ⟨by rfl, fun w' _ => (by go_simp; rfl)⟩) hS ?_
        go_frame
        refine till_one 8 rfl (by kernel_rfl) fun K hK => ?_
        simp only [List.getElem_toArray, List.getElem_cons_succ, List.getElem_cons_zero]
        rw [if_pos (by rfl)]
        go_simp
        refine (lay_any HD.out HTL.out k v true).mono ?_
        rintro e w2 ⟨rfl, vb2, zs2, h2, k02, hf2⟩
        have hS2 : w2.cell? ⟨g, 3, none⟩ = some (.slice ad n cap) := Lib.cell_of_heap h2.bk.head 3
        refine hK _ _ (fun _ _ => hS2) ?_
        have hagg : (wasE (wasV s.t k)).toArray = #[.string (bs k), .string (bs old), .bool true] := by unfold wasV; rw [← HOLD.out, ← HOK.out]; rfl
        rw [hagg]
        have H2 := Lib.hid h2; have K02 := Lib.hid k02; have HF2 := Lib.hid hf2
        clear hK hS h2 k02 hf2 hagg
        have hS := hS2
        clear hS2
        refine till_one 9 rfl (by kernel_rfl) fun K hK => ?_
        simp only [List.getElem_toArray, List.getElem_cons_succ, List.getElem_cons_zero]
        rw [if_pos (by rfl)]
        go_simp
        obtain ⟨w3, hw3⟩ : ∃ w3, w3 = w2.alloc (.cells #[.string (bs k), .string (bs old), .bool true] 142) := ⟨_, rfl⟩
        obtain ⟨Y, hY⟩ : ∃ Y, Y = w2.heap.size := ⟨_, rfl⟩
        rw [← hw3, ← hY]
        have hb23 : Below w2.heap.size w2 w3 := by rw [hw3]; exact (Below.refl _ _).alloc (Nat.le_refl _) _
        have hy3 : w3.heap[Y]? = some (.cells #[.string (bs k), .string (bs old), .bool true] 142 (0, 0)) := by rw [hw3, hY]; exact heap_alloc_new _ _
        have hS3 : w3.cell? ⟨g, 3, none⟩ = some (.slice ad n cap) := (hb23.cell (p := ⟨g, 3, none⟩) (heap_lt H2.out.bk.head)).trans hS
        refine hK _ _ (fun _ _ => hS3) ?_
        have HB23 := Lib.hid hb23; have HY3 := Lib.hid hy3
        clear hK hS hw3 hY hb23 hy3
        have hS := hS3
        clear hS3
        refine till_one 10 rfl (by kernel_rfl) fun K hK => ?_
        simp only [List.getElem_toArray, List.getElem_cons_succ, List.getElem_cons_zero]
        rw [if_pos (by rfl)]
        refine wp_lo_apps (l2 := [(k, old, true)]) _ _ 61 61 rfl Try.underlying61 Try.underlying61 Try.infoWas rfl (by decide) wasE_len (wasE_ones _) (H2.out.past.later HB23.out) rfl _ rfl
          ⟨some ⟨Y, 0, none⟩, 1, rfl, Nat.le_refl _, by unfold maxLen; omega, fun _ => ⟨Y, 0, rfl, heap_lt HY3.out, fun j hj q hq => by
            have h0 : j = 0 := by simpa using hj
            subst h0
            rw [Lib.cell_of_heap HY3.out]
            simp [wasE]⟩⟩ (by unfold maxLen; rw [← HN.out]; simp; omega) (by rw [← HN.out]; simp; omega) ?_
        intro vp' w4 hlo4 k34 hm4
        have hS4 : w4.cell? ⟨g, 3, none⟩ = some (.slice ad n cap) := by
          have hg3 := (HB23.out.block g (heap_lt H2.out.bk.head)).trans H2.out.bk.head
          exact Lib.cell_of_heap (k34.at hg3 ((H2.out.past.later HB23.out).apart hg3 (by decide))) 3
        refine hK _ _ (fun _ _ => hS4) ?_
        obtain ⟨ad', cap', hvp', _, _⟩ := hlo4.shape
        obtain ⟨n', hn'⟩ : ∃ n', n' = (s.past ++ [(k, old, true)]).length := ⟨_, rfl⟩
        rw [← hn'] at hvp'
        subst hvp'
        have hg4 : w4.heap[g]? = some (.cells #[.bool true, .map (some bm), vb2, .slice ad n cap] 63 (0, 0)) := by
          have hg3 := (HB23.out.block g (heap_lt H2.out.bk.head)).trans H2.out.bk.head
          exact k34.at hg3 ((H2.out.past.later HB23.out).apart hg3 (by decide))
        have hm' : Value.ownBlock (.slice ad' n' cap') = Value.ownBlock (.slice ad n cap) ∨ ∀ k, Value.ownBlock (.slice ad' n' cap') = some k → w2.heap.size ≤ k := by
          rcases hm4 with h | ⟨q, h, h'⟩
          · exact .inl h
          · right
            intro k e
            rw [e] at h; cases h
            exact Nat.le_trans HB23.out.size h'
        have HLO4 := Lib.hid hlo4; have K24 := Lib.hid ((Keep.of_below HB23.out).then k34 (fun x hx => .inl hx)); have HM' := Lib.hid hm'; have HG4 := Lib.hid hg4
        clear hK hS hlo4 k34 hm4 hn' hm' hg4
        have hS := hS4
        clear hS4
        refine till_take 11 (some 43) rfl rfl (by kernel_rfl) (by kernel_rfl) (by kernel_rfl) (by kernel_rfl) (by kernel_rfl) (by kernel_rfl) (fun _ _ _ h => h) (.inl ⟨by rfl, fun w' _ => (by go_simp; rfl)⟩) hS ?_
        go_frame
        refine till_take 12 (some 44) rfl rfl (by kernel_rfl) (by kernel_rfl) (by kernel_rfl) (by kernel_rfl) (by kernel_rfl) (by kernel_rfl) (fun _ _ _ h => h) (.inl ⟨by rfl, fun w' _ => (by go_simp; rfl)⟩) hS ?_
        go_frame
        refine till_one 13 rfl (by kernel_rfl) fun K hK => ?_
        simp only [List.getElem_toArray, List.getElem_cons_succ, List.getElem_cons_zero]
        rw [if_pos (by rfl)]
        refine wp_store1_g 61 _ _ rfl g 3 _ rfl rfl rfl rfl 63 _ HG4.out (by kernel_rfl) (by simp) _ rfl ?_
        intro w5 h5 k45 _
        refine hK _ _ (fun h => absurd rfl h) ?_
        refine till_done (by kernel_rfl) ?_ _
        have hk0 : Keep (fun x => x = g ∨ x = bm ∨ x ∈ footB vb zs) w w2 := (Keep.of_below (Below.refl _ _).drew).then K02.out (fun x hx => .inl hx)
        have hcl := past_close H.out H2.out hk0 HF2.out HLO4.out K24.out HM'.out h5 k45
        have HCL := Lib.hid hcl
        clear hK hS h5 k45 hcl hk0
        go_wp2_with fail
        go_ret
        exact ⟨rfl, _, ⟨bm, vb2, _, zs2, HCL.out.1, rfl⟩, HCL.out.2.1, HCL.out.2.2⟩
      | false =>
        go_wp2_with (refine wp_map_look_ok rfl 59 _ _ rfl Try.underlying59 Try.underlying9 zeroStr H.out.map k rfl rfl ?_; rw [← HOK.out, ← HOLD.out])
        have hS : w.drew.cell? ⟨g, 3, none⟩ = some (.slice ad n cap) := C3.out
        have hst : StAt w.drew g s bm vb (.slice ad n cap) zs := H.out.keep (Keep.of_below (S := fun _ => False) (Below.refl _ _).drew) fun _ _ => id
        have HD := Lib.hid hst
        clear hst
        refine wp_region_till (fun w' => w'.cell? ⟨g, 3, none⟩ = some (.slice ad n cap)) 13 14 (by kernel_rfl) rfl ?_
        refine till_take 0 (some 32) rfl rfl (by kernel_rfl) (by kernel_rfl) (by kernel_rfl) (by kernel_rfl) (by kernel_rfl) (by kernel_rfl) (fun _ _ _ h => h) (.inl ⟨by rfl, fun w' _ => (by go_simp; rfl)⟩) hS ?_
        go_frame
        refine till_take 1 (some 33) rfl rfl (by kernel_rfl) (by kernel_rfl) (by kernel_rfl) (by kernel_rfl) (by kernel_rfl) (by kernel_rfl) (fun _ _ _ h => h) (.inl ⟨by rfl, fun w' _ => (by go_simp; rfl)⟩) hS ?_
        go_frame
        refine till_take 2 (some 34) rfl rfl (by kernel_rfl) (by kernel_rfl) (by kernel_rfl) (by kernel_rfl) (by kernel_rfl) (by kernel_rfl) (fun _ _ _ h => h) (.inl ⟨by rfl, fun w' _ => (by go_simp; rfl)⟩) hS ?_
        go_frame
        refine till_take 3 (some 35) rfl rfl (by kernel_rfl) (by kernel_rfl) (by kernel_rfl) (by kernel_rfl) (by kernel_rfl) (by kernel_rfl) (fun _ _ _ h => h) (.inl ⟨by rfl, fun w' _ => (by go_simp; rfl)⟩) hS ?_
        go_frame
        refine till_take 4 (some 36) rfl rfl (by kernel_rfl) (by kernel_rfl) (by kernel_rfl) (by kernel_rfl) (by kernel_rfl) (by kernel_rfl) (fun _ _ _ h => h) (.inl ⟨by rfl, fun w' hS' => (by have hc : w'.cell? ⟨g, 3, none⟩ = _ := hS'; go_simp; rfl)⟩) hS ?_
        go_frame
        refine till_take 5 (some 37) rfl rfl (by kernel_rfl) (by kernel_rfl) (by kernel_rfl) (by kernel_rfl) (by kernel_rfl) (by kernel_rfl) (fun _ _ _ h => h) (.inl ⟨by rfl, fun w' _ => (by go_simp; rfl)⟩) hS ?_
        go_frame
        refine till_take 6 (some 38) rfl rfl (by kernel_rfl) (by kernel_rfl) (by kernel_rfl) (by kernel_rfl) (by kernel_rfl) (by kernel_rfl) (fun _ _ _ h => h) (.inl ⟨by rfl, fun w' _ => (by go_simp; rfl)⟩) hS ?_
        go_frame
        refine till_take 7 (some 39) rfl rfl (by kernel_rfl) (by kernel_rfl) (by kernel_rfl) (by kernel_rfl) (by kernel_rfl) (by kernel_rfl) (fun _ _ _ h => h) (.inl ⟨by rfl, fun w' _ => (by go_simp; rfl)⟩) hS ?_
        go_frame
        refine till_one 8 rfl (by kernel_rfl) fun K hK => ?_
        simp only [List.getElem_toArray, List.getElem_cons_succ, List.getElem_cons_zero]
        rw [if_pos (by rfl)]
        go_simp
        refine (lay_any HD.out HTL.out k v true).mono ?_
        rintro e w2 ⟨rfl, vb2, zs2, h2, k02, hf2⟩
        have hS2 : w2.cell? ⟨g, 3, none⟩ = some (.slice ad n cap) := Lib.cell_of_heap h2.bk.head 3
        refine hK _ _ (fun _ _ => hS2) ?_
        have hagg : (wasE (wasV s.t k)).toArray = #[.string (bs k), .string (bs old), .bool false] := by unfold wasV; rw [← HOLD.out, ← HOK.out]; rfl
        rw [hagg]
        have H2 := Lib.hid h2; have K02 := Lib.hid k02; have HF2 := Lib.hid hf2
        clear hK hS h2 k02 hf2 hagg
        have hS := hS2
        clear hS2
        refine till_one 9 rfl (by kernel_rfl) fun K hK => ?_
        simp only [List.getElem_toArray, List.getElem_cons_succ, List.getElem_cons_zero]
        rw [if_pos (by rfl)]
        go_simp
        obtain ⟨w3, hw3⟩ : ∃ w3, w3 = w2.alloc (.cells #[.string (bs k), .string (bs old), .bool false] 142) := ⟨_, rfl⟩
        obtain ⟨Y, hY⟩ : ∃ Y, Y = w2.heap.size := ⟨_, rfl⟩
        rw [← hw3, ← hY]
        have hb23 : Below w2.heap.size w2 w3 := by rw [hw3]; exact (Below.refl _ _).alloc (Nat.le_refl _) _
        have hy3 : w3.heap[Y]? = some (.cells #[.string (bs k), .string (bs old), .bool false] 142 (0, 0)) := by rw [hw3, hY]; exact heap_alloc_new _ _
        have hS3 : w3.cell? ⟨g, 3, none⟩ = some (.slice ad n cap) := (hb23.cell (p := ⟨g, 3, none⟩) (heap_lt H2.out.bk.head)).trans hS
        refine hK _ _ (fun _ _ => hS3) ?_
        have HB23 := Lib.hid hb23; have HY3 := Lib.hid hy3
        clear hK hS hw3 hY hb23 hy3
        have hS := hS3
        clear hS3
        refine till_one 10 rfl (by kernel_rfl) fun K hK => ?_
        simp only [List.getElem_toArray, List.getElem_cons_succ, List.getElem_cons_zero]
        rw [if_pos (by rfl)]
        refine wp_lo_apps (l2 := [(k, old, false)]) _ _ 61 61 rfl Try.underlying61 Try.underlying61 Try.infoWas rfl (by decide) wasE_len (wasE_ones _) (H2.out.past.later HB23.out) rfl _ rfl
          ⟨some ⟨Y, 0, none⟩, 1, rfl, Nat.le_refl _, by unfold maxLen; omega, fun _ => ⟨Y, 0, rfl, heap_lt HY3.out, fun j hj q hq => by
            have h0 : j = 0 := by simpa using hj
            subst h0
            rw [Lib.cell_of_heap HY3.out]
            simp [wasE]⟩⟩ (by unfold maxLen; rw [← HN.out]; simp; omega) (by rw [← HN.out]; simp; omega) ?_
        intro vp' w4 hlo4 k34 hm4
        have hS4 : w4.cell? ⟨g, 3, none⟩ = some (.slice ad n cap) := by
          have hg3 := (HB23.out.block g (heap_lt H2.out.bk.head)).trans H2.out.bk.head
          exact Lib.cell_of_heap (k34.at hg3 ((H2.out.past.later HB23.out).apart hg3 (by decide))) 3
        refine hK _ _ (fun _ _ => hS4) ?_
        obtain ⟨ad', cap', hvp', _, _⟩ := hlo4.shape
        obtain ⟨n', hn'⟩ : ∃ n', n' = (s.past ++ [(k, old, false)]).length := ⟨_, rfl⟩
        rw [← hn'] at hvp'
        subst hvp'
        have hg4 : w4.heap[g]? = some (.cells #[.bool true, .map (some bm), vb2, .slice ad n cap] 63 (0, 0)) := by
          have hg3 := (HB23.out.block g (heap_lt H2.out.bk.head)).trans H2.out.bk.head
          exact k34.at hg3 ((H2.out.past.later HB23.out).apart hg3 (by decide))
        have hm' : Value.ownBlock (.slice ad' n' cap') = Value.ownBlock (.slice ad n cap) ∨ ∀ k, Value.ownBlock (.slice ad' n' cap') = some k → w2.heap.size ≤ k := by
          rcases hm4 with h | ⟨q, h, h'⟩
          · exact .inl h
          · right
            intro k e
            rw [e] at h; cases h
            exact Nat.le_trans HB23.out.size h'
        have HLO4 := Lib.hid hlo4; have K24 := Lib.hid ((Keep.of_below HB23.out).then k34 (fun x hx => .inl hx)); have HM' := Lib.hid hm'; have HG4 := Lib.hid hg4
        clear hK hS hlo4 k34 hm4 hn' hm' hg4
        have hS := hS4
        clear hS4
        refine till_take 11 (some 43) rfl rfl (by kernel_rfl) (by kernel_rfl) (by kernel_rfl) (by kernel_rfl) (by kernel_rfl) (by kernel_rfl) (fun _ _ _ h => h) (.inl ⟨by rfl, fun w' _ => (by go_simp; rfl)⟩) hS ?_
        go_frame
        refine till_take 12 (some 44) rfl rfl (by kernel_rfl) (by kernel_rfl) (by kernel_rfl) (by kernel_rfl) (by kernel_rfl) (by kernel_rfl) (fun _ _ _ h => h) (.inl ⟨by rfl, fun w' _ => (by go_simp; rfl)⟩) hS ?_
        go_frame
        refine till_one 13 rfl (by kernel_rfl) fun K hK => ?_
        simp only [List.getElem_toArray, List.getElem_cons_succ, List.getElem_cons_zero]
        rw [if_pos (by rfl)]
        refine wp_store1_g 61 _ _ rfl g 3 _ rfl rfl rfl rfl 63 _ HG4.out (by kernel_rfl) (by simp) _ rfl ?_
        intro w5 h5 k45 _
        refine hK _ _ (fun h => absurd rfl h) ?_
        refine till_done (by kernel_rfl) ?_ _
        have hk0 : Keep (fun x => x = g ∨ x = bm ∨ x ∈ footB vb zs) w w2 := (Keep.of_below (Below.refl _ _).drew).then K02.out (fun x hx => .inl hx)
        have hcl := past_close H.out H2.out hk0 HF2.out HLO4.out K24.out HM'.out h5 k45
        have HCL := Lib.hid hcl
        clear hK hS h5 k45 hcl hk0
        go_wp2_with fail
        go_ret
        exact ⟨rfl, _, ⟨bm, vb2, _, zs2, HCL.out.1, rfl⟩, HCL.out.2.1, HCL.out.2.2⟩

set_option maxHeartbeats 8000000 in
set_option maxRecDepth 100000 in
/-- Delete. -/
theorem sdel_any {w : World} {g : Nat} {s : PS} {F : List Nat} (h : St w g s F) (htl : s.t.length < 1099511627776) (hpl : s.past.length < 1099511627776) (k : Txt) :
    Calls Try.prog 44 #[.pointer (some ⟨g, 0, none⟩), .string (bs k)] w (StRet w g F (s.del k) (.bool (getP s.t k).isSome)) := by
  have HST := Lib.hid h
  obtain ⟨bm, vb, vp, zs, h, rfl⟩ := h
  obtain ⟨ad, cap, hvp, h1, h2⟩ := h.past.shape
  obtain ⟨n, hn⟩ : ∃ n, n = s.past.length := ⟨_, rfl⟩
  rw [← hn] at hvp h1 hpl
  subst hvp
  have c3 : w.cell? ⟨g, 3, none⟩ = some (.slice ad n cap) := Lib.cell_of_heap h.bk.head 3
  obtain ⟨ok, hok⟩ : ∃ ok, ok = (getP s.t k).isSome := ⟨_, rfl⟩
  obtain ⟨old, hold⟩ : ∃ old, old = (getP s.t k).getD [] := ⟨_, rfl⟩
  have H := Lib.hid h; have C3 := Lib.hid c3; have HN := Lib.hid hn; have HTL := Lib.hid htl; have HOK := Lib.hid hok; have HOLD := Lib.hid hold
  have c1 : w.cell? ⟨g, 1, none⟩ = some (.map (some bm)) := Lib.cell_of_heap H.out.bk.head 1
  rw [← hok]
  clear h hn htl hok hold c3
  cases ok with
  | false =>
    have hres : s.del k = s := by unfold PS.del; rw [if_pos (by have := HOK.out; cases hg : getP s.t k with | none => rfl | some _ => rw [hg] at this; cases this)]
    rw [hres]
    clear hres
    go_enter Try.func44, Try.ntmps44
    go_wp2_with fail
    refine (sget_any HST.out k).mono ?_
    rintro e w1 ⟨rfl, rfl⟩
    rw [← HOK.out, ← HOLD.out]
    go_wp2_with fail
    go_ret
    exact ⟨rfl, _, HST.out, Keep.refl _ _, fun x hx => .inl hx⟩
  | true =>
    have hres : s.del k = s.put k [] false := by unfold PS.del; rw [if_neg (by intro e; have := HOK.out; rw [e] at this; cases this)]
    have hput : s.put k [] false = ⟨layP s.t k [] false, s.past ++ [(k, old, true)]⟩ := by unfold PS.put; rw [← HOLD.out, ← HOK.out]
    rw [hres, hput]
    have hn2 : n < 1099511627776 := hpl
    clear hres hput
    go_enter Try.func44, Try.ntmps44
    go_wp2_with fail
    refine (sget_any HST.out k).mono ?_
    rintro e w1 ⟨rfl, rfl⟩
    rw [← HOK.out, ← HOLD.out]
    go_wp2_with fail
    have hS : w.drew.cell? ⟨g, 3, none⟩ = some (.slice ad n cap) := C3.out
    have hst : StAt w.drew g s bm vb (.slice ad n cap) zs := H.out.keep (Keep.of_below (S := fun _ => False) (Below.refl _ _).drew) fun _ _ => id
    have HD := Lib.hid hst
    clear hst
    refine wp_region_till (fun w' => w'.cell? ⟨g, 3, none⟩ = some (.slice ad n cap)) 12 13 (by kernel_rfl) rfl ?_
    refine till_take 0 (some 15) rfl rfl (by kernel_rfl) (by kernel_rfl) (by kernel_rfl) (by kernel_rfl) (by kernel_rfl) (by kernel_rfl) (fun _ _ _ h => h) (.inl ⟨by rfl, fun w' _ => (by go_simp; rfl)⟩) hS ?_
    go_frame
    refine till_take 1 (some 16) rfl rfl (by kernel_rfl) (by kernel_rfl) (by kernel_rfl) (by kernel_rfl) (by kernel_rfl) (by kernel_rfl) (fun _ _ _ h => h) (.inl ⟨by rfl, fun w' _ => (by go_simp; rfl)⟩) hS ?_
    go_frame
    refine till_take 2 (some 17) rfl rfl (by kernel_rfl) (by kernel_rfl) (by kernel_rfl) (by kernel_rfl) (by kernel_rfl) (by kernel_rfl) (fun _ _ _ h => h) (.inl ⟨by rfl, fun w' _ => (by go_simp; rfl)⟩) hS ?_
    go_frame
    refine till_take 3 (some 18) rfl rfl (by kernel_rfl) (by kernel_rfl) (by kernel_rfl) (by kernel_rfl) (by kernel_rfl) (by kernel_rfl) (fun _ _ _ h => h) (.inl ⟨by rfl, fun w' _ => (by go_simp; rfl)⟩) hS ?_
    go_frame
    refine till_take 4 (some 19) rfl rfl (by kernel_rfl) (by kernel_rfl) (by kernel_rfl) (by kernel_rfl) (by kernel_rfl) (by kernel_rfl) (fun _ _ _ h => h) (.inl ⟨by rfl, fun w' hS' => (by have hc : w'.cell? ⟨g, 3, none⟩ = _ := hS'; go_simp; rfl)⟩) hS ?_
    go_frame
    refine till_take 5 (some 20) rfl rfl (by kernel_rfl) (by kernel_rfl) (by kernel_rfl) (by kernel_rfl) (by kernel_rfl) (by kernel_rfl) (fun _ _ _ h => h) (.inl ⟨by rfl, fun w' _ => (by go_simp; rfl)⟩) hS ?_
    go_frame
    refine till_take 6 (some 21) rfl rfl (by kernel_rfl) (by kernel_rfl) (by kernel_rfl) (by kernel_rfl) (by kernel_rfl) (by kernel_rfl) (fun _ _ _ h => h) (.inl ⟨by rfl, fun w' _ => (by go_simp; rfl)⟩) hS ?_
    go_frame
    refine till_one 7 rfl (by kernel_rfl) fun K hK => ?_
    simp only [List.getElem_toArray, List.getElem_cons_succ, List.getElem_cons_zero]
    rw [if_pos (by rfl)]
    go_simp
    refine (lay_any HD.out HTL.out k [] false).mono ?_
    rintro e w2 ⟨rfl, vb2, zs2, h2, k02, hf2⟩
    have hS2 : w2.cell? ⟨g, 3, none⟩ = some (.slice ad n cap) := Lib.cell_of_heap h2.bk.head 3
    refine hK _ _ (fun _ _ => hS2) ?_
    have hagg : (wasE (wasV s.t k)).toArray = #[.string (bs k), .string (bs old), .bool true] := by unfold wasV; rw [← HOLD.out, ← HOK.out]; rfl
    rw [hagg]
    have H2 := Lib.hid h2; have K02 := Lib.hid k02; have HF2 := Lib.hid hf2
    clear hK hS h2 k02 hf2 hagg
    have hS := hS2
    clear hS2
    refine till_one 8 rfl (by kernel_rfl) fun K hK => ?_
    simp only [List.getElem_toArray, List.getElem_cons_succ, List.getElem_cons_zero]
    rw [if_pos (by rfl)]
    go_simp
    obtain ⟨w3, hw3⟩ : ∃ w3, w3 = w2.alloc (.cells #[.string (bs k), .string (bs old), .bool true] 142) := ⟨_, rfl⟩
    obtain ⟨Y, hY⟩ : ∃ Y, Y = w2.heap.size := ⟨_, rfl⟩
    rw [← hw3, ← hY]
    have hb23 : Below w2.heap.size w2 w3 := by rw [hw3]; exact (Below.refl _ _).alloc (Nat.le_refl _) _
    have hy3 : w3.heap[Y]? = some (.cells #[.string (bs k), .string (bs old), .bool true] 142 (0, 0)) := by rw [hw3, hY]; exact heap_alloc_new _ _
    have hS3 : w3.cell? ⟨g, 3, none⟩ = some (.slice ad n cap) := (hb23.cell (p := ⟨g, 3, none⟩) (heap_lt H2.out.bk.head)).trans hS
    refine hK _ _ (fun _ _ => hS3) ?_
    have HB23 := Lib.hid hb23; have HY3 := Lib.hid hy3
    clear hK hS hw3 hY hb23 hy3
    have hS := hS3
    clear hS3
    refine till_one 9 rfl (by kernel_rfl) fun K hK => ?_
    simp only [List.getElem_toArray, List.getElem_cons_succ, List.getElem_cons_zero]
    rw [if_pos (by rfl)]
    refine wp_lo_apps (l2 := [(k, old, true)]) _ _ 61 61 rfl Try.underlying61 Try.underlying61 Try.infoWas rfl (by decide) wasE_len (wasE_ones _) (H2.out.past.later HB23.out) rfl _ rfl
      ⟨some ⟨Y, 0, none⟩, 1, rfl, Nat.le_refl _, by unfold maxLen; omega, fun _ => ⟨Y, 0, rfl, heap_lt HY3.out, fun j hj q hq => by
        have h0 : j = 0 := by simpa using hj
        subst h0
        rw [Lib.cell_of_heap HY3.out]
        simp [wasE]⟩⟩ (by unfold maxLen; rw [← HN.out]; simp; omega) (by rw [← HN.out]; simp; omega) ?_
    intro vp' w4 hlo4 k34 hm4
    have hS4 : w4.cell? ⟨g, 3, none⟩ = some (.slice ad n cap) := by
      have hg3 := (HB23.out.block g (heap_lt H2.out.bk.head)).trans H2.out.bk.head
      exact Lib.cell_of_heap (k34.at hg3 ((H2.out.past.later HB23.out).apart hg3 (by decide))) 3
    refine hK _ _ (fun _ _ => hS4) ?_
    obtain ⟨ad', cap', hvp', _, _⟩ := hlo4.shape
    obtain ⟨n', hn'⟩ : ∃ n', n' = (s.past ++ [(k, old, true)]).length := ⟨_, rfl⟩
    rw [← hn'] at hvp'
    subst hvp'
    have hg4 : w4.heap[g]? = some (.cells #[.bool true, .map (some bm), vb2, .slice ad n cap] 63 (0, 0)) := by
      have hg3 := (HB23.out.block g (heap_lt H2.out.bk.head)).trans H2.out.bk.head
      exact k34.at hg3 ((H2.out.past.later HB23.out).apart hg3 (by decide))
    have hm' : Value.ownBlock (.slice ad' n' cap') = Value.ownBlock (.slice ad n cap) ∨ ∀ k, Value.ownBlock (.slice ad' n' cap') = some k → w2.heap.size ≤ k := by
      rcases hm4 with h | ⟨q, h, h'⟩
      · exact .inl h
      · right
        intro k e
        rw [e] at h; cases h
        exact Nat.le_trans HB23.out.size h'
    have HLO4 := Lib.hid hlo4; have K24 := Lib.hid ((Keep.of_below HB23.out).then k34 (fun x hx => .inl hx)); have HM' := Lib.hid hm'; have HG4 := Lib.hid hg4
    clear hK hS hlo4 k34 hm4 hn' hm' hg4
    have hS := hS4
    clear hS4
    refine till_take 10 (some 25) rfl rfl (by kernel_rfl) (by kernel_rfl) (by kernel_rfl) (by kernel_rfl) (by kernel_rfl) (by kernel_rfl) (fun _ _ _ h => h) (.inl ⟨by rfl, fun w' _ => (by go_simp; rfl)⟩) hS ?_
    go_frame
    refine till_take 11 (some 26) rfl rfl (by kernel_rfl) (by kernel_rfl) (by kernel_rfl) (by kernel_rfl) (by kernel_rfl) (by kernel_rfl) (fun _ _ _ h => h) (.inl ⟨by rfl, fun w' _ => (by go_simp; rfl)⟩) hS ?_
    go_frame
    refine till_one 12 rfl (by kernel_rfl) fun K hK => ?_
    simp only [List.getElem_toArray, List.getElem_cons_succ, List.getElem_cons_zero]
    rw [if_pos (by rfl)]
    refine wp_store1_g 61 _ _ rfl g 3 _ rfl rfl rfl rfl 63 _ HG4.out (by kernel_rfl) (by simp) _ rfl ?_
    intro w5 h5 k45 _
    refine hK _ _ (fun h => absurd rfl h) ?_
    refine till_done (by kernel_rfl) ?_ _
    have hk0 : Keep (fun x => x = g ∨ x = bm ∨ x ∈ footB vb zs) w w2 := (Keep.of_below (Below.refl _ _).drew).then K02.out (fun x hx => .inl hx)
    have hcl := past_close H.out H2.out hk0 HF2.out HLO4.out K24.out HM'.out h5 k45
    have HCL := Lib.hid hcl
    clear hK hS h5 k45 hcl hk0
    go_wp2_with fail
    go_ret
    exact ⟨rfl, _, ⟨bm, vb2, _, zs2, HCL.out.1, rfl⟩, HCL.out.2.1, HCL.out.2.2⟩

/-- How many changes a store in memory has. -/
def pastLen (w : World) (g : Nat) : Nat := match w.cell? ⟨g, 3, none⟩ with
  | some (.slice _ n _) => n
  | _ => 0
theorem pastLen_of {w : World} {g : Nat} {s : PS} {F : List Nat} (h : St w g s F) : pastLen w g = s.past.length := by
  obtain ⟨bm, vb, vp, zs, h, rfl⟩ := h
  obtain ⟨ad, cap, hvp, h1, h2⟩ := h.past.shape
  unfold pastLen
  rw [show w.cell? ⟨g, 3, none⟩ = some vp from Lib.cell_of_heap h.bk.head 3, hvp]
theorem backs_succ : ∀ (n : Nat) (s : PS), PS.backs (n + 1) s = (PS.backs n s).back
  | 0, _ => rfl
  | n + 1, s => by rw [PS.backs, backs_succ n s.back]; rfl
theorem back_past (s : PS) : s.back.past = s.past.dropLast := by
  unfold PS.back
  split
  · rename_i h
    rw [List.getLast?_eq_none_iff.1 h]; rfl
  · rfl
theorem back_length (s : PS) : s.back.t.length ≤ s.t.length + 1 := by
  unfold PS.back
  split
  · exact Nat.le_succ _
  · exact length_lay_le _ _ _ _
theorem backs_past : ∀ (n : Nat) (s : PS), (PS.backs n s).past.length = s.past.length - n
  | 0, _ => rfl
  | n + 1, s => by rw [PS.backs, backs_past n s.back, back_past, List.length_dropLast]; omega
theorem backs_length : ∀ (n : Nat) (s : PS), (PS.backs n s).t.length ≤ s.t.length + n
  | 0, _ => Nat.le_refl _
  | n + 1, s => by rw [PS.backs]; have := backs_length n s.back; have := back_length s; omega
end Go.Proofs.Ythnjakomkdlglaa
