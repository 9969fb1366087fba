/- DelayActs: the walk. No condition. -/
import Derived.Test.YtohedljdkfmkdaaDelF
namespace Go.Proofs.Ytohedljdkfmkdaa
open Go.RowKit

/-- Numbers i, j and k alone may come up now. -/
theorem till_three {P : Program} {md : Region.Mode} {ops : Array Oper} {Q : Exit → Act → World → Prop} {S : World → Prop} {z : Nat} (i j k : Nat) {oi oj ok : Oper} {fuel : Nat} {listed : Array Bool} {a : Act} {w : World} (hi : ops[i]? = some oi) (hj : ops[j]? = some oj) (hk : ops[k]? = some ok) (hr : Region.ready md ops listed = [i, j, k])
    (h1 : ∀ K : Act → World → Prop, (∀ a w, (i ≠ z → listed.getD z false = false → S w) → AnyTill P md ops Q S z fuel (listed.setIfInBounds i true) a w → K a w) → if Region.wanted oi (yielded ops a.tmps) = true then Oper.wp P oi a w K Q else K (a.put oi.dst undef) w)
    (h2 : ∀ K : Act → World → Prop, (∀ a w, (j ≠ z → listed.getD z false = false → S w) → AnyTill P md ops Q S z fuel (listed.setIfInBounds j true) a w → K a w) → if Region.wanted oj (yielded ops a.tmps) = true then Oper.wp P oj a w K Q else K (a.put oj.dst undef) w)
    (h3 : ∀ K : Act → World → Prop, (∀ a w, (k ≠ z → listed.getD z false = false → S w) → AnyTill P md ops Q S z fuel (listed.setIfInBounds k true) a w → K a w) → if Region.wanted ok (yielded ops a.tmps) = true then Oper.wp P ok a w K Q else K (a.put ok.dst undef) w) :
    AnyTill P md ops Q S z (fuel + 1) listed a w :=
  ⟨fun h0 => (by rw [hr] at h0; cases h0), by
    rw [hr]
    intro m hm
    rcases (by simpa using hm : m = i ∨ m = j ∨ m = k) with rfl | rfl | rfl
    · exact wpOp_step hi (fun K hK => h1 K (fun a w hS hA => hK a w ⟨hS, hA⟩))
    · exact wpOp_step hj (fun K hK => h2 K (fun a w hS hA => hK a w ⟨hS, hA⟩))
    · exact wpOp_step hk (fun K hK => h3 K (fun a w hS hA => hK a w ⟨hS, hA⟩))⟩
theorem wp_alloc_g {P : Program} {o : Oper} {a : Act} {w : World} {K : Act → World → Prop} {Q : Exit → Act → World → Prop} (ty : TypeId) (ho : o.op = .alloc ty)
    (z : Value) (cs : Array Value) (hz : ∀ w, (zeroValue ty).run P w = .ok z w) (hc : z.cells = cs)
    (h : ∀ g w', Hid (Made w g cs ty w') → K (a.put o.dst (.pointer (some ⟨g, 0, none⟩))) w') : o.wp P a w K Q := by
  unfold Oper.wp execOp
  simp only [ho, Instr.alloc, Sem.run_bind, Sem.run_pure, Result.andThen_ok, hz w]
  have : (newVar ty z).run P w = .ok ⟨w.heap.size, 0, none⟩ (w.alloc (.cells cs ty)) := by
    rw [← hc]; rfl
  simp only [this, Result.andThen_ok]
  exact h _ _ (made_alloc w cs ty)
/-- A whole row is read. -/
theorem load_heap {P : Program} {w : World} {g : Nat} {t ty : TypeId} {cs : Array Value} {fr : Nat × Nat} {d : TypeDesc} (hg : w.heap[g]? = some (.cells cs t fr))
    (hu : P.underlying ty = some d) (hd : (match d with | .struct _ | .array _ _ => true | _ => false) = true) (hi : (P.info? ty).map (·.size) = some cs.size) :
    (Instr.loadAt ty (.pointer (some ⟨g, 0, none⟩))).run P w = .ok (.agg cs) w := by
  have h := run_loadVar_row (P := P) w g t ty cs fr d hg hu hd hi
  exact h
/-- All ways end alike. -/
theorem ends3 {F P : World → Nat → Nat → Prop} {G : Prop} (h1 : (∀ w A B, F w A B → P w A B) → G) (h2 : ∀ w A B, F w A B → P w A B) : G := h1 h2

set_option maxHeartbeats 8000000 in
set_option maxRecDepth 100000 in
theorem acts28_any {w : World} {v1 : Value} {l : List Act28} (t b : Int) (h1 : Rd w act28E 4 v1 l) (hgd : ∀ a ∈ l, Good28 w a) :
    Calls Try.prog 6 #[.int .i64 t, v1, .int .i64 b] w (Ret w (.bool true)) := by
  obtain ⟨ad, cap, e1, c1, c1'⟩ := h1.shape
  obtain ⟨n, hn⟩ : ∃ n, n = l.length := ⟨_, rfl⟩
  rw [← hn] at e1 c1
  subst e1
  have H1 := Lib.hid h1; have HN := Lib.hid hn; have HGD := Lib.hid hgd
  clear h1 hn hgd
  go_enter Try.func6, Try.ntmps6
  go_wp2_with fail
  refine (light28_any H1.out).mono ?_
  rintro e w1 ⟨r, rfl, hr, hb⟩
  cases r with
  | false =>
    have HB := Lib.hid hb
    clear hr hb
    go_wp2_with fail
    refine (lives28_any _).mono ?_
    rintro e w2 ⟨rfl, hb2⟩
    have HB2 := Lib.hid (HB.out.trans (hb2.mono HB.out.size))
    clear hb2
    go_wp2_with fail
    go_ret
    exact ⟨rfl, HB2.out⟩
  | true =>
  have HL := Lib.hid (hr rfl); have HB := Lib.hid hb
  clear hr hb
  go_wp2_with fail
  refine (snew_any _).mono ?_
  rintro e w3 ⟨g, F, rfl, q1, hb3, q3⟩
  have Q1 := Lib.hid q1; have HB3 := Lib.hid (HB.out.trans (hb3.mono HB.out.size)); have Q3 : Hid (∀ x ∈ F, w.heap.size ≤ x) := Lib.hid fun x hx => Nat.le_trans HB.out.size (q3 x hx)
  clear q1 hb3 q3
  go_wp2_with fail
  obtain ⟨w4, hw4⟩ : ∃ w4, w4 = w3.alloc (.cells #[.slice none 0 0, .slice none 0 0] 31) := ⟨_, rfl⟩
  obtain ⟨h, hh⟩ : ∃ h, h = w3.heap.size := ⟨_, rfl⟩
  rw [← hw4, ← hh]
  have TW : Hid (Two w w4 g h PS.new PS.new) := Lib.hid (by
    have hb4 : Below w3.heap.size w3 w4 := by rw [hw4]; exact (Below.refl _ _).alloc (Nat.le_refl _) _
    have hx4 : w4.heap[h]? = some (.cells #[.slice none 0 0, .slice none 0 0] 31 (0, 0)) := by rw [hw4, hh]; exact heap_alloc_new _ _
    have hrs : RS w4 h PS.new (rfoot h (.slice none 0 0) (.slice none 0 0)) := ⟨_, _, ⟨hx4, LO.nil _ _ _ _, LO.nil _ _ _ _, List.Pairwise.nil⟩, rfl⟩
    refine ⟨F, _, Q1.out.later hb4, hrs, Q3.out, fun x hx => ?_, HB3.out.trans (hb4.mono HB3.out.size)⟩
    rw [rfoot_eq] at hx
    rcases hx with e | e | e
    · rw [e, hh]; exact HB3.out.size
    · cases e
    · cases e)
  clear hw4 hh Q1 Q3 HB3
  go_loopw [26] (fun vi wr => ∃ (i : Nat), vi = .int .i64 i ∧ i ≤ n ∧ Hid (Two w wr g h (doDs t PS.new (l.take i)) (doDs t PS.new (l.take i)))) (fun vi _ => n - (intOf vi).toNat)
  case atStart => exact ⟨0, rfl, Nat.zero_le _, TW⟩
  case round =>
    clear TW
    obtain ⟨i, rfl, hin, TW⟩ := hrel
    by_cases hlt : i < n
    · have hi : i < l.length := by rw [← HN.out]; exact hlt
      obtain ⟨gL, off, rfl, hgL, q0, q1, q2, q3⟩ := Rd.act28 H1.out i hi
      have q0' := (TW.out.below.cell (p := ⟨gL, off + i * 4, none⟩) hgL).trans q0
      have q1' := (TW.out.below.cell (p := ⟨gL, off + i * 4 + 1, none⟩) hgL).trans q1
      have q2' := (TW.out.below.cell (p := ⟨gL, off + i * 4 + 2, none⟩) hgL).trans q2
      have q3' := (TW.out.below.cell (p := ⟨gL, off + i * 4 + 3, none⟩) hgL).trans q3
      have hat := doDs_take (t := t) (s := PS.new) hi
      have hmem : l[i] ∈ l := List.getElem_mem hi
      obtain ⟨x, hx⟩ : ∃ x, x = l[i] := ⟨_, rfl⟩
      rw [← hx] at q0' q1' q2' q3' hat hmem
      have hsz := sz_doDs t (l.take i) PS.new
      have hft := Fit.doDs t (l.take i) Fit.new
      obtain ⟨s, hs⟩ : ∃ s, s = doDs t PS.new (l.take i) := ⟨_, rfl⟩
      rw [← hs] at TW hat hsz hft
      have hsz2 : s.sz < 1099511627700 := by
        have h5 : PS.new.sz = 0 := rfl
        have h6 := HL.out.1
        rw [h5, List.length_take] at hsz
        omega
      have HAT := Lib.hid hat; have HSZ := Lib.hid hsz2; have HLT := Lib.hid hlt; have HFT := Lib.hid hft
      have HGX := Lib.hid (HGD.out x hmem); have HLEN : Hid (x.ids.length ≤ 100000000) := Lib.hid (by have := HL.out.2 x hmem; omega)
      clear hx q0 q1 q2 q3 hgL hi hs hsz hsz2 hat hft hmem
      go_wp2_with (refine wpList_alloc_g rfl _ rfl _ _ Try.zeroAct28 rfl ?_)
      intro R w5 h5
      go_wp2_with (refine wpList_store_row_g (t := 45) (old := #[.slice none 0 0, .int .i64 0, .int .i64 0, .int .i64 0]) rfl 45 _ _ rfl R #[.slice x.ad x.ids.length x.cap, .int .i64 x.v, .int .i64 x.b, .int .i64 x.wt] rfl rfl h5.out.cells Try.sizeAct28 rfl (by simp [Value.oneCell']) ?_)
      intro w6 hx6 k56 z56
      have hb56 : Below wr.heap.size wr w6 := h5.out.below.trans (k56.below (B := wr.heap.size) (fun x hx e => by have := h5.out.eq; omega) h5.out.below.size)
      have T6 := Lib.hid (TW.out.later hb56); have HX6 := Lib.hid hx6
      clear h5 hx6 k56 z56 hb56 q0' q1' q2' q3' TW
      obtain ⟨w7, hw7⟩ : ∃ w7, w7 = w6.drew := ⟨_, rfl⟩
      have hb67 : Below w6.heap.size w6 w7 := by rw [hw7]; exact Below.drew (Below.refl _ _)
      have T7 := Lib.hid (T6.out.later hb67); have HX7 := Lib.hid (below_at' hb67 HX6.out)
      have hS : w7.cell? ⟨R, 0, none⟩ = some (.slice x.ad x.ids.length x.cap) ∧ w7.cell? ⟨R, 1, none⟩ = some (.int .i64 x.v) ∧ w7.cell? ⟨R, 2, none⟩ = some (.int .i64 x.b) ∧ w7.cell? ⟨R, 3, none⟩ = some (.int .i64 x.wt) := ⟨Lib.cell_of_heap HX7.out 0, Lib.cell_of_heap HX7.out 1, Lib.cell_of_heap HX7.out 2, Lib.cell_of_heap HX7.out 3⟩
      clear T6 HX6 hb67
      go_wp2_with fail
      refine wp_region_till (fun w' => w'.cell? ⟨R, 0, none⟩ = some (.slice x.ad x.ids.length x.cap) ∧ w'.cell? ⟨R, 1, none⟩ = some (.int .i64 x.v) ∧ w'.cell? ⟨R, 2, none⟩ = some (.int .i64 x.b) ∧ w'.cell? ⟨R, 3, none⟩ = some (.int .i64 x.wt)) 23 23 (by kernel_rfl) rfl ?_
      rw [← hw7]
      clear hw7
      refine till_take 0 (some 30) rfl rfl (by kernel_rfl) (by kernel_rfl) (by kernel_rfl) (by kernel_rfl) (by kernel_rfl) (by kernel_rfl) (fun _ _ _ h => h) (.inl ⟨by rfl, fun w' _ => (by go_simp; rfl)⟩) hS ?_
      go_frame
      refine till_take 1 (some 31) rfl rfl (by kernel_rfl) (by kernel_rfl) (by kernel_rfl) (by kernel_rfl) (by kernel_rfl) (by kernel_rfl) (fun _ _ _ h => h) (.inl ⟨by rfl, fun w' _ => (by go_simp; rfl)⟩) hS ?_
      go_frame
      refine till_take 2 (some 32) rfl rfl (by kernel_rfl) (by kernel_rfl) (by kernel_rfl) (by kernel_rfl) (by kernel_rfl) (by kernel_rfl) (fun _ _ _ h => h) (.inl ⟨by rfl, fun w' _ => (by go_simp; rfl)⟩) hS ?_
      go_frame
      refine till_take 3 (some 33) rfl rfl (by kernel_rfl) (by kernel_rfl) (by kernel_rfl) (by kernel_rfl) (by kernel_rfl) (by kernel_rfl) (fun _ _ _ h => h) (.inl ⟨by rfl, fun w' hS' => (by obtain ⟨hc1, hc2, hc3, hc4⟩ := hS'; go_simp; rfl)⟩) hS ?_
      go_frame
      refine till_take 4 (some 34) rfl rfl (by kernel_rfl) (by kernel_rfl) (by kernel_rfl) (by kernel_rfl) (by kernel_rfl) (by kernel_rfl) (fun _ _ _ h => h) (.inl ⟨by rfl, fun w' _ => (by go_simp; rfl)⟩) hS ?_
      go_frame
      refine till_take 5 (some 35) rfl rfl (by kernel_rfl) (by kernel_rfl) (by kernel_rfl) (by kernel_rfl) (by kernel_rfl) (by kernel_rfl) (fun _ _ _ h => h) (.inl ⟨by rfl, fun w' hS' => (by obtain ⟨hc1, hc2, hc3, hc4⟩ := hS'; go_simp; rfl)⟩) hS ?_
      go_frame
      refine till_take 6 (some 36) rfl rfl (by kernel_rfl) (by kernel_rfl) (by kernel_rfl) (by kernel_rfl) (by kernel_rfl) (by kernel_rfl) (fun _ _ _ h => h) (.inl ⟨by rfl, fun w' _ => (by go_simp; rfl)⟩) hS ?_
      go_frame
      refine till_take 7 (some 37) rfl rfl (by kernel_rfl) (by kernel_rfl) (by kernel_rfl) (by kernel_rfl) (by kernel_rfl) (by kernel_rfl) (fun _ _ _ h => h) (.inl ⟨by rfl, fun w' hS' => (by obtain ⟨hc1, hc2, hc3, hc4⟩ := hS'; go_simp; rfl)⟩) hS ?_
      go_frame
      refine till_take 8 (some 38) rfl rfl (by kernel_rfl) (by kernel_rfl) (by kernel_rfl) (by kernel_rfl) (by kernel_rfl) (by kernel_rfl) (fun _ _ _ h => h) (.inl ⟨by rfl, fun w' _ => (by go_simp; rfl)⟩) hS ?_
      go_frame
      refine till_take 9 (some 39) rfl rfl (by kernel_rfl) (by kernel_rfl) (by kernel_rfl) (by kernel_rfl) (by kernel_rfl) (by kernel_rfl) (fun _ _ _ h => h) (.inl ⟨by rfl, fun w' hS' => (by obtain ⟨hc1, hc2, hc3, hc4⟩ := hS'; go_simp; rfl)⟩) hS ?_
      go_frame
      refine till_take 11 (some 41) rfl rfl (by kernel_rfl) (by kernel_rfl) (by kernel_rfl) (by kernel_rfl) (by kernel_rfl) (by kernel_rfl) (fun _ _ _ h => h) (.inl ⟨by rfl, fun w' _ => (by go_simp; rfl)⟩) hS ?_
      go_frame
      refine till_take 12 (some 42) rfl rfl (by kernel_rfl) (by kernel_rfl) (by kernel_rfl) (by kernel_rfl) (by kernel_rfl) (by kernel_rfl) (fun _ _ _ h => h) (.inl ⟨by rfl, fun w' _ => (by go_simp; rfl)⟩) hS ?_
      go_frame
      refine till_take 13 (some 43) rfl rfl (by kernel_rfl) (by kernel_rfl) (by kernel_rfl) (by kernel_rfl) (by kernel_rfl) (by kernel_rfl) (fun _ _ _ h => h) (.inl ⟨by rfl, fun w' _ => (by go_simp; rfl)⟩) hS ?_
      go_frame
      refine till_take 14 (some 44) rfl rfl (by kernel_rfl) (by kernel_rfl) (by kernel_rfl) (by kernel_rfl) (by kernel_rfl) (by kernel_rfl) (fun _ _ _ h => h) (.inl ⟨by rfl, fun w' hS' => (by obtain ⟨hc1, hc2, hc3, hc4⟩ := hS'; go_simp; rfl)⟩) hS ?_
      go_frame
      refine till_take 15 (some 45) rfl rfl (by kernel_rfl) (by kernel_rfl) (by kernel_rfl) (by kernel_rfl) (by kernel_rfl) (by kernel_rfl) (fun _ _ _ h => h) (.inl ⟨by rfl, fun w' _ => (by go_simp; rfl)⟩) hS ?_
      go_frame
      refine till_take 16 (some 46) rfl rfl (by kernel_rfl) (by kernel_rfl) (by kernel_rfl) (by kernel_rfl) (by kernel_rfl) (by kernel_rfl) (fun _ _ _ h => h) (.inl ⟨by rfl, fun w' hS' => (by obtain ⟨hc1, hc2, hc3, hc4⟩ := hS'; go_simp; rfl)⟩) hS ?_
      go_frame
      refine till_take 17 (some 47) rfl rfl (by kernel_rfl) (by kernel_rfl) (by kernel_rfl) (by kernel_rfl) (by kernel_rfl) (by kernel_rfl) (fun _ _ _ h => h) (.inl ⟨by rfl, fun w' _ => (by go_simp; rfl)⟩) hS ?_
      go_frame
      refine till_take 18 (some 48) rfl rfl (by kernel_rfl) (by kernel_rfl) (by kernel_rfl) (by kernel_rfl) (by kernel_rfl) (by kernel_rfl) (fun _ _ _ h => h) (.inl ⟨by rfl, fun w' hS' => (by obtain ⟨hc1, hc2, hc3, hc4⟩ := hS'; go_simp; rfl)⟩) hS ?_
      go_frame
      refine till_take 19 (some 49) rfl rfl (by kernel_rfl) (by kernel_rfl) (by kernel_rfl) (by kernel_rfl) (by kernel_rfl) (by kernel_rfl) (fun _ _ _ h => h) (.inl ⟨by rfl, fun w' _ => (by go_simp; rfl)⟩) hS ?_
      go_frame
      refine till_take 20 (some 50) rfl rfl (by kernel_rfl) (by kernel_rfl) (by kernel_rfl) (by kernel_rfl) (by kernel_rfl) (by kernel_rfl) (fun _ _ _ h => h) (.inl ⟨by rfl, fun w' hS' => (by obtain ⟨hc1, hc2, hc3, hc4⟩ := hS'; go_simp; rfl)⟩) hS ?_
      go_frame
      refine till_one 10 rfl (by kernel_rfl) fun K hK => ?_
      simp only [List.getElem_toArray, List.getElem_cons_succ, List.getElem_cons_zero]
      rw [if_pos (by rfl)]
      go_simp
      refine (T7.out.st fun F h => dset_any h (by have := HSZ.out; omega) HFT.out t (ids := x.ids) HLEN.out HGX.out.i64 (HGX.out.rd.later T7.out.below) x.v x.b x.wt).mono ?_
      rintro e w8 ⟨rfl, o8, oth⟩
      obtain ⟨er, her⟩ : ∃ er, er = putDE t x.ids x.v x.b x.wt := ⟨_, rfl⟩
      rw [← her]
      have T8 := Lib.hid o8; have HX8 := Lib.hid (oth.2 R _ HX7.out rfl rfl)
      have hS1 : w8.cell? ⟨R, 0, none⟩ = some (.slice x.ad x.ids.length x.cap) ∧ w8.cell? ⟨R, 1, none⟩ = some (.int .i64 x.v) ∧ w8.cell? ⟨R, 2, none⟩ = some (.int .i64 x.b) ∧ w8.cell? ⟨R, 3, none⟩ = some (.int .i64 x.wt) := ⟨Lib.cell_of_heap HX8.out 0, Lib.cell_of_heap HX8.out 1, Lib.cell_of_heap HX8.out 2, Lib.cell_of_heap HX8.out 3⟩
      refine hK _ _ (fun _ _ => hS1) ?_
      clear hK hS o8 oth T7 HX7
      have hS := hS1
      clear hS1
      refine till_one 21 rfl (by kernel_rfl) fun K hK => ?_
      simp only [List.getElem_toArray, List.getElem_cons_succ, List.getElem_cons_zero]
      rw [if_pos (by rfl)]
      go_simp
      refine (T8.out.rs fun F h => rset28_any h (by have := HSZ.out; omega) HFT.out t (ids := x.ids) HLEN.out HGX.out.i64 (HGX.out.rd.later T8.out.below) x.v x.b x.wt).mono ?_
      rintro e w9 ⟨rfl, o8, oth⟩
      rw [← her]
      have T9 := Lib.hid o8; have HX9 := Lib.hid (oth.2 R _ HX8.out rfl rfl)
      have hS1 : w9.cell? ⟨R, 0, none⟩ = some (.slice x.ad x.ids.length x.cap) ∧ w9.cell? ⟨R, 1, none⟩ = some (.int .i64 x.v) ∧ w9.cell? ⟨R, 2, none⟩ = some (.int .i64 x.b) ∧ w9.cell? ⟨R, 3, none⟩ = some (.int .i64 x.wt) := ⟨Lib.cell_of_heap HX9.out 0, Lib.cell_of_heap HX9.out 1, Lib.cell_of_heap HX9.out 2, Lib.cell_of_heap HX9.out 3⟩
      refine hK _ _ (fun _ _ => hS1) ?_
      clear hK hS o8 oth T8 HX8
      have hS := hS1
      clear hS1
      refine till_take 22 (some 52) rfl rfl (by kernel_rfl) (by kernel_rfl) (by kernel_rfl) (by kernel_rfl) (by kernel_rfl) (by kernel_rfl) (fun _ _ _ h => h) (.inl ⟨by rfl, fun w' _ => (by go_simp; rfl)⟩) hS ?_
      go_frame
      refine till_done (by kernel_rfl) ?_ _
      have hne : (er != er) = false := by simp
      have hft2 := HFT.out.putD t x.ids x.v x.b x.wt
      have hsz2 := sz_putD s t x.ids x.v x.b x.wt
      have hat2 : doDs t PS.new (l.take (i + 1)) = putD s t x.ids x.v x.b x.wt := HAT.out
      obtain ⟨s', hs'⟩ : ∃ s', s' = putD s t x.ids x.v x.b x.wt := ⟨_, rfl⟩
      rw [← hs'] at T9 hft2 hsz2 hat2
      have HFT2 := Lib.hid hft2; have HSZ2 : Hid (s'.sz < 1099511627776) := Lib.hid (by have := HSZ.out; omega); have HAT2 := Lib.hid hat2
      obtain ⟨uh, un, ux, ut, um, hu⟩ : ∃ uh un ux ut um, getD (getP s'.t) t x.ids = ⟨uh, un, ux, ut, um⟩ := ⟨_, _, _, _, _, rfl⟩
      have HU := Lib.hid hu
      clear hs' hft2 hsz2 hat2 hu HSZ HFT HAT hS
      obtain ⟨wz, hwz⟩ : ∃ wz, wz = w9.drew := ⟨_, rfl⟩
      have hb9z : Below w9.heap.size w9 wz := by rw [hwz]; exact Below.drew (Below.refl _ _)
      have TZ := Lib.hid (T9.out.later hb9z); have HXZ := Lib.hid (below_at' hb9z HX9.out)
      have hS : wz.cell? ⟨R, 0, none⟩ = some (.slice x.ad x.ids.length x.cap) := Lib.cell_of_heap HXZ.out 0
      have BK0 : Hid (Below wz.heap.size wz wz) := Lib.hid (Below.refl _ _)
      clear T9 HX9 hb9z
      go_wp2_with fail
      clear hne
      refine wp_region_till (fun w' => w'.cell? ⟨R, 0, none⟩ = some (.slice x.ad x.ids.length x.cap)) 14 14 (by kernel_rfl) rfl ?_
      rw [← hwz]
      clear hwz
      apply ends3 (F := fun wN A B => Below wz.heap.size wz wN ∧ wN.heap[A]? = some (.cells #[.bool uh, .int .i64 un, .int .i64 ux, .int .i64 ut, .bool um] 53 (0, 0)) ∧ wN.heap[B]? = some (.cells #[.bool uh, .int .i64 un, .int .i64 ux, .int .i64 ut, .bool um] 64 (0, 0)))
      case h1 =>
        intro hfin
        have BK0 := BK0
        have hS := hS
        refine till_take 0 (some 53) rfl rfl (by kernel_rfl) (by kernel_rfl) (by kernel_rfl) (by kernel_rfl) (by kernel_rfl) (by kernel_rfl) (fun _ _ _ h => h) (.inl ⟨by rfl, fun w' _ => (by go_simp; rfl)⟩) hS ?_
        go_frame
        refine till_take 1 (some 54) rfl rfl (by kernel_rfl) (by kernel_rfl) (by kernel_rfl) (by kernel_rfl) (by kernel_rfl) (by kernel_rfl) (fun _ _ _ h => h) (.inl ⟨by rfl, fun w' _ => (by go_simp; rfl)⟩) hS ?_
        go_frame
        refine till_take 2 (some 55) rfl rfl (by kernel_rfl) (by kernel_rfl) (by kernel_rfl) (by kernel_rfl) (by kernel_rfl) (by kernel_rfl) (fun _ _ _ h => h) (.inl ⟨by rfl, fun w' _ => (by go_simp; rfl)⟩) hS ?_
        go_frame
        refine till_take 3 (some 56) rfl rfl (by kernel_rfl) (by kernel_rfl) (by kernel_rfl) (by kernel_rfl) (by kernel_rfl) (by kernel_rfl) (fun _ _ _ h => h) (.inl ⟨by rfl, fun w' hS' => (by have hc1 := hS'; go_simp; rfl)⟩) hS ?_
        go_frame
        refine till_take 5 (some 58) rfl rfl (by kernel_rfl) (by kernel_rfl) (by kernel_rfl) (by kernel_rfl) (by kernel_rfl) (by kernel_rfl) (fun _ _ _ h => h) (.inl ⟨by rfl, fun w' _ => (by go_simp; rfl)⟩) hS ?_
        go_frame
        refine till_take 6 (some 59) rfl rfl (by kernel_rfl) (by kernel_rfl) (by kernel_rfl) (by kernel_rfl) (by kernel_rfl) (by kernel_rfl) (fun _ _ _ h => h) (.inl ⟨by rfl, fun w' _ => (by go_simp; rfl)⟩) hS ?_
        go_frame
        refine till_take 7 (some 60) rfl rfl (by kernel_rfl) (by kernel_rfl) (by kernel_rfl) (by kernel_rfl) (by kernel_rfl) (by kernel_rfl) (fun _ _ _ h => h) (.inl ⟨by rfl, fun w' _ => (by go_simp; rfl)⟩) hS ?_
        go_frame
        refine till_take 8 (some 61) rfl rfl (by kernel_rfl) (by kernel_rfl) (by kernel_rfl) (by kernel_rfl) (by kernel_rfl) (by kernel_rfl) (fun _ _ _ h => h) (.inl ⟨by rfl, fun w' hS' => (by have hc1 := hS'; go_simp; rfl)⟩) hS ?_
        go_frame
        refine till_three 4 10 11 rfl rfl rfl (by kernel_rfl) (fun K hK => ?_) (fun K hK => ?_) (fun K hK => ?_)
        · simp only [List.getElem_toArray, List.getElem_cons_succ, List.getElem_cons_zero]
          rw [if_pos (by rfl)]
          go_simp
          obtain ⟨FG, pG⟩ := (TZ.out.later BK0.out).get1
          refine (dget_any (Look.of_st pG) HFT2.out.f t (ids := x.ids) HLEN.out HGX.out.i64 (HGX.out.rd.later (TZ.out.later BK0.out).below)).mono ?_
          rw [HU.out]
          rintro e wa1 ⟨rfl, hb⟩
          have BK1 := Lib.hid (BK0.out.trans (hb.mono BK0.out.size))
          have hS1 : wa1.cell? ⟨R, 0, none⟩ = some (.slice x.ad x.ids.length x.cap) := Lib.cell_of_heap (below_at' BK1.out HXZ.out) 0
          refine hK _ _ (fun _ _ => hS1) ?_
          clear hK hS hb BK0 pG
          have hS := hS1
          clear hS1
          refine till_three 9 10 11 rfl rfl rfl (by kernel_rfl) (fun K hK => ?_) (fun K hK => ?_) (fun K hK => ?_)
          · simp only [List.getElem_toArray, List.getElem_cons_succ, List.getElem_cons_zero]
            rw [if_pos (by rfl)]
            go_simp
            obtain ⟨FG, pG⟩ := (TZ.out.later BK1.out).get2
            refine (rget28_any pG HSZ2.out HFT2.out t (ids := x.ids) HLEN.out HGX.out.i64 (HGX.out.rd.later (TZ.out.later BK1.out).below)).mono ?_
            rw [HU.out]
            rintro e wa2 ⟨rfl, hb⟩
            have BK2 := Lib.hid (BK1.out.trans (hb.mono BK1.out.size))
            have hS1 : wa2.cell? ⟨R, 0, none⟩ = some (.slice x.ad x.ids.length x.cap) := Lib.cell_of_heap (below_at' BK2.out HXZ.out) 0
            refine hK _ _ (fun _ _ => hS1) ?_
            clear hK hS hb BK1 pG
            have hS := hS1
            clear hS1
            refine till_two 10 11 rfl rfl (by kernel_rfl) (fun K hK => ?_) (fun K hK => ?_)
            · simp only [List.getElem_toArray, List.getElem_cons_succ, List.getElem_cons_zero]
              rw [if_pos (by rfl)]
              refine wp_alloc_g 53 rfl _ _ Try.zeroDDV rfl ?_
              intro A wa3 hm
              have hb := hm.out.below
              have BK3 := Lib.hid (BK2.out.trans (hb.mono BK2.out.size))
              have hS1 : wa3.cell? ⟨R, 0, none⟩ = some (.slice x.ad x.ids.length x.cap) := Lib.cell_of_heap (below_at' BK3.out HXZ.out) 0
              have HA3 : Hid (wa3.heap[A]? = some (.cells #[.bool false, .int .i64 0, .int .i64 0, .int .i64 0, .bool false] 53 (0, 0)) ∧ wz.heap.size ≤ A) := Lib.hid ⟨hm.out.cells, by rw [hm.out.eq]; exact BK2.out.size⟩
              refine hK _ _ (fun _ _ => hS1) ?_
              clear hK hS hb BK2 hm
              have hS := hS1
              clear hS1
              refine till_one 11 rfl (by kernel_rfl) (fun K hK => ?_)
              · simp only [List.getElem_toArray, List.getElem_cons_succ, List.getElem_cons_zero]
                rw [if_pos (by rfl)]
                refine wp_alloc_g 64 rfl _ _ Try.zeroRDV rfl ?_
                intro B wa4 hm
                have hb := hm.out.below
                have BK4 := Lib.hid (BK3.out.trans (hb.mono BK3.out.size))
                have HA4 := Lib.hid (And.intro (below_at' hb HA3.out.1) HA3.out.2)
                have hS1 : wa4.cell? ⟨R, 0, none⟩ = some (.slice x.ad x.ids.length x.cap) := Lib.cell_of_heap (below_at' BK4.out HXZ.out) 0
                have HB4 : Hid (wa4.heap[B]? = some (.cells #[.bool false, .int .i64 0, .int .i64 0, .int .i64 0, .bool false] 64 (0, 0)) ∧ wz.heap.size ≤ B) := Lib.hid ⟨hm.out.cells, by rw [hm.out.eq]; exact BK3.out.size⟩
                have HAB : Hid (A ≠ B) := Lib.hid (by have h8 := heap_lt HA3.out.1; have h9 := hm.out.eq; omega)
                refine hK _ _ (fun _ _ => hS1) ?_
                clear hK hS hb BK3 hm HA3
                have hS := hS1
                clear hS1
                refine till_one 12 rfl (by kernel_rfl) (fun K hK => ?_)
                · simp only [List.getElem_toArray, List.getElem_cons_succ, List.getElem_cons_zero]
                  rw [if_pos (by rfl)]
                  refine wp_store_row_g (t := 53) (old := #[.bool false, .int .i64 0, .int .i64 0, .int .i64 0, .bool false]) 53 _ _ rfl A #[.bool uh, .int .i64 un, .int .i64 ux, .int .i64 ut, .bool um] rfl rfl HA4.out.1 Try.sizeDDV rfl (by simp [Value.oneCell']) ?_
                  intro wa5 hx kx zx
                  have BK5 : Hid (Below wz.heap.size wz wa5) := Lib.hid (BK4.out.trans (kx.below (B := wz.heap.size) (fun y hy e => by have := HA4.out.2; omega) BK4.out.size))
                  have HA5 := Lib.hid (And.intro hx HA4.out.2)
                  have HB5 := Lib.hid (And.intro (kx.at HB4.out.1 (fun e => HAB.out (by omega))) HB4.out.2)
                  have hS1 : wa5.cell? ⟨R, 0, none⟩ = some (.slice x.ad x.ids.length x.cap) := Lib.cell_of_heap (below_at' BK5.out HXZ.out) 0
                  refine hK _ _ (fun _ _ => hS1) ?_
                  clear hK hS hx kx zx BK4 HA4 HB4
                  have hS := hS1
                  clear hS1
                  refine till_one 13 rfl (by kernel_rfl) (fun K hK => ?_)
                  · simp only [List.getElem_toArray, List.getElem_cons_succ, List.getElem_cons_zero]
                    rw [if_pos (by rfl)]
                    refine wp_store_row_g (t := 64) (old := #[.bool false, .int .i64 0, .int .i64 0, .int .i64 0, .bool false]) 64 _ _ rfl B #[.bool uh, .int .i64 un, .int .i64 ux, .int .i64 ut, .bool um] rfl rfl HB5.out.1 Try.sizeRDV rfl (by simp [Value.oneCell']) ?_
                    intro wa6 hx kx zx
                    have BK6 : Hid (Below wz.heap.size wz wa6) := Lib.hid (BK5.out.trans (kx.below (B := wz.heap.size) (fun y hy e => by have := HB5.out.2; omega) BK5.out.size))
                    have HB6 := Lib.hid (And.intro hx HB5.out.2)
                    have HA6 := Lib.hid (And.intro (kx.at HA5.out.1 (fun e => HAB.out (by omega))) HA5.out.2)
                    have hS1 : wa6.cell? ⟨R, 0, none⟩ = some (.slice x.ad x.ids.length x.cap) := Lib.cell_of_heap (below_at' BK6.out HXZ.out) 0
                    refine hK _ _ (fun _ _ => hS1) ?_
                    clear hK hS hx kx zx BK5 HB5 HA5
                    have hS := hS1
                    clear hS1
                    refine till_done (by kernel_rfl) ?_ _
                    exact hfin _ _ _ ⟨BK6.out, HA6.out.1, HB6.out.1⟩
            · simp only [List.getElem_toArray, List.getElem_cons_succ, List.getElem_cons_zero]
              rw [if_pos (by rfl)]
              refine wp_alloc_g 64 rfl _ _ Try.zeroRDV rfl ?_
              intro B wa7 hm
              have hb := hm.out.below
              have BK7 := Lib.hid (BK2.out.trans (hb.mono BK2.out.size))
              have hS1 : wa7.cell? ⟨R, 0, none⟩ = some (.slice x.ad x.ids.length x.cap) := Lib.cell_of_heap (below_at' BK7.out HXZ.out) 0
              have HB7 : Hid (wa7.heap[B]? = some (.cells #[.bool false, .int .i64 0, .int .i64 0, .int .i64 0, .bool false] 64 (0, 0)) ∧ wz.heap.size ≤ B) := Lib.hid ⟨hm.out.cells, by rw [hm.out.eq]; exact BK2.out.size⟩
              refine hK _ _ (fun _ _ => hS1) ?_
              clear hK hS hb BK2 hm
              have hS := hS1
              clear hS1
              refine till_one 10 rfl (by kernel_rfl) (fun K hK => ?_)
              · simp only [List.getElem_toArray, List.getElem_cons_succ, List.getElem_cons_zero]
                rw [if_pos (by rfl)]
                refine wp_alloc_g 53 rfl _ _ Try.zeroDDV rfl ?_
                intro A wa8 hm
                have hb := hm.out.below
                have BK8 := Lib.hid (BK7.out.trans (hb.mono BK7.out.size))
                have HB8 := Lib.hid (And.intro (below_at' hb HB7.out.1) HB7.out.2)
                have hS1 : wa8.cell? ⟨R, 0, none⟩ = some (.slice x.ad x.ids.length x.cap) := Lib.cell_of_heap (below_at' BK8.out HXZ.out) 0
                have HA8 : Hid (wa8.heap[A]? = some (.cells #[.bool false, .int .i64 0, .int .i64 0, .int .i64 0, .bool false] 53 (0, 0)) ∧ wz.heap.size ≤ A) := Lib.hid ⟨hm.out.cells, by rw [hm.out.eq]; exact BK7.out.size⟩
                have HAB : Hid (A ≠ B) := Lib.hid (by have h8 := heap_lt HB7.out.1; have h9 := hm.out.eq; omega)
                refine hK _ _ (fun _ _ => hS1) ?_
                clear hK hS hb BK7 hm HB7
                have hS := hS1
                clear hS1
                refine till_one 12 rfl (by kernel_rfl) (fun K hK => ?_)
                · simp only [List.getElem_toArray, List.getElem_cons_succ, List.getElem_cons_zero]
                  rw [if_pos (by rfl)]
                  refine wp_store_row_g (t := 53) (old := #[.bool false, .int .i64 0, .int .i64 0, .int .i64 0, .bool false]) 53 _ _ rfl A #[.bool uh, .int .i64 un, .int .i64 ux, .int .i64 ut, .bool um] rfl rfl HA8.out.1 Try.sizeDDV rfl (by simp [Value.oneCell']) ?_
                  intro wa9 hx kx zx
                  have BK9 : Hid (Below wz.heap.size wz wa9) := Lib.hid (BK8.out.trans (kx.below (B := wz.heap.size) (fun y hy e => by have := HA8.out.2; omega) BK8.out.size))
                  have HA9 := Lib.hid (And.intro hx HA8.out.2)
                  have HB9 := Lib.hid (And.intro (kx.at HB8.out.1 (fun e => HAB.out (by omega))) HB8.out.2)
                  have hS1 : wa9.cell? ⟨R, 0, none⟩ = some (.slice x.ad x.ids.length x.cap) := Lib.cell_of_heap (below_at' BK9.out HXZ.out) 0
                  refine hK _ _ (fun _ _ => hS1) ?_
                  clear hK hS hx kx zx BK8 HA8 HB8
                  have hS := hS1
                  clear hS1
                  refine till_one 13 rfl (by kernel_rfl) (fun K hK => ?_)
                  · simp only [List.getElem_toArray, List.getElem_cons_succ, List.getElem_cons_zero]
                    rw [if_pos (by rfl)]
                    refine wp_store_row_g (t := 64) (old := #[.bool false, .int .i64 0, .int .i64 0, .int .i64 0, .bool false]) 64 _ _ rfl B #[.bool uh, .int .i64 un, .int .i64 ux, .int .i64 ut, .bool um] rfl rfl HB9.out.1 Try.sizeRDV rfl (by simp [Value.oneCell']) ?_
                    intro wa10 hx kx zx
                    have BK10 : Hid (Below wz.heap.size wz wa10) := Lib.hid (BK9.out.trans (kx.below (B := wz.heap.size) (fun y hy e => by have := HB9.out.2; omega) BK9.out.size))
                    have HB10 := Lib.hid (And.intro hx HB9.out.2)
                    have HA10 := Lib.hid (And.intro (kx.at HA9.out.1 (fun e => HAB.out (by omega))) HA9.out.2)
                    have hS1 : wa10.cell? ⟨R, 0, none⟩ = some (.slice x.ad x.ids.length x.cap) := Lib.cell_of_heap (below_at' BK10.out HXZ.out) 0
                    refine hK _ _ (fun _ _ => hS1) ?_
                    clear hK hS hx kx zx BK9 HB9 HA9
                    have hS := hS1
                    clear hS1
                    refine till_done (by kernel_rfl) ?_ _
                    exact hfin _ _ _ ⟨BK10.out, HA10.out.1, HB10.out.1⟩
          · simp only [List.getElem_toArray, List.getElem_cons_succ, List.getElem_cons_zero]
            rw [if_pos (by rfl)]
            refine wp_alloc_g 53 rfl _ _ Try.zeroDDV rfl ?_
            intro A wa11 hm
            have hb := hm.out.below
            have BK11 := Lib.hid (BK1.out.trans (hb.mono BK1.out.size))
            have hS1 : wa11.cell? ⟨R, 0, none⟩ = some (.slice x.ad x.ids.length x.cap) := Lib.cell_of_heap (below_at' BK11.out HXZ.out) 0
            have HA11 : Hid (wa11.heap[A]? = some (.cells #[.bool false, .int .i64 0, .int .i64 0, .int .i64 0, .bool false] 53 (0, 0)) ∧ wz.heap.size ≤ A) := Lib.hid ⟨hm.out.cells, by rw [hm.out.eq]; exact BK1.out.size⟩
            refine hK _ _ (fun _ _ => hS1) ?_
            clear hK hS hb BK1 hm
            have hS := hS1
            clear hS1
            refine till_two 9 11 rfl rfl (by kernel_rfl) (fun K hK => ?_) (fun K hK => ?_)
            · simp only [List.getElem_toArray, List.getElem_cons_succ, List.getElem_cons_zero]
              rw [if_pos (by rfl)]
              go_simp
              obtain ⟨FG, pG⟩ := (TZ.out.later BK11.out).get2
              refine (rget28_any pG HSZ2.out HFT2.out t (ids := x.ids) HLEN.out HGX.out.i64 (HGX.out.rd.later (TZ.out.later BK11.out).below)).mono ?_
              rw [HU.out]
              rintro e wa12 ⟨rfl, hb⟩
              have BK12 := Lib.hid (BK11.out.trans (hb.mono BK11.out.size))
              have HA12 := Lib.hid (And.intro (below_at' hb HA11.out.1) HA11.out.2)
              have hS1 : wa12.cell? ⟨R, 0, none⟩ = some (.slice x.ad x.ids.length x.cap) := Lib.cell_of_heap (below_at' BK12.out HXZ.out) 0
              refine hK _ _ (fun _ _ => hS1) ?_
              clear hK hS hb BK11 pG HA11
              have hS := hS1
              clear hS1
              refine till_one 11 rfl (by kernel_rfl) (fun K hK => ?_)
              · simp only [List.getElem_toArray, List.getElem_cons_succ, List.getElem_cons_zero]
                rw [if_pos (by rfl)]
                refine wp_alloc_g 64 rfl _ _ Try.zeroRDV rfl ?_
                intro B wa13 hm
                have hb := hm.out.below
                have BK13 := Lib.hid (BK12.out.trans (hb.mono BK12.out.size))
                have HA13 := Lib.hid (And.intro (below_at' hb HA12.out.1) HA12.out.2)
                have hS1 : wa13.cell? ⟨R, 0, none⟩ = some (.slice x.ad x.ids.length x.cap) := Lib.cell_of_heap (below_at' BK13.out HXZ.out) 0
                have HB13 : Hid (wa13.heap[B]? = some (.cells #[.bool false, .int .i64 0, .int .i64 0, .int .i64 0, .bool false] 64 (0, 0)) ∧ wz.heap.size ≤ B) := Lib.hid ⟨hm.out.cells, by rw [hm.out.eq]; exact BK12.out.size⟩
                have HAB : Hid (A ≠ B) := Lib.hid (by have h8 := heap_lt HA12.out.1; have h9 := hm.out.eq; omega)
                refine hK _ _ (fun _ _ => hS1) ?_
                clear hK hS hb BK12 hm HA12
                have hS := hS1
                clear hS1
                refine till_one 12 rfl (by kernel_rfl) (fun K hK => ?_)
                · simp only [List.getElem_toArray, List.getElem_cons_succ, List.getElem_cons_zero]
                  rw [if_pos (by rfl)]
                  refine wp_store_row_g (t := 53) (old := #[.bool false, .int .i64 0, .int .i64 0, .int .i64 0, .bool false]) 53 _ _ rfl A #[.bool uh, .int .i64 un, .int .i64 ux, .int .i64 ut, .bool um] rfl rfl HA13.out.1 Try.sizeDDV rfl (by simp [Value.oneCell']) ?_
                  intro wa14 hx kx zx
                  have BK14 : Hid (Below wz.heap.size wz wa14) := Lib.hid (BK13.out.trans (kx.below (B := wz.heap.size) (fun y hy e => by have := HA13.out.2; omega) BK13.out.size))
                  have HA14 := Lib.hid (And.intro hx HA13.out.2)
                  have HB14 := Lib.hid (And.intro (kx.at HB13.out.1 (fun e => HAB.out (by omega))) HB13.out.2)
                  have hS1 : wa14.cell? ⟨R, 0, none⟩ = some (.slice x.ad x.ids.length x.cap) := Lib.cell_of_heap (below_at' BK14.out HXZ.out) 0
                  refine hK _ _ (fun _ _ => hS1) ?_
                  clear hK hS hx kx zx BK13 HA13 HB13
                  have hS := hS1
                  clear hS1
                  refine till_one 13 rfl (by kernel_rfl) (fun K hK => ?_)
                  · simp only [List.getElem_toArray, List.getElem_cons_succ, List.getElem_cons_zero]
                    rw [if_pos (by rfl)]
                    refine wp_store_row_g (t := 64) (old := #[.bool false, .int .i64 0, .int .i64 0, .int .i64 0, .bool false]) 64 _ _ rfl B #[.bool uh, .int .i64 un, .int .i64 ux, .int .i64 ut, .bool um] rfl rfl HB14.out.1 Try.sizeRDV rfl (by simp [Value.oneCell']) ?_
                    intro wa15 hx kx zx
                    have BK15 : Hid (Below wz.heap.size wz wa15) := Lib.hid (BK14.out.trans (kx.below (B := wz.heap.size) (fun y hy e => by have := HB14.out.2; omega) BK14.out.size))
                    have HB15 := Lib.hid (And.intro hx HB14.out.2)
                    have HA15 := Lib.hid (And.intro (kx.at HA14.out.1 (fun e => HAB.out (by omega))) HA14.out.2)
                    have hS1 : wa15.cell? ⟨R, 0, none⟩ = some (.slice x.ad x.ids.length x.cap) := Lib.cell_of_heap (below_at' BK15.out HXZ.out) 0
                    refine hK _ _ (fun _ _ => hS1) ?_
                    clear hK hS hx kx zx BK14 HB14 HA14
                    have hS := hS1
                    clear hS1
                    refine till_done (by kernel_rfl) ?_ _
                    exact hfin _ _ _ ⟨BK15.out, HA15.out.1, HB15.out.1⟩
            · simp only [List.getElem_toArray, List.getElem_cons_succ, List.getElem_cons_zero]
              rw [if_pos (by rfl)]
              refine wp_alloc_g 64 rfl _ _ Try.zeroRDV rfl ?_
              intro B wa16 hm
              have hb := hm.out.below
              have BK16 := Lib.hid (BK11.out.trans (hb.mono BK11.out.size))
              have HA16 := Lib.hid (And.intro (below_at' hb HA11.out.1) HA11.out.2)
              have hS1 : wa16.cell? ⟨R, 0, none⟩ = some (.slice x.ad x.ids.length x.cap) := Lib.cell_of_heap (below_at' BK16.out HXZ.out) 0
              have HB16 : Hid (wa16.heap[B]? = some (.cells #[.bool false, .int .i64 0, .int .i64 0, .int .i64 0, .bool false] 64 (0, 0)) ∧ wz.heap.size ≤ B) := Lib.hid ⟨hm.out.cells, by rw [hm.out.eq]; exact BK11.out.size⟩
              have HAB : Hid (A ≠ B) := Lib.hid (by have h8 := heap_lt HA11.out.1; have h9 := hm.out.eq; omega)
              refine hK _ _ (fun _ _ => hS1) ?_
              clear hK hS hb BK11 hm HA11
              have hS := hS1
              clear hS1
              refine till_one 9 rfl (by kernel_rfl) (fun K hK => ?_)
              · simp only [List.getElem_toArray, List.getElem_cons_succ, List.getElem_cons_zero]
                rw [if_pos (by rfl)]
                go_simp
                obtain ⟨FG, pG⟩ := (TZ.out.later BK16.out).get2
                refine (rget28_any pG HSZ2.out HFT2.out t (ids := x.ids) HLEN.out HGX.out.i64 (HGX.out.rd.later (TZ.out.later BK16.out).below)).mono ?_
                rw [HU.out]
                rintro e wa17 ⟨rfl, hb⟩
                have BK17 := Lib.hid (BK16.out.trans (hb.mono BK16.out.size))
                have HA17 := Lib.hid (And.intro (below_at' hb HA16.out.1) HA16.out.2)
                have HB17 := Lib.hid (And.intro (below_at' hb HB16.out.1) HB16.out.2)
                have hS1 : wa17.cell? ⟨R, 0, none⟩ = some (.slice x.ad x.ids.length x.cap) := Lib.cell_of_heap (below_at' BK17.out HXZ.out) 0
                refine hK _ _ (fun _ _ => hS1) ?_
                clear hK hS hb BK16 pG HA16 HB16
                have hS := hS1
                clear hS1
                refine till_one 12 rfl (by kernel_rfl) (fun K hK => ?_)
                · simp only [List.getElem_toArray, List.getElem_cons_succ, List.getElem_cons_zero]
                  rw [if_pos (by rfl)]
                  refine wp_store_row_g (t := 53) (old := #[.bool false, .int .i64 0, .int .i64 0, .int .i64 0, .bool false]) 53 _ _ rfl A #[.bool uh, .int .i64 un, .int .i64 ux, .int .i64 ut, .bool um] rfl rfl HA17.out.1 Try.sizeDDV rfl (by simp [Value.oneCell']) ?_
                  intro wa18 hx kx zx
                  have BK18 : Hid (Below wz.heap.size wz wa18) := Lib.hid (BK17.out.trans (kx.below (B := wz.heap.size) (fun y hy e => by have := HA17.out.2; omega) BK17.out.size))
                  have HA18 := Lib.hid (And.intro hx HA17.out.2)
                  have HB18 := Lib.hid (And.intro (kx.at HB17.out.1 (fun e => HAB.out (by omega))) HB17.out.2)
                  have hS1 : wa18.cell? ⟨R, 0, none⟩ = some (.slice x.ad x.ids.length x.cap) := Lib.cell_of_heap (below_at' BK18.out HXZ.out) 0
                  refine hK _ _ (fun _ _ => hS1) ?_
                  clear hK hS hx kx zx BK17 HA17 HB17
                  have hS := hS1
                  clear hS1
                  refine till_one 13 rfl (by kernel_rfl) (fun K hK => ?_)
                  · simp only [List.getElem_toArray, List.getElem_cons_succ, List.getElem_cons_zero]
                    rw [if_pos (by rfl)]
                    refine wp_store_row_g (t := 64) (old := #[.bool false, .int .i64 0, .int .i64 0, .int .i64 0, .bool false]) 64 _ _ rfl B #[.bool uh, .int .i64 un, .int .i64 ux, .int .i64 ut, .bool um] rfl rfl HB18.out.1 Try.sizeRDV rfl (by simp [Value.oneCell']) ?_
                    intro wa19 hx kx zx
                    have BK19 : Hid (Below wz.heap.size wz wa19) := Lib.hid (BK18.out.trans (kx.below (B := wz.heap.size) (fun y hy e => by have := HB18.out.2; omega) BK18.out.size))
                    have HB19 := Lib.hid (And.intro hx HB18.out.2)
                    have HA19 := Lib.hid (And.intro (kx.at HA18.out.1 (fun e => HAB.out (by omega))) HA18.out.2)
                    have hS1 : wa19.cell? ⟨R, 0, none⟩ = some (.slice x.ad x.ids.length x.cap) := Lib.cell_of_heap (below_at' BK19.out HXZ.out) 0
                    refine hK _ _ (fun _ _ => hS1) ?_
                    clear hK hS hx kx zx BK18 HB18 HA18
                    have hS := hS1
                    clear hS1
                    refine till_done (by kernel_rfl) ?_ _
                    exact hfin _ _ _ ⟨BK19.out, HA19.out.1, HB19.out.1⟩
          · simp only [List.getElem_toArray, List.getElem_cons_succ, List.getElem_cons_zero]
            rw [if_pos (by rfl)]
            refine wp_alloc_g 64 rfl _ _ Try.zeroRDV rfl ?_
            intro B wa20 hm
            have hb := hm.out.below
            have BK20 := Lib.hid (BK1.out.trans (hb.mono BK1.out.size))
            have hS1 : wa20.cell? ⟨R, 0, none⟩ = some (.slice x.ad x.ids.length x.cap) := Lib.cell_of_heap (below_at' BK20.out HXZ.out) 0
            have HB20 : Hid (wa20.heap[B]? = some (.cells #[.bool false, .int .i64 0, .int .i64 0, .int .i64 0, .bool false] 64 (0, 0)) ∧ wz.heap.size ≤ B) := Lib.hid ⟨hm.out.cells, by rw [hm.out.eq]; exact BK1.out.size⟩
            refine hK _ _ (fun _ _ => hS1) ?_
            clear hK hS hb BK1 hm
            have hS := hS1
            clear hS1
            refine till_two 9 10 rfl rfl (by kernel_rfl) (fun K hK => ?_) (fun K hK => ?_)
            · simp only [List.getElem_toArray, List.getElem_cons_succ, List.getElem_cons_zero]
              rw [if_pos (by rfl)]
              go_simp
              obtain ⟨FG, pG⟩ := (TZ.out.later BK20.out).get2
              refine (rget28_any pG HSZ2.out HFT2.out t (ids := x.ids) HLEN.out HGX.out.i64 (HGX.out.rd.later (TZ.out.later BK20.out).below)).mono ?_
              rw [HU.out]
              rintro e wa21 ⟨rfl, hb⟩
              have BK21 := Lib.hid (BK20.out.trans (hb.mono BK20.out.size))
              have HB21 := Lib.hid (And.intro (below_at' hb HB20.out.1) HB20.out.2)
              have hS1 : wa21.cell? ⟨R, 0, none⟩ = some (.slice x.ad x.ids.length x.cap) := Lib.cell_of_heap (below_at' BK21.out HXZ.out) 0
              refine hK _ _ (fun _ _ => hS1) ?_
              clear hK hS hb BK20 pG HB20
              have hS := hS1
              clear hS1
              refine till_one 10 rfl (by kernel_rfl) (fun K hK => ?_)
              · simp only [List.getElem_toArray, List.getElem_cons_succ, List.getElem_cons_zero]
                rw [if_pos (by rfl)]
                refine wp_alloc_g 53 rfl _ _ Try.zeroDDV rfl ?_
                intro A wa22 hm
                have hb := hm.out.below
                have BK22 := Lib.hid (BK21.out.trans (hb.mono BK21.out.size))
                have HB22 := Lib.hid (And.intro (below_at' hb HB21.out.1) HB21.out.2)
                have hS1 : wa22.cell? ⟨R, 0, none⟩ = some (.slice x.ad x.ids.length x.cap) := Lib.cell_of_heap (below_at' BK22.out HXZ.out) 0
                have HA22 : Hid (wa22.heap[A]? = some (.cells #[.bool false, .int .i64 0, .int .i64 0, .int .i64 0, .bool false] 53 (0, 0)) ∧ wz.heap.size ≤ A) := Lib.hid ⟨hm.out.cells, by rw [hm.out.eq]; exact BK21.out.size⟩
                have HAB : Hid (A ≠ B) := Lib.hid (by have h8 := heap_lt HB21.out.1; have h9 := hm.out.eq; omega)
                refine hK _ _ (fun _ _ => hS1) ?_
                clear hK hS hb BK21 hm HB21
                have hS := hS1
                clear hS1
                refine till_one 12 rfl (by kernel_rfl) (fun K hK => ?_)
                · simp only [List.getElem_toArray, List.getElem_cons_succ, List.getElem_cons_zero]
                  rw [if_pos (by rfl)]
                  refine wp_store_row_g (t := 53) (old := #[.bool false, .int .i64 0, .int .i64 0, .int .i64 0, .bool false]) 53 _ _ rfl A #[.bool uh, .int .i64 un, .int .i64 ux, .int .i64 ut, .bool um] rfl rfl HA22.out.1 Try.sizeDDV rfl (by simp [Value.oneCell']) ?_
                  intro wa23 hx kx zx
                  have BK23 : Hid (Below wz.heap.size wz wa23) := Lib.hid (BK22.out.trans (kx.below (B := wz.heap.size) (fun y hy e => by have := HA22.out.2; omega) BK22.out.size))
                  have HA23 := Lib.hid (And.intro hx HA22.out.2)
                  have HB23 := Lib.hid (And.intro (kx.at HB22.out.1 (fun e => HAB.out (by omega))) HB22.out.2)
                  have hS1 : wa23.cell? ⟨R, 0, none⟩ = some (.slice x.ad x.ids.length x.cap) := Lib.cell_of_heap (below_at' BK23.out HXZ.out) 0
                  refine hK _ _ (fun _ _ => hS1) ?_
                  clear hK hS hx kx zx BK22 HA22 HB22
                  have hS := hS1
                  clear hS1
                  refine till_one 13 rfl (by kernel_rfl) (fun K hK => ?_)
                  · simp only [List.getElem_toArray, List.getElem_cons_succ, List.getElem_cons_zero]
                    rw [if_pos (by rfl)]
                    refine wp_store_row_g (t := 64) (old := #[.bool false, .int .i64 0, .int .i64 0, .int .i64 0, .bool false]) 64 _ _ rfl B #[.bool uh, .int .i64 un, .int .i64 ux, .int .i64 ut, .bool um] rfl rfl HB23.out.1 Try.sizeRDV rfl (by simp [Value.oneCell']) ?_
                    intro wa24 hx kx zx
                    have BK24 : Hid (Below wz.heap.size wz wa24) := Lib.hid (BK23.out.trans (kx.below (B := wz.heap.size) (fun y hy e => by have := HB23.out.2; omega) BK23.out.size))
                    have HB24 := Lib.hid (And.intro hx HB23.out.2)
                    have HA24 := Lib.hid (And.intro (kx.at HA23.out.1 (fun e => HAB.out (by omega))) HA23.out.2)
                    have hS1 : wa24.cell? ⟨R, 0, none⟩ = some (.slice x.ad x.ids.length x.cap) := Lib.cell_of_heap (below_at' BK24.out HXZ.out) 0
                    refine hK _ _ (fun _ _ => hS1) ?_
                    clear hK hS hx kx zx BK23 HB23 HA23
                    have hS := hS1
                    clear hS1
                    refine till_done (by kernel_rfl) ?_ _
                    exact hfin _ _ _ ⟨BK24.out, HA24.out.1, HB24.out.1⟩
            · simp only [List.getElem_toArray, List.getElem_cons_succ, List.getElem_cons_zero]
              rw [if_pos (by rfl)]
              refine wp_alloc_g 53 rfl _ _ Try.zeroDDV rfl ?_
              intro A wa25 hm
              have hb := hm.out.below
              have BK25 := Lib.hid (BK20.out.trans (hb.mono BK20.out.size))
              have HB25 := Lib.hid (And.intro (below_at' hb HB20.out.1) HB20.out.2)
              have hS1 : wa25.cell? ⟨R, 0, none⟩ = some (.slice x.ad x.ids.length x.cap) := Lib.cell_of_heap (below_at' BK25.out HXZ.out) 0
              have HA25 : Hid (wa25.heap[A]? = some (.cells #[.bool false, .int .i64 0, .int .i64 0, .int .i64 0, .bool false] 53 (0, 0)) ∧ wz.heap.size ≤ A) := Lib.hid ⟨hm.out.cells, by rw [hm.out.eq]; exact BK20.out.size⟩
              have HAB : Hid (A ≠ B) := Lib.hid (by have h8 := heap_lt HB20.out.1; have h9 := hm.out.eq; omega)
              refine hK _ _ (fun _ _ => hS1) ?_
              clear hK hS hb BK20 hm HB20
              have hS := hS1
              clear hS1
              refine till_one 9 rfl (by kernel_rfl) (fun K hK => ?_)
              · simp only [List.getElem_toArray, List.getElem_cons_succ, List.getElem_cons_zero]
                rw [if_pos (by rfl)]
                go_simp
                obtain ⟨FG, pG⟩ := (TZ.out.later BK25.out).get2
                refine (rget28_any pG HSZ2.out HFT2.out t (ids := x.ids) HLEN.out HGX.out.i64 (HGX.out.rd.later (TZ.out.later BK25.out).below)).mono ?_
                rw [HU.out]
                rintro e wa26 ⟨rfl, hb⟩
                have BK26 := Lib.hid (BK25.out.trans (hb.mono BK25.out.size))
                have HA26 := Lib.hid (And.intro (below_at' hb HA25.out.1) HA25.out.2)
                have HB26 := Lib.hid (And.intro (below_at' hb HB25.out.1) HB25.out.2)
                have hS1 : wa26.cell? ⟨R, 0, none⟩ = some (.slice x.ad x.ids.length x.cap) := Lib.cell_of_heap (below_at' BK26.out HXZ.out) 0
                refine hK _ _ (fun _ _ => hS1) ?_
                clear hK hS hb BK25 pG HA25 HB25
                have hS := hS1
                clear hS1
                refine till_one 12 rfl (by kernel_rfl) (fun K hK => ?_)
                · simp only [List.getElem_toArray, List.getElem_cons_succ, List.getElem_cons_zero]
                  rw [if_pos (by rfl)]
                  refine wp_store_row_g (t := 53) (old := #[.bool false, .int .i64 0, .int .i64 0, .int .i64 0, .bool false]) 53 _ _ rfl A #[.bool uh, .int .i64 un, .int .i64 ux, .int .i64 ut, .bool um] rfl rfl HA26.out.1 Try.sizeDDV rfl (by simp [Value.oneCell']) ?_
                  intro wa27 hx kx zx
                  have BK27 : Hid (Below wz.heap.size wz wa27) := Lib.hid (BK26.out.trans (kx.below (B := wz.heap.size) (fun y hy e => by have := HA26.out.2; omega) BK26.out.size))
                  have HA27 := Lib.hid (And.intro hx HA26.out.2)
                  have HB27 := Lib.hid (And.intro (kx.at HB26.out.1 (fun e => HAB.out (by omega))) HB26.out.2)
                  have hS1 : wa27.cell? ⟨R, 0, none⟩ = some (.slice x.ad x.ids.length x.cap) := Lib.cell_of_heap (below_at' BK27.out HXZ.out) 0
                  refine hK _ _ (fun _ _ => hS1) ?_
                  clear hK hS hx kx zx BK26 HA26 HB26
                  have hS := hS1
                  clear hS1
                  refine till_one 13 rfl (by kernel_rfl) (fun K hK => ?_)
                  · simp only [List.getElem_toArray, List.getElem_cons_succ, List.getElem_cons_zero]
                    rw [if_pos (by rfl)]
                    refine wp_store_row_g (t := 64) (old := #[.bool false, .int .i64 0, .int .i64 0, .int .i64 0, .bool false]) 64 _ _ rfl B #[.bool uh, .int .i64 un, .int .i64 ux, .int .i64 ut, .bool um] rfl rfl HB27.out.1 Try.sizeRDV rfl (by simp [Value.oneCell']) ?_
                    intro wa28 hx kx zx
                    have BK28 : Hid (Below wz.heap.size wz wa28) := Lib.hid (BK27.out.trans (kx.below (B := wz.heap.size) (fun y hy e => by have := HB27.out.2; omega) BK27.out.size))
                    have HB28 := Lib.hid (And.intro hx HB27.out.2)
                    have HA28 := Lib.hid (And.intro (kx.at HA27.out.1 (fun e => HAB.out (by omega))) HA27.out.2)
                    have hS1 : wa28.cell? ⟨R, 0, none⟩ = some (.slice x.ad x.ids.length x.cap) := Lib.cell_of_heap (below_at' BK28.out HXZ.out) 0
                    refine hK _ _ (fun _ _ => hS1) ?_
                    clear hK hS hx kx zx BK27 HB27 HA27
                    have hS := hS1
                    clear hS1
                    refine till_done (by kernel_rfl) ?_ _
                    exact hfin _ _ _ ⟨BK28.out, HA28.out.1, HB28.out.1⟩
        · simp only [List.getElem_toArray, List.getElem_cons_succ, List.getElem_cons_zero]
          rw [if_pos (by rfl)]
          refine wp_alloc_g 53 rfl _ _ Try.zeroDDV rfl ?_
          intro A wa29 hm
          have hb := hm.out.below
          have BK29 := Lib.hid (BK0.out.trans (hb.mono BK0.out.size))
          have hS1 : wa29.cell? ⟨R, 0, none⟩ = some (.slice x.ad x.ids.length x.cap) := Lib.cell_of_heap (below_at' BK29.out HXZ.out) 0
          have HA29 : Hid (wa29.heap[A]? = some (.cells #[.bool false, .int .i64 0, .int .i64 0, .int .i64 0, .bool false] 53 (0, 0)) ∧ wz.heap.size ≤ A) := Lib.hid ⟨hm.out.cells, by rw [hm.out.eq]; exact BK0.out.size⟩
          refine hK _ _ (fun _ _ => hS1) ?_
          clear hK hS hb BK0 hm
          have hS := hS1
          clear hS1
          refine till_two 4 11 rfl rfl (by kernel_rfl) (fun K hK => ?_) (fun K hK => ?_)
          · simp only [List.getElem_toArray, List.getElem_cons_succ, List.getElem_cons_zero]
            rw [if_pos (by rfl)]
            go_simp
            obtain ⟨FG, pG⟩ := (TZ.out.later BK29.out).get1
            refine (dget_any (Look.of_st pG) HFT2.out.f t (ids := x.ids) HLEN.out HGX.out.i64 (HGX.out.rd.later (TZ.out.later BK29.out).below)).mono ?_
            rw [HU.out]
            rintro e wa30 ⟨rfl, hb⟩
            have BK30 := Lib.hid (BK29.out.trans (hb.mono BK29.out.size))
            have HA30 := Lib.hid (And.intro (below_at' hb HA29.out.1) HA29.out.2)
            have hS1 : wa30.cell? ⟨R, 0, none⟩ = some (.slice x.ad x.ids.length x.cap) := Lib.cell_of_heap (below_at' BK30.out HXZ.out) 0
            refine hK _ _ (fun _ _ => hS1) ?_
            clear hK hS hb BK29 pG HA29
            have hS := hS1
            clear hS1
            refine till_two 9 11 rfl rfl (by kernel_rfl) (fun K hK => ?_) (fun K hK => ?_)
            · simp only [List.getElem_toArray, List.getElem_cons_succ, List.getElem_cons_zero]
              rw [if_pos (by rfl)]
              go_simp
              obtain ⟨FG, pG⟩ := (TZ.out.later BK30.out).get2
              refine (rget28_any pG HSZ2.out HFT2.out t (ids := x.ids) HLEN.out HGX.out.i64 (HGX.out.rd.later (TZ.out.later BK30.out).below)).mono ?_
              rw [HU.out]
              rintro e wa31 ⟨rfl, hb⟩
              have BK31 := Lib.hid (BK30.out.trans (hb.mono BK30.out.size))
              have HA31 := Lib.hid (And.intro (below_at' hb HA30.out.1) HA30.out.2)
              have hS1 : wa31.cell? ⟨R, 0, none⟩ = some (.slice x.ad x.ids.length x.cap) := Lib.cell_of_heap (below_at' BK31.out HXZ.out) 0
              refine hK _ _ (fun _ _ => hS1) ?_
              clear hK hS hb BK30 pG HA30
              have hS := hS1
              clear hS1
              refine till_one 11 rfl (by kernel_rfl) (fun K hK => ?_)
              · simp only [List.getElem_toArray, List.getElem_cons_succ, List.getElem_cons_zero]
                rw [if_pos (by rfl)]
                refine wp_alloc_g 64 rfl _ _ Try.zeroRDV rfl ?_
                intro B wa32 hm
                have hb := hm.out.below
                have BK32 := Lib.hid (BK31.out.trans (hb.mono BK31.out.size))
                have HA32 := Lib.hid (And.intro (below_at' hb HA31.out.1) HA31.out.2)
                have hS1 : wa32.cell? ⟨R, 0, none⟩ = some (.slice x.ad x.ids.length x.cap) := Lib.cell_of_heap (below_at' BK32.out HXZ.out) 0
                have HB32 : Hid (wa32.heap[B]? = some (.cells #[.bool false, .int .i64 0, .int .i64 0, .int .i64 0, .bool false] 64 (0, 0)) ∧ wz.heap.size ≤ B) := Lib.hid ⟨hm.out.cells, by rw [hm.out.eq]; exact BK31.out.size⟩
                have HAB : Hid (A ≠ B) := Lib.hid (by have h8 := heap_lt HA31.out.1; have h9 := hm.out.eq; omega)
                refine hK _ _ (fun _ _ => hS1) ?_
                clear hK hS hb BK31 hm HA31
                have hS := hS1
                clear hS1
                refine till_one 12 rfl (by kernel_rfl) (fun K hK => ?_)
                · simp only [List.getElem_toArray, List.getElem_cons_succ, List.getElem_cons_zero]
                  rw [if_pos (by rfl)]
                  refine wp_store_row_g (t := 53) (old := #[.bool false, .int .i64 0, .int .i64 0, .int .i64 0, .bool false]) 53 _ _ rfl A #[.bool uh, .int .i64 un, .int .i64 ux, .int .i64 ut, .bool um] rfl rfl HA32.out.1 Try.sizeDDV rfl (by simp [Value.oneCell']) ?_
                  intro wa33 hx kx zx
                  have BK33 : Hid (Below wz.heap.size wz wa33) := Lib.hid (BK32.out.trans (kx.below (B := wz.heap.size) (fun y hy e => by have := HA32.out.2; omega) BK32.out.size))
                  have HA33 := Lib.hid (And.intro hx HA32.out.2)
                  have HB33 := Lib.hid (And.intro (kx.at HB32.out.1 (fun e => HAB.out (by omega))) HB32.out.2)
                  have hS1 : wa33.cell? ⟨R, 0, none⟩ = some (.slice x.ad x.ids.length x.cap) := Lib.cell_of_heap (below_at' BK33.out HXZ.out) 0
                  refine hK _ _ (fun _ _ => hS1) ?_
                  clear hK hS hx kx zx BK32 HA32 HB32
                  have hS := hS1
                  clear hS1
                  refine till_one 13 rfl (by kernel_rfl) (fun K hK => ?_)
                  · simp only [List.getElem_toArray, List.getElem_cons_succ, List.getElem_cons_zero]
                    rw [if_pos (by rfl)]
                    refine wp_store_row_g (t := 64) (old := #[.bool false, .int .i64 0, .int .i64 0, .int .i64 0, .bool false]) 64 _ _ rfl B #[.bool uh, .int .i64 un, .int .i64 ux, .int .i64 ut, .bool um] rfl rfl HB33.out.1 Try.sizeRDV rfl (by simp [Value.oneCell']) ?_
                    intro wa34 hx kx zx
                    have BK34 : Hid (Below wz.heap.size wz wa34) := Lib.hid (BK33.out.trans (kx.below (B := wz.heap.size) (fun y hy e => by have := HB33.out.2; omega) BK33.out.size))
                    have HB34 := Lib.hid (And.intro hx HB33.out.2)
                    have HA34 := Lib.hid (And.intro (kx.at HA33.out.1 (fun e => HAB.out (by omega))) HA33.out.2)
                    have hS1 : wa34.cell? ⟨R, 0, none⟩ = some (.slice x.ad x.ids.length x.cap) := Lib.cell_of_heap (below_at' BK34.out HXZ.out) 0
                    refine hK _ _ (fun _ _ => hS1) ?_
                    clear hK hS hx kx zx BK33 HB33 HA33
                    have hS := hS1
                    clear hS1
                    refine till_done (by kernel_rfl) ?_ _
                    exact hfin _ _ _ ⟨BK34.out, HA34.out.1, HB34.out.1⟩
            · simp only [List.getElem_toArray, List.getElem_cons_succ, List.getElem_cons_zero]
              rw [if_pos (by rfl)]
              refine wp_alloc_g 64 rfl _ _ Try.zeroRDV rfl ?_
              intro B wa35 hm
              have hb := hm.out.below
              have BK35 := Lib.hid (BK30.out.trans (hb.mono BK30.out.size))
              have HA35 := Lib.hid (And.intro (below_at' hb HA30.out.1) HA30.out.2)
              have hS1 : wa35.cell? ⟨R, 0, none⟩ = some (.slice x.ad x.ids.length x.cap) := Lib.cell_of_heap (below_at' BK35.out HXZ.out) 0
              have HB35 : Hid (wa35.heap[B]? = some (.cells #[.bool false, .int .i64 0, .int .i64 0, .int .i64 0, .bool false] 64 (0, 0)) ∧ wz.heap.size ≤ B) := Lib.hid ⟨hm.out.cells, by rw [hm.out.eq]; exact BK30.out.size⟩
              have HAB : Hid (A ≠ B) := Lib.hid (by have h8 := heap_lt HA30.out.1; have h9 := hm.out.eq; omega)
              refine hK _ _ (fun _ _ => hS1) ?_
              clear hK hS hb BK30 hm HA30
              have hS := hS1
              clear hS1
              refine till_one 9 rfl (by kernel_rfl) (fun K hK => ?_)
              · simp only [List.getElem_toArray, List.getElem_cons_succ, List.getElem_cons_zero]
                rw [if_pos (by rfl)]
                go_simp
                obtain ⟨FG, pG⟩ := (TZ.out.later BK35.out).get2
                refine (rget28_any pG HSZ2.out HFT2.out t (ids := x.ids) HLEN.out HGX.out.i64 (HGX.out.rd.later (TZ.out.later BK35.out).below)).mono ?_
                rw [HU.out]
                rintro e wa36 ⟨rfl, hb⟩
                have BK36 := Lib.hid (BK35.out.trans (hb.mono BK35.out.size))
                have HA36 := Lib.hid (And.intro (below_at' hb HA35.out.1) HA35.out.2)
                have HB36 := Lib.hid (And.intro (below_at' hb HB35.out.1) HB35.out.2)
                have hS1 : wa36.cell? ⟨R, 0, none⟩ = some (.slice x.ad x.ids.length x.cap) := Lib.cell_of_heap (below_at' BK36.out HXZ.out) 0
                refine hK _ _ (fun _ _ => hS1) ?_
                clear hK hS hb BK35 pG HA35 HB35
                have hS := hS1
                clear hS1
                refine till_one 12 rfl (by kernel_rfl) (fun K hK => ?_)
                · simp only [List.getElem_toArray, List.getElem_cons_succ, List.getElem_cons_zero]
                  rw [if_pos (by rfl)]
                  refine wp_store_row_g (t := 53) (old := #[.bool false, .int .i64 0, .int .i64 0, .int .i64 0, .bool false]) 53 _ _ rfl A #[.bool uh, .int .i64 un, .int .i64 ux, .int .i64 ut, .bool um] rfl rfl HA36.out.1 Try.sizeDDV rfl (by simp [Value.oneCell']) ?_
                  intro wa37 hx kx zx
                  have BK37 : Hid (Below wz.heap.size wz wa37) := Lib.hid (BK36.out.trans (kx.below (B := wz.heap.size) (fun y hy e => by have := HA36.out.2; omega) BK36.out.size))
                  have HA37 := Lib.hid (And.intro hx HA36.out.2)
                  have HB37 := Lib.hid (And.intro (kx.at HB36.out.1 (fun e => HAB.out (by omega))) HB36.out.2)
                  have hS1 : wa37.cell? ⟨R, 0, none⟩ = some (.slice x.ad x.ids.length x.cap) := Lib.cell_of_heap (below_at' BK37.out HXZ.out) 0
                  refine hK _ _ (fun _ _ => hS1) ?_
                  clear hK hS hx kx zx BK36 HA36 HB36
                  have hS := hS1
                  clear hS1
                  refine till_one 13 rfl (by kernel_rfl) (fun K hK => ?_)
                  · simp only [List.getElem_toArray, List.getElem_cons_succ, List.getElem_cons_zero]
                    rw [if_pos (by rfl)]
                    refine wp_store_row_g (t := 64) (old := #[.bool false, .int .i64 0, .int .i64 0, .int .i64 0, .bool false]) 64 _ _ rfl B #[.bool uh, .int .i64 un, .int .i64 ux, .int .i64 ut, .bool um] rfl rfl HB37.out.1 Try.sizeRDV rfl (by simp [Value.oneCell']) ?_
                    intro wa38 hx kx zx
                    have BK38 : Hid (Below wz.heap.size wz wa38) := Lib.hid (BK37.out.trans (kx.below (B := wz.heap.size) (fun y hy e => by have := HB37.out.2; omega) BK37.out.size))
                    have HB38 := Lib.hid (And.intro hx HB37.out.2)
                    have HA38 := Lib.hid (And.intro (kx.at HA37.out.1 (fun e => HAB.out (by omega))) HA37.out.2)
                    have hS1 : wa38.cell? ⟨R, 0, none⟩ = some (.slice x.ad x.ids.length x.cap) := Lib.cell_of_heap (below_at' BK38.out HXZ.out) 0
                    refine hK _ _ (fun _ _ => hS1) ?_
                    clear hK hS hx kx zx BK37 HB37 HA37
                    have hS := hS1
                    clear hS1
                    refine till_done (by kernel_rfl) ?_ _
                    exact hfin _ _ _ ⟨BK38.out, HA38.out.1, HB38.out.1⟩
          · simp only [List.getElem_toArray, List.getElem_cons_succ, List.getElem_cons_zero]
            rw [if_pos (by rfl)]
            refine wp_alloc_g 64 rfl _ _ Try.zeroRDV rfl ?_
            intro B wa39 hm
            have hb := hm.out.below
            have BK39 := Lib.hid (BK29.out.trans (hb.mono BK29.out.size))
            have HA39 := Lib.hid (And.intro (below_at' hb HA29.out.1) HA29.out.2)
            have hS1 : wa39.cell? ⟨R, 0, none⟩ = some (.slice x.ad x.ids.length x.cap) := Lib.cell_of_heap (below_at' BK39.out HXZ.out) 0
            have HB39 : Hid (wa39.heap[B]? = some (.cells #[.bool false, .int .i64 0, .int .i64 0, .int .i64 0, .bool false] 64 (0, 0)) ∧ wz.heap.size ≤ B) := Lib.hid ⟨hm.out.cells, by rw [hm.out.eq]; exact BK29.out.size⟩
            have HAB : Hid (A ≠ B) := Lib.hid (by have h8 := heap_lt HA29.out.1; have h9 := hm.out.eq; omega)
            refine hK _ _ (fun _ _ => hS1) ?_
            clear hK hS hb BK29 hm HA29
            have hS := hS1
            clear hS1
            refine till_one 4 rfl (by kernel_rfl) (fun K hK => ?_)
            · simp only [List.getElem_toArray, List.getElem_cons_succ, List.getElem_cons_zero]
              rw [if_pos (by rfl)]
              go_simp
              obtain ⟨FG, pG⟩ := (TZ.out.later BK39.out).get1
              refine (dget_any (Look.of_st pG) HFT2.out.f t (ids := x.ids) HLEN.out HGX.out.i64 (HGX.out.rd.later (TZ.out.later BK39.out).below)).mono ?_
              rw [HU.out]
              rintro e wa40 ⟨rfl, hb⟩
              have BK40 := Lib.hid (BK39.out.trans (hb.mono BK39.out.size))
              have HA40 := Lib.hid (And.intro (below_at' hb HA39.out.1) HA39.out.2)
              have HB40 := Lib.hid (And.intro (below_at' hb HB39.out.1) HB39.out.2)
              have hS1 : wa40.cell? ⟨R, 0, none⟩ = some (.slice x.ad x.ids.length x.cap) := Lib.cell_of_heap (below_at' BK40.out HXZ.out) 0
              refine hK _ _ (fun _ _ => hS1) ?_
              clear hK hS hb BK39 pG HA39 HB39
              have hS := hS1
              clear hS1
              refine till_one 9 rfl (by kernel_rfl) (fun K hK => ?_)
              · simp only [List.getElem_toArray, List.getElem_cons_succ, List.getElem_cons_zero]
                rw [if_pos (by rfl)]
                go_simp
                obtain ⟨FG, pG⟩ := (TZ.out.later BK40.out).get2
                refine (rget28_any pG HSZ2.out HFT2.out t (ids := x.ids) HLEN.out HGX.out.i64 (HGX.out.rd.later (TZ.out.later BK40.out).below)).mono ?_
                rw [HU.out]
                rintro e wa41 ⟨rfl, hb⟩
                have BK41 := Lib.hid (BK40.out.trans (hb.mono BK40.out.size))
                have HA41 := Lib.hid (And.intro (below_at' hb HA40.out.1) HA40.out.2)
                have HB41 := Lib.hid (And.intro (below_at' hb HB40.out.1) HB40.out.2)
                have hS1 : wa41.cell? ⟨R, 0, none⟩ = some (.slice x.ad x.ids.length x.cap) := Lib.cell_of_heap (below_at' BK41.out HXZ.out) 0
                refine hK _ _ (fun _ _ => hS1) ?_
                clear hK hS hb BK40 pG HA40 HB40
                have hS := hS1
                clear hS1
                refine till_one 12 rfl (by kernel_rfl) (fun K hK => ?_)
                · simp only [List.getElem_toArray, List.getElem_cons_succ, List.getElem_cons_zero]
                  rw [if_pos (by rfl)]
                  refine wp_store_row_g (t := 53) (old := #[.bool false, .int .i64 0, .int .i64 0, .int .i64 0, .bool false]) 53 _ _ rfl A #[.bool uh, .int .i64 un, .int .i64 ux, .int .i64 ut, .bool um] rfl rfl HA41.out.1 Try.sizeDDV rfl (by simp [Value.oneCell']) ?_
                  intro wa42 hx kx zx
                  have BK42 : Hid (Below wz.heap.size wz wa42) := Lib.hid (BK41.out.trans (kx.below (B := wz.heap.size) (fun y hy e => by have := HA41.out.2; omega) BK41.out.size))
                  have HA42 := Lib.hid (And.intro hx HA41.out.2)
                  have HB42 := Lib.hid (And.intro (kx.at HB41.out.1 (fun e => HAB.out (by omega))) HB41.out.2)
                  have hS1 : wa42.cell? ⟨R, 0, none⟩ = some (.slice x.ad x.ids.length x.cap) := Lib.cell_of_heap (below_at' BK42.out HXZ.out) 0
                  refine hK _ _ (fun _ _ => hS1) ?_
                  clear hK hS hx kx zx BK41 HA41 HB41
                  have hS := hS1
                  clear hS1
                  refine till_one 13 rfl (by kernel_rfl) (fun K hK => ?_)
                  · simp only [List.getElem_toArray, List.getElem_cons_succ, List.getElem_cons_zero]
                    rw [if_pos (by rfl)]
                    refine wp_store_row_g (t := 64) (old := #[.bool false, .int .i64 0, .int .i64 0, .int .i64 0, .bool false]) 64 _ _ rfl B #[.bool uh, .int .i64 un, .int .i64 ux, .int .i64 ut, .bool um] rfl rfl HB42.out.1 Try.sizeRDV rfl (by simp [Value.oneCell']) ?_
                    intro wa43 hx kx zx
                    have BK43 : Hid (Below wz.heap.size wz wa43) := Lib.hid (BK42.out.trans (kx.below (B := wz.heap.size) (fun y hy e => by have := HB42.out.2; omega) BK42.out.size))
                    have HB43 := Lib.hid (And.intro hx HB42.out.2)
                    have HA43 := Lib.hid (And.intro (kx.at HA42.out.1 (fun e => HAB.out (by omega))) HA42.out.2)
                    have hS1 : wa43.cell? ⟨R, 0, none⟩ = some (.slice x.ad x.ids.length x.cap) := Lib.cell_of_heap (below_at' BK43.out HXZ.out) 0
                    refine hK _ _ (fun _ _ => hS1) ?_
                    clear hK hS hx kx zx BK42 HB42 HA42
                    have hS := hS1
                    clear hS1
                    refine till_done (by kernel_rfl) ?_ _
                    exact hfin _ _ _ ⟨BK43.out, HA43.out.1, HB43.out.1⟩
        · simp only [List.getElem_toArray, List.getElem_cons_succ, List.getElem_cons_zero]
          rw [if_pos (by rfl)]
          refine wp_alloc_g 64 rfl _ _ Try.zeroRDV rfl ?_
          intro B wa44 hm
          have hb := hm.out.below
          have BK44 := Lib.hid (BK0.out.trans (hb.mono BK0.out.size))
          have hS1 : wa44.cell? ⟨R, 0, none⟩ = some (.slice x.ad x.ids.length x.cap) := Lib.cell_of_heap (below_at' BK44.out HXZ.out) 0
          have HB44 : Hid (wa44.heap[B]? = some (.cells #[.bool false, .int .i64 0, .int .i64 0, .int .i64 0, .bool false] 64 (0, 0)) ∧ wz.heap.size ≤ B) := Lib.hid ⟨hm.out.cells, by rw [hm.out.eq]; exact BK0.out.size⟩
          refine hK _ _ (fun _ _ => hS1) ?_
          clear hK hS hb BK0 hm
          have hS := hS1
          clear hS1
          refine till_two 4 10 rfl rfl (by kernel_rfl) (fun K hK => ?_) (fun K hK => ?_)
          · simp only [List.getElem_toArray, List.getElem_cons_succ, List.getElem_cons_zero]
            rw [if_pos (by rfl)]
            go_simp
            obtain ⟨FG, pG⟩ := (TZ.out.later BK44.out).get1
            refine (dget_any (Look.of_st pG) HFT2.out.f t (ids := x.ids) HLEN.out HGX.out.i64 (HGX.out.rd.later (TZ.out.later BK44.out).below)).mono ?_
            rw [HU.out]
            rintro e wa45 ⟨rfl, hb⟩
            have BK45 := Lib.hid (BK44.out.trans (hb.mono BK44.out.size))
            have HB45 := Lib.hid (And.intro (below_at' hb HB44.out.1) HB44.out.2)
            have hS1 : wa45.cell? ⟨R, 0, none⟩ = some (.slice x.ad x.ids.length x.cap) := Lib.cell_of_heap (below_at' BK45.out HXZ.out) 0
            refine hK _ _ (fun _ _ => hS1) ?_
            clear hK hS hb BK44 pG HB44
            have hS := hS1
            clear hS1
            refine till_two 9 10 rfl rfl (by kernel_rfl) (fun K hK => ?_) (fun K hK => ?_)
            · simp only [List.getElem_toArray, List.getElem_cons_succ, List.getElem_cons_zero]
              rw [if_pos (by rfl)]
              go_simp
              obtain ⟨FG, pG⟩ := (TZ.out.later BK45.out).get2
              refine (rget28_any pG HSZ2.out HFT2.out t (ids := x.ids) HLEN.out HGX.out.i64 (HGX.out.rd.later (TZ.out.later BK45.out).below)).mono ?_
              rw [HU.out]
              rintro e wa46 ⟨rfl, hb⟩
              have BK46 := Lib.hid (BK45.out.trans (hb.mono BK45.out.size))
              have HB46 := Lib.hid (And.intro (below_at' hb HB45.out.1) HB45.out.2)
              have hS1 : wa46.cell? ⟨R, 0, none⟩ = some (.slice x.ad x.ids.length x.cap) := Lib.cell_of_heap (below_at' BK46.out HXZ.out) 0
              refine hK _ _ (fun _ _ => hS1) ?_
              clear hK hS hb BK45 pG HB45
              have hS := hS1
              clear hS1
              refine till_one 10 rfl (by kernel_rfl) (fun K hK => ?_)
              · simp only [List.getElem_toArray, List.getElem_cons_succ, List.getElem_cons_zero]
                rw [if_pos (by rfl)]
                refine wp_alloc_g 53 rfl _ _ Try.zeroDDV rfl ?_
                intro A wa47 hm
                have hb := hm.out.below
                have BK47 := Lib.hid (BK46.out.trans (hb.mono BK46.out.size))
                have HB47 := Lib.hid (And.intro (below_at' hb HB46.out.1) HB46.out.2)
                have hS1 : wa47.cell? ⟨R, 0, none⟩ = some (.slice x.ad x.ids.length x.cap) := Lib.cell_of_heap (below_at' BK47.out HXZ.out) 0
                have HA47 : Hid (wa47.heap[A]? = some (.cells #[.bool false, .int .i64 0, .int .i64 0, .int .i64 0, .bool false] 53 (0, 0)) ∧ wz.heap.size ≤ A) := Lib.hid ⟨hm.out.cells, by rw [hm.out.eq]; exact BK46.out.size⟩
                have HAB : Hid (A ≠ B) := Lib.hid (by have h8 := heap_lt HB46.out.1; have h9 := hm.out.eq; omega)
                refine hK _ _ (fun _ _ => hS1) ?_
                clear hK hS hb BK46 hm HB46
                have hS := hS1
                clear hS1
                refine till_one 12 rfl (by kernel_rfl) (fun K hK => ?_)
                · simp only [List.getElem_toArray, List.getElem_cons_succ, List.getElem_cons_zero]
                  rw [if_pos (by rfl)]
                  refine wp_store_row_g (t := 53) (old := #[.bool false, .int .i64 0, .int .i64 0, .int .i64 0, .bool false]) 53 _ _ rfl A #[.bool uh, .int .i64 un, .int .i64 ux, .int .i64 ut, .bool um] rfl rfl HA47.out.1 Try.sizeDDV rfl (by simp [Value.oneCell']) ?_
                  intro wa48 hx kx zx
                  have BK48 : Hid (Below wz.heap.size wz wa48) := Lib.hid (BK47.out.trans (kx.below (B := wz.heap.size) (fun y hy e => by have := HA47.out.2; omega) BK47.out.size))
                  have HA48 := Lib.hid (And.intro hx HA47.out.2)
                  have HB48 := Lib.hid (And.intro (kx.at HB47.out.1 (fun e => HAB.out (by omega))) HB47.out.2)
                  have hS1 : wa48.cell? ⟨R, 0, none⟩ = some (.slice x.ad x.ids.length x.cap) := Lib.cell_of_heap (below_at' BK48.out HXZ.out) 0
                  refine hK _ _ (fun _ _ => hS1) ?_
                  clear hK hS hx kx zx BK47 HA47 HB47
                  have hS := hS1
                  clear hS1
                  refine till_one 13 rfl (by kernel_rfl) (fun K hK => ?_)
                  · simp only [List.getElem_toArray, List.getElem_cons_succ, List.getElem_cons_zero]
                    rw [if_pos (by rfl)]
                    refine wp_store_row_g (t := 64) (old := #[.bool false, .int .i64 0, .int .i64 0, .int .i64 0, .bool false]) 64 _ _ rfl B #[.bool uh, .int .i64 un, .int .i64 ux, .int .i64 ut, .bool um] rfl rfl HB48.out.1 Try.sizeRDV rfl (by simp [Value.oneCell']) ?_
                    intro wa49 hx kx zx
                    have BK49 : Hid (Below wz.heap.size wz wa49) := Lib.hid (BK48.out.trans (kx.below (B := wz.heap.size) (fun y hy e => by have := HB48.out.2; omega) BK48.out.size))
                    have HB49 := Lib.hid (And.intro hx HB48.out.2)
                    have HA49 := Lib.hid (And.intro (kx.at HA48.out.1 (fun e => HAB.out (by omega))) HA48.out.2)
                    have hS1 : wa49.cell? ⟨R, 0, none⟩ = some (.slice x.ad x.ids.length x.cap) := Lib.cell_of_heap (below_at' BK49.out HXZ.out) 0
                    refine hK _ _ (fun _ _ => hS1) ?_
                    clear hK hS hx kx zx BK48 HB48 HA48
                    have hS := hS1
                    clear hS1
                    refine till_done (by kernel_rfl) ?_ _
                    exact hfin _ _ _ ⟨BK49.out, HA49.out.1, HB49.out.1⟩
            · simp only [List.getElem_toArray, List.getElem_cons_succ, List.getElem_cons_zero]
              rw [if_pos (by rfl)]
              refine wp_alloc_g 53 rfl _ _ Try.zeroDDV rfl ?_
              intro A wa50 hm
              have hb := hm.out.below
              have BK50 := Lib.hid (BK45.out.trans (hb.mono BK45.out.size))
              have HB50 := Lib.hid (And.intro (below_at' hb HB45.out.1) HB45.out.2)
              have hS1 : wa50.cell? ⟨R, 0, none⟩ = some (.slice x.ad x.ids.length x.cap) := Lib.cell_of_heap (below_at' BK50.out HXZ.out) 0
              have HA50 : Hid (wa50.heap[A]? = some (.cells #[.bool false, .int .i64 0, .int .i64 0, .int .i64 0, .bool false] 53 (0, 0)) ∧ wz.heap.size ≤ A) := Lib.hid ⟨hm.out.cells, by rw [hm.out.eq]; exact BK45.out.size⟩
              have HAB : Hid (A ≠ B) := Lib.hid (by have h8 := heap_lt HB45.out.1; have h9 := hm.out.eq; omega)
              refine hK _ _ (fun _ _ => hS1) ?_
              clear hK hS hb BK45 hm HB45
              have hS := hS1
              clear hS1
              refine till_one 9 rfl (by kernel_rfl) (fun K hK => ?_)
              · simp only [List.getElem_toArray, List.getElem_cons_succ, List.getElem_cons_zero]
                rw [if_pos (by rfl)]
                go_simp
                obtain ⟨FG, pG⟩ := (TZ.out.later BK50.out).get2
                refine (rget28_any pG HSZ2.out HFT2.out t (ids := x.ids) HLEN.out HGX.out.i64 (HGX.out.rd.later (TZ.out.later BK50.out).below)).mono ?_
                rw [HU.out]
                rintro e wa51 ⟨rfl, hb⟩
                have BK51 := Lib.hid (BK50.out.trans (hb.mono BK50.out.size))
                have HA51 := Lib.hid (And.intro (below_at' hb HA50.out.1) HA50.out.2)
                have HB51 := Lib.hid (And.intro (below_at' hb HB50.out.1) HB50.out.2)
                have hS1 : wa51.cell? ⟨R, 0, none⟩ = some (.slice x.ad x.ids.length x.cap) := Lib.cell_of_heap (below_at' BK51.out HXZ.out) 0
                refine hK _ _ (fun _ _ => hS1) ?_
                clear hK hS hb BK50 pG HA50 HB50
                have hS := hS1
                clear hS1
                refine till_one 12 rfl (by kernel_rfl) (fun K hK => ?_)
                · simp only [List.getElem_toArray, List.getElem_cons_succ, List.getElem_cons_zero]
                  rw [if_pos (by rfl)]
                  refine wp_store_row_g (t := 53) (old := #[.bool false, .int .i64 0, .int .i64 0, .int .i64 0, .bool false]) 53 _ _ rfl A #[.bool uh, .int .i64 un, .int .i64 ux, .int .i64 ut, .bool um] rfl rfl HA51.out.1 Try.sizeDDV rfl (by simp [Value.oneCell']) ?_
                  intro wa52 hx kx zx
                  have BK52 : Hid (Below wz.heap.size wz wa52) := Lib.hid (BK51.out.trans (kx.below (B := wz.heap.size) (fun y hy e => by have := HA51.out.2; omega) BK51.out.size))
                  have HA52 := Lib.hid (And.intro hx HA51.out.2)
                  have HB52 := Lib.hid (And.intro (kx.at HB51.out.1 (fun e => HAB.out (by omega))) HB51.out.2)
                  have hS1 : wa52.cell? ⟨R, 0, none⟩ = some (.slice x.ad x.ids.length x.cap) := Lib.cell_of_heap (below_at' BK52.out HXZ.out) 0
                  refine hK _ _ (fun _ _ => hS1) ?_
                  clear hK hS hx kx zx BK51 HA51 HB51
                  have hS := hS1
                  clear hS1
                  refine till_one 13 rfl (by kernel_rfl) (fun K hK => ?_)
                  · simp only [List.getElem_toArray, List.getElem_cons_succ, List.getElem_cons_zero]
                    rw [if_pos (by rfl)]
                    refine wp_store_row_g (t := 64) (old := #[.bool false, .int .i64 0, .int .i64 0, .int .i64 0, .bool false]) 64 _ _ rfl B #[.bool uh, .int .i64 un, .int .i64 ux, .int .i64 ut, .bool um] rfl rfl HB52.out.1 Try.sizeRDV rfl (by simp [Value.oneCell']) ?_
                    intro wa53 hx kx zx
                    have BK53 : Hid (Below wz.heap.size wz wa53) := Lib.hid (BK52.out.trans (kx.below (B := wz.heap.size) (fun y hy e => by have := HB52.out.2; omega) BK52.out.size))
                    have HB53 := Lib.hid (And.intro hx HB52.out.2)
                    have HA53 := Lib.hid (And.intro (kx.at HA52.out.1 (fun e => HAB.out (by omega))) HA52.out.2)
                    have hS1 : wa53.cell? ⟨R, 0, none⟩ = some (.slice x.ad x.ids.length x.cap) := Lib.cell_of_heap (below_at' BK53.out HXZ.out) 0
                    refine hK _ _ (fun _ _ => hS1) ?_
                    clear hK hS hx kx zx BK52 HB52 HA52
                    have hS := hS1
                    clear hS1
                    refine till_done (by kernel_rfl) ?_ _
                    exact hfin _ _ _ ⟨BK53.out, HA53.out.1, HB53.out.1⟩
          · simp only [List.getElem_toArray, List.getElem_cons_succ, List.getElem_cons_zero]
            rw [if_pos (by rfl)]
            refine wp_alloc_g 53 rfl _ _ Try.zeroDDV rfl ?_
            intro A wa54 hm
            have hb := hm.out.below
            have BK54 := Lib.hid (BK44.out.trans (hb.mono BK44.out.size))
            have HB54 := Lib.hid (And.intro (below_at' hb HB44.out.1) HB44.out.2)
            have hS1 : wa54.cell? ⟨R, 0, none⟩ = some (.slice x.ad x.ids.length x.cap) := Lib.cell_of_heap (below_at' BK54.out HXZ.out) 0
            have HA54 : Hid (wa54.heap[A]? = some (.cells #[.bool false, .int .i64 0, .int .i64 0, .int .i64 0, .bool false] 53 (0, 0)) ∧ wz.heap.size ≤ A) := Lib.hid ⟨hm.out.cells, by rw [hm.out.eq]; exact BK44.out.size⟩
            have HAB : Hid (A ≠ B) := Lib.hid (by have h8 := heap_lt HB44.out.1; have h9 := hm.out.eq; omega)
            refine hK _ _ (fun _ _ => hS1) ?_
            clear hK hS hb BK44 hm HB44
            have hS := hS1
            clear hS1
            refine till_one 4 rfl (by kernel_rfl) (fun K hK => ?_)
            · simp only [List.getElem_toArray, List.getElem_cons_succ, List.getElem_cons_zero]
              rw [if_pos (by rfl)]
              go_simp
              obtain ⟨FG, pG⟩ := (TZ.out.later BK54.out).get1
              refine (dget_any (Look.of_st pG) HFT2.out.f t (ids := x.ids) HLEN.out HGX.out.i64 (HGX.out.rd.later (TZ.out.later BK54.out).below)).mono ?_
              rw [HU.out]
              rintro e wa55 ⟨rfl, hb⟩
              have BK55 := Lib.hid (BK54.out.trans (hb.mono BK54.out.size))
              have HA55 := Lib.hid (And.intro (below_at' hb HA54.out.1) HA54.out.2)
              have HB55 := Lib.hid (And.intro (below_at' hb HB54.out.1) HB54.out.2)
              have hS1 : wa55.cell? ⟨R, 0, none⟩ = some (.slice x.ad x.ids.length x.cap) := Lib.cell_of_heap (below_at' BK55.out HXZ.out) 0
              refine hK _ _ (fun _ _ => hS1) ?_
              clear hK hS hb BK54 pG HA54 HB54
              have hS := hS1
              clear hS1
              refine till_one 9 rfl (by kernel_rfl) (fun K hK => ?_)
              · simp only [List.getElem_toArray, List.getElem_cons_succ, List.getElem_cons_zero]
                rw [if_pos (by rfl)]
                go_simp
                obtain ⟨FG, pG⟩ := (TZ.out.later BK55.out).get2
                refine (rget28_any pG HSZ2.out HFT2.out t (ids := x.ids) HLEN.out HGX.out.i64 (HGX.out.rd.later (TZ.out.later BK55.out).below)).mono ?_
                rw [HU.out]
                rintro e wa56 ⟨rfl, hb⟩
                have BK56 := Lib.hid (BK55.out.trans (hb.mono BK55.out.size))
                have HA56 := Lib.hid (And.intro (below_at' hb HA55.out.1) HA55.out.2)
                have HB56 := Lib.hid (And.intro (below_at' hb HB55.out.1) HB55.out.2)
                have hS1 : wa56.cell? ⟨R, 0, none⟩ = some (.slice x.ad x.ids.length x.cap) := Lib.cell_of_heap (below_at' BK56.out HXZ.out) 0
                refine hK _ _ (fun _ _ => hS1) ?_
                clear hK hS hb BK55 pG HA55 HB55
                have hS := hS1
                clear hS1
                refine till_one 12 rfl (by kernel_rfl) (fun K hK => ?_)
                · simp only [List.getElem_toArray, List.getElem_cons_succ, List.getElem_cons_zero]
                  rw [if_pos (by rfl)]
                  refine wp_store_row_g (t := 53) (old := #[.bool false, .int .i64 0, .int .i64 0, .int .i64 0, .bool false]) 53 _ _ rfl A #[.bool uh, .int .i64 un, .int .i64 ux, .int .i64 ut, .bool um] rfl rfl HA56.out.1 Try.sizeDDV rfl (by simp [Value.oneCell']) ?_
                  intro wa57 hx kx zx
                  have BK57 : Hid (Below wz.heap.size wz wa57) := Lib.hid (BK56.out.trans (kx.below (B := wz.heap.size) (fun y hy e => by have := HA56.out.2; omega) BK56.out.size))
                  have HA57 := Lib.hid (And.intro hx HA56.out.2)
                  have HB57 := Lib.hid (And.intro (kx.at HB56.out.1 (fun e => HAB.out (by omega))) HB56.out.2)
                  have hS1 : wa57.cell? ⟨R, 0, none⟩ = some (.slice x.ad x.ids.length x.cap) := Lib.cell_of_heap (below_at' BK57.out HXZ.out) 0
                  refine hK _ _ (fun _ _ => hS1) ?_
                  clear hK hS hx kx zx BK56 HA56 HB56
                  have hS := hS1
                  clear hS1
                  refine till_one 13 rfl (by kernel_rfl) (fun K hK => ?_)
                  · simp only [List.getElem_toArray, List.getElem_cons_succ, List.getElem_cons_zero]
                    rw [if_pos (by rfl)]
                    refine wp_store_row_g (t := 64) (old := #[.bool false, .int .i64 0, .int .i64 0, .int .i64 0, .bool false]) 64 _ _ rfl B #[.bool uh, .int .i64 un, .int .i64 ux, .int .i64 ut, .bool um] rfl rfl HB57.out.1 Try.sizeRDV rfl (by simp [Value.oneCell']) ?_
                    intro wa58 hx kx zx
                    have BK58 : Hid (Below wz.heap.size wz wa58) := Lib.hid (BK57.out.trans (kx.below (B := wz.heap.size) (fun y hy e => by have := HB57.out.2; omega) BK57.out.size))
                    have HB58 := Lib.hid (And.intro hx HB57.out.2)
                    have HA58 := Lib.hid (And.intro (kx.at HA57.out.1 (fun e => HAB.out (by omega))) HA57.out.2)
                    have hS1 : wa58.cell? ⟨R, 0, none⟩ = some (.slice x.ad x.ids.length x.cap) := Lib.cell_of_heap (below_at' BK58.out HXZ.out) 0
                    refine hK _ _ (fun _ _ => hS1) ?_
                    clear hK hS hx kx zx BK57 HB57 HA57
                    have hS := hS1
                    clear hS1
                    refine till_done (by kernel_rfl) ?_ _
                    exact hfin _ _ _ ⟨BK58.out, HA58.out.1, HB58.out.1⟩
      case h2 =>
        intro wf A B hf
        have HA := Lib.hid hf.2.1; have HB := Lib.hid hf.2.2; have TF := Lib.hid (TZ.out.later hf.1)
        clear hf hS TZ HXZ BK0
        dsimp only
        go_wp2_with (refine wpList_load_row rfl 53 _ rfl A rfl 53 _ _ _ HA.out Try.underlying53 rfl Try.sizeDDV ?_)
        obtain ⟨c, hc⟩ : ∃ c, c = settleD ⟨uh, un, ux, ut, um⟩ b := ⟨_, rfl⟩
        have HC := Lib.hid hc
        clear hc
        refine (dof_any ⟨uh, un, ux, ut, um⟩ b _).mono ?_
        rw [← HC.out]
        rintro e wg ⟨rfl, hb⟩
        have TG := Lib.hid (TF.out.later hb); have HAG := Lib.hid (below_at' hb HA.out); have HBG := Lib.hid (below_at' hb HB.out)
        clear hb TF HA HB
        go_wp2_with (refine wpList_load_row rfl 64 _ rfl B rfl 64 _ _ _ HBG.out Try.underlying64 rfl Try.sizeRDV ?_)
        refine (rof_any ⟨uh, un, ux, ut, um⟩ b _).mono ?_
        rw [← HC.out]
        rintro e wk ⟨rfl, hb⟩
        have TK := Lib.hid (TG.out.later hb); have HAK := Lib.hid (below_at' hb HAG.out); have HBK := Lib.hid (below_at' hb HBG.out)
        clear hb TG HAG HBG
        obtain ⟨ch, cn, cx, ct, cm⟩ := c
        obtain ⟨wm, hwm⟩ : ∃ wm, wm = wk.drew := ⟨_, rfl⟩
        have hbkm : Below wk.heap.size wk wm := by rw [hwm]; exact Below.drew (Below.refl _ _)
        have TM := Lib.hid (TK.out.later hbkm)
        have hS : wm.heap[A]? = some (.cells #[.bool uh, .int .i64 un, .int .i64 ux, .int .i64 ut, .bool um] 53 (0, 0)) ∧ wm.heap[B]? = some (.cells #[.bool uh, .int .i64 un, .int .i64 ux, .int .i64 ut, .bool um] 64 (0, 0)) := ⟨below_at' hbkm HAK.out, below_at' hbkm HBK.out⟩
        have n1 : (cn != cn) = false := by simp
        have n2 : (ch != ch) = false := by simp
        clear TK HAK HBK hbkm
        go_wp2_with fail
        refine wp_region_till (fun w' => w'.heap[A]? = some (.cells #[.bool uh, .int .i64 un, .int .i64 ux, .int .i64 ut, .bool um] 53 (0, 0)) ∧ w'.heap[B]? = some (.cells #[.bool uh, .int .i64 un, .int .i64 ux, .int .i64 ut, .bool um] 64 (0, 0))) 22 22 (by kernel_rfl) rfl ?_
        rw [← hwm]
        clear hwm
        refine till_take 0 (some 75) rfl rfl (by kernel_rfl) (by kernel_rfl) (by kernel_rfl) (by kernel_rfl) (by kernel_rfl) (by kernel_rfl) (fun _ _ _ h => h) (yields_load (by rfl) 53 _ rfl (.pointer (some ⟨A, 0, none⟩)) rfl (.agg #[.bool uh, .int .i64 un, .int .i64 ux, .int .i64 ut, .bool um]) (fun w' hS' => load_heap hS'.1 Try.underlying53 rfl Try.sizeDDV)) hS ?_
        go_frame
        refine till_take 1 (some 76) rfl rfl (by kernel_rfl) (by kernel_rfl) (by kernel_rfl) (by kernel_rfl) (by kernel_rfl) (by kernel_rfl) (fun _ _ _ h => h) (yields_load (by rfl) 64 _ rfl (.pointer (some ⟨B, 0, none⟩)) rfl (.agg #[.bool uh, .int .i64 un, .int .i64 ux, .int .i64 ut, .bool um]) (fun w' hS' => load_heap hS'.2 Try.underlying64 rfl Try.sizeRDV)) hS ?_
        go_frame
        refine till_take 2 (some 77) rfl rfl (by kernel_rfl) (by kernel_rfl) (by kernel_rfl) (by kernel_rfl) (by kernel_rfl) (by kernel_rfl) (fun _ _ _ h => h) (.inl ⟨by rfl, fun w' _ => (by go_simp; rfl)⟩) hS ?_
        go_frame
        refine till_take 3 (some 78) rfl rfl (by kernel_rfl) (by kernel_rfl) (by kernel_rfl) (by kernel_rfl) (by kernel_rfl) (by kernel_rfl) (fun _ _ _ h => h) (.inl ⟨by rfl, fun w' _ => (by go_simp; rfl)⟩) hS ?_
        go_frame
        refine till_take 4 (some 79) rfl rfl (by kernel_rfl) (by kernel_rfl) (by kernel_rfl) (by kernel_rfl) (by kernel_rfl) (by kernel_rfl) (fun _ _ _ h => h) (.inl ⟨by rfl, fun w' _ => (by go_simp; rfl)⟩) hS ?_
        go_frame
        refine till_take 5 (some 80) rfl rfl (by kernel_rfl) (by kernel_rfl) (by kernel_rfl) (by kernel_rfl) (by kernel_rfl) (by kernel_rfl) (fun _ _ _ h => h) (.inl ⟨by rfl, fun w' _ => (by go_simp; rfl)⟩) hS ?_
        go_frame
        refine till_take 6 (some 81) rfl rfl (by kernel_rfl) (by kernel_rfl) (by kernel_rfl) (by kernel_rfl) (by kernel_rfl) (by kernel_rfl) (fun _ _ _ h => h) (.inl ⟨by rfl, fun w' _ => (by go_simp; rfl)⟩) hS ?_
        go_frame
        refine till_take 7 (some 82) rfl rfl (by kernel_rfl) (by kernel_rfl) (by kernel_rfl) (by kernel_rfl) (by kernel_rfl) (by kernel_rfl) (fun _ _ _ h => h) (.inl ⟨by rfl, fun w' _ => (by go_simp; rfl)⟩) hS ?_
        go_frame
        refine till_take 8 (some 83) rfl rfl (by kernel_rfl) (by kernel_rfl) (by kernel_rfl) (by kernel_rfl) (by kernel_rfl) (by kernel_rfl) (fun _ _ _ h => h) (.inl ⟨by rfl, fun w' _ => (by go_simp; rfl)⟩) hS ?_
        go_frame
        refine till_take 9 (some 84) rfl rfl (by kernel_rfl) (by kernel_rfl) (by kernel_rfl) (by kernel_rfl) (by kernel_rfl) (by kernel_rfl) (fun _ _ _ h => h) (.inl ⟨by rfl, fun w' _ => (by go_simp; rfl)⟩) hS ?_
        go_frame
        refine till_take 10 (some 85) rfl rfl (by kernel_rfl) (by kernel_rfl) (by kernel_rfl) (by kernel_rfl) (by kernel_rfl) (by kernel_rfl) (fun _ _ _ h => h) (.inl ⟨by rfl, fun w' _ => (by go_simp; rfl)⟩) hS ?_
        go_frame
        refine till_take 11 (some 86) rfl rfl (by kernel_rfl) (by kernel_rfl) (by kernel_rfl) (by kernel_rfl) (by kernel_rfl) (by kernel_rfl) (fun _ _ _ h => h) (.inl ⟨by rfl, fun w' _ => (by go_simp; rfl)⟩) hS ?_
        go_frame
        refine till_take 12 (some 87) rfl rfl (by kernel_rfl) (by kernel_rfl) (by kernel_rfl) (by kernel_rfl) (by kernel_rfl) (by kernel_rfl) (fun _ _ _ h => h) (.inl ⟨by rfl, fun w' _ => (by go_simp; rfl)⟩) hS ?_
        go_frame
        refine till_take 13 (some 88) rfl rfl (by kernel_rfl) (by kernel_rfl) (by kernel_rfl) (by kernel_rfl) (by kernel_rfl) (by kernel_rfl) (fun _ _ _ h => h) (.inl ⟨by rfl, fun w' _ => (by go_simp; rfl)⟩) hS ?_
        go_frame
        refine till_take 14 (some 89) rfl rfl (by kernel_rfl) (by kernel_rfl) (by kernel_rfl) (by kernel_rfl) (by kernel_rfl) (by kernel_rfl) (fun _ _ _ h => h) (yields_load (by rfl) 53 _ rfl (.pointer (some ⟨A, 0, none⟩)) rfl (.agg #[.bool uh, .int .i64 un, .int .i64 ux, .int .i64 ut, .bool um]) (fun w' hS' => load_heap hS'.1 Try.underlying53 rfl Try.sizeDDV)) hS ?_
        go_frame
        refine till_take 15 (some 90) rfl rfl (by kernel_rfl) (by kernel_rfl) (by kernel_rfl) (by kernel_rfl) (by kernel_rfl) (by kernel_rfl) (fun _ _ _ h => h) (.inl ⟨by rfl, fun w' _ => (by go_simp; rfl)⟩) hS ?_
        go_frame
        refine till_take 17 (some 92) rfl rfl (by kernel_rfl) (by kernel_rfl) (by kernel_rfl) (by kernel_rfl) (by kernel_rfl) (by kernel_rfl) (fun _ _ _ h => h) (yields_load (by rfl) 64 _ rfl (.pointer (some ⟨B, 0, none⟩)) rfl (.agg #[.bool uh, .int .i64 un, .int .i64 ux, .int .i64 ut, .bool um]) (fun w' hS' => load_heap hS'.2 Try.underlying64 rfl Try.sizeRDV)) hS ?_
        go_frame
        refine till_take 18 (some 93) rfl rfl (by kernel_rfl) (by kernel_rfl) (by kernel_rfl) (by kernel_rfl) (by kernel_rfl) (by kernel_rfl) (fun _ _ _ h => h) (.inl ⟨by rfl, fun w' _ => (by go_simp; rfl)⟩) hS ?_
        go_frame
        refine till_one 16 rfl (by kernel_rfl) fun K hK => ?_
        simp only [List.getElem_toArray, List.getElem_cons_succ, List.getElem_cons_zero]
        rw [if_pos (by rfl)]
        go_simp
        refine (dsettle_any ⟨uh, un, ux, ut, um⟩ b _).mono ?_
        rw [← HC.out, show dvC ⟨ch, cn, cx, ct, cm⟩ = #[.bool ch, .int .i64 cn, .int .i64 cx, .int .i64 ct, .bool cm] from rfl]
        rintro e wn ⟨rfl, hb⟩
        have TM := Lib.hid (TM.out.later hb)
        have hS1 : wn.heap[A]? = some (.cells #[.bool uh, .int .i64 un, .int .i64 ux, .int .i64 ut, .bool um] 53 (0, 0)) ∧ wn.heap[B]? = some (.cells #[.bool uh, .int .i64 un, .int .i64 ux, .int .i64 ut, .bool um] 64 (0, 0)) := ⟨below_at' hb hS.1, below_at' hb hS.2⟩
        refine hK _ _ (fun _ _ => hS1) ?_
        clear hK hS hb
        have hS := hS1
        clear hS1
        refine till_one 19 rfl (by kernel_rfl) fun K hK => ?_
        simp only [List.getElem_toArray, List.getElem_cons_succ, List.getElem_cons_zero]
        rw [if_pos (by rfl)]
        go_simp
        refine (rsettle_any ⟨uh, un, ux, ut, um⟩ b _).mono ?_
        rw [← HC.out, show dvC ⟨ch, cn, cx, ct, cm⟩ = #[.bool ch, .int .i64 cn, .int .i64 cx, .int .i64 ct, .bool cm] from rfl]
        rintro e wo ⟨rfl, hb⟩
        have TM := Lib.hid (TM.out.later hb)
        have hS1 : wo.heap[A]? = some (.cells #[.bool uh, .int .i64 un, .int .i64 ux, .int .i64 ut, .bool um] 53 (0, 0)) ∧ wo.heap[B]? = some (.cells #[.bool uh, .int .i64 un, .int .i64 ux, .int .i64 ut, .bool um] 64 (0, 0)) := ⟨below_at' hb hS.1, below_at' hb hS.2⟩
        refine hK _ _ (fun _ _ => hS1) ?_
        clear hK hS hb
        have hS := hS1
        clear hS1
        refine till_take 20 (some 95) rfl rfl (by kernel_rfl) (by kernel_rfl) (by kernel_rfl) (by kernel_rfl) (by kernel_rfl) (by kernel_rfl) (fun _ _ _ h => h) (.inl ⟨by rfl, fun w' _ => (by go_simp; rfl)⟩) hS ?_
        go_frame
        refine till_take 21 (some 96) rfl rfl (by kernel_rfl) (by kernel_rfl) (by kernel_rfl) (by kernel_rfl) (by kernel_rfl) (by kernel_rfl) (fun _ _ _ h => h) (.inl ⟨by rfl, fun w' _ => (by go_simp; rfl)⟩) hS ?_
        go_frame
        refine till_done (by kernel_rfl) ?_ _
        clear hS n1 n2
        go_wp2_with fail
        go_roundw
        case rel => exact ⟨i + 1, by go_num, Nat.succ_le_of_lt HLT.out, Lib.hid (by rw [HAT2.out]; exact TM.out)⟩
        case measure => have hh : i < n := HLT.out; simp [intOf]; omega
    · have hfin : Two w wr g h (doDs t PS.new l) (doDs t PS.new l) := by
        have h8 := TW.out
        rwa [List.take_of_length_le (by rw [← HN.out]; omega)] at h8
      have hsz := sz_doDs t l PS.new
      obtain ⟨s, hs⟩ : ∃ s, s = doDs t PS.new l := ⟨_, rfl⟩
      rw [← hs] at hfin hsz
      have hsz2 : s.t.length < 1099511627776 := by
        have h5 : PS.new.sz = 0 := rfl
        have h6 := HL.out.1
        unfold PS.sz at hsz h5
        omega
      have HSZ := Lib.hid hsz2; have TF := Lib.hid hfin
      clear hfin hsz hs hsz2 TW
      obtain ⟨_, _, p1, p2, _, _, _⟩ := TF.out
      obtain ⟨vL, vP, hra, _⟩ := p2
      have P1 := Lib.hid p1; have HRA := Lib.hid hra
      have hS : wr.drew.cell? ⟨h, 0, none⟩ = some vL := Lib.cell_of_heap hra.head 0
      have hbd : Below wr.heap.size wr wr.drew := Below.drew (Below.refl _ _)
      clear p1 hra
      go_wp2_with fail
      clear hlt
      refine wp_region_till (fun w' => w'.cell? ⟨h, 0, none⟩ = some vL) 11 11 (by kernel_rfl) rfl ?_
      refine till_take 0 (some 98) rfl rfl (by kernel_rfl) (by kernel_rfl) (by kernel_rfl) (by kernel_rfl) (by kernel_rfl) (by kernel_rfl) (fun _ _ _ h => h) (.inl ⟨by rfl, fun w' _ => (by go_simp; rfl)⟩) hS ?_
      go_frame
      refine till_take 2 (some 100) rfl rfl (by kernel_rfl) (by kernel_rfl) (by kernel_rfl) (by kernel_rfl) (by kernel_rfl) (by kernel_rfl) (fun _ _ _ h => h) (.inl ⟨by rfl, fun w' _ => (by go_simp; rfl)⟩) hS ?_
      go_frame
      refine till_take 3 (some 101) rfl rfl (by kernel_rfl) (by kernel_rfl) (by kernel_rfl) (by kernel_rfl) (by kernel_rfl) (by kernel_rfl) (fun _ _ _ h => h) (.inl ⟨by rfl, fun w' _ => (by go_simp; rfl)⟩) hS ?_
      go_frame
      refine till_take 4 (some 102) rfl rfl (by kernel_rfl) (by kernel_rfl) (by kernel_rfl) (by kernel_rfl) (by kernel_rfl) (by kernel_rfl) (fun _ _ _ h => h) (.inl ⟨by rfl, fun w' _ => (by go_simp; rfl)⟩) hS ?_
      go_frame
      refine till_take 5 (some 103) rfl rfl (by kernel_rfl) (by kernel_rfl) (by kernel_rfl) (by kernel_rfl) (by kernel_rfl) (by kernel_rfl) (fun _ _ _ h => h) (.inl ⟨by rfl, fun w' hS' => (by have hc1 := hS'; go_simp; rfl)⟩) hS ?_
      go_frame
      refine till_one 1 rfl (by kernel_rfl) fun K hK => ?_
      simp only [List.getElem_toArray, List.getElem_cons_succ, List.getElem_cons_zero]
      rw [if_pos (by rfl)]
      go_simp
      refine (sall_any (P1.out.later hbd) HSZ.out).mono ?_
      rintro e wC ⟨vC, rfl, hlC, hbC, _⟩
      have hbx : Below wr.heap.size wr wC := hbd.trans (hbC.mono hbd.size)
      have hS2 : wC.cell? ⟨h, 0, none⟩ = some vL := Lib.cell_of_heap (below_at' hbx HRA.out.head) 0
      refine hK _ _ (fun _ _ => hS2) ?_
      clear hK hS hbd hbC
      have hS := hS2
      have hbd := hbx
      clear hS2 hbx
      refine till_one 6 rfl (by kernel_rfl) fun K hK => ?_
      simp only [List.getElem_toArray, List.getElem_cons_succ, List.getElem_cons_zero]
      rw [if_pos (by rfl)]
      go_simp
      have hsm := rsame_any (hlC.rd pairE_len) ((HRA.out.list.later hbd).rd pairE_len) HSZ.out HSZ.out
      rw [decide_eq_true rfl] at hsm
      refine hsm.mono ?_
      rintro e wD ⟨rfl, hbD⟩
      clear hsm hlC
      have hbx : Below wr.heap.size wr wD := hbd.trans (hbD.mono hbd.size)
      have hS2 : wD.cell? ⟨h, 0, none⟩ = some vL := Lib.cell_of_heap (below_at' hbx HRA.out.head) 0
      refine hK _ _ (fun _ _ => hS2) ?_
      clear hK hS hbd hbD
      have hS := hS2
      have hbd := hbx
      clear hS2 hbx
      refine till_take 7 (some 105) rfl rfl (by kernel_rfl) (by kernel_rfl) (by kernel_rfl) (by kernel_rfl) (by kernel_rfl) (by kernel_rfl) (fun _ _ _ h => h) (.inl ⟨by rfl, fun w' _ => (by go_simp; rfl)⟩) hS ?_
      go_frame
      refine till_one 8 rfl (by kernel_rfl) fun K hK => ?_
      simp only [List.getElem_toArray, List.getElem_cons_succ, List.getElem_cons_zero]
      rw [if_pos (by rfl)]
      go_simp
      refine (lives28_any _).mono ?_
      rintro e wE ⟨rfl, hbE⟩
      have hbx : Below wr.heap.size wr wE := hbd.trans (hbE.mono hbd.size)
      have hS2 : wE.cell? ⟨h, 0, none⟩ = some vL := Lib.cell_of_heap (below_at' hbx HRA.out.head) 0
      refine hK _ _ (fun _ _ => hS2) ?_
      clear hK hS hbd hbE
      have hS := hS2
      have hbd := hbx
      clear hS2 hbx
      refine till_take 9 (some 107) rfl rfl (by kernel_rfl) (by kernel_rfl) (by kernel_rfl) (by kernel_rfl) (by kernel_rfl) (by kernel_rfl) (fun _ _ _ h => h) (.inl ⟨by rfl, fun w' _ => (by go_simp; rfl)⟩) hS ?_
      go_frame
      refine till_take 10 (some 6) rfl rfl (by kernel_rfl) (by kernel_rfl) (by kernel_rfl) (by kernel_rfl) (by kernel_rfl) (by kernel_rfl) (fun _ _ _ h => h) (.inl ⟨by rfl, fun w' _ => (by go_simp; rfl)⟩) hS ?_
      go_frame
      refine till_done (by kernel_rfl) ?_ _
      have BWA := Lib.hid (TF.out.below.trans (hbd.mono TF.out.below.size))
      clear hS hbd
      go_wp2_with fail
      go_ret
      exact ⟨rfl, BWA.out⟩
end Go.Proofs.Ytohedljdkfmkdaa
