/- StoreActs: no condition. -/
import Derived.Test.YtggcmaegmkjedaaLawE
namespace Go.Proofs.Ytggcmaegmkjedaa
open Go.RowKit

theorem below_at {a b : World} (h : Below a.heap.size a b) {k : Nat} {o : Obj} (ho : a.heap[k]? = some o) : b.heap[k]? = some o := (Keep.of_below (S := fun _ => False) h).at ho id

set_option maxHeartbeats 8000000 in
set_option maxRecDepth 100000 in
theorem acts_any {w : World} {v1 v2 : Value} {l more : List ActP} (h1 : Rd w actE 4 v1 l) (h2 : Rd w actE 4 v2 more) :
    Calls Try.prog 7 #[v1, v2] w (Ret w (.bool true)) := by
  obtain ⟨ad1, cap1, e1, c1, c1'⟩ := h1.shape
  obtain ⟨ad2, cap2, e2, c2, c2'⟩ := h2.shape
  obtain ⟨n, hn⟩ : ∃ n, n = l.length := ⟨_, rfl⟩
  obtain ⟨m, hm⟩ : ∃ m, m = more.length := ⟨_, rfl⟩
  rw [← hn] at e1 c1
  rw [← hm] at e2 c2
  subst e1 e2
  have H1 := Lib.hid h1; have H2 := Lib.hid h2; have HN := Lib.hid hn; have HM := Lib.hid hm
  clear h1 h2 hn hm
  go_enter Try.func7, Try.ntmps7
  go_wp2_with fail
  refine (light_any H1.out).mono ?_
  rintro e w1 ⟨r, rfl, hr, hb⟩
  cases r with
  | false =>
    have HB := Lib.hid hb
    clear hr hb
    go_wp2_with fail
    refine (lives_any _).mono ?_
    rintro e w2 ⟨rfl, hb2⟩
    have HB2 := Lib.hid (HB.out.trans (hb2.mono HB.out.size))
    clear hb2
    go_wp2_with fail
    go_ret
    exact ⟨rfl, HB2.out⟩
  | true =>
  have hl := hr rfl
  rw [← HN.out] at hl
  have HL := Lib.hid hl; have HB := Lib.hid hb
  clear hr hb hl
  go_wp2_with fail
  refine (light_any (H2.out.later HB.out)).mono ?_
  rintro e w2 ⟨r, rfl, hr, hb⟩
  cases r with
  | false =>
    have HBX := Lib.hid (HB.out.trans (hb.mono HB.out.size))
    clear hr hb
    go_wp2_with fail
    refine (lives_any _).mono ?_
    rintro e w2 ⟨rfl, hb2⟩
    have HB2 := Lib.hid (HBX.out.trans (hb2.mono HBX.out.size))
    clear hb2
    go_wp2_with fail
    go_ret
    exact ⟨rfl, HB2.out⟩
  | true =>
  have hl := hr rfl
  rw [← HM.out] at hl
  have HL2 := Lib.hid hl; have HB2 := Lib.hid (HB.out.trans (hb.mono HB.out.size))
  clear hr hb hl HB
  go_wp2_with fail
  refine (snew_any _).mono ?_
  rintro e w3 ⟨g, F, rfl, q1, hb3, q3⟩
  have Q1 := Lib.hid q1; have HB3 := Lib.hid (HB2.out.trans (hb3.mono HB2.out.size)); have Q3 : Hid (∀ x ∈ F, w.heap.size ≤ x) := Lib.hid fun x hx => Nat.le_trans HB2.out.size (q3 x hx)
  clear q1 hb3 q3
  go_wp2_with fail
  obtain ⟨w4, hw4⟩ : ∃ w4, w4 = w3.alloc (.cells #[.slice none 0 0, .slice none 0 0] 55) := ⟨_, rfl⟩
  obtain ⟨h, hh⟩ : ∃ h, h = w3.heap.size := ⟨_, rfl⟩
  rw [← hw4, ← hh]
  have hb4 : Below w3.heap.size w3 w4 := by rw [hw4]; exact (Below.refl _ _).alloc (Nat.le_refl _) _
  have hx4 : w4.heap[h]? = some (.cells #[.slice none 0 0, .slice none 0 0] 55 (0, 0)) := by rw [hw4, hh]; exact heap_alloc_new _ _
  have hrs : RS w4 h PS.new (rfoot h (.slice none 0 0) (.slice none 0 0)) := ⟨_, _, ⟨hx4, LO.nil _ _ _ _, LO.nil _ _ _ _, List.Pairwise.nil⟩, rfl⟩
  have hbo : Both w.heap.size w4 g h PS.new PS.new := ⟨F, _, Q1.out.later hb4, hrs, Q3.out, fun x hx => by
    rw [rfoot_eq] at hx
    rcases hx with e | e | e
    · rw [e, hh]; exact HB3.out.size
    · cases e
    · cases e⟩
  have HBO := Lib.hid hbo; have HB4 := Lib.hid (HB3.out.trans (hb4.mono HB3.out.size))
  clear hw4 hh hb4 hx4 hrs hbo Q1 Q3 HB2 HB3
  go_loopw [31] (fun vi wr => ∃ (i : Nat), vi = .int .i64 i ∧ i ≤ n ∧ Hid (Both w.heap.size wr g h (doActs PS.new (l.take i)) (doActs PS.new (l.take i))) ∧ Hid (Below w.heap.size w wr)) (fun vi _ => n - (intOf vi).toNat)
  case atStart => exact ⟨0, rfl, Nat.zero_le _, HBO, HB4⟩
  case round =>
    clear HBO HB4
    obtain ⟨i, rfl, hin, BO, BW⟩ := hrel
    by_cases hlt : i < n
    · have hi : i < l.length := by rw [← HN.out]; exact hlt
      obtain ⟨gL, off, rfl, hgL, q0, q1, q2, q3⟩ := Rd.act H1.out i hi
      have q0' := (BW.out.cell (p := ⟨gL, off + i * 4, none⟩) hgL).trans q0
      have q1' := (BW.out.cell (p := ⟨gL, off + i * 4 + 1, none⟩) hgL).trans q1
      have q2' := (BW.out.cell (p := ⟨gL, off + i * 4 + 2, none⟩) hgL).trans q2
      have q3' := (BW.out.cell (p := ⟨gL, off + i * 4 + 3, none⟩) hgL).trans q3
      have hat := acts_take (s := PS.new) hi
      obtain ⟨a, ha⟩ : ∃ a, a = l[i] := ⟨_, rfl⟩
      rw [← ha] at q0' q1' q2' q3' hat
      have hsz := size_acts (l.take i) PS.new
      obtain ⟨s, hs⟩ : ∃ s, s = doActs PS.new (l.take i) := ⟨_, rfl⟩
      rw [← hs] at BO hat hsz
      have hsz2 : s.t.length + s.past.length ≤ 600 := by
        have h5 : sizePS PS.new = 0 := rfl
        rw [h5, List.length_take] at hsz
        have h6 := HL.out
        unfold sizePS at hsz
        omega
      have HAT := Lib.hid hat; have HSZ := Lib.hid hsz2; have HLT := Lib.hid hlt
      clear ha q0 q1 q2 q3 hgL hi hs hsz hsz2 hat
      go_wp2_with (refine wpList_alloc_g rfl _ rfl _ _ Try.zeroAct rfl ?_)
      intro R w5 h5
      go_wp2_with (refine wpList_store_row_g (t := 39) (old := #[.int .i64 0, .string (bs []), .string (bs []), .int .i64 0]) rfl 39 _ _ rfl R #[.int .i64 a.kind, .string (bs a.key), .string (bs a.value), .int .i64 a.n] rfl rfl h5.out.cells Try.sizeAct rfl (by simp [Value.oneCell']) ?_)
      intro w6 hx6 k56 z56
      have hb56 : Below wr.heap.size wr w6 := h5.out.below.trans (k56.below (B := wr.heap.size) (fun x hx e => by have := h5.out.eq; omega) h5.out.below.size)
      have hbx := hx6
      have q0 : w6.cell? ⟨R, 0, none⟩ = some (.int .i64 a.kind) := Lib.cell_of_heap hx6 0
      have q1 : w6.cell? ⟨R, 1, none⟩ = some (.string (bs a.key)) := Lib.cell_of_heap hx6 1
      have q2 : w6.cell? ⟨R, 2, none⟩ = some (.string (bs a.value)) := Lib.cell_of_heap hx6 2
      have q3 : w6.cell? ⟨R, 3, none⟩ = some (.int .i64 a.n) := Lib.cell_of_heap hx6 3
      have HBX := Lib.hid hbx; have BO6 := Lib.hid (BO.out.later hb56); have BW6 := Lib.hid (BW.out.trans (hb56.mono BW.out.size))
      clear h5 hx6 k56 z56 hb56 hbx q0' q1' q2' q3' BO BW
      go_wp2_with fail
      refine (act_any a BW6.out BO6.out (by have := HSZ.out; omega) (by have := HSZ.out; omega)).mono ?_
      rintro e w7 ⟨r, rfl, hr, hbo7, hbl7, hac⟩
      obtain rfl : r = true := hr rfl
      have hx7 := hac R _ HBX.out
      have r1 : w7.cell? ⟨R, 1, none⟩ = some (.string (bs a.key)) := Lib.cell_of_heap hx7 1
      obtain ⟨s', hs'⟩ : ∃ s', s' = doAct s a := ⟨_, rfl⟩
      have hsz' : s'.t.length < 1099511627776 := by have h5 := size_act s a; rw [← hs'] at h5; have h6 := HSZ.out; unfold sizePS at h5; omega
      rw [← hs'] at hbo7
      have hat' : doActs PS.new (l.take (i + 1)) = s' := by rw [HAT.out, hs']
      have BO7 := Lib.hid hbo7; have BW7 := Lib.hid hbl7; have HAT2 := Lib.hid hat'; have HSZ2 := Lib.hid hsz'
      clear hr hbo7 hbl7 hac hx7 q0 q1 q2 q3 hs' hsz' hat' HAT HSZ BO6 BW6 HBX
      obtain ⟨F7, G7, p1, p2, _, _⟩ := BO7.out
      have P1 := Lib.hid p1; have P2 := Lib.hid p2
      clear p1 p2
      go_wp2_with fail
      refine (sget_any P1.out a.key).mono ?_
      rintro e w8 ⟨rfl, rfl⟩
      go_wp2_with fail
      refine (rget_any P2.out (by have := HSZ2.out; omega) a.key).mono ?_
      rintro e w8 ⟨rfl, rfl⟩
      obtain ⟨y, hy⟩ : ∃ y, y = (getP s'.t a.key).getD [] := ⟨_, rfl⟩
      obtain ⟨b, hb⟩ : ∃ b, b = (getP s'.t a.key).isSome := ⟨_, rfl⟩
      rw [← hy, ← hb]
      clear hy hb
      have g1 : ((bs y).toList == (bs y).toList) = true := by simp
      go_wp2_with fail
      obtain ⟨vL, vP, hra, _⟩ := P2.out
      obtain ⟨adL, capL, eL, _, _⟩ := hra.list.shape
      obtain ⟨adP, capP, eP, _, _⟩ := hra.past.shape
      obtain ⟨nL, hnL⟩ : ∃ nL, nL = s'.t.length := ⟨_, rfl⟩
      obtain ⟨nP, hnP⟩ : ∃ nP, nP = s'.past.length := ⟨_, rfl⟩
      rw [← hnL] at eL
      rw [← hnP] at eP
      subst eL eP
      have hS : w7.drew.cell? ⟨h, 0, none⟩ = some (.slice adL nL capL) ∧ w7.drew.cell? ⟨h, 1, none⟩ = some (.slice adP nP capP) := ⟨Lib.cell_of_heap hra.head 0, Lib.cell_of_heap hra.head 1⟩
      have P3 := Lib.hid (P1.out.later (Below.drew (Below.refl _ _)))
      have HNL := Lib.hid hnL; have HNP := Lib.hid hnP
      clear hra hnL hnP
      refine wp_region_till (fun w' => w'.cell? ⟨h, 0, none⟩ = some (.slice adL nL capL) ∧ w'.cell? ⟨h, 1, none⟩ = some (.slice adP nP capP)) 28 28 (by kernel_rfl) rfl ?_
      refine till_take 0 (some 54) rfl rfl (by kernel_rfl) (by kernel_rfl) (by kernel_rfl) (by kernel_rfl) (by kernel_rfl) (by kernel_rfl) (fun _ _ _ h => h) (.inl ⟨by rfl, fun w' _ => (by go_simp; rfl)⟩) hS ?_
      go_frame
      refine till_take 1 (some 55) rfl rfl (by kernel_rfl) (by kernel_rfl) (by kernel_rfl) (by kernel_rfl) (by kernel_rfl) (by kernel_rfl) (fun _ _ _ h => h) (.inl ⟨by rfl, fun w' _ => (by go_simp; rfl)⟩) hS ?_
      go_frame
      refine till_take 2 (some 56) rfl rfl (by kernel_rfl) (by kernel_rfl) (by kernel_rfl) (by kernel_rfl) (by kernel_rfl) (by kernel_rfl) (fun _ _ _ h => h) (.inl ⟨by rfl, fun w' _ => (by go_simp; rfl)⟩) hS ?_
      go_frame
      refine till_take 3 (some 57) rfl rfl (by kernel_rfl) (by kernel_rfl) (by kernel_rfl) (by kernel_rfl) (by kernel_rfl) (by kernel_rfl) (fun _ _ _ h => h) (.inl ⟨by rfl, fun w' _ => (by go_simp; rfl)⟩) hS ?_
      go_frame
      refine till_take 4 (some 58) rfl rfl (by kernel_rfl) (by kernel_rfl) (by kernel_rfl) (by kernel_rfl) (by kernel_rfl) (by kernel_rfl) (fun _ _ _ h => h) (.inl ⟨by rfl, fun w' _ => (by go_simp; rfl)⟩) hS ?_
      go_frame
      refine till_take 5 (some 59) rfl rfl (by kernel_rfl) (by kernel_rfl) (by kernel_rfl) (by kernel_rfl) (by kernel_rfl) (by kernel_rfl) (fun _ _ _ h => h) (.inl ⟨by rfl, fun w' _ => (by go_simp; rfl)⟩) hS ?_
      go_frame
      refine till_take 6 (some 60) rfl rfl (by kernel_rfl) (by kernel_rfl) (by kernel_rfl) (by kernel_rfl) (by kernel_rfl) (by kernel_rfl) (fun _ _ _ h => h) (.inl ⟨by rfl, fun w' _ => (by go_simp; rfl)⟩) hS ?_
      go_frame
      refine till_take 7 (some 61) rfl rfl (by kernel_rfl) (by kernel_rfl) (by kernel_rfl) (by kernel_rfl) (by kernel_rfl) (by kernel_rfl) (fun _ _ _ h => h) (.inl ⟨by rfl, fun w' _ => (by go_simp; rfl)⟩) hS ?_
      go_frame
      refine till_take 8 (some 62) rfl rfl (by kernel_rfl) (by kernel_rfl) (by kernel_rfl) (by kernel_rfl) (by kernel_rfl) (by kernel_rfl) (fun _ _ _ h => h) (.inl ⟨by rfl, fun w' _ => (by go_simp; rfl)⟩) hS ?_
      go_frame
      refine till_take 9 (some 63) rfl rfl (by kernel_rfl) (by kernel_rfl) (by kernel_rfl) (by kernel_rfl) (by kernel_rfl) (by kernel_rfl) (fun _ _ _ h => h) (.inl ⟨by rfl, fun w' _ => (by go_simp; rfl)⟩) hS ?_
      go_frame
      refine till_take 11 (some 65) rfl rfl (by kernel_rfl) (by kernel_rfl) (by kernel_rfl) (by kernel_rfl) (by kernel_rfl) (by kernel_rfl) (fun _ _ _ h => h) (.inl ⟨by rfl, fun w' _ => (by go_simp; rfl)⟩) hS ?_
      go_frame
      refine till_take 12 (some 66) rfl rfl (by kernel_rfl) (by kernel_rfl) (by kernel_rfl) (by kernel_rfl) (by kernel_rfl) (by kernel_rfl) (fun _ _ _ h => h) (.inl ⟨by rfl, fun w' _ => (by go_simp; rfl)⟩) hS ?_
      go_frame
      refine till_take 13 (some 67) rfl rfl (by kernel_rfl) (by kernel_rfl) (by kernel_rfl) (by kernel_rfl) (by kernel_rfl) (by kernel_rfl) (fun _ _ _ h => h) (.inl ⟨by rfl, fun w' _ => (by go_simp; rfl)⟩) hS ?_
      go_frame
      refine till_take 14 (some 68) rfl rfl (by kernel_rfl) (by kernel_rfl) (by kernel_rfl) (by kernel_rfl) (by kernel_rfl) (by kernel_rfl) (fun _ _ _ h => h) (.inl ⟨by rfl, fun w' hS' => (by have hc : w'.cell? ⟨h, 1, none⟩ = _ := hS'.2; go_simp; rfl)⟩) hS ?_
      go_frame
      refine till_take 15 (some 69) rfl rfl (by kernel_rfl) (by kernel_rfl) (by kernel_rfl) (by kernel_rfl) (by kernel_rfl) (by kernel_rfl) (fun _ _ _ h => h) (.inl ⟨by rfl, fun w' _ => (by go_simp; rfl)⟩) hS ?_
      go_frame
      refine till_one 10 rfl (by kernel_rfl) fun K hK => ?_
      simp only [List.getElem_toArray, List.getElem_cons_succ, List.getElem_cons_zero]
      rw [if_pos (by rfl)]
      go_simp
      refine (smark_any P3.out).mono ?_
      rw [← HNP.out]
      rintro e w8 ⟨rfl, rfl⟩
      refine hK _ _ (fun _ _ => hS) ?_
      clear hK
      refine till_take 16 (some 70) rfl rfl (by kernel_rfl) (by kernel_rfl) (by kernel_rfl) (by kernel_rfl) (by kernel_rfl) (by kernel_rfl) (fun _ _ _ h => h) (.inl ⟨by rfl, fun w' _ => (by go_simp; rfl)⟩) hS ?_
      go_frame
      refine till_take 17 (some 71) rfl rfl (by kernel_rfl) (by kernel_rfl) (by kernel_rfl) (by kernel_rfl) (by kernel_rfl) (by kernel_rfl) (fun _ _ _ h => h) (.inl ⟨by rfl, fun w' _ => (by go_simp; rfl)⟩) hS ?_
      go_frame
      refine till_take 18 (some 72) rfl rfl (by kernel_rfl) (by kernel_rfl) (by kernel_rfl) (by kernel_rfl) (by kernel_rfl) (by kernel_rfl) (fun _ _ _ h => h) (.inl ⟨by rfl, fun w' _ => (by go_simp; rfl)⟩) hS ?_
      go_frame
      refine till_take 19 (some 73) rfl rfl (by kernel_rfl) (by kernel_rfl) (by kernel_rfl) (by kernel_rfl) (by kernel_rfl) (by kernel_rfl) (fun _ _ _ h => h) (.inl ⟨by rfl, fun w' _ => (by go_simp; rfl)⟩) hS ?_
      go_frame
      refine till_take 21 (some 75) rfl rfl (by kernel_rfl) (by kernel_rfl) (by kernel_rfl) (by kernel_rfl) (by kernel_rfl) (by kernel_rfl) (fun _ _ _ h => h) (.inl ⟨by rfl, fun w' _ => (by go_simp; rfl)⟩) hS ?_
      go_frame
      refine till_take 22 (some 76) rfl rfl (by kernel_rfl) (by kernel_rfl) (by kernel_rfl) (by kernel_rfl) (by kernel_rfl) (by kernel_rfl) (fun _ _ _ h => h) (.inl ⟨by rfl, fun w' _ => (by go_simp; rfl)⟩) hS ?_
      go_frame
      refine till_take 23 (some 77) rfl rfl (by kernel_rfl) (by kernel_rfl) (by kernel_rfl) (by kernel_rfl) (by kernel_rfl) (by kernel_rfl) (fun _ _ _ h => h) (.inl ⟨by rfl, fun w' _ => (by go_simp; rfl)⟩) hS ?_
      go_frame
      refine till_take 24 (some 78) rfl rfl (by kernel_rfl) (by kernel_rfl) (by kernel_rfl) (by kernel_rfl) (by kernel_rfl) (by kernel_rfl) (fun _ _ _ h => h) (.inl ⟨by rfl, fun w' hS' => (by have hc : w'.cell? ⟨h, 0, none⟩ = _ := hS'.1; go_simp; rfl)⟩) hS ?_
      go_frame
      refine till_take 25 (some 79) rfl rfl (by kernel_rfl) (by kernel_rfl) (by kernel_rfl) (by kernel_rfl) (by kernel_rfl) (by kernel_rfl) (fun _ _ _ h => h) (.inl ⟨by rfl, fun w' _ => (by go_simp; rfl)⟩) hS ?_
      go_frame
      refine till_one 20 rfl (by kernel_rfl) fun K hK => ?_
      simp only [List.getElem_toArray, List.getElem_cons_succ, List.getElem_cons_zero]
      rw [if_pos (by rfl)]
      go_simp
      refine (slen_any P3.out).mono ?_
      rw [← HNL.out]
      rintro e w8 ⟨rfl, rfl⟩
      refine hK _ _ (fun _ _ => hS) ?_
      clear hK
      refine till_take 26 (some 80) rfl rfl (by kernel_rfl) (by kernel_rfl) (by kernel_rfl) (by kernel_rfl) (by kernel_rfl) (by kernel_rfl) (fun _ _ _ h => h) (.inl ⟨by rfl, fun w' _ => (by go_simp; rfl)⟩) hS ?_
      go_frame
      refine till_take 27 (some 81) rfl rfl (by kernel_rfl) (by kernel_rfl) (by kernel_rfl) (by kernel_rfl) (by kernel_rfl) (by kernel_rfl) (fun _ _ _ h => h) (.inl ⟨by rfl, fun w' _ => (by go_simp; rfl)⟩) hS ?_
      go_frame
      clear hS
      refine till_done (by kernel_rfl) ?_ _
      go_wp2_with fail
      go_roundw
      case rel => exact ⟨i + 1, by go_num, Nat.succ_le_of_lt HLT.out, Lib.hid (by rw [HAT2.out]; exact BO7.out.later (Below.drew (Below.refl _ _))), Lib.hid BW7.out.drew⟩
      case measure => have hh : i < n := HLT.out; simp [intOf]; omega
    · have hfin : Both w.heap.size wr g h (doActs PS.new l) (doActs PS.new l) := by
        have h8 := BO.out
        rwa [List.take_of_length_le (by rw [← HN.out]; omega)] at h8
      have hsz := size_acts l PS.new
      obtain ⟨s, hs⟩ : ∃ s, s = doActs PS.new l := ⟨_, rfl⟩
      rw [← hs] at hfin hsz
      have hsz2 : s.t.length + s.past.length ≤ 600 := by
        have h5 : sizePS PS.new = 0 := rfl
        rw [h5, ← HN.out] at hsz
        have h6 := HL.out
        unfold sizePS at hsz
        omega
      have BF := Lib.hid hfin; have HSZ := Lib.hid hsz2
      clear hfin hsz hs hsz2 BO
      obtain ⟨F7, G7, p1, p2, _, _⟩ := BF.out
      have P1 := Lib.hid p1; have P2 := Lib.hid p2
      clear p1 p2
      go_wp2_with fail
      refine (scopy_any P1.out (by have := HSZ.out; omega) (by have := HSZ.out; omega)).mono ?_
      rintro e wa ⟨c, Fc, rfl, qa, hba, qb⟩
      have QA := Lib.hid qa; have BA := Lib.hid hba; have QB := Lib.hid qb
      clear qa hba qb
      go_wp2_with fail
      refine (rcopy_any (P2.out.later BA.out) (by have := HSZ.out; omega) (by have := HSZ.out; omega)).mono ?_
      rintro e wb ⟨d, Fd, rfl, qa, hba, qb⟩
      have hcd : Both wr.heap.size wb c d s s := ⟨Fc, Fd, QA.out.later hba, qa, QB.out, fun x hx => Nat.le_trans BA.out.size (qb x hx)⟩
      have HCD := Lib.hid hcd; have BB := Lib.hid (BA.out.trans (hba.mono BA.out.size))
      clear hcd hba qa qb QA QB BA
      go_wp2_with fail
      obtain ⟨wl, hwl⟩ : ∃ wl, wl = wr := ⟨_, rfl⟩
      subst hwl
      have BWH := BW
      go_loopw [89] (fun vi wq => ∃ (i : Nat), vi = .int .i64 i ∧ i ≤ m ∧ Hid (Both wl.heap.size wq c d (doActs s (more.take i)) (doActs s (more.take i))) ∧ Hid (Below wl.heap.size wl wq)) (fun vi _ => m - (intOf vi).toNat)
      case atStart => exact ⟨0, rfl, Nat.zero_le _, HCD, BB⟩
      case round =>
        obtain ⟨i, rfl, hin, CD, CW⟩ := hrel
        by_cases hlt : i < m
        · have hi : i < more.length := by rw [← HM.out]; exact hlt
          obtain ⟨gL, off, rfl, hgL, q0, q1, q2, q3⟩ := Rd.act H2.out i hi
          have hbw := BWH.out.trans (CW.out.mono BWH.out.size)
          have q0' := (hbw.cell (p := ⟨gL, off + i * 4, none⟩) hgL).trans q0
          have q1' := (hbw.cell (p := ⟨gL, off + i * 4 + 1, none⟩) hgL).trans q1
          have q2' := (hbw.cell (p := ⟨gL, off + i * 4 + 2, none⟩) hgL).trans q2
          have q3' := (hbw.cell (p := ⟨gL, off + i * 4 + 3, none⟩) hgL).trans q3
          have hat := acts_take (s := s) hi
          obtain ⟨a, ha⟩ : ∃ a, a = more[i] := ⟨_, rfl⟩
          rw [← ha] at q0' q1' q2' q3' hat
          have hsz := size_acts (more.take i) s
          obtain ⟨z, hz⟩ : ∃ z, z = doActs s (more.take i) := ⟨_, rfl⟩
          rw [← hz] at CD hat hsz
          have hsz2 : z.t.length + z.past.length ≤ 1200 := by
            rw [List.length_take] at hsz
            have h6 := HL2.out
            have h7 := HSZ.out
            unfold sizePS at hsz
            omega
          have HAT := Lib.hid hat; have HSZ2 := Lib.hid hsz2; have HLT := Lib.hid hlt
          clear ha q0 q1 q2 q3 hgL hi hz hsz hsz2 hat hbw
          go_wp2_with (refine wpList_alloc_g rfl _ rfl _ _ Try.zeroAct rfl ?_)
          intro R w5 h5
          go_wp2_with (refine wpList_store_row_g (t := 39) (old := #[.int .i64 0, .string (bs []), .string (bs []), .int .i64 0]) rfl 39 _ _ rfl R #[.int .i64 a.kind, .string (bs a.key), .string (bs a.value), .int .i64 a.n] rfl rfl h5.out.cells Try.sizeAct rfl (by simp [Value.oneCell']) ?_)
          intro w6 hx6 k56 z56
          have hb56 : Below wr.heap.size wr w6 := h5.out.below.trans (k56.below (B := wr.heap.size) (fun x hx e => by have := h5.out.eq; omega) h5.out.below.size)
          have q0 : w6.cell? ⟨R, 0, none⟩ = some (.int .i64 a.kind) := Lib.cell_of_heap hx6 0
          have q1 : w6.cell? ⟨R, 1, none⟩ = some (.string (bs a.key)) := Lib.cell_of_heap hx6 1
          have q2 : w6.cell? ⟨R, 2, none⟩ = some (.string (bs a.value)) := Lib.cell_of_heap hx6 2
          have q3 : w6.cell? ⟨R, 3, none⟩ = some (.int .i64 a.n) := Lib.cell_of_heap hx6 3
          have CD6 := Lib.hid (CD.out.later hb56); have CW6 := Lib.hid (CW.out.trans (hb56.mono CW.out.size))
          clear h5 hx6 k56 z56 hb56 q0' q1' q2' q3' CD CW
          go_wp2_with fail
          refine (act_any a CW6.out CD6.out (by have := HSZ2.out; omega) (by have := HSZ2.out; omega)).mono ?_
          rintro e w7 ⟨r, rfl, hr, hbo7, hbl7, _⟩
          obtain rfl : r = true := hr rfl
          rw [← HAT.out] at hbo7
          have CD7 := Lib.hid hbo7; have CW7 := Lib.hid hbl7
          clear hr hbo7 hbl7 q0 q1 q2 q3 CD6 CW6
          go_wp2_with fail
          go_roundw
          case rel => exact ⟨i + 1, by go_num, Nat.succ_le_of_lt HLT.out, CD7, CW7⟩
          case measure => have hh : i < m := HLT.out; simp [intOf]; omega
        · have hfin2 : Both wl.heap.size wr c d (doActs s more) (doActs s more) := by
            have h8 := CD.out
            rwa [List.take_of_length_le (by rw [← HM.out]; omega)] at h8
          have hsz := size_acts more s
          obtain ⟨z, hz⟩ : ∃ z, z = doActs s more := ⟨_, rfl⟩
          rw [← hz] at hfin2 hsz
          have hsz3 : z.t.length + z.past.length ≤ 1200 := by
            rw [← HM.out] at hsz
            have h6 := HL2.out
            have h7 := HSZ.out
            unfold sizePS at hsz
            omega
          have HSZ2 := Lib.hid hsz3
          have BG := Lib.hid (BF.out.later CW.out); have CE := Lib.hid hfin2; have BW9 := Lib.hid (BWH.out.trans (CW.out.mono BWH.out.size))
          clear hfin2 hsz hz hsz3 BF CD CW BWH P1 P2
          obtain ⟨_, _, p1, p2, _, _⟩ := BG.out
          obtain ⟨_, _, q1, q2, _, _⟩ := CE.out
          obtain ⟨vL, vP, hra, _⟩ := p2
          obtain ⟨vM, vQ, hrd, _⟩ := q2
          have P1 := Lib.hid p1; have Q1 := Lib.hid q1; have HRA := Lib.hid hra; have HRD := Lib.hid hrd
          obtain ⟨adP, capP, eP, _, _⟩ := hrd.past.shape
          obtain ⟨nP, hnP⟩ : ∃ nP, nP = z.past.length := ⟨_, rfl⟩
          rw [← hnP] at eP
          have HNP := Lib.hid hnP
          subst eP
          have hS : wr.drew.cell? ⟨h, 0, none⟩ = some vL ∧ wr.drew.cell? ⟨d, 0, none⟩ = some vM ∧ wr.drew.cell? ⟨d, 1, none⟩ = some (.slice adP nP capP) := ⟨Lib.cell_of_heap hra.head 0, Lib.cell_of_heap hrd.head 0, Lib.cell_of_heap hrd.head 1⟩
          clear p1 q1 hra hrd hnP
          have hbd : Below wr.heap.size wr wr.drew := Below.drew (Below.refl _ _)
          go_wp2_with fail
          clear hlt
          refine wp_region_till (fun w' => w'.cell? ⟨h, 0, none⟩ = some vL ∧ w'.cell? ⟨d, 0, none⟩ = some vM ∧ w'.cell? ⟨d, 1, none⟩ = some (.slice adP nP capP)) 34 34 (by kernel_rfl) rfl ?_
          refine till_take 0 (some 99) rfl rfl (by kernel_rfl) (by kernel_rfl) (by kernel_rfl) (by kernel_rfl) (by kernel_rfl) (by kernel_rfl) (fun _ _ _ h => h) (.inl ⟨by rfl, fun w' _ => (by go_simp; rfl)⟩) hS ?_
          go_frame
          refine till_one 1 rfl (by kernel_rfl) fun K hK => ?_
          simp only [List.getElem_toArray, List.getElem_cons_succ, List.getElem_cons_zero]
          rw [if_pos (by rfl)]
          go_simp
          refine (smade_any (P1.out.later hbd)).mono ?_
          rintro e w8 ⟨rfl, rfl⟩
          refine hK _ _ (fun _ _ => hS) ?_
          clear hK
          refine till_take 2 (some 101) rfl rfl (by kernel_rfl) (by kernel_rfl) (by kernel_rfl) (by kernel_rfl) (by kernel_rfl) (by kernel_rfl) (fun _ _ _ h => h) (.inl ⟨by rfl, fun w' _ => (by go_simp; rfl)⟩) hS ?_
          go_frame
          refine till_take 3 (some 102) rfl rfl (by kernel_rfl) (by kernel_rfl) (by kernel_rfl) (by kernel_rfl) (by kernel_rfl) (by kernel_rfl) (fun _ _ _ h => h) (.inl ⟨by rfl, fun w' _ => (by go_simp; rfl)⟩) hS ?_
          go_frame
          refine till_take 5 (some 104) rfl rfl (by kernel_rfl) (by kernel_rfl) (by kernel_rfl) (by kernel_rfl) (by kernel_rfl) (by kernel_rfl) (fun _ _ _ h => h) (.inl ⟨by rfl, fun w' _ => (by go_simp; rfl)⟩) hS ?_
          go_frame
          refine till_take 6 (some 105) rfl rfl (by kernel_rfl) (by kernel_rfl) (by kernel_rfl) (by kernel_rfl) (by kernel_rfl) (by kernel_rfl) (fun _ _ _ h => h) (.inl ⟨by rfl, fun w' _ => (by go_simp; rfl)⟩) hS ?_
          go_frame
          refine till_take 7 (some 106) rfl rfl (by kernel_rfl) (by kernel_rfl) (by kernel_rfl) (by kernel_rfl) (by kernel_rfl) (by kernel_rfl) (fun _ _ _ h => h) (.inl ⟨by rfl, fun w' _ => (by go_simp; rfl)⟩) hS ?_
          go_frame
          refine till_take 8 (some 107) rfl rfl (by kernel_rfl) (by kernel_rfl) (by kernel_rfl) (by kernel_rfl) (by kernel_rfl) (by kernel_rfl) (fun _ _ _ h => h) (.inl ⟨by rfl, fun w' hS' => (by obtain ⟨hc1, hc2, hc3⟩ := hS'; go_simp; rfl)⟩) hS ?_
          go_frame
          refine till_one 4 rfl (by kernel_rfl) fun K hK => ?_
          simp only [List.getElem_toArray, List.getElem_cons_succ, List.getElem_cons_zero]
          rw [if_pos (by rfl)]
          go_simp
          refine (sall_any (P1.out.later hbd) (by have := HSZ.out; omega)).mono ?_
          rintro e wA ⟨vA, rfl, hlA, hbA, _⟩
          have hbx : Below wr.heap.size wr wA := hbd.trans (hbA.mono hbd.size)
          have hS2 : wA.cell? ⟨h, 0, none⟩ = some vL ∧ wA.cell? ⟨d, 0, none⟩ = some vM ∧ wA.cell? ⟨d, 1, none⟩ = some (.slice adP nP capP) := ⟨(Lib.cell_of_heap (below_at hbx HRA.out.head) 0), (Lib.cell_of_heap (below_at hbx HRD.out.head) 0), (Lib.cell_of_heap (below_at hbx HRD.out.head) 1)⟩
          refine hK _ _ (fun _ _ => hS2) ?_
          clear hK hS hbd hbA
          have hS := hS2
          have hbd := hbx
          clear hS2 hbx
          refine till_one 9 rfl (by kernel_rfl) fun K hK => ?_
          simp only [List.getElem_toArray, List.getElem_cons_succ, List.getElem_cons_zero]
          rw [if_pos (by rfl)]
          go_simp
          have hsm := rsame_any (hlA.rd pairE_len) ((HRA.out.list.later hbd).rd pairE_len) (by have := HSZ.out; omega) (by have := HSZ.out; omega)
          rw [decide_eq_true rfl] at hsm
          refine hsm.mono ?_
          rintro e wB ⟨rfl, hbB⟩
          clear hsm hlA
          have hbx : Below wr.heap.size wr wB := hbd.trans (hbB.mono hbd.size)
          have hS2 : wB.cell? ⟨h, 0, none⟩ = some vL ∧ wB.cell? ⟨d, 0, none⟩ = some vM ∧ wB.cell? ⟨d, 1, none⟩ = some (.slice adP nP capP) := ⟨(Lib.cell_of_heap (below_at hbx HRA.out.head) 0), (Lib.cell_of_heap (below_at hbx HRD.out.head) 0), (Lib.cell_of_heap (below_at hbx HRD.out.head) 1)⟩
          refine hK _ _ (fun _ _ => hS2) ?_
          clear hK hS hbd hbB
          have hS := hS2
          have hbd := hbx
          clear hS2 hbx
          refine till_take 10 (some 109) rfl rfl (by kernel_rfl) (by kernel_rfl) (by kernel_rfl) (by kernel_rfl) (by kernel_rfl) (by kernel_rfl) (fun _ _ _ h => h) (.inl ⟨by rfl, fun w' _ => (by go_simp; rfl)⟩) hS ?_
          go_frame
          refine till_take 11 (some 110) rfl rfl (by kernel_rfl) (by kernel_rfl) (by kernel_rfl) (by kernel_rfl) (by kernel_rfl) (by kernel_rfl) (fun _ _ _ h => h) (.inl ⟨by rfl, fun w' _ => (by go_simp; rfl)⟩) hS ?_
          go_frame
          refine till_take 12 (some 111) rfl rfl (by kernel_rfl) (by kernel_rfl) (by kernel_rfl) (by kernel_rfl) (by kernel_rfl) (by kernel_rfl) (fun _ _ _ h => h) (.inl ⟨by rfl, fun w' _ => (by go_simp; rfl)⟩) hS ?_
          go_frame
          refine till_take 14 (some 113) rfl rfl (by kernel_rfl) (by kernel_rfl) (by kernel_rfl) (by kernel_rfl) (by kernel_rfl) (by kernel_rfl) (fun _ _ _ h => h) (.inl ⟨by rfl, fun w' _ => (by go_simp; rfl)⟩) hS ?_
          go_frame
          refine till_take 15 (some 114) rfl rfl (by kernel_rfl) (by kernel_rfl) (by kernel_rfl) (by kernel_rfl) (by kernel_rfl) (by kernel_rfl) (fun _ _ _ h => h) (.inl ⟨by rfl, fun w' _ => (by go_simp; rfl)⟩) hS ?_
          go_frame
          refine till_take 16 (some 115) rfl rfl (by kernel_rfl) (by kernel_rfl) (by kernel_rfl) (by kernel_rfl) (by kernel_rfl) (by kernel_rfl) (fun _ _ _ h => h) (.inl ⟨by rfl, fun w' _ => (by go_simp; rfl)⟩) hS ?_
          go_frame
          refine till_take 17 (some 116) rfl rfl (by kernel_rfl) (by kernel_rfl) (by kernel_rfl) (by kernel_rfl) (by kernel_rfl) (by kernel_rfl) (fun _ _ _ h => h) (.inl ⟨by rfl, fun w' hS' => (by obtain ⟨hc1, hc2, hc3⟩ := hS'; go_simp; rfl)⟩) hS ?_
          go_frame
          refine till_one 13 rfl (by kernel_rfl) fun K hK => ?_
          simp only [List.getElem_toArray, List.getElem_cons_succ, List.getElem_cons_zero]
          rw [if_pos (by rfl)]
          go_simp
          refine (sall_any (Q1.out.later hbd) (by have := HSZ2.out; omega)).mono ?_
          rintro e wC ⟨vC, rfl, hlC, hbC, _⟩
          have hbx : Below wr.heap.size wr wC := hbd.trans (hbC.mono hbd.size)
          have hS2 : wC.cell? ⟨h, 0, none⟩ = some vL ∧ wC.cell? ⟨d, 0, none⟩ = some vM ∧ wC.cell? ⟨d, 1, none⟩ = some (.slice adP nP capP) := ⟨(Lib.cell_of_heap (below_at hbx HRA.out.head) 0), (Lib.cell_of_heap (below_at hbx HRD.out.head) 0), (Lib.cell_of_heap (below_at hbx HRD.out.head) 1)⟩
          refine hK _ _ (fun _ _ => hS2) ?_
          clear hK hS hbd hbC
          have hS := hS2
          have hbd := hbx
          clear hS2 hbx
          refine till_one 18 rfl (by kernel_rfl) fun K hK => ?_
          simp only [List.getElem_toArray, List.getElem_cons_succ, List.getElem_cons_zero]
          rw [if_pos (by rfl)]
          go_simp
          have hsm := rsame_any (hlC.rd pairE_len) ((HRD.out.list.later hbd).rd pairE_len) (by have := HSZ2.out; omega) (by have := HSZ2.out; omega)
          rw [decide_eq_true rfl] at hsm
          refine hsm.mono ?_
          rintro e wD ⟨rfl, hbD⟩
          clear hsm hlC
          have hbx : Below wr.heap.size wr wD := hbd.trans (hbD.mono hbd.size)
          have hS2 : wD.cell? ⟨h, 0, none⟩ = some vL ∧ wD.cell? ⟨d, 0, none⟩ = some vM ∧ wD.cell? ⟨d, 1, none⟩ = some (.slice adP nP capP) := ⟨(Lib.cell_of_heap (below_at hbx HRA.out.head) 0), (Lib.cell_of_heap (below_at hbx HRD.out.head) 0), (Lib.cell_of_heap (below_at hbx HRD.out.head) 1)⟩
          refine hK _ _ (fun _ _ => hS2) ?_
          clear hK hS hbd hbD
          have hS := hS2
          have hbd := hbx
          clear hS2 hbx
          refine till_take 19 (some 118) rfl rfl (by kernel_rfl) (by kernel_rfl) (by kernel_rfl) (by kernel_rfl) (by kernel_rfl) (by kernel_rfl) (fun _ _ _ h => h) (.inl ⟨by rfl, fun w' _ => (by go_simp; rfl)⟩) hS ?_
          go_frame
          refine till_take 20 (some 119) rfl rfl (by kernel_rfl) (by kernel_rfl) (by kernel_rfl) (by kernel_rfl) (by kernel_rfl) (by kernel_rfl) (fun _ _ _ h => h) (.inl ⟨by rfl, fun w' _ => (by go_simp; rfl)⟩) hS ?_
          go_frame
          refine till_take 21 (some 120) rfl rfl (by kernel_rfl) (by kernel_rfl) (by kernel_rfl) (by kernel_rfl) (by kernel_rfl) (by kernel_rfl) (fun _ _ _ h => h) (.inl ⟨by rfl, fun w' _ => (by go_simp; rfl)⟩) hS ?_
          go_frame
          refine till_take 23 (some 122) rfl rfl (by kernel_rfl) (by kernel_rfl) (by kernel_rfl) (by kernel_rfl) (by kernel_rfl) (by kernel_rfl) (fun _ _ _ h => h) (.inl ⟨by rfl, fun w' _ => (by go_simp; rfl)⟩) hS ?_
          go_frame
          refine till_take 24 (some 123) rfl rfl (by kernel_rfl) (by kernel_rfl) (by kernel_rfl) (by kernel_rfl) (by kernel_rfl) (by kernel_rfl) (fun _ _ _ h => h) (.inl ⟨by rfl, fun w' _ => (by go_simp; rfl)⟩) hS ?_
          go_frame
          refine till_take 25 (some 124) rfl rfl (by kernel_rfl) (by kernel_rfl) (by kernel_rfl) (by kernel_rfl) (by kernel_rfl) (by kernel_rfl) (fun _ _ _ h => h) (.inl ⟨by rfl, fun w' _ => (by go_simp; rfl)⟩) hS ?_
          go_frame
          refine till_take 26 (some 125) rfl rfl (by kernel_rfl) (by kernel_rfl) (by kernel_rfl) (by kernel_rfl) (by kernel_rfl) (by kernel_rfl) (fun _ _ _ h => h) (.inl ⟨by rfl, fun w' hS' => (by obtain ⟨hc1, hc2, hc3⟩ := hS'; go_simp; rfl)⟩) hS ?_
          go_frame
          refine till_take 27 (some 126) rfl rfl (by kernel_rfl) (by kernel_rfl) (by kernel_rfl) (by kernel_rfl) (by kernel_rfl) (by kernel_rfl) (fun _ _ _ h => h) (.inl ⟨by rfl, fun w' _ => (by go_simp; rfl)⟩) hS ?_
          go_frame
          refine till_one 22 rfl (by kernel_rfl) fun K hK => ?_
          simp only [List.getElem_toArray, List.getElem_cons_succ, List.getElem_cons_zero]
          rw [if_pos (by rfl)]
          go_simp
          refine (smark_any (Q1.out.later hbd)).mono ?_
          rw [← HNP.out]
          rintro e w8 ⟨rfl, rfl⟩
          refine hK _ _ (fun _ _ => hS) ?_
          clear hK
          refine till_take 28 (some 127) rfl rfl (by kernel_rfl) (by kernel_rfl) (by kernel_rfl) (by kernel_rfl) (by kernel_rfl) (by kernel_rfl) (fun _ _ _ h => h) (.inl ⟨by rfl, fun w' _ => (by go_simp; rfl)⟩) hS ?_
          go_frame
          refine till_take 29 (some 128) rfl rfl (by kernel_rfl) (by kernel_rfl) (by kernel_rfl) (by kernel_rfl) (by kernel_rfl) (by kernel_rfl) (fun _ _ _ h => h) (.inl ⟨by rfl, fun w' _ => (by go_simp; rfl)⟩) hS ?_
          go_frame
          refine till_take 30 (some 129) rfl rfl (by kernel_rfl) (by kernel_rfl) (by kernel_rfl) (by kernel_rfl) (by kernel_rfl) (by kernel_rfl) (fun _ _ _ h => h) (.inl ⟨by rfl, fun w' _ => (by go_simp; rfl)⟩) hS ?_
          go_frame
          refine till_one 31 rfl (by kernel_rfl) fun K hK => ?_
          simp only [List.getElem_toArray, List.getElem_cons_succ, List.getElem_cons_zero]
          rw [if_pos (by rfl)]
          go_simp
          refine (lives_any _).mono ?_
          rintro e wE ⟨rfl, hbE⟩
          have hbx : Below wr.heap.size wr wE := hbd.trans (hbE.mono hbd.size)
          have hS2 : wE.cell? ⟨h, 0, none⟩ = some vL ∧ wE.cell? ⟨d, 0, none⟩ = some vM ∧ wE.cell? ⟨d, 1, none⟩ = some (.slice adP nP capP) := ⟨(Lib.cell_of_heap (below_at hbx HRA.out.head) 0), (Lib.cell_of_heap (below_at hbx HRD.out.head) 0), (Lib.cell_of_heap (below_at hbx HRD.out.head) 1)⟩
          refine hK _ _ (fun _ _ => hS2) ?_
          clear hK hS hbd hbE
          have hS := hS2
          have hbd := hbx
          clear hS2 hbx
          refine till_take 32 (some 131) rfl rfl (by kernel_rfl) (by kernel_rfl) (by kernel_rfl) (by kernel_rfl) (by kernel_rfl) (by kernel_rfl) (fun _ _ _ h => h) (.inl ⟨by rfl, fun w' _ => (by go_simp; rfl)⟩) hS ?_
          go_frame
          refine till_take 33 (some 4) rfl rfl (by kernel_rfl) (by kernel_rfl) (by kernel_rfl) (by kernel_rfl) (by kernel_rfl) (by kernel_rfl) (fun _ _ _ h => h) (.inl ⟨by rfl, fun w' _ => (by go_simp; rfl)⟩) hS ?_
          go_frame
          refine till_done (by kernel_rfl) ?_ _
          have BWA := Lib.hid (BW9.out.trans (hbd.mono BW9.out.size))
          clear hS hbd
          go_wp2_with fail
          go_ret
          exact ⟨rfl, BWA.out⟩
end Go.Proofs.Ytggcmaegmkjedaa
