/- act: no condition. -/
import Derived.Test.YtggcmaegmkjedaaLawC
namespace Go.Proofs.Ytggcmaegmkjedaa
open Go.RowKit

/-- The act's own block. -/
structure Box (w w' : World) (R : Nat) (a : ActP) : Prop where
  box : w'.heap[R]? = some (.cells #[.int .i64 a.kind, .string (bs a.key), .string (bs a.value), .int .i64 a.n] 39 (0, 0))
  acts : Acts w w'
theorem Box.keep {w w1 w2 : World} {R : Nat} {a : ActP} {S : Nat → Prop} (h : Box w w1 R a) (k : Keep S w1 w2) (hn : ∀ (R : Nat) (cs : Array Value), w1.heap[R]? = some (Obj.cells cs 39 (0, 0)) → ¬ S R) : Box w w2 R a :=
  ⟨k.at h.box (hn _ _ h.box), fun R' cs h' => k.at (h.acts R' cs h') (hn _ _ (h.acts R' cs h'))⟩
theorem Box.later {w w1 w2 : World} {R : Nat} {a : ActP} (h : Box w w1 R a) (hb : Below w1.heap.size w1 w2) : Box w w2 R a :=
  h.keep (S := fun _ => False) (Keep.of_below hb) fun _ _ _ => id

set_option maxHeartbeats 8000000 in
set_option maxRecDepth 100000 in
theorem act_gen {S : Nat → Prop} {w0 w : World} {g h : Nat} {s1 s2 : PS} (a : ActP) (hb0 : Keep S w0 w) (hbo : BothS S w0 w g h s1 s2) (l1 : s1.t.length + s1.past.length < 1099511627776) (l2 : s2.t.length + s2.past.length < 1099511627776) :
    Calls Try.prog 28 #[.pointer (some ⟨g, 0, none⟩), .pointer (some ⟨h, 0, none⟩), .agg #[.int .i64 a.kind, .string (bs a.key), .string (bs a.value), .int .i64 a.n]] w (ActRetS S w0 w g h s1 s2 a) := by
  have HB := Lib.hid hbo; have HB0 := Lib.hid hb0; have L1 := Lib.hid l1; have L2 := Lib.hid l2
  clear hbo hb0 l1 l2
  by_cases k0 : a.kind = 0
  · have hd : ∀ s, doAct s a = s.set a.key a.value := fun s => by unfold doAct; rw [if_pos k0]
    have HD := Lib.hid hd
    have j0 : (a.kind == 0) = true := by rw [k0]; rfl
    clear hd k0
    go_enter Try.func28, Try.ntmps28
    go_wp2_with fail
    obtain ⟨w1, hw1⟩ : ∃ w1, w1 = w.alloc (.cells #[.int .i64 a.kind, .string (bs a.key), .string (bs a.value), .int .i64 a.n] 39) := ⟨_, rfl⟩
    obtain ⟨R, hR⟩ : ∃ R, R = w.heap.size := ⟨_, rfl⟩
    rw [← hw1, ← hR]
    have hbw : Below w.heap.size w w1 := by rw [hw1]; exact (Below.refl _ _).alloc (Nat.le_refl _) _
    have hx1 : Box w w1 R a := ⟨by rw [hw1, hR]; exact heap_alloc_new _ _, fun R' cs h' => (hbw.block R' (heap_lt h')).trans h'⟩
    have HB1 := Lib.hid (HB.out.later hbw); have HBW := Lib.hid (HB0.out.then_below hbw); have HX := Lib.hid hx1
    clear hw1 hR hbw hx1
    have hS : Box w w1.drew R a := HX.out.later (Below.drew (Below.refl _ _))
    refine wp_region_till (fun w' => Box w w' R a) 14 14 (by kernel_rfl) rfl ?_
    have hbo : BothS S w0 w1.drew g h s1 s2 := HB1.out.later (Below.drew (Below.refl _ _))
    have hbl : Keep S w0 w1.drew := HBW.out.drew
    refine till_take 0 (some 11) rfl rfl (by kernel_rfl) (by kernel_rfl) (by kernel_rfl) (by kernel_rfl) (by kernel_rfl) (by kernel_rfl) (fun _ _ _ h => h) (.inl ⟨by rfl, fun w' _ => (by go_simp; rfl)⟩) hS ?_
    go_frame
    refine till_take 1 (some 12) rfl rfl (by kernel_rfl) (by kernel_rfl) (by kernel_rfl) (by kernel_rfl) (by kernel_rfl) (by kernel_rfl) (fun _ _ _ h => h) (.inl ⟨by rfl, fun w' _ => (by go_simp; rfl)⟩) hS ?_
    go_frame
    refine till_take 2 (some 13) rfl rfl (by kernel_rfl) (by kernel_rfl) (by kernel_rfl) (by kernel_rfl) (by kernel_rfl) (by kernel_rfl) (fun _ _ _ h => h) (.inl ⟨by rfl, fun w' hS' => (by have hc : w'.cell? ⟨R, 1, none⟩ = some (.string (bs a.key)) := Lib.cell_of_heap (Box.box hS') 1; go_simp; rfl)⟩) hS ?_
    go_frame
    refine till_take 3 (some 14) rfl rfl (by kernel_rfl) (by kernel_rfl) (by kernel_rfl) (by kernel_rfl) (by kernel_rfl) (by kernel_rfl) (fun _ _ _ h => h) (.inl ⟨by rfl, fun w' _ => (by go_simp; rfl)⟩) hS ?_
    go_frame
    refine till_take 4 (some 15) rfl rfl (by kernel_rfl) (by kernel_rfl) (by kernel_rfl) (by kernel_rfl) (by kernel_rfl) (by kernel_rfl) (fun _ _ _ h => h) (.inl ⟨by rfl, fun w' hS' => (by have hc : w'.cell? ⟨R, 2, none⟩ = some (.string (bs a.value)) := Lib.cell_of_heap (Box.box hS') 2; go_simp; rfl)⟩) hS ?_
    go_frame
    refine till_take 6 (some 17) rfl rfl (by kernel_rfl) (by kernel_rfl) (by kernel_rfl) (by kernel_rfl) (by kernel_rfl) (by kernel_rfl) (fun _ _ _ h => h) (.inl ⟨by rfl, fun w' _ => (by go_simp; rfl)⟩) hS ?_
    go_frame
    refine till_take 7 (some 18) rfl rfl (by kernel_rfl) (by kernel_rfl) (by kernel_rfl) (by kernel_rfl) (by kernel_rfl) (by kernel_rfl) (fun _ _ _ h => h) (.inl ⟨by rfl, fun w' _ => (by go_simp; rfl)⟩) hS ?_
    go_frame
    refine till_take 8 (some 19) rfl rfl (by kernel_rfl) (by kernel_rfl) (by kernel_rfl) (by kernel_rfl) (by kernel_rfl) (by kernel_rfl) (fun _ _ _ h => h) (.inl ⟨by rfl, fun w' hS' => (by have hc : w'.cell? ⟨R, 1, none⟩ = some (.string (bs a.key)) := Lib.cell_of_heap (Box.box hS') 1; go_simp; rfl)⟩) hS ?_
    go_frame
    refine till_take 9 (some 20) rfl rfl (by kernel_rfl) (by kernel_rfl) (by kernel_rfl) (by kernel_rfl) (by kernel_rfl) (by kernel_rfl) (fun _ _ _ h => h) (.inl ⟨by rfl, fun w' _ => (by go_simp; rfl)⟩) hS ?_
    go_frame
    refine till_take 10 (some 21) rfl rfl (by kernel_rfl) (by kernel_rfl) (by kernel_rfl) (by kernel_rfl) (by kernel_rfl) (by kernel_rfl) (fun _ _ _ h => h) (.inl ⟨by rfl, fun w' hS' => (by have hc : w'.cell? ⟨R, 2, none⟩ = some (.string (bs a.value)) := Lib.cell_of_heap (Box.box hS') 2; go_simp; rfl)⟩) hS ?_
    go_frame
    refine till_one 5 rfl (by kernel_rfl) fun K hK => ?_
    simp only [List.getElem_toArray, List.getElem_cons_succ, List.getElem_cons_zero]
    rw [if_pos (by rfl)]
    go_simp
    obtain ⟨F, G, q1, q2, q3, q4⟩ := hbo
    refine (sset_any q1 (by have := L1.out; omega) (by have := L1.out; omega) a.key a.value).mono ?_
    intro e w2 hr
    obtain ⟨rfl, hbo', hbl', k2⟩ := BothS.st hbl q2 q1 q3 q4 hr
    have hS2 : Box w w2 R a := hS.keep k2 fun _ _ hx => st_box q1 hx
    refine hK _ _ (fun _ _ => hS2) ?_
    clear hK hS hr k2 q1 q2 q3 q4 hbl
    have hS := hS2
    have hbo := hbo'
    have hbl := hbl'
    clear hS2 hbo' hbl'
    refine till_one 11 rfl (by kernel_rfl) fun K hK => ?_
    simp only [List.getElem_toArray, List.getElem_cons_succ, List.getElem_cons_zero]
    rw [if_pos (by rfl)]
    go_simp
    obtain ⟨F, G, q1, q2, q3, q4⟩ := hbo
    refine (rset_any q2 (by have := L2.out; omega) (by have := L2.out; omega) a.key a.value).mono ?_
    intro e w3 hr
    obtain ⟨rfl, hbo', hbl', k2⟩ := BothS.rs hbl q2 q1 q3 q4 hr
    have hS2 : Box w w3 R a := hS.keep k2 fun _ _ hx => rs_box q2 hx
    refine hK _ _ (fun _ _ => hS2) ?_
    clear hK hS hr k2 q1 q2 q3 q4 hbl
    have hS := hS2
    have hbo := hbo'
    have hbl := hbl'
    clear hS2 hbo' hbl'
    refine till_take 12 (some 23) rfl rfl (by kernel_rfl) (by kernel_rfl) (by kernel_rfl) (by kernel_rfl) (by kernel_rfl) (by kernel_rfl) (fun _ _ _ h => h) (.inl ⟨by rfl, fun w' _ => (by go_simp; rfl)⟩) hS ?_
    go_frame
    refine till_take 13 (some 6) rfl rfl (by kernel_rfl) (by kernel_rfl) (by kernel_rfl) (by kernel_rfl) (by kernel_rfl) (by kernel_rfl) (fun _ _ _ h => h) (.inl ⟨by rfl, fun w' _ => (by go_simp; rfl)⟩) hS ?_
    go_frame
    have HAC := Lib.hid (Box.acts hS)
    clear hS
    refine till_done (by kernel_rfl) ?_ _
    have HO := Lib.hid hbo; have HL := Lib.hid hbl
    clear hbo hbl
    go_wp2_with fail
    go_ret
    exact ⟨true, rfl, fun _ => rfl, by rw [HD.out, HD.out]; exact HO.out, HL.out, HAC.out⟩
  by_cases k1 : a.kind = 1
  · have hd : ∀ s, doAct s a = s.del a.key := fun s => by unfold doAct; rw [if_neg k0, if_pos k1]
    have HD := Lib.hid hd
    have j0 : (a.kind == 0) = false := by simpa using k0
    have j1 : (a.kind == 1) = true := by rw [k1]; rfl
    clear hd k0 k1
    go_enter Try.func28, Try.ntmps28
    go_wp2_with fail
    obtain ⟨w1, hw1⟩ : ∃ w1, w1 = w.alloc (.cells #[.int .i64 a.kind, .string (bs a.key), .string (bs a.value), .int .i64 a.n] 39) := ⟨_, rfl⟩
    obtain ⟨R, hR⟩ : ∃ R, R = w.heap.size := ⟨_, rfl⟩
    rw [← hw1, ← hR]
    have hbw : Below w.heap.size w w1 := by rw [hw1]; exact (Below.refl _ _).alloc (Nat.le_refl _) _
    have hx1 : Box w w1 R a := ⟨by rw [hw1, hR]; exact heap_alloc_new _ _, fun R' cs h' => (hbw.block R' (heap_lt h')).trans h'⟩
    have HB1 := Lib.hid (HB.out.later hbw); have HBW := Lib.hid (HB0.out.then_below hbw); have HX := Lib.hid hx1
    clear hw1 hR hbw hx1
    have hS : Box w w1.drew R a := HX.out.later (Below.drew (Below.refl _ _))
    refine wp_region_till (fun w' => Box w w' R a) 10 10 (by kernel_rfl) rfl ?_
    have hbo : BothS S w0 w1.drew g h s1 s2 := HB1.out.later (Below.drew (Below.refl _ _))
    have hbl : Keep S w0 w1.drew := HBW.out.drew
    refine till_take 0 (some 26) rfl rfl (by kernel_rfl) (by kernel_rfl) (by kernel_rfl) (by kernel_rfl) (by kernel_rfl) (by kernel_rfl) (fun _ _ _ h => h) (.inl ⟨by rfl, fun w' _ => (by go_simp; rfl)⟩) hS ?_
    go_frame
    refine till_take 1 (some 27) rfl rfl (by kernel_rfl) (by kernel_rfl) (by kernel_rfl) (by kernel_rfl) (by kernel_rfl) (by kernel_rfl) (fun _ _ _ h => h) (.inl ⟨by rfl, fun w' _ => (by go_simp; rfl)⟩) hS ?_
    go_frame
    refine till_take 2 (some 28) rfl rfl (by kernel_rfl) (by kernel_rfl) (by kernel_rfl) (by kernel_rfl) (by kernel_rfl) (by kernel_rfl) (fun _ _ _ h => h) (.inl ⟨by rfl, fun w' hS' => (by have hc : w'.cell? ⟨R, 1, none⟩ = some (.string (bs a.key)) := Lib.cell_of_heap (Box.box hS') 1; go_simp; rfl)⟩) hS ?_
    go_frame
    refine till_take 4 (some 30) rfl rfl (by kernel_rfl) (by kernel_rfl) (by kernel_rfl) (by kernel_rfl) (by kernel_rfl) (by kernel_rfl) (fun _ _ _ h => h) (.inl ⟨by rfl, fun w' _ => (by go_simp; rfl)⟩) hS ?_
    go_frame
    refine till_take 5 (some 31) rfl rfl (by kernel_rfl) (by kernel_rfl) (by kernel_rfl) (by kernel_rfl) (by kernel_rfl) (by kernel_rfl) (fun _ _ _ h => h) (.inl ⟨by rfl, fun w' _ => (by go_simp; rfl)⟩) hS ?_
    go_frame
    refine till_take 6 (some 32) rfl rfl (by kernel_rfl) (by kernel_rfl) (by kernel_rfl) (by kernel_rfl) (by kernel_rfl) (by kernel_rfl) (fun _ _ _ h => h) (.inl ⟨by rfl, fun w' hS' => (by have hc : w'.cell? ⟨R, 1, none⟩ = some (.string (bs a.key)) := Lib.cell_of_heap (Box.box hS') 1; go_simp; rfl)⟩) hS ?_
    go_frame
    refine till_one 3 rfl (by kernel_rfl) fun K hK => ?_
    simp only [List.getElem_toArray, List.getElem_cons_succ, List.getElem_cons_zero]
    rw [if_pos (by rfl)]
    go_simp
    obtain ⟨F, G, q1, q2, q3, q4⟩ := hbo
    refine (sdel_any q1 (by have := L1.out; omega) (by have := L1.out; omega) a.key).mono ?_
    intro e w2 hr
    obtain ⟨rfl, hbo', hbl', k2⟩ := BothS.st hbl q2 q1 q3 q4 hr
    have hS2 : Box w w2 R a := hS.keep k2 fun _ _ hx => st_box q1 hx
    refine hK _ _ (fun _ _ => hS2) ?_
    clear hK hS hr k2 q1 q2 q3 q4 hbl
    have hS := hS2
    have hbo := hbo'
    have hbl := hbl'
    clear hS2 hbo' hbl'
    refine till_one 7 rfl (by kernel_rfl) fun K hK => ?_
    simp only [List.getElem_toArray, List.getElem_cons_succ, List.getElem_cons_zero]
    rw [if_pos (by rfl)]
    go_simp
    obtain ⟨F, G, q1, q2, q3, q4⟩ := hbo
    refine (rdel_any q2 (by have := L2.out; omega) (by have := L2.out; omega) a.key).mono ?_
    intro e w3 hr
    obtain ⟨rfl, hbo', hbl', k2⟩ := BothS.rs hbl q2 q1 q3 q4 hr
    have hS2 : Box w w3 R a := hS.keep k2 fun _ _ hx => rs_box q2 hx
    refine hK _ _ (fun _ _ => hS2) ?_
    clear hK hS hr k2 q1 q2 q3 q4 hbl
    have hS := hS2
    have hbo := hbo'
    have hbl := hbl'
    clear hS2 hbo' hbl'
    refine till_take 8 (some 34) rfl rfl (by kernel_rfl) (by kernel_rfl) (by kernel_rfl) (by kernel_rfl) (by kernel_rfl) (by kernel_rfl) (fun _ _ _ h => h) (.inl ⟨by rfl, fun w' _ => (by go_simp; rfl)⟩) hS ?_
    go_frame
    refine till_take 9 (some 6) rfl rfl (by kernel_rfl) (by kernel_rfl) (by kernel_rfl) (by kernel_rfl) (by kernel_rfl) (by kernel_rfl) (fun _ _ _ h => h) (.inl ⟨by rfl, fun w' _ => (by go_simp; rfl)⟩) hS ?_
    go_frame
    have HAC := Lib.hid (Box.acts hS)
    clear hS
    refine till_done (by kernel_rfl) ?_ _
    have HO := Lib.hid hbo; have HL := Lib.hid hbl
    clear hbo hbl
    go_wp2_with fail
    go_ret
    exact ⟨_, rfl, fun e => by rw [e]; simp, by rw [HD.out, HD.out]; exact HO.out, HL.out, HAC.out⟩
  by_cases k2 : a.kind = 2
  · have hd : ∀ s, doAct s a = s.undo a.n := fun s => by unfold doAct; rw [if_neg k0, if_neg k1, if_pos k2]
    have HD := Lib.hid hd
    have j0 : (a.kind == 0) = false := by simpa using k0
    have j1 : (a.kind == 1) = false := by simpa using k1
    have j2 : (a.kind == 2) = true := by rw [k2]; rfl
    clear hd k0 k1 k2
    go_enter Try.func28, Try.ntmps28
    go_wp2_with fail
    obtain ⟨w1, hw1⟩ : ∃ w1, w1 = w.alloc (.cells #[.int .i64 a.kind, .string (bs a.key), .string (bs a.value), .int .i64 a.n] 39) := ⟨_, rfl⟩
    obtain ⟨R, hR⟩ : ∃ R, R = w.heap.size := ⟨_, rfl⟩
    rw [← hw1, ← hR]
    have hbw : Below w.heap.size w w1 := by rw [hw1]; exact (Below.refl _ _).alloc (Nat.le_refl _) _
    have hx1 : Box w w1 R a := ⟨by rw [hw1, hR]; exact heap_alloc_new _ _, fun R' cs h' => (hbw.block R' (heap_lt h')).trans h'⟩
    have HB1 := Lib.hid (HB.out.later hbw); have HBW := Lib.hid (HB0.out.then_below hbw); have HX := Lib.hid hx1
    clear hw1 hR hbw hx1
    have hS : Box w w1.drew R a := HX.out.later (Below.drew (Below.refl _ _))
    refine wp_region_till (fun w' => Box w w' R a) 10 10 (by kernel_rfl) rfl ?_
    have hbo : BothS S w0 w1.drew g h s1 s2 := HB1.out.later (Below.drew (Below.refl _ _))
    have hbl : Keep S w0 w1.drew := HBW.out.drew
    refine till_take 0 (some 37) rfl rfl (by kernel_rfl) (by kernel_rfl) (by kernel_rfl) (by kernel_rfl) (by kernel_rfl) (by kernel_rfl) (fun _ _ _ h => h) (.inl ⟨by rfl, fun w' _ => (by go_simp; rfl)⟩) hS ?_
    go_frame
    refine till_take 1 (some 38) rfl rfl (by kernel_rfl) (by kernel_rfl) (by kernel_rfl) (by kernel_rfl) (by kernel_rfl) (by kernel_rfl) (fun _ _ _ h => h) (.inl ⟨by rfl, fun w' _ => (by go_simp; rfl)⟩) hS ?_
    go_frame
    refine till_take 2 (some 39) rfl rfl (by kernel_rfl) (by kernel_rfl) (by kernel_rfl) (by kernel_rfl) (by kernel_rfl) (by kernel_rfl) (fun _ _ _ h => h) (.inl ⟨by rfl, fun w' hS' => (by have hc : w'.cell? ⟨R, 3, none⟩ = some (.int .i64 a.n) := Lib.cell_of_heap (Box.box hS') 3; go_simp; rfl)⟩) hS ?_
    go_frame
    refine till_take 4 (some 41) rfl rfl (by kernel_rfl) (by kernel_rfl) (by kernel_rfl) (by kernel_rfl) (by kernel_rfl) (by kernel_rfl) (fun _ _ _ h => h) (.inl ⟨by rfl, fun w' _ => (by go_simp; rfl)⟩) hS ?_
    go_frame
    refine till_take 5 (some 42) rfl rfl (by kernel_rfl) (by kernel_rfl) (by kernel_rfl) (by kernel_rfl) (by kernel_rfl) (by kernel_rfl) (fun _ _ _ h => h) (.inl ⟨by rfl, fun w' _ => (by go_simp; rfl)⟩) hS ?_
    go_frame
    refine till_take 6 (some 43) rfl rfl (by kernel_rfl) (by kernel_rfl) (by kernel_rfl) (by kernel_rfl) (by kernel_rfl) (by kernel_rfl) (fun _ _ _ h => h) (.inl ⟨by rfl, fun w' hS' => (by have hc : w'.cell? ⟨R, 3, none⟩ = some (.int .i64 a.n) := Lib.cell_of_heap (Box.box hS') 3; go_simp; rfl)⟩) hS ?_
    go_frame
    refine till_one 3 rfl (by kernel_rfl) fun K hK => ?_
    simp only [List.getElem_toArray, List.getElem_cons_succ, List.getElem_cons_zero]
    rw [if_pos (by rfl)]
    go_simp
    obtain ⟨F, G, q1, q2, q3, q4⟩ := hbo
    refine (sundo_any q1 (by have := L1.out; omega) a.n).mono ?_
    intro e w2 hr
    obtain ⟨rfl, hbo', hbl', k2⟩ := BothS.st hbl q2 q1 q3 q4 hr
    have hS2 : Box w w2 R a := hS.keep k2 fun _ _ hx => st_box q1 hx
    refine hK _ _ (fun _ _ => hS2) ?_
    clear hK hS hr k2 q1 q2 q3 q4 hbl
    have hS := hS2
    have hbo := hbo'
    have hbl := hbl'
    clear hS2 hbo' hbl'
    refine till_one 7 rfl (by kernel_rfl) fun K hK => ?_
    simp only [List.getElem_toArray, List.getElem_cons_succ, List.getElem_cons_zero]
    rw [if_pos (by rfl)]
    go_simp
    obtain ⟨F, G, q1, q2, q3, q4⟩ := hbo
    refine (rundo_any q2 (by have := L2.out; omega) a.n).mono ?_
    intro e w3 hr
    obtain ⟨rfl, hbo', hbl', k2⟩ := BothS.rs hbl q2 q1 q3 q4 hr
    have hS2 : Box w w3 R a := hS.keep k2 fun _ _ hx => rs_box q2 hx
    refine hK _ _ (fun _ _ => hS2) ?_
    clear hK hS hr k2 q1 q2 q3 q4 hbl
    have hS := hS2
    have hbo := hbo'
    have hbl := hbl'
    clear hS2 hbo' hbl'
    refine till_take 8 (some 45) rfl rfl (by kernel_rfl) (by kernel_rfl) (by kernel_rfl) (by kernel_rfl) (by kernel_rfl) (by kernel_rfl) (fun _ _ _ h => h) (.inl ⟨by rfl, fun w' _ => (by go_simp; rfl)⟩) hS ?_
    go_frame
    refine till_take 9 (some 6) rfl rfl (by kernel_rfl) (by kernel_rfl) (by kernel_rfl) (by kernel_rfl) (by kernel_rfl) (by kernel_rfl) (fun _ _ _ h => h) (.inl ⟨by rfl, fun w' _ => (by go_simp; rfl)⟩) hS ?_
    go_frame
    have HAC := Lib.hid (Box.acts hS)
    clear hS
    refine till_done (by kernel_rfl) ?_ _
    have HO := Lib.hid hbo; have HL := Lib.hid hbl
    clear hbo hbl
    go_wp2_with fail
    go_ret
    exact ⟨_, rfl, fun e => by rw [e]; simp, by rw [HD.out, HD.out]; exact HO.out, HL.out, HAC.out⟩
  by_cases k3 : a.kind = 3
  · have hd : ∀ s, doAct s a = s.settle := fun s => by unfold doAct; rw [if_neg k0, if_neg k1, if_neg k2, if_pos k3]
    have HD := Lib.hid hd
    have j0 : (a.kind == 0) = false := by simpa using k0
    have j1 : (a.kind == 1) = false := by simpa using k1
    have j2 : (a.kind == 2) = false := by simpa using k2
    have j3 : (a.kind == 3) = true := by rw [k3]; rfl
    clear hd k0 k1 k2 k3
    go_enter Try.func28, Try.ntmps28
    go_wp2_with fail
    obtain ⟨w1, hw1⟩ : ∃ w1, w1 = w.alloc (.cells #[.int .i64 a.kind, .string (bs a.key), .string (bs a.value), .int .i64 a.n] 39) := ⟨_, rfl⟩
    obtain ⟨R, hR⟩ : ∃ R, R = w.heap.size := ⟨_, rfl⟩
    rw [← hw1, ← hR]
    have hbw : Below w.heap.size w w1 := by rw [hw1]; exact (Below.refl _ _).alloc (Nat.le_refl _) _
    have hx1 : Box w w1 R a := ⟨by rw [hw1, hR]; exact heap_alloc_new _ _, fun R' cs h' => (hbw.block R' (heap_lt h')).trans h'⟩
    have HB1 := Lib.hid (HB.out.later hbw); have HBW := Lib.hid (HB0.out.then_below hbw); have HX := Lib.hid hx1
    clear hw1 hR hbw hx1
    obtain ⟨F, G, q1, q2, q3, q4⟩ := HB1.out
    refine (ssettle_any q1).mono ?_
    intro e w2 hr
    obtain ⟨rfl, hbo2, hbl2, k12⟩ := BothS.st HBW.out q2 q1 q3 q4 hr
    have hx2 : Box w w2 R a := HX.out.keep k12 fun _ _ hx => st_box q1 hx
    have HB2 := Lib.hid hbo2; have HBL2 := Lib.hid hbl2; have HX2 := Lib.hid hx2
    clear hr q1 q2 q3 q4 hbo2 hbl2 k12 hx2 HB1 HBW HX
    obtain ⟨F2, G2, p1, p2, p3, p4⟩ := HB2.out
    have P2 := Lib.hid p2
    obtain ⟨vL, vP, hra, hG⟩ := p2
    have HRA := Lib.hid hra; have P1 := Lib.hid p1; have P3 := Lib.hid p3; have P4 := Lib.hid p4; have HG := Lib.hid hG
    clear p1 p3 p4 hra hG
    go_wp2_with (refine wpList_store1_g rfl 53 _ _ rfl h 1 _ rfl rfl rfl rfl 55 _ HRA.out.head (by kernel_rfl) (by simp) _ rfl ?_)
    intro w3 h3 k23 _
    have hret : RRet w2 h G2 s2.settle (.tuple #[]) (.returned (.tuple #[])) w3 := by
      rw [HG.out]
      refine ⟨rfl, rfoot h vL (.slice none 0 0), ⟨vL, _, ⟨h3, HRA.out.list.keep k23 fun k e e2 => HRA.out.list.apart HRA.out.head (by decide) (by rw [e, e2]), LO.nil _ _ _ _, HRA.out.up⟩, rfl⟩, k23.mono ?_, ?_⟩
      · intro x _ hx; exact (rfoot_eq _ _ _ _).2 (.inl hx)
      · intro x hx
        rw [rfoot_eq] at hx
        left
        rw [rfoot_eq]
        rcases hx with e | e | e
        · exact .inl e
        · exact .inr (.inl e)
        · cases e
    obtain ⟨_, hbo3, hbl3, k3⟩ := BothS.rs HBL2.out P2.out P1.out P3.out P4.out hret
    have hx3 : Box w w3 R a := HX2.out.keep k3 fun _ _ hx => rs_box P2.out hx
    obtain ⟨z1, hz1⟩ : ∃ z1, z1 = s1.settle := ⟨_, rfl⟩
    obtain ⟨z2, hz2⟩ : ∃ z2, z2 = s2.settle := ⟨_, rfl⟩
    have hzz : s1 = s2 → z1 = z2 := fun e => by rw [hz1, hz2, e]
    have M1 : z1.t.length < 1099511627776 := by rw [hz1]; have := L1.out; show s1.t.length < _; omega
    have M2 : z2.t.length < 1099511627776 := by rw [hz2]; have := L2.out; show s2.t.length < _; omega
    rw [← hz1, ← hz2] at hbo3
    have HZ1 : Hid (doAct s1 a = z1) := Lib.hid (by rw [HD.out, hz1])
    have HZ2 : Hid (doAct s2 a = z2) := Lib.hid (by rw [HD.out, hz2])
    have HB1 := Lib.hid hbo3; have HBW := Lib.hid hbl3; have HX := Lib.hid hx3; have M1 := Lib.hid M1; have M2 := Lib.hid M2; have HZZ := Lib.hid hzz
    obtain ⟨w1, hw1⟩ : ∃ w1, w1 = w3 := ⟨_, rfl⟩
    clear h3 k23 hret hbo3 hbl3 k3 hx3 hz1 hz2 HB2 HBL2 HX2 HRA P1 P2 P3 P4 HG hzz
    subst hw1
    go_wp2_with fail
    have hS : Box w w1.drew R a := HX.out.later (Below.drew (Below.refl _ _))
    refine wp_region_till (fun w' => Box w w' R a) 10 10 (by kernel_rfl) rfl ?_
    have hbo : BothS S w0 w1.drew g h z1 z2 := HB1.out.later (Below.drew (Below.refl _ _))
    have hbl : Keep S w0 w1.drew := HBW.out.drew
    refine till_take 0 (some 53) rfl rfl (by kernel_rfl) (by kernel_rfl) (by kernel_rfl) (by kernel_rfl) (by kernel_rfl) (by kernel_rfl) (fun _ _ _ h => h) (.inl ⟨by rfl, fun w' _ => (by go_simp; rfl)⟩) hS ?_
    go_frame
    refine till_take 1 (some 54) rfl rfl (by kernel_rfl) (by kernel_rfl) (by kernel_rfl) (by kernel_rfl) (by kernel_rfl) (by kernel_rfl) (fun _ _ _ h => h) (.inl ⟨by rfl, fun w' _ => (by go_simp; rfl)⟩) hS ?_
    go_frame
    refine till_take 2 (some 55) rfl rfl (by kernel_rfl) (by kernel_rfl) (by kernel_rfl) (by kernel_rfl) (by kernel_rfl) (by kernel_rfl) (fun _ _ _ h => h) (.inl ⟨by rfl, fun w' hS' => (by have hc : w'.cell? ⟨R, 1, none⟩ = some (.string (bs a.key)) := Lib.cell_of_heap (Box.box hS') 1; go_simp; rfl)⟩) hS ?_
    go_frame
    refine till_take 4 (some 57) rfl rfl (by kernel_rfl) (by kernel_rfl) (by kernel_rfl) (by kernel_rfl) (by kernel_rfl) (by kernel_rfl) (fun _ _ _ h => h) (.inl ⟨by rfl, fun w' _ => (by go_simp; rfl)⟩) hS ?_
    go_frame
    refine till_take 5 (some 58) rfl rfl (by kernel_rfl) (by kernel_rfl) (by kernel_rfl) (by kernel_rfl) (by kernel_rfl) (by kernel_rfl) (fun _ _ _ h => h) (.inl ⟨by rfl, fun w' _ => (by go_simp; rfl)⟩) hS ?_
    go_frame
    refine till_take 6 (some 59) rfl rfl (by kernel_rfl) (by kernel_rfl) (by kernel_rfl) (by kernel_rfl) (by kernel_rfl) (by kernel_rfl) (fun _ _ _ h => h) (.inl ⟨by rfl, fun w' hS' => (by have hc : w'.cell? ⟨R, 1, none⟩ = some (.string (bs a.key)) := Lib.cell_of_heap (Box.box hS') 1; go_simp; rfl)⟩) hS ?_
    go_frame
    refine till_one 3 rfl (by kernel_rfl) fun K hK => ?_
    simp only [List.getElem_toArray, List.getElem_cons_succ, List.getElem_cons_zero]
    rw [if_pos (by rfl)]
    go_simp
    obtain ⟨F, G, q1, q2, q3, q4⟩ := hbo
    refine (sunder_any q1 M1.out a.key).mono ?_
    rintro e wA ⟨vA, rfl, hlvA, hbA, _⟩
    have hbo' : BothS S w0 wA g h z1 z2 := BothS.later ⟨F, G, q1, q2, q3, q4⟩ hbA
    have hbl' := hbl.then_below hbA
    have hS2 : Box w wA R a := hS.later hbA
    refine hK _ _ (fun _ _ => hS2) ?_
    clear hK hS hbA q1 q2 q3 q4 hbl
    have hS := hS2
    have hbo := hbo'
    have hbl := hbl'
    clear hS2 hbo' hbl'
    refine till_one 7 rfl (by kernel_rfl) fun K hK => ?_
    simp only [List.getElem_toArray, List.getElem_cons_succ, List.getElem_cons_zero]
    rw [if_pos (by rfl)]
    go_simp
    obtain ⟨F, G, q1, q2, q3, q4⟩ := hbo
    refine (runder_any q2 M2.out a.key).mono ?_
    rintro e wB ⟨vB, rfl, hlvB, hbA, _⟩
    have hbo' : BothS S w0 wB g h z1 z2 := BothS.later ⟨F, G, q1, q2, q3, q4⟩ hbA
    have hbl' := hbl.then_below hbA
    have hS2 : Box w wB R a := hS.later hbA
    refine hK _ _ (fun _ _ => hS2) ?_
    have hlA2 := hlvA.later hbA
    clear hK hS hbA q1 q2 q3 q4 hbl
    have hS := hS2
    have hbo := hbo'
    have hbl := hbl'
    clear hS2 hbo' hbl'
    refine till_one 8 rfl (by kernel_rfl) fun K hK => ?_
    simp only [List.getElem_toArray, List.getElem_cons_succ, List.getElem_cons_zero]
    rw [if_pos (by rfl)]
    go_simp
    have e1 : (underP z1.t a.key).length ≤ z1.t.length := List.length_filter_le _ _
    have e2 : (underP z2.t a.key).length ≤ z2.t.length := List.length_filter_le _ _
    refine (rsame_any (hlA2.rd pairE_len) (hlvB.rd pairE_len) (by have := M1.out; omega) (by have := M2.out; omega)).mono ?_
    rintro e wC ⟨rfl, hbC⟩
    have hbo' := hbo.later hbC
    have hbl' := hbl.then_below hbC
    have hS2 : Box w wC R a := hS.later hbC
    refine hK _ _ (fun _ _ => hS2) ?_
    clear hK hS hbC hbl hbo e1 e2 hlvA hlA2 hlvB
    have hS := hS2
    have hbo := hbo'
    have hbl := hbl'
    clear hS2 hbo' hbl'
    refine till_take 9 (some 6) rfl rfl (by kernel_rfl) (by kernel_rfl) (by kernel_rfl) (by kernel_rfl) (by kernel_rfl) (by kernel_rfl) (fun _ _ _ h => h) (.inl ⟨by rfl, fun w' _ => (by go_simp; rfl)⟩) hS ?_
    go_frame
    have HAC := Lib.hid (Box.acts hS)
    clear hS
    refine till_done (by kernel_rfl) ?_ _
    have HO := Lib.hid hbo; have HL := Lib.hid hbl
    clear hbo hbl
    go_wp2_with fail
    go_ret
    exact ⟨_, rfl, fun e => by rw [HZZ.out e]; exact decide_eq_true rfl, by rw [HZ1.out, HZ2.out]; exact HO.out, HL.out, HAC.out⟩
  have hd : ∀ s, doAct s a = s := fun s => by unfold doAct; rw [if_neg k0, if_neg k1, if_neg k2, if_neg k3]
  have HD := Lib.hid hd
  have j0 : (a.kind == 0) = false := by simpa using k0
  have j1 : (a.kind == 1) = false := by simpa using k1
  have j2 : (a.kind == 2) = false := by simpa using k2
  have j3 : (a.kind == 3) = false := by simpa using k3
  clear hd k0 k1 k2 k3
  · go_enter Try.func28, Try.ntmps28
    go_wp2_with fail
    obtain ⟨w1, hw1⟩ : ∃ w1, w1 = w.alloc (.cells #[.int .i64 a.kind, .string (bs a.key), .string (bs a.value), .int .i64 a.n] 39) := ⟨_, rfl⟩
    obtain ⟨R, hR⟩ : ∃ R, R = w.heap.size := ⟨_, rfl⟩
    rw [← hw1, ← hR]
    have hbw : Below w.heap.size w w1 := by rw [hw1]; exact (Below.refl _ _).alloc (Nat.le_refl _) _
    have hx1 : Box w w1 R a := ⟨by rw [hw1, hR]; exact heap_alloc_new _ _, fun R' cs h' => (hbw.block R' (heap_lt h')).trans h'⟩
    have HB1 := Lib.hid (HB.out.later hbw); have HBW := Lib.hid (HB0.out.then_below hbw); have HX := Lib.hid hx1
    clear hw1 hR hbw hx1
    obtain ⟨z1, hz1⟩ : ∃ z1, z1 = s1 := ⟨_, rfl⟩
    obtain ⟨z2, hz2⟩ : ∃ z2, z2 = s2 := ⟨_, rfl⟩
    have hzz : s1 = s2 → z1 = z2 := fun e => by rw [hz1, hz2, e]
    have M1 : z1.t.length < 1099511627776 := by rw [hz1]; have := L1.out; omega
    have M2 : z2.t.length < 1099511627776 := by rw [hz2]; have := L2.out; omega
    have HZ1 : Hid (doAct s1 a = z1) := Lib.hid (by rw [HD.out, hz1])
    have HZ2 : Hid (doAct s2 a = z2) := Lib.hid (by rw [HD.out, hz2])
    have HB1 : Hid (BothS S w0 w1 g h z1 z2) := Lib.hid (by rw [hz1, hz2]; exact HB1.out)
    have M1 := Lib.hid M1; have M2 := Lib.hid M2; have HZZ := Lib.hid hzz
    clear hz1 hz2 hzz
    have hS : Box w w1.drew R a := HX.out.later (Below.drew (Below.refl _ _))
    refine wp_region_till (fun w' => Box w w' R a) 10 10 (by kernel_rfl) rfl ?_
    have hbo : BothS S w0 w1.drew g h z1 z2 := HB1.out.later (Below.drew (Below.refl _ _))
    have hbl : Keep S w0 w1.drew := HBW.out.drew
    refine till_take 0 (some 53) rfl rfl (by kernel_rfl) (by kernel_rfl) (by kernel_rfl) (by kernel_rfl) (by kernel_rfl) (by kernel_rfl) (fun _ _ _ h => h) (.inl ⟨by rfl, fun w' _ => (by go_simp; rfl)⟩) hS ?_
    go_frame
    refine till_take 1 (some 54) rfl rfl (by kernel_rfl) (by kernel_rfl) (by kernel_rfl) (by kernel_rfl) (by kernel_rfl) (by kernel_rfl) (fun _ _ _ h => h) (.inl ⟨by rfl, fun w' _ => (by go_simp; rfl)⟩) hS ?_
    go_frame
    refine till_take 2 (some 55) rfl rfl (by kernel_rfl) (by kernel_rfl) (by kernel_rfl) (by kernel_rfl) (by kernel_rfl) (by kernel_rfl) (fun _ _ _ h => h) (.inl ⟨by rfl, fun w' hS' => (by have hc : w'.cell? ⟨R, 1, none⟩ = some (.string (bs a.key)) := Lib.cell_of_heap (Box.box hS') 1; go_simp; rfl)⟩) hS ?_
    go_frame
    refine till_take 4 (some 57) rfl rfl (by kernel_rfl) (by kernel_rfl) (by kernel_rfl) (by kernel_rfl) (by kernel_rfl) (by kernel_rfl) (fun _ _ _ h => h) (.inl ⟨by rfl, fun w' _ => (by go_simp; rfl)⟩) hS ?_
    go_frame
    refine till_take 5 (some 58) rfl rfl (by kernel_rfl) (by kernel_rfl) (by kernel_rfl) (by kernel_rfl) (by kernel_rfl) (by kernel_rfl) (fun _ _ _ h => h) (.inl ⟨by rfl, fun w' _ => (by go_simp; rfl)⟩) hS ?_
    go_frame
    refine till_take 6 (some 59) rfl rfl (by kernel_rfl) (by kernel_rfl) (by kernel_rfl) (by kernel_rfl) (by kernel_rfl) (by kernel_rfl) (fun _ _ _ h => h) (.inl ⟨by rfl, fun w' hS' => (by have hc : w'.cell? ⟨R, 1, none⟩ = some (.string (bs a.key)) := Lib.cell_of_heap (Box.box hS') 1; go_simp; rfl)⟩) hS ?_
    go_frame
    refine till_one 3 rfl (by kernel_rfl) fun K hK => ?_
    simp only [List.getElem_toArray, List.getElem_cons_succ, List.getElem_cons_zero]
    rw [if_pos (by rfl)]
    go_simp
    obtain ⟨F, G, q1, q2, q3, q4⟩ := hbo
    refine (sunder_any q1 M1.out a.key).mono ?_
    rintro e wA ⟨vA, rfl, hlvA, hbA, _⟩
    have hbo' : BothS S w0 wA g h z1 z2 := BothS.later ⟨F, G, q1, q2, q3, q4⟩ hbA
    have hbl' := hbl.then_below hbA
    have hS2 : Box w wA R a := hS.later hbA
    refine hK _ _ (fun _ _ => hS2) ?_
    clear hK hS hbA q1 q2 q3 q4 hbl
    have hS := hS2
    have hbo := hbo'
    have hbl := hbl'
    clear hS2 hbo' hbl'
    refine till_one 7 rfl (by kernel_rfl) fun K hK => ?_
    simp only [List.getElem_toArray, List.getElem_cons_succ, List.getElem_cons_zero]
    rw [if_pos (by rfl)]
    go_simp
    obtain ⟨F, G, q1, q2, q3, q4⟩ := hbo
    refine (runder_any q2 M2.out a.key).mono ?_
    rintro e wB ⟨vB, rfl, hlvB, hbA, _⟩
    have hbo' : BothS S w0 wB g h z1 z2 := BothS.later ⟨F, G, q1, q2, q3, q4⟩ hbA
    have hbl' := hbl.then_below hbA
    have hS2 : Box w wB R a := hS.later hbA
    refine hK _ _ (fun _ _ => hS2) ?_
    have hlA2 := hlvA.later hbA
    clear hK hS hbA q1 q2 q3 q4 hbl
    have hS := hS2
    have hbo := hbo'
    have hbl := hbl'
    clear hS2 hbo' hbl'
    refine till_one 8 rfl (by kernel_rfl) fun K hK => ?_
    simp only [List.getElem_toArray, List.getElem_cons_succ, List.getElem_cons_zero]
    rw [if_pos (by rfl)]
    go_simp
    have e1 : (underP z1.t a.key).length ≤ z1.t.length := List.length_filter_le _ _
    have e2 : (underP z2.t a.key).length ≤ z2.t.length := List.length_filter_le _ _
    refine (rsame_any (hlA2.rd pairE_len) (hlvB.rd pairE_len) (by have := M1.out; omega) (by have := M2.out; omega)).mono ?_
    rintro e wC ⟨rfl, hbC⟩
    have hbo' := hbo.later hbC
    have hbl' := hbl.then_below hbC
    have hS2 : Box w wC R a := hS.later hbC
    refine hK _ _ (fun _ _ => hS2) ?_
    clear hK hS hbC hbl hbo e1 e2 hlvA hlA2 hlvB
    have hS := hS2
    have hbo := hbo'
    have hbl := hbl'
    clear hS2 hbo' hbl'
    refine till_take 9 (some 6) rfl rfl (by kernel_rfl) (by kernel_rfl) (by kernel_rfl) (by kernel_rfl) (by kernel_rfl) (by kernel_rfl) (fun _ _ _ h => h) (.inl ⟨by rfl, fun w' _ => (by go_simp; rfl)⟩) hS ?_
    go_frame
    have HAC := Lib.hid (Box.acts hS)
    clear hS
    refine till_done (by kernel_rfl) ?_ _
    have HO := Lib.hid hbo; have HL := Lib.hid hbl
    clear hbo hbl
    go_wp2_with fail
    go_ret
    exact ⟨_, rfl, fun e => by rw [HZZ.out e]; exact decide_eq_true rfl, by rw [HZ1.out, HZ2.out]; exact HO.out, HL.out, HAC.out⟩
theorem act_any {w0 w : World} {g h : Nat} {s1 s2 : PS} (a : ActP) (hb0 : Below w0.heap.size w0 w) (hbo : Both w0.heap.size w g h s1 s2) (l1 : s1.t.length + s1.past.length < 1099511627776) (l2 : s2.t.length + s2.past.length < 1099511627776) :
    Calls Try.prog 28 #[.pointer (some ⟨g, 0, none⟩), .pointer (some ⟨h, 0, none⟩), .agg #[.int .i64 a.kind, .string (bs a.key), .string (bs a.value), .int .i64 a.n]] w (ActRet w0 w g h s1 s2 a) := by
  obtain ⟨F, G, h1, h2, h3, h4⟩ := hbo
  refine (act_gen (S := fun _ => False) a (Keep.of_below hb0) ⟨F, G, h1, h2, fun x hx => .inr (h3 x hx), fun x hx => .inr (h4 x hx)⟩ l1 l2).mono ?_
  rintro e w' ⟨r, he, hr, ⟨F', G', k1, k2, k3, k4⟩, hk, ha⟩
  exact ⟨r, he, hr, ⟨F', G', k1, k2, fun x hx => (k3 x hx).elim False.elim id, fun x hx => (k4 x hx).elim False.elim id⟩, hk.none fun _ _ => id, ha⟩
end Go.Proofs.Ytggcmaegmkjedaa
