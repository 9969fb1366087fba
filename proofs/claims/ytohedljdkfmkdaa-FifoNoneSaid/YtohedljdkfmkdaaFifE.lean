/- FifoNone: the walk. No condition. -/
import Derived.Test.YtohedljdkfmkdaaFifD
namespace Go.Proofs.Ytohedljdkfmkdaa
open Go.RowKit

theorem Try.zeroStore (w : World) : (zeroValue 60).run Try.prog w = .ok (.agg #[.bool false, .map none, .slice none 0 0, .slice none 0 0]) w := by kernel_rfl
theorem idxStore0 (p q : Value) (w : World) : (Instr.index 61 (.agg #[p, q]) (.int .i64 0)).run Try.prog w = .ok p w := by kernel_rfl
theorem idxStore1 (p q : Value) (w : World) : (Instr.index 61 (.agg #[p, q]) (.int .i64 1)).run Try.prog w = .ok q w := by kernel_rfl

set_option maxHeartbeats 8000000 in
set_option maxRecDepth 100000 in
theorem none12_any {w : World} (a : Act12) (hga : Good12 w a) :
    Calls Try.prog 7 #[.agg #[.bool a.pop, .slice a.ad a.ids.length a.cap, .slice a.ld a.l.length a.lcap]] w (Ret w (.bool true)) := by
  have HGA := Lib.hid hga
  clear hga
  go_enter Try.func7, Try.ntmps7
  go_wp2_with fail
  obtain ⟨w0, hw0⟩ : ∃ w0, w0 = w.alloc (.cells #[.bool a.pop, .slice a.ad a.ids.length a.cap, .slice a.ld a.l.length a.lcap] 71) := ⟨_, rfl⟩
  obtain ⟨R, hR⟩ : ∃ R, R = w.heap.size := ⟨_, rfl⟩
  rw [← hw0, ← hR]
  have hx0 : w0.heap[R]? = some (.cells #[.bool a.pop, .slice a.ad a.ids.length a.cap, .slice a.ld a.l.length a.lcap] 71 (0, 0)) := by rw [hw0, hR]; exact heap_alloc_new _ _
  have hb0 : Below w.heap.size w w0 := by rw [hw0]; exact (Below.refl _ _).alloc (Nat.le_refl _) _
  have HX0 := Lib.hid hx0; have HB0 := Lib.hid hb0
  have hla := litA12 w0 a
  rw [show w0.heap.size = R + 1 by rw [hw0, hR, World.size_alloc]] at hla
  clear hw0 hR hx0 hb0
  refine (light12_any hla).mono ?_
  rintro e w2 ⟨r, rfl, hr, hb⟩
  have HB2 := Lib.hid ((below_new w0 (.cells #[.bool a.pop, .slice a.ad a.ids.length a.cap, .slice a.ld a.l.length a.lcap] 71)).trans (hb.mono (below_new w0 _).size))
  have HBW := Lib.hid (HB0.out.trans (HB2.out.mono HB0.out.size))
  clear hb hla
  cases r with
  | false =>
    clear hr
    go_wp2_with fail
    refine (lives12_any _).mono ?_
    rintro e w2 ⟨rfl, hb2⟩
    have HBL := Lib.hid (HBW.out.trans (hb2.mono HBW.out.size))
    clear hb2
    go_wp2_with fail
    go_ret
    exact ⟨rfl, HBL.out⟩
  | true =>
  have hsh := (hr rfl).2 a (by simp)
  have HSH : Hid (a.ids.length ≤ 1000000) := Lib.hid (by omega)
  clear hr hsh
  go_wp2_with fail
  obtain ⟨w3, hw3⟩ : ∃ w3, w3 = w2.alloc (.cells #[.bool false, .map none, .slice none 0 0, .slice none 0 0] 60) := ⟨_, rfl⟩
  obtain ⟨gz, hgz⟩ : ∃ gz, gz = w2.heap.size := ⟨_, rfl⟩
  rw [← hw3, ← hgz]
  have hz3 : w3.heap[gz]? = some (.cells #[.bool false, .map none, .slice none 0 0, .slice none 0 0] 60 (0, 0)) := by rw [hw3, hgz]; exact heap_alloc_new _ _
  have hb3 : Below w2.heap.size w2 w3 := by rw [hw3]; exact below_new w2 _
  have HB3 := Lib.hid (HB2.out.trans (hb3.mono HB2.out.size))
  have HX3 := Lib.hid (below_at' HB3.out HX0.out)
  have HN0 : Hid (NotMade w3 none) := Lib.hid (.inl rfl)
  have HN1 : Hid (NotMade w3 (some ⟨gz, 0, none⟩)) := Lib.hid (.inr ⟨gz, _, _, rfl, hz3, rfl⟩)
  have HGA3 := Lib.hid (HGA.out.later (HB0.out.trans (HB3.out.mono HB0.out.size)))
  clear hw3 hgz hz3 hb3 HB2 HBW HX0
  go_loopw [16] (fun vi wr => (vi = .int .i64 0 ∨ vi = .int .i64 1 ∨ vi = .int .i64 2) ∧ Hid (Below w3.heap.size w3 wr)) (fun vi _ => 2 - (intOf vi).toNat)
  case atStart => exact ⟨.inl rfl, Lib.hid (Below.refl _ _)⟩
  case round =>
    obtain ⟨hv, BW⟩ := hrel
    have hi0 := fun w => idxStore0 (.pointer none) (.pointer (some ⟨gz, 0, none⟩)) w
    have hi1 := fun w => idxStore1 (.pointer none) (.pointer (some ⟨gz, 0, none⟩)) w
    have q1 : wr.cell? ⟨R, 1, none⟩ = some (.slice a.ad a.ids.length a.cap) := Lib.cell_of_heap (below_at' BW.out HX3.out) 1
    rcases hv with rfl | rfl | rfl
    · go_wp2_with fail
      refine (peek_any (Look.of_not (HN0.out.later BW.out)) FitF.none 3 (ids := a.ids) HSH.out HGA3.out.i64 (HGA3.out.rd.later BW.out)).mono ?_
      rw [show peekB (fun _ => none) 3 a.ids = false by unfold peekB; rw [ends_none]; rfl]
      rintro e w4 ⟨v4, rfl, _, hb⟩
      have BW4 := Lib.hid (BW.out.trans (hb.mono BW.out.size))
      clear hb q1 BW
      have q1 : w4.cell? ⟨R, 1, none⟩ = some (.slice a.ad a.ids.length a.cap) := Lib.cell_of_heap (below_at' BW4.out HX3.out) 1
      go_wp2_with fail
      refine (pop_not (HN0.out.later BW4.out) 3 (ids := a.ids) HSH.out HGA3.out.i64 (HGA3.out.rd.later BW4.out)).mono ?_
      rintro e w5 ⟨rfl, hb⟩
      have BW5 := Lib.hid (BW4.out.trans (hb.mono BW4.out.size))
      clear hb q1 BW4
      obtain ⟨wz, hwz⟩ : ∃ wz, wz = w5.drew := ⟨_, rfl⟩
      have BW : Hid (Below w3.heap.size w3 wz) := Lib.hid (by rw [hwz]; exact BW5.out.drew)
      have hS : wz.cell? ⟨R, 1, none⟩ = some (.slice a.ad a.ids.length a.cap) ∧ wz.cell? ⟨R, 2, none⟩ = some (.slice a.ld a.l.length a.lcap) := ⟨Lib.cell_of_heap (below_at' BW.out HX3.out) 1, Lib.cell_of_heap (below_at' BW.out HX3.out) 2⟩
      clear BW5
      go_wp2_with fail
      refine wp_region_till (fun w' => w'.cell? ⟨R, 1, none⟩ = some (.slice a.ad a.ids.length a.cap) ∧ w'.cell? ⟨R, 2, none⟩ = some (.slice a.ld a.l.length a.lcap)) 26 26 (by kernel_rfl) rfl ?_
      rw [← hwz]
      clear hwz
      refine till_take 0 (some 33) rfl rfl (by kernel_rfl) (by kernel_rfl) (by kernel_rfl) (by kernel_rfl) (by kernel_rfl) (by kernel_rfl) (fun _ _ _ h => h) (.inl ⟨by rfl, fun w' _ => (by go_simp; rfl)⟩) hS ?_
      go_frame
      refine till_take 1 (some 34) rfl rfl (by kernel_rfl) (by kernel_rfl) (by kernel_rfl) (by kernel_rfl) (by kernel_rfl) (by kernel_rfl) (fun _ _ _ h => h) (.inl ⟨by rfl, fun w' _ => (by go_simp; rfl)⟩) hS ?_
      go_frame
      refine till_take 2 (some 35) rfl rfl (by kernel_rfl) (by kernel_rfl) (by kernel_rfl) (by kernel_rfl) (by kernel_rfl) (by kernel_rfl) (fun _ _ _ h => h) (.inl ⟨by rfl, fun w' hS' => (by obtain ⟨hc1, hc2⟩ := hS'; go_simp; rfl)⟩) hS ?_
      go_frame
      refine till_take 3 (some 36) rfl rfl (by kernel_rfl) (by kernel_rfl) (by kernel_rfl) (by kernel_rfl) (by kernel_rfl) (by kernel_rfl) (fun _ _ _ h => h) (.inl ⟨by rfl, fun w' _ => (by go_simp; rfl)⟩) hS ?_
      go_frame
      refine till_take 4 (some 37) rfl rfl (by kernel_rfl) (by kernel_rfl) (by kernel_rfl) (by kernel_rfl) (by kernel_rfl) (by kernel_rfl) (fun _ _ _ h => h) (.inl ⟨by rfl, fun w' hS' => (by obtain ⟨hc1, hc2⟩ := hS'; go_simp; rfl)⟩) hS ?_
      go_frame
      refine till_one 5 rfl (by kernel_rfl) fun K hK => ?_
      simp only [List.getElem_toArray, List.getElem_cons_succ, List.getElem_cons_zero]
      rw [if_pos (by rfl)]
      go_simp
      refine (push_not (HN0.out.later BW.out) 3 (ids := a.ids) HSH.out HGA3.out.i64 (HGA3.out.rd.later BW.out) 5 _).mono ?_
      rintro e wa ⟨rfl, hb⟩
      have BW := Lib.hid (BW.out.trans (hb.mono BW.out.size))
      have hS1 : wa.cell? ⟨R, 1, none⟩ = some (.slice a.ad a.ids.length a.cap) ∧ wa.cell? ⟨R, 2, none⟩ = some (.slice a.ld a.l.length a.lcap) := ⟨Lib.cell_of_heap (below_at' BW.out HX3.out) 1, Lib.cell_of_heap (below_at' BW.out HX3.out) 2⟩
      refine hK _ _ (fun _ _ => hS1) ?_
      clear hK hS hb
      have hS := hS1
      clear hS1
      refine till_take 6 (some 39) rfl rfl (by kernel_rfl) (by kernel_rfl) (by kernel_rfl) (by kernel_rfl) (by kernel_rfl) (by kernel_rfl) (fun _ _ _ h => h) (.inl ⟨by rfl, fun w' _ => (by go_simp; rfl)⟩) hS ?_
      go_frame
      refine till_take 7 (some 40) rfl rfl (by kernel_rfl) (by kernel_rfl) (by kernel_rfl) (by kernel_rfl) (by kernel_rfl) (by kernel_rfl) (fun _ _ _ h => h) (.inl ⟨by rfl, fun w' _ => (by go_simp; rfl)⟩) hS ?_
      go_frame
      refine till_take 8 (some 41) rfl rfl (by kernel_rfl) (by kernel_rfl) (by kernel_rfl) (by kernel_rfl) (by kernel_rfl) (by kernel_rfl) (fun _ _ _ h => h) (.inl ⟨by rfl, fun w' _ => (by go_simp; rfl)⟩) hS ?_
      go_frame
      refine till_take 9 (some 42) rfl rfl (by kernel_rfl) (by kernel_rfl) (by kernel_rfl) (by kernel_rfl) (by kernel_rfl) (by kernel_rfl) (fun _ _ _ h => h) (.inl ⟨by rfl, fun w' _ => (by go_simp; rfl)⟩) hS ?_
      go_frame
      refine till_take 10 (some 43) rfl rfl (by kernel_rfl) (by kernel_rfl) (by kernel_rfl) (by kernel_rfl) (by kernel_rfl) (by kernel_rfl) (fun _ _ _ h => h) (.inl ⟨by rfl, fun w' _ => (by go_simp; rfl)⟩) hS ?_
      go_frame
      refine till_take 11 (some 44) rfl rfl (by kernel_rfl) (by kernel_rfl) (by kernel_rfl) (by kernel_rfl) (by kernel_rfl) (by kernel_rfl) (fun _ _ _ h => h) (.inl ⟨by rfl, fun w' _ => (by go_simp; rfl)⟩) hS ?_
      go_frame
      refine till_take 12 (some 45) rfl rfl (by kernel_rfl) (by kernel_rfl) (by kernel_rfl) (by kernel_rfl) (by kernel_rfl) (by kernel_rfl) (fun _ _ _ h => h) (.inl ⟨by rfl, fun w' _ => (by go_simp; rfl)⟩) hS ?_
      go_frame
      refine till_take 13 (some 46) rfl rfl (by kernel_rfl) (by kernel_rfl) (by kernel_rfl) (by kernel_rfl) (by kernel_rfl) (by kernel_rfl) (fun _ _ _ h => h) (.inl ⟨by rfl, fun w' _ => (by go_simp; rfl)⟩) hS ?_
      go_frame
      refine till_take 14 (some 47) rfl rfl (by kernel_rfl) (by kernel_rfl) (by kernel_rfl) (by kernel_rfl) (by kernel_rfl) (by kernel_rfl) (fun _ _ _ h => h) (.inl ⟨by rfl, fun w' _ => (by go_simp; rfl)⟩) hS ?_
      go_frame
      refine till_take 15 (some 48) rfl rfl (by kernel_rfl) (by kernel_rfl) (by kernel_rfl) (by kernel_rfl) (by kernel_rfl) (by kernel_rfl) (fun _ _ _ h => h) (.inl ⟨by rfl, fun w' _ => (by go_simp; rfl)⟩) hS ?_
      go_frame
      refine till_take 16 (some 49) rfl rfl (by kernel_rfl) (by kernel_rfl) (by kernel_rfl) (by kernel_rfl) (by kernel_rfl) (by kernel_rfl) (fun _ _ _ h => h) (.inl ⟨by rfl, fun w' hS' => (by obtain ⟨hc1, hc2⟩ := hS'; go_simp; rfl)⟩) hS ?_
      go_frame
      refine till_take 18 (some 51) rfl rfl (by kernel_rfl) (by kernel_rfl) (by kernel_rfl) (by kernel_rfl) (by kernel_rfl) (by kernel_rfl) (fun _ _ _ h => h) (.inl ⟨by rfl, fun w' _ => (by go_simp; rfl)⟩) hS ?_
      go_frame
      refine till_take 19 (some 52) rfl rfl (by kernel_rfl) (by kernel_rfl) (by kernel_rfl) (by kernel_rfl) (by kernel_rfl) (by kernel_rfl) (fun _ _ _ h => h) (.inl ⟨by rfl, fun w' _ => (by go_simp; rfl)⟩) hS ?_
      go_frame
      refine till_take 20 (some 53) rfl rfl (by kernel_rfl) (by kernel_rfl) (by kernel_rfl) (by kernel_rfl) (by kernel_rfl) (by kernel_rfl) (fun _ _ _ h => h) (.inl ⟨by rfl, fun w' hS' => (by obtain ⟨hc1, hc2⟩ := hS'; go_simp; rfl)⟩) hS ?_
      go_frame
      refine till_one 17 rfl (by kernel_rfl) fun K hK => ?_
      simp only [List.getElem_toArray, List.getElem_cons_succ, List.getElem_cons_zero]
      rw [if_pos (by rfl)]
      go_simp
      refine (qLen_any (Look.of_not (HN0.out.later BW.out)) FitF.none 3 (ids := a.ids) HSH.out HGA3.out.i64 (HGA3.out.rd.later BW.out)).mono ?_
      rw [ends_none]
      rintro e wb ⟨rfl, hb⟩
      have BW := Lib.hid (BW.out.trans (hb.mono BW.out.size))
      have hS1 : wb.cell? ⟨R, 1, none⟩ = some (.slice a.ad a.ids.length a.cap) ∧ wb.cell? ⟨R, 2, none⟩ = some (.slice a.ld a.l.length a.lcap) := ⟨Lib.cell_of_heap (below_at' BW.out HX3.out) 1, Lib.cell_of_heap (below_at' BW.out HX3.out) 2⟩
      refine hK _ _ (fun _ _ => hS1) ?_
      clear hK hS hb
      have hS := hS1
      clear hS1
      refine till_one 21 rfl (by kernel_rfl) fun K hK => ?_
      simp only [List.getElem_toArray, List.getElem_cons_succ, List.getElem_cons_zero]
      rw [if_pos (by rfl)]
      go_simp
      refine (all_not (HN0.out.later BW.out) 3 (ids := a.ids) HSH.out HGA3.out.i64 (HGA3.out.rd.later BW.out)).mono ?_
      rintro e wc ⟨rfl, hb⟩
      have BW := Lib.hid (BW.out.trans (hb.mono BW.out.size))
      have hS1 : wc.cell? ⟨R, 1, none⟩ = some (.slice a.ad a.ids.length a.cap) ∧ wc.cell? ⟨R, 2, none⟩ = some (.slice a.ld a.l.length a.lcap) := ⟨Lib.cell_of_heap (below_at' BW.out HX3.out) 1, Lib.cell_of_heap (below_at' BW.out HX3.out) 2⟩
      refine hK _ _ (fun _ _ => hS1) ?_
      clear hK hS hb
      have hS := hS1
      clear hS1
      refine till_take 22 (some 55) rfl rfl (by kernel_rfl) (by kernel_rfl) (by kernel_rfl) (by kernel_rfl) (by kernel_rfl) (by kernel_rfl) (fun _ _ _ h => h) (.inl ⟨by rfl, fun w' _ => (by go_simp; rfl)⟩) hS ?_
      go_frame
      refine till_take 23 (some 56) rfl rfl (by kernel_rfl) (by kernel_rfl) (by kernel_rfl) (by kernel_rfl) (by kernel_rfl) (by kernel_rfl) (fun _ _ _ h => h) (.inl ⟨by rfl, fun w' _ => (by go_simp; rfl)⟩) hS ?_
      go_frame
      refine till_take 24 (some 57) rfl rfl (by kernel_rfl) (by kernel_rfl) (by kernel_rfl) (by kernel_rfl) (by kernel_rfl) (by kernel_rfl) (fun _ _ _ h => h) (.inl ⟨by rfl, fun w' _ => (by go_simp; rfl)⟩) hS ?_
      go_frame
      refine till_take 25 (some 58) rfl rfl (by kernel_rfl) (by kernel_rfl) (by kernel_rfl) (by kernel_rfl) (by kernel_rfl) (by kernel_rfl) (fun _ _ _ h => h) (.inl ⟨by rfl, fun w' _ => (by go_simp; rfl)⟩) hS ?_
      go_frame
      refine till_done (by kernel_rfl) ?_ _
      clear hS
      go_wp2_with fail
      go_roundw
      case rel => exact ⟨.inr (.inl rfl), BW⟩
      case measure => simp [intOf]
    · go_wp2_with fail
      refine (peek_any (Look.of_not (HN1.out.later BW.out)) FitF.none 3 (ids := a.ids) HSH.out HGA3.out.i64 (HGA3.out.rd.later BW.out)).mono ?_
      rw [show peekB (fun _ => none) 3 a.ids = false by unfold peekB; rw [ends_none]; rfl]
      rintro e w4 ⟨v4, rfl, _, hb⟩
      have BW4 := Lib.hid (BW.out.trans (hb.mono BW.out.size))
      clear hb q1 BW
      have q1 : w4.cell? ⟨R, 1, none⟩ = some (.slice a.ad a.ids.length a.cap) := Lib.cell_of_heap (below_at' BW4.out HX3.out) 1
      go_wp2_with fail
      refine (pop_not (HN1.out.later BW4.out) 3 (ids := a.ids) HSH.out HGA3.out.i64 (HGA3.out.rd.later BW4.out)).mono ?_
      rintro e w5 ⟨rfl, hb⟩
      have BW5 := Lib.hid (BW4.out.trans (hb.mono BW4.out.size))
      clear hb q1 BW4
      obtain ⟨wz, hwz⟩ : ∃ wz, wz = w5.drew := ⟨_, rfl⟩
      have BW : Hid (Below w3.heap.size w3 wz) := Lib.hid (by rw [hwz]; exact BW5.out.drew)
      have hS : wz.cell? ⟨R, 1, none⟩ = some (.slice a.ad a.ids.length a.cap) ∧ wz.cell? ⟨R, 2, none⟩ = some (.slice a.ld a.l.length a.lcap) := ⟨Lib.cell_of_heap (below_at' BW.out HX3.out) 1, Lib.cell_of_heap (below_at' BW.out HX3.out) 2⟩
      clear BW5
      go_wp2_with fail
      refine wp_region_till (fun w' => w'.cell? ⟨R, 1, none⟩ = some (.slice a.ad a.ids.length a.cap) ∧ w'.cell? ⟨R, 2, none⟩ = some (.slice a.ld a.l.length a.lcap)) 26 26 (by kernel_rfl) rfl ?_
      rw [← hwz]
      clear hwz
      refine till_take 0 (some 33) rfl rfl (by kernel_rfl) (by kernel_rfl) (by kernel_rfl) (by kernel_rfl) (by kernel_rfl) (by kernel_rfl) (fun _ _ _ h => h) (.inl ⟨by rfl, fun w' _ => (by go_simp; rfl)⟩) hS ?_
      go_frame
      refine till_take 1 (some 34) rfl rfl (by kernel_rfl) (by kernel_rfl) (by kernel_rfl) (by kernel_rfl) (by kernel_rfl) (by kernel_rfl) (fun _ _ _ h => h) (.inl ⟨by rfl, fun w' _ => (by go_simp; rfl)⟩) hS ?_
      go_frame
      refine till_take 2 (some 35) rfl rfl (by kernel_rfl) (by kernel_rfl) (by kernel_rfl) (by kernel_rfl) (by kernel_rfl) (by kernel_rfl) (fun _ _ _ h => h) (.inl ⟨by rfl, fun w' hS' => (by obtain ⟨hc1, hc2⟩ := hS'; go_simp; rfl)⟩) hS ?_
      go_frame
      refine till_take 3 (some 36) rfl rfl (by kernel_rfl) (by kernel_rfl) (by kernel_rfl) (by kernel_rfl) (by kernel_rfl) (by kernel_rfl) (fun _ _ _ h => h) (.inl ⟨by rfl, fun w' _ => (by go_simp; rfl)⟩) hS ?_
      go_frame
      refine till_take 4 (some 37) rfl rfl (by kernel_rfl) (by kernel_rfl) (by kernel_rfl) (by kernel_rfl) (by kernel_rfl) (by kernel_rfl) (fun _ _ _ h => h) (.inl ⟨by rfl, fun w' hS' => (by obtain ⟨hc1, hc2⟩ := hS'; go_simp; rfl)⟩) hS ?_
      go_frame
      refine till_one 5 rfl (by kernel_rfl) fun K hK => ?_
      simp only [List.getElem_toArray, List.getElem_cons_succ, List.getElem_cons_zero]
      rw [if_pos (by rfl)]
      go_simp
      refine (push_not (HN1.out.later BW.out) 3 (ids := a.ids) HSH.out HGA3.out.i64 (HGA3.out.rd.later BW.out) 5 _).mono ?_
      rintro e wa ⟨rfl, hb⟩
      have BW := Lib.hid (BW.out.trans (hb.mono BW.out.size))
      have hS1 : wa.cell? ⟨R, 1, none⟩ = some (.slice a.ad a.ids.length a.cap) ∧ wa.cell? ⟨R, 2, none⟩ = some (.slice a.ld a.l.length a.lcap) := ⟨Lib.cell_of_heap (below_at' BW.out HX3.out) 1, Lib.cell_of_heap (below_at' BW.out HX3.out) 2⟩
      refine hK _ _ (fun _ _ => hS1) ?_
      clear hK hS hb
      have hS := hS1
      clear hS1
      refine till_take 6 (some 39) rfl rfl (by kernel_rfl) (by kernel_rfl) (by kernel_rfl) (by kernel_rfl) (by kernel_rfl) (by kernel_rfl) (fun _ _ _ h => h) (.inl ⟨by rfl, fun w' _ => (by go_simp; rfl)⟩) hS ?_
      go_frame
      refine till_take 7 (some 40) rfl rfl (by kernel_rfl) (by kernel_rfl) (by kernel_rfl) (by kernel_rfl) (by kernel_rfl) (by kernel_rfl) (fun _ _ _ h => h) (.inl ⟨by rfl, fun w' _ => (by go_simp; rfl)⟩) hS ?_
      go_frame
      refine till_take 8 (some 41) rfl rfl (by kernel_rfl) (by kernel_rfl) (by kernel_rfl) (by kernel_rfl) (by kernel_rfl) (by kernel_rfl) (fun _ _ _ h => h) (.inl ⟨by rfl, fun w' _ => (by go_simp; rfl)⟩) hS ?_
      go_frame
      refine till_take 9 (some 42) rfl rfl (by kernel_rfl) (by kernel_rfl) (by kernel_rfl) (by kernel_rfl) (by kernel_rfl) (by kernel_rfl) (fun _ _ _ h => h) (.inl ⟨by rfl, fun w' _ => (by go_simp; rfl)⟩) hS ?_
      go_frame
      refine till_take 10 (some 43) rfl rfl (by kernel_rfl) (by kernel_rfl) (by kernel_rfl) (by kernel_rfl) (by kernel_rfl) (by kernel_rfl) (fun _ _ _ h => h) (.inl ⟨by rfl, fun w' _ => (by go_simp; rfl)⟩) hS ?_
      go_frame
      refine till_take 11 (some 44) rfl rfl (by kernel_rfl) (by kernel_rfl) (by kernel_rfl) (by kernel_rfl) (by kernel_rfl) (by kernel_rfl) (fun _ _ _ h => h) (.inl ⟨by rfl, fun w' _ => (by go_simp; rfl)⟩) hS ?_
      go_frame
      refine till_take 12 (some 45) rfl rfl (by kernel_rfl) (by kernel_rfl) (by kernel_rfl) (by kernel_rfl) (by kernel_rfl) (by kernel_rfl) (fun _ _ _ h => h) (.inl ⟨by rfl, fun w' _ => (by go_simp; rfl)⟩) hS ?_
      go_frame
      refine till_take 13 (some 46) rfl rfl (by kernel_rfl) (by kernel_rfl) (by kernel_rfl) (by kernel_rfl) (by kernel_rfl) (by kernel_rfl) (fun _ _ _ h => h) (.inl ⟨by rfl, fun w' _ => (by go_simp; rfl)⟩) hS ?_
      go_frame
      refine till_take 14 (some 47) rfl rfl (by kernel_rfl) (by kernel_rfl) (by kernel_rfl) (by kernel_rfl) (by kernel_rfl) (by kernel_rfl) (fun _ _ _ h => h) (.inl ⟨by rfl, fun w' _ => (by go_simp; rfl)⟩) hS ?_
      go_frame
      refine till_take 15 (some 48) rfl rfl (by kernel_rfl) (by kernel_rfl) (by kernel_rfl) (by kernel_rfl) (by kernel_rfl) (by kernel_rfl) (fun _ _ _ h => h) (.inl ⟨by rfl, fun w' _ => (by go_simp; rfl)⟩) hS ?_
      go_frame
      refine till_take 16 (some 49) rfl rfl (by kernel_rfl) (by kernel_rfl) (by kernel_rfl) (by kernel_rfl) (by kernel_rfl) (by kernel_rfl) (fun _ _ _ h => h) (.inl ⟨by rfl, fun w' hS' => (by obtain ⟨hc1, hc2⟩ := hS'; go_simp; rfl)⟩) hS ?_
      go_frame
      refine till_take 18 (some 51) rfl rfl (by kernel_rfl) (by kernel_rfl) (by kernel_rfl) (by kernel_rfl) (by kernel_rfl) (by kernel_rfl) (fun _ _ _ h => h) (.inl ⟨by rfl, fun w' _ => (by go_simp; rfl)⟩) hS ?_
      go_frame
      refine till_take 19 (some 52) rfl rfl (by kernel_rfl) (by kernel_rfl) (by kernel_rfl) (by kernel_rfl) (by kernel_rfl) (by kernel_rfl) (fun _ _ _ h => h) (.inl ⟨by rfl, fun w' _ => (by go_simp; rfl)⟩) hS ?_
      go_frame
      refine till_take 20 (some 53) rfl rfl (by kernel_rfl) (by kernel_rfl) (by kernel_rfl) (by kernel_rfl) (by kernel_rfl) (by kernel_rfl) (fun _ _ _ h => h) (.inl ⟨by rfl, fun w' hS' => (by obtain ⟨hc1, hc2⟩ := hS'; go_simp; rfl)⟩) hS ?_
      go_frame
      refine till_one 17 rfl (by kernel_rfl) fun K hK => ?_
      simp only [List.getElem_toArray, List.getElem_cons_succ, List.getElem_cons_zero]
      rw [if_pos (by rfl)]
      go_simp
      refine (qLen_any (Look.of_not (HN1.out.later BW.out)) FitF.none 3 (ids := a.ids) HSH.out HGA3.out.i64 (HGA3.out.rd.later BW.out)).mono ?_
      rw [ends_none]
      rintro e wb ⟨rfl, hb⟩
      have BW := Lib.hid (BW.out.trans (hb.mono BW.out.size))
      have hS1 : wb.cell? ⟨R, 1, none⟩ = some (.slice a.ad a.ids.length a.cap) ∧ wb.cell? ⟨R, 2, none⟩ = some (.slice a.ld a.l.length a.lcap) := ⟨Lib.cell_of_heap (below_at' BW.out HX3.out) 1, Lib.cell_of_heap (below_at' BW.out HX3.out) 2⟩
      refine hK _ _ (fun _ _ => hS1) ?_
      clear hK hS hb
      have hS := hS1
      clear hS1
      refine till_one 21 rfl (by kernel_rfl) fun K hK => ?_
      simp only [List.getElem_toArray, List.getElem_cons_succ, List.getElem_cons_zero]
      rw [if_pos (by rfl)]
      go_simp
      refine (all_not (HN1.out.later BW.out) 3 (ids := a.ids) HSH.out HGA3.out.i64 (HGA3.out.rd.later BW.out)).mono ?_
      rintro e wc ⟨rfl, hb⟩
      have BW := Lib.hid (BW.out.trans (hb.mono BW.out.size))
      have hS1 : wc.cell? ⟨R, 1, none⟩ = some (.slice a.ad a.ids.length a.cap) ∧ wc.cell? ⟨R, 2, none⟩ = some (.slice a.ld a.l.length a.lcap) := ⟨Lib.cell_of_heap (below_at' BW.out HX3.out) 1, Lib.cell_of_heap (below_at' BW.out HX3.out) 2⟩
      refine hK _ _ (fun _ _ => hS1) ?_
      clear hK hS hb
      have hS := hS1
      clear hS1
      refine till_take 22 (some 55) rfl rfl (by kernel_rfl) (by kernel_rfl) (by kernel_rfl) (by kernel_rfl) (by kernel_rfl) (by kernel_rfl) (fun _ _ _ h => h) (.inl ⟨by rfl, fun w' _ => (by go_simp; rfl)⟩) hS ?_
      go_frame
      refine till_take 23 (some 56) rfl rfl (by kernel_rfl) (by kernel_rfl) (by kernel_rfl) (by kernel_rfl) (by kernel_rfl) (by kernel_rfl) (fun _ _ _ h => h) (.inl ⟨by rfl, fun w' _ => (by go_simp; rfl)⟩) hS ?_
      go_frame
      refine till_take 24 (some 57) rfl rfl (by kernel_rfl) (by kernel_rfl) (by kernel_rfl) (by kernel_rfl) (by kernel_rfl) (by kernel_rfl) (fun _ _ _ h => h) (.inl ⟨by rfl, fun w' _ => (by go_simp; rfl)⟩) hS ?_
      go_frame
      refine till_take 25 (some 58) rfl rfl (by kernel_rfl) (by kernel_rfl) (by kernel_rfl) (by kernel_rfl) (by kernel_rfl) (by kernel_rfl) (fun _ _ _ h => h) (.inl ⟨by rfl, fun w' _ => (by go_simp; rfl)⟩) hS ?_
      go_frame
      refine till_done (by kernel_rfl) ?_ _
      clear hS
      go_wp2_with fail
      go_roundw
      case rel => exact ⟨.inr (.inr rfl), BW⟩
      case measure => simp [intOf]
    · clear q1
      go_wp2_with fail
      refine (lives12_any _).mono ?_
      rintro e w9 ⟨rfl, hb9⟩
      have hb39 := BW.out.trans (hb9.mono BW.out.size)
      have HBF := Lib.hid (HB0.out.trans ((HB3.out.trans (hb39.mono HB3.out.size)).mono HB0.out.size))
      clear hb9 hb39
      go_wp2_with fail
      go_ret
      exact ⟨rfl, HBF.out⟩
end Go.Proofs.Ytohedljdkfmkdaa
