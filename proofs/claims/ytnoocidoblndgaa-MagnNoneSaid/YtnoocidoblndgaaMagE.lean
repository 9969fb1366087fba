/- Chapter 22: MagnNone: in a store that no call made. No condition. -/
import Derived.Test.YtnoocidoblndgaaMagJ
namespace Go.Proofs.Ytnoocidoblndgaa
open Go.RowKit

set_option maxHeartbeats 4000000 in
set_option maxRecDepth 100000 in
theorem hpush_not {w : World} {x : Option Addr} (h : NotMade w x) (t : Int) {ids : List Int} {vi : Value} (hl : ids.length ≤ 1000000) (hi : I64s ids) (hrd : Rd w intE 1 vi ids) (bk a b c d : Int) :
    Calls Try.prog 81 #[.pointer x, .int .i64 t, vi, .int .i64 bk, .agg #[.int .u64 a, .int .u64 b, .int .u64 c, .int .u64 d]] w (Ret w (.int .i64 1)) := by
  obtain ⟨adi, capi, rfl, _, _⟩ := hrd.shape
  have H := Lib.hid h; have HL := Lib.hid hl; have HI := Lib.hid hi; have HR := Lib.hid hrd
  clear h hl hi hrd
  go_enter Try.func81, Try.ntmps81
  go_wp2_with fail
  obtain ⟨p0, hp0⟩ : ∃ p, p = w.heap.size := ⟨_, rfl⟩
  obtain ⟨p1, hp1⟩ : ∃ p, p = w.heap.size + 1 := ⟨_, rfl⟩
  obtain ⟨p2, hp2⟩ : ∃ p, p = w.heap.size + 1 + 1 := ⟨_, rfl⟩
  obtain ⟨p3, hp3⟩ : ∃ p, p = w.heap.size + 1 + 1 + 1 := ⟨_, rfl⟩
  obtain ⟨p4, hp4⟩ : ∃ p, p = w.heap.size + 1 + 1 + 1 + 1 := ⟨_, rfl⟩
  rw [← hp4, ← hp3, ← hp2, ← hp1, ← hp0]
  obtain ⟨w1, hw1⟩ : ∃ w1, w1 = ((((w.alloc (.cells #[.pointer x] 26)).alloc (.cells #[.int .i64 t] 3)).alloc (.cells #[.slice adi ids.length capi] 35)).alloc (.cells #[.int .i64 bk] 3)).alloc (.cells #[.int .u64 a, .int .u64 b, .int .u64 c, .int .u64 d] 30) := ⟨_, rfl⟩
  rw [← hw1]
  have hx := box5 w (.pointer x) (.int .i64 t) (.slice adi ids.length capi) (.int .i64 bk) #[.int .u64 a, .int .u64 b, .int .u64 c, .int .u64 d] 26 3 35 3 30 w1 hw1
  rw [← hp4, ← hp3, ← hp2, ← hp1, ← hp0] at hx
  have HX1 : Hid (Bx w1 p0 p1 p2 p3 p4 x t (.slice adi ids.length capi) bk a b c d) := Lib.hid ⟨hx.1, hx.2.1, hx.2.2.1, hx.2.2.2.1, hx.2.2.2.2.1⟩
  have hb : Below w.heap.size w w1 := by rw [← hp0]; exact hx.2.2.2.2.2
  have HB1 := Lib.hid hb
  clear hx hw1 hp0 hp1 hp2 hp3 hp4 hb
  obtain ⟨k, hk⟩ : ∃ k, k = keyF t ids := ⟨_, rfl⟩
  refine (key_any t ids _ _ (by have := HL.out; omega) HI.out (HR.out.later HB1.out)).mono ?_
  rintro e w2 ⟨rfl, hb⟩
  rw [← hk]
  have HB2 := Lib.hid (HB1.out.trans (hb.mono HB1.out.size)); have HX2 := Lib.hid (HX1.out.later hb)
  clear hb HX1 HB1 hk
  have c0 : w2.cell? ⟨p0, 0, none⟩ = some (.pointer x) := Lib.cell_of_heap HX2.out.h0 0
  have c1 : w2.cell? ⟨p1, 0, none⟩ = some (.int .i64 t) := Lib.cell_of_heap HX2.out.h1 0
  have c2 : w2.cell? ⟨p2, 0, none⟩ = some (.slice adi ids.length capi) := Lib.cell_of_heap HX2.out.h2 0
  go_wp2_with fail
  clear c0 c1 c2
  refine (hlen_any (Look.of_not (H.out.later HB2.out)) FitF.none t HL.out HI.out (HR.out.later HB2.out)).mono ?_
  rintro e w3 ⟨rfl, hb⟩
  obtain ⟨n, hn⟩ : ∃ n, n = getI (fun _ => none) (keyF t ids) := ⟨_, rfl⟩
  rw [← hn]
  have HB3 := Lib.hid (HB2.out.trans (hb.mono HB2.out.size)); have HX3 := Lib.hid (HX2.out.later hb)
  clear hb HX2 HB2 hn
  have c0 : w3.cell? ⟨p0, 0, none⟩ = some (.pointer x) := Lib.cell_of_heap HX3.out.h0 0
  go_wp2_with fail
  refine (smade_not (H.out.later HB3.out)).mono ?_
  rintro e w4 ⟨rfl, rfl⟩
  clear c0
  go_wp2_with fail
  go_ret
  exact ⟨rfl, HB3.out⟩

set_option maxHeartbeats 8000000 in
set_option maxRecDepth 100000 in
theorem mCut_not {w : World} {x : Option Addr} (h : NotMade w x) (bk : Int) :
    Calls Try.prog 41 #[.pointer x, .int .i64 7, .int .i64 1, .int .i64 bk, .agg #[.int .u64 1, .int .u64 0, .int .u64 0, .int .u64 0]] w (Ret w (.tuple #[.agg u0, .agg u0, .int .i64 1])) := by
  have H := Lib.hid h
  clear h
  go_enter Try.func41, Try.ntmps41
  go_wp2_with (refine wpList_alloc_g rfl _ rfl _ _ Try.zeroUz rfl ?_)
  obtain ⟨w1, hw1⟩ : ∃ w1, w1 = w.alloc (.cells #[.int .u64 1, .int .u64 0, .int .u64 0, .int .u64 0] 30) := ⟨_, rfl⟩
  obtain ⟨X, hX⟩ : ∃ X, X = w.heap.size := ⟨_, rfl⟩
  rw [← hw1, ← hX]
  have hb1 : Below w.heap.size w w1 := by rw [hw1]; exact below_new _ _
  have HX1 : Hid (w1.heap[X]? = some (.cells #[.int .u64 1, .int .u64 0, .int .u64 0, .int .u64 0] 30 (0, 0))) := Lib.hid (by rw [hw1, hX]; exact heap_alloc_new _ _)
  have HB1 := Lib.hid hb1
  clear hw1 hX hb1
  intro P w2 h2
  have HP2 := Lib.hid h2.out.cells; have HX2 := Lib.hid (below_at' h2.out.below HX1.out); have HB2 := Lib.hid (HB1.out.trans (h2.out.below.mono HB1.out.size)); have HPW : Hid (w.heap.size ≤ P) := Lib.hid (by have := h2.out.eq; have := HB1.out.size; omega)
  clear h2 HX1 HB1
  go_wp2_with (refine wpList_alloc_g rfl _ rfl _ _ Try.zeroUz rfl ?_)
  intro Q w3 h3
  have HQ3 := Lib.hid h3.out.cells; have HP3 := Lib.hid (below_at' h3.out.below HP2.out); have HX3 := Lib.hid (below_at' h3.out.below HX2.out); have HB3 := Lib.hid (HB2.out.trans (h3.out.below.mono HB2.out.size))
  have HQW : Hid (w.heap.size ≤ Q ∧ Q ≠ P) := Lib.hid (by have := h3.out.eq; have := HB2.out.size; have := heap_lt HP2.out; exact ⟨by omega, by omega⟩)
  clear h3 HP2 HX2 HB2
  go_wp2_with fail
  refine (mMax_any (Look.of_not (H.out.later HB3.out)) FitF.none (HisI.none 13 [7, 1]) (by decide) (by decide) (by decide)).mono ?_
  rintro e w4 ⟨fa, fb, fc, fd, hu1, rfl, hb⟩
  have hu1' : UIs fa fb fc fd uOne := hu1
  have HUF := Lib.hid hu1'; have HX4 := Lib.hid (below_at' hb HX3.out); have HP4 := Lib.hid (below_at' hb HP3.out); have HQ4 := Lib.hid (below_at' hb HQ3.out); have HB4 := Lib.hid (HB3.out.trans (hb.mono HB3.out.size))
  clear hu1 hu1' hb HX3 HP3 HQ3 HB3
  go_wp2_with (refine wpList_alloc_g rfl _ rfl _ _ Try.zeroUz rfl ?_)
  intro A w5 h5
  go_wp2_with (refine wpList_store_row_g (t := 30) (old := u0) rfl 30 _ _ rfl A #[.int .u64 fa, .int .u64 fb, .int .u64 fc, .int .u64 fd] rfl rfl h5.out.cells Try.sizeU rfl (one_u64 _ _ _ _) ?_)
  intro w6 hx6 k6 z6
  have hb46 : Below w4.heap.size w4 w6 := h5.out.below.trans (k6.below (B := w4.heap.size) (fun x hx e => by have := h5.out.eq; omega) h5.out.below.size)
  have HA6 := Lib.hid hx6; have HX6 := Lib.hid (below_at' hb46 HX4.out); have HP6 := Lib.hid (below_at' hb46 HP4.out); have HQ6 := Lib.hid (below_at' hb46 HQ4.out); have HB6 := Lib.hid (HB4.out.trans (hb46.mono HB4.out.size))
  clear z6 h5 hx6 k6 hb46 HX4 HP4 HQ4 HB4
  go_wp2_with (first
    | (refine wpList_load_row rfl 30 _ rfl A rfl 30 _ _ _ HA6.out Try.underlying30 rfl Try.sizeU ?_)
    | (refine wpList_load_row rfl 30 _ rfl X rfl 30 _ _ _ HX6.out Try.underlying30 rfl Try.sizeU ?_))
  have u1 : UIs 1 0 0 0 1 := by unfold UIs; omega
  refine (usub_any HUF.out u1 _).mono ?_
  rw [decide_eq_true (show 1 ≤ uOne by decide)]
  clear u1
  rintro e w7 ⟨ta, tb, tc, td, hu2, rfl, hb⟩
  have HP7 := Lib.hid (below_at' hb HP6.out); have HQ7 := Lib.hid (below_at' hb HQ6.out); have HB7 := Lib.hid (HB6.out.trans (hb.mono HB6.out.size))
  clear hu2 hb HA6 HX6 HP6 HQ6 HB6 HUF
  go_wp2_with (refine wpList_alloc_g rfl _ rfl _ _ Try.zeroUz rfl ?_)
  intro B w8 h8
  go_wp2_with (refine wpList_store_row_g (t := 30) (old := u0) rfl 30 _ _ rfl B #[.int .u64 ta, .int .u64 tb, .int .u64 tc, .int .u64 td] rfl rfl h8.out.cells Try.sizeU rfl (one_u64 _ _ _ _) ?_)
  intro w9 hx9 k9 z9
  have hb79 : Below w7.heap.size w7 w9 := h8.out.below.trans (k9.below (B := w7.heap.size) (fun x hx e => by have := h8.out.eq; omega) h8.out.below.size)
  have HB9c := Lib.hid hx9; have HP9 := Lib.hid (below_at' hb79 HP7.out); have HQ9 := Lib.hid (below_at' hb79 HQ7.out); have HB9 := Lib.hid (HB7.out.trans (hb79.mono HB7.out.size))
  clear z9 h8 hx9 k9 hb79 HP7 HQ7 HB7
  have lb : (w9.alloc (.cells #[.int .i64 7, .int .i64 1] 3)).heap[B]? = some (.cells #[.int .u64 ta, .int .u64 tb, .int .u64 tc, .int .u64 td] 30 (0, 0)) := below_at' (below_new _ _) HB9c.out
  have HLB := Lib.hid lb
  clear lb
  go_wp2_with (refine wpList_load_row rfl 30 _ rfl B rfl 30 _ _ _ HLB.out Try.underlying30 rfl Try.sizeU ?_)
  obtain ⟨wa, hwl⟩ : ∃ wa, wa = w9.alloc (.cells #[.int .i64 7, .int .i64 1] 3) := ⟨_, rfl⟩
  obtain ⟨gi, hgi⟩ : ∃ gi, gi = w9.heap.size := ⟨_, rfl⟩
  rw [← hwl, ← hgi]
  have hbl : Below w9.heap.size w9 wa := by rw [hwl]; exact below_new _ _
  have HOI : Hid (Own wa 0 3 intE 1 (.slice (some ⟨gi, 0, none⟩) 2 2) [7, 1]) := Lib.hid (own_lit (l := [7, 1]) (by rw [hwl, hgi]; exact heap_alloc_new _ _) (Nat.zero_le _) (by decide))
  have HPa := Lib.hid (below_at' hbl HP9.out); have HQa := Lib.hid (below_at' hbl HQ9.out); have HBa := Lib.hid (HB9.out.trans (hbl.mono HB9.out.size))
  clear hwl hgi hbl HP9 HQ9 HLB HB9c HB9
  refine (hpush_not (H.out.later HBa.out) 13 (ids := [7, 1]) (by decide) (I64s.two (by decide) (by decide)) (own_rd HOI.out) bk ta tb tc td).mono ?_
  rintro e wb ⟨rfl, hb⟩
  have HPb := Lib.hid (below_at' hb HPa.out); have HQb := Lib.hid (below_at' hb HQa.out); have HBb := Lib.hid (HBa.out.trans (hb.mono HBa.out.size))
  clear hb HPa HQa HBa HOI
  go_wp2_with (first
    | (refine wpList_store_row_g (t := 30) (old := u0) rfl 30 _ _ rfl P u0 rfl rfl HPb.out Try.sizeU rfl (one_u64 _ _ _ _) ?_))
  intro wx hx kx _
  have HPx := Lib.hid hx; have HQx := Lib.hid (kx.at HQb.out (fun e => HQW.out.2 e)); have HBx := Lib.hid (HBb.out.trans (kx.below (B := w.heap.size) (fun y hy e => by have := HPW.out; omega) HBb.out.size))
  clear hx kx HPb HQb HBb
  go_wp2_with (first
    | (refine wpList_store_row_g (t := 30) (old := u0) rfl 30 _ _ rfl Q u0 rfl rfl HQx.out Try.sizeU rfl (one_u64 _ _ _ _) ?_))
  intro wy hy ky _
  have HQy := Lib.hid hy; have HPy := Lib.hid (ky.at HPx.out (fun e => HQW.out.2 e.symm)); have HBy := Lib.hid (HBx.out.trans (ky.below (B := w.heap.size) (fun y hy e => by have := HQW.out; omega) HBx.out.size))
  clear hy ky HPx HQx HBx
  go_wp2_with fail
  exact bodyPost_ret (res_three rfl _ _ P Q _ _ u0 u0 _ _ _ rfl HPy.out rfl HQy.out Try.underlying30 rfl Try.sizeU Try.sizeU _ rfl) rfl ⟨rfl, HBy.out⟩

theorem idxStore0 (p q : Value) (w : World) : (Instr.index 68 (.agg #[p, q]) (.int .i64 0)).run Try.prog w = .ok p w := by kernel_rfl
theorem idxStore1 (p q : Value) (w : World) : (Instr.index 68 (.agg #[p, q]) (.int .i64 1)).run Try.prog w = .ok q w := by kernel_rfl
theorem maxH_nil (o : Int) : maxH o [] = uOne := by unfold maxH; rw [if_pos (.inr rfl)]
theorem atH_nil (o bk : Int) : atH o [] bk = uOne := by unfold atH; rw [if_pos (.inr rfl)]

set_option maxHeartbeats 8000000 in
set_option maxRecDepth 100000 in
theorem none22_any {w : World} (a : Act22) (hga : Good22 w a) :
    Calls Try.prog 9 #[.agg #[.int .i64 a.o, .int .i64 a.st, .int .i64 a.b, .int .u64 (uw0 a.m), .int .u64 (uw1 a.m), .int .u64 (uw2 a.m), .int .u64 (uw3 a.m)]] w (Ret w (.bool true)) := by
  have HGA := Lib.hid hga
  clear hga
  go_enter Try.func9, Try.ntmps9
  go_wp2_with fail
  obtain ⟨w0, hw0⟩ : ∃ w0, w0 = w.alloc (.cells #[.int .i64 a.o, .int .i64 a.st, .int .i64 a.b, .int .u64 (uw0 a.m), .int .u64 (uw1 a.m), .int .u64 (uw2 a.m), .int .u64 (uw3 a.m)] 83) := ⟨_, rfl⟩
  obtain ⟨R, hR⟩ : ∃ R, R = w.heap.size := ⟨_, rfl⟩
  obtain ⟨w3, hw3⟩ : ∃ w3, w3 = w0.alloc (.cells #[.bool false, .map none, .slice none 0 0, .slice none 0 0] 67) := ⟨_, rfl⟩
  obtain ⟨gz, hgz⟩ : ∃ gz, gz = w.heap.size + 1 := ⟨_, rfl⟩
  rw [← hw0, ← hw3, ← hgz, ← hR]
  have hs0 : w0.heap.size = w.heap.size + 1 := by rw [hw0, World.size_alloc]
  have hx0 : w0.heap[R]? = some (.cells #[.int .i64 a.o, .int .i64 a.st, .int .i64 a.b, .int .u64 (uw0 a.m), .int .u64 (uw1 a.m), .int .u64 (uw2 a.m), .int .u64 (uw3 a.m)] 83 (0, 0)) := by rw [hw0, hR]; exact heap_alloc_new _ _
  have hz3 : w3.heap[gz]? = some (.cells #[.bool false, .map none, .slice none 0 0, .slice none 0 0] 67 (0, 0)) := by rw [hw3, hgz, ← hs0]; exact heap_alloc_new _ _
  have hb0 : Below w.heap.size w w0 := by rw [hw0]; exact below_new _ _
  have hb3 : Below w0.heap.size w0 w3 := by rw [hw3]; exact below_new _ _
  have HB3 := Lib.hid (hb0.trans (hb3.mono hb0.size))
  have HX3 := Lib.hid (below_at' hb3 hx0)
  have HN0 : Hid (NotMade w3 none) := Lib.hid (.inl rfl)
  have HN1 : Hid (NotMade w3 (some ⟨gz, 0, none⟩)) := Lib.hid (.inr ⟨gz, _, _, rfl, hz3, rfl⟩)
  clear hw0 hR hw3 hgz hs0 hx0 hz3 hb0 hb3
  go_loopw [10] (fun vi wr => (vi = .int .i64 0 ∨ vi = .int .i64 1 ∨ vi = .int .i64 2) ∧ Hid (Below w3.heap.size w3 wr)) (fun vi _ => 2 - (intOf vi).toNat)
  case atStart => exact ⟨.inl rfl, Lib.hid (Below.refl _ _)⟩
  case round =>
    obtain ⟨hv, BW⟩ := hrel
    have hi0 := fun w => idxStore0 (.pointer none) (.pointer (some ⟨gz, 0, none⟩)) w
    have hi1 := fun w => idxStore1 (.pointer none) (.pointer (some ⟨gz, 0, none⟩)) w
    have q2 : wr.cell? ⟨R, 2, none⟩ = some (.int .i64 a.b) := Lib.cell_of_heap (below_at' BW.out HX3.out) 2
    rcases hv with rfl | rfl | rfl
    · go_wp2_with fail
      refine (mCut_not (HN0.out.later BW.out) a.b).mono ?_
      rintro e w4 ⟨rfl, hb⟩
      clear q2
      have BX := Lib.hid (BW.out.trans (hb.mono BW.out.size))
      clear hb BW
      have BW := BX
      clear BX
      go_wp2_with (refine wpList_alloc_g rfl _ rfl _ _ Try.zeroUz rfl ?_)
      intro A w5 hA
      have B5 := Lib.hid (BW.out.trans (hA.out.below.mono BW.out.size)); have HA5 := Lib.hid hA.out.cells; have HAW : Hid (w3.heap.size ≤ A) := Lib.hid (by rw [hA.out.eq]; exact BW.out.size)
      clear hA BW
      go_wp2_with (refine wpList_alloc_g rfl _ rfl _ _ Try.zeroUz rfl ?_)
      intro B w6 hB
      have B6 := Lib.hid (B5.out.trans (hB.out.below.mono B5.out.size)); have HA6 := Lib.hid (below_at' hB.out.below HA5.out); have HB6 := Lib.hid hB.out.cells; have HBW : Hid (w3.heap.size ≤ B ∧ A ≠ B) := Lib.hid (by have h1 := hB.out.eq; have h2 := B5.out.size; have h3 := heap_lt HA5.out; exact ⟨by omega, by omega⟩)
      clear hB B5 HA5
      go_wp2_with (refine wpList_store_row_g (t := 30) (old := u0) rfl 30 _ _ rfl A u0 rfl rfl HA6.out Try.sizeU rfl (one_u64 _ _ _ _) ?_)
      intro w7 hx kx _
      have B7 := Lib.hid (B6.out.trans (kx.below (B := w3.heap.size) (fun y hy e => by have := HAW.out; omega) B6.out.size)); have HB7 := Lib.hid (kx.at HB6.out (fun e => HBW.out.2 e.symm))
      clear hx kx B6 HA6 HB6
      go_wp2_with (refine wpList_store_row_g (t := 30) (old := u0) rfl 30 _ _ rfl B u0 rfl rfl HB7.out Try.sizeU rfl (one_u64 _ _ _ _) ?_)
      intro w8 hy ky _
      have BW := Lib.hid (B7.out.trans (ky.below (B := w3.heap.size) (fun y hy e => by have := HBW.out; omega) B7.out.size))
      clear hy ky B7 HB7
      have q0 : w8.cell? ⟨R, 0, none⟩ = some (.int .i64 a.o) := Lib.cell_of_heap (below_at' BW.out HX3.out) 0
      have q1 : w8.cell? ⟨R, 1, none⟩ = some (.int .i64 a.st) := Lib.cell_of_heap (below_at' BW.out HX3.out) 1
      have q2 : w8.cell? ⟨R, 2, none⟩ = some (.int .i64 a.b) := Lib.cell_of_heap (below_at' BW.out HX3.out) 2
      go_wp2_with fail
      clear q0 q1 q2
      refine (mMax_any (Look.of_not (HN0.out.later BW.out)) FitF.none (HisI.none 13 [a.o, a.st]) (by decide) HGA.out.b_o HGA.out.b_st).mono ?_
      rw [maxH_nil]
      rintro e w9 ⟨xa, xb, xc, xd, hu1, rfl, hb⟩
      have HU := Lib.hid hu1
      clear hu1
      have BX := Lib.hid (BW.out.trans (hb.mono BW.out.size))
      clear hb BW
      have BW := BX
      clear BX
      go_wp2_with fail
      refine (wone_any _).mono ?_
      rintro e wa ⟨ya, yb, yc, yd, hu1, rfl, hb⟩
      have qa := Try.eqUn HU.out hu1
      rw [decide_eq_true rfl] at qa
      clear hu1 HU
      have BX := Lib.hid (BW.out.trans (hb.mono BW.out.size))
      clear hb BW
      have BW := BX
      clear BX
      have q0 : wa.cell? ⟨R, 0, none⟩ = some (.int .i64 a.o) := Lib.cell_of_heap (below_at' BW.out HX3.out) 0
      have q1 : wa.cell? ⟨R, 1, none⟩ = some (.int .i64 a.st) := Lib.cell_of_heap (below_at' BW.out HX3.out) 1
      have q2 : wa.cell? ⟨R, 2, none⟩ = some (.int .i64 a.b) := Lib.cell_of_heap (below_at' BW.out HX3.out) 2
      go_wp2_with fail
      clear q0 q1 q2 qa
      refine (mAt_any (Look.of_not (HN0.out.later BW.out)) FitF.none (HisI.none 13 [a.o, a.st]) (by decide) HGA.out.b_o HGA.out.b_st a.b).mono ?_
      rw [atH_nil]
      rintro e wb ⟨xa, xb, xc, xd, hu1, rfl, hb⟩
      have HU := Lib.hid hu1
      clear hu1
      have BX := Lib.hid (BW.out.trans (hb.mono BW.out.size))
      clear hb BW
      have BW := BX
      clear BX
      go_wp2_with fail
      refine (wone_any _).mono ?_
      rintro e wc ⟨ya, yb, yc, yd, hu1, rfl, hb⟩
      have qa := Try.eqUn HU.out hu1
      rw [decide_eq_true rfl] at qa
      clear hu1 HU
      have BX := Lib.hid (BW.out.trans (hb.mono BW.out.size))
      clear hb BW
      have BW := BX
      clear BX
      have q0 : wc.cell? ⟨R, 0, none⟩ = some (.int .i64 a.o) := Lib.cell_of_heap (below_at' BW.out HX3.out) 0
      have q1 : wc.cell? ⟨R, 1, none⟩ = some (.int .i64 a.st) := Lib.cell_of_heap (below_at' BW.out HX3.out) 1
      have q2 : wc.cell? ⟨R, 2, none⟩ = some (.int .i64 a.b) := Lib.cell_of_heap (below_at' BW.out HX3.out) 2
      go_wp2_with fail
      clear q0 q1 q2 qa
      refine (mChg_any (Look.of_not (HN0.out.later BW.out)) FitF.none (HisI.none 13 [a.o, a.st]) HGA.out.b_o HGA.out.b_st).mono ?_
      rintro e wd ⟨rfl, hb⟩
      have BX := Lib.hid (BW.out.trans (hb.mono BW.out.size))
      clear hb BW
      have BW := BX
      clear BX
      go_wp2_with fail
      go_roundw
      case rel => exact ⟨.inr (.inl rfl), BW⟩
      case measure => simp [intOf]
    · go_wp2_with fail
      refine (mCut_not (HN1.out.later BW.out) a.b).mono ?_
      rintro e w4 ⟨rfl, hb⟩
      clear q2
      have BX := Lib.hid (BW.out.trans (hb.mono BW.out.size))
      clear hb BW
      have BW := BX
      clear BX
      go_wp2_with (refine wpList_alloc_g rfl _ rfl _ _ Try.zeroUz rfl ?_)
      intro A w5 hA
      have B5 := Lib.hid (BW.out.trans (hA.out.below.mono BW.out.size)); have HA5 := Lib.hid hA.out.cells; have HAW : Hid (w3.heap.size ≤ A) := Lib.hid (by rw [hA.out.eq]; exact BW.out.size)
      clear hA BW
      go_wp2_with (refine wpList_alloc_g rfl _ rfl _ _ Try.zeroUz rfl ?_)
      intro B w6 hB
      have B6 := Lib.hid (B5.out.trans (hB.out.below.mono B5.out.size)); have HA6 := Lib.hid (below_at' hB.out.below HA5.out); have HB6 := Lib.hid hB.out.cells; have HBW : Hid (w3.heap.size ≤ B ∧ A ≠ B) := Lib.hid (by have h1 := hB.out.eq; have h2 := B5.out.size; have h3 := heap_lt HA5.out; exact ⟨by omega, by omega⟩)
      clear hB B5 HA5
      go_wp2_with (refine wpList_store_row_g (t := 30) (old := u0) rfl 30 _ _ rfl A u0 rfl rfl HA6.out Try.sizeU rfl (one_u64 _ _ _ _) ?_)
      intro w7 hx kx _
      have B7 := Lib.hid (B6.out.trans (kx.below (B := w3.heap.size) (fun y hy e => by have := HAW.out; omega) B6.out.size)); have HB7 := Lib.hid (kx.at HB6.out (fun e => HBW.out.2 e.symm))
      clear hx kx B6 HA6 HB6
      go_wp2_with (refine wpList_store_row_g (t := 30) (old := u0) rfl 30 _ _ rfl B u0 rfl rfl HB7.out Try.sizeU rfl (one_u64 _ _ _ _) ?_)
      intro w8 hy ky _
      have BW := Lib.hid (B7.out.trans (ky.below (B := w3.heap.size) (fun y hy e => by have := HBW.out; omega) B7.out.size))
      clear hy ky B7 HB7
      have q0 : w8.cell? ⟨R, 0, none⟩ = some (.int .i64 a.o) := Lib.cell_of_heap (below_at' BW.out HX3.out) 0
      have q1 : w8.cell? ⟨R, 1, none⟩ = some (.int .i64 a.st) := Lib.cell_of_heap (below_at' BW.out HX3.out) 1
      have q2 : w8.cell? ⟨R, 2, none⟩ = some (.int .i64 a.b) := Lib.cell_of_heap (below_at' BW.out HX3.out) 2
      go_wp2_with fail
      clear q0 q1 q2
      refine (mMax_any (Look.of_not (HN1.out.later BW.out)) FitF.none (HisI.none 13 [a.o, a.st]) (by decide) HGA.out.b_o HGA.out.b_st).mono ?_
      rw [maxH_nil]
      rintro e w9 ⟨xa, xb, xc, xd, hu1, rfl, hb⟩
      have HU := Lib.hid hu1
      clear hu1
      have BX := Lib.hid (BW.out.trans (hb.mono BW.out.size))
      clear hb BW
      have BW := BX
      clear BX
      go_wp2_with fail
      refine (wone_any _).mono ?_
      rintro e wa ⟨ya, yb, yc, yd, hu1, rfl, hb⟩
      have qa := Try.eqUn HU.out hu1
      rw [decide_eq_true rfl] at qa
      clear hu1 HU
      have BX := Lib.hid (BW.out.trans (hb.mono BW.out.size))
      clear hb BW
      have BW := BX
      clear BX
      have q0 : wa.cell? ⟨R, 0, none⟩ = some (.int .i64 a.o) := Lib.cell_of_heap (below_at' BW.out HX3.out) 0
      have q1 : wa.cell? ⟨R, 1, none⟩ = some (.int .i64 a.st) := Lib.cell_of_heap (below_at' BW.out HX3.out) 1
      have q2 : wa.cell? ⟨R, 2, none⟩ = some (.int .i64 a.b) := Lib.cell_of_heap (below_at' BW.out HX3.out) 2
      go_wp2_with fail
      clear q0 q1 q2 qa
      refine (mAt_any (Look.of_not (HN1.out.later BW.out)) FitF.none (HisI.none 13 [a.o, a.st]) (by decide) HGA.out.b_o HGA.out.b_st a.b).mono ?_
      rw [atH_nil]
      rintro e wb ⟨xa, xb, xc, xd, hu1, rfl, hb⟩
      have HU := Lib.hid hu1
      clear hu1
      have BX := Lib.hid (BW.out.trans (hb.mono BW.out.size))
      clear hb BW
      have BW := BX
      clear BX
      go_wp2_with fail
      refine (wone_any _).mono ?_
      rintro e wc ⟨ya, yb, yc, yd, hu1, rfl, hb⟩
      have qa := Try.eqUn HU.out hu1
      rw [decide_eq_true rfl] at qa
      clear hu1 HU
      have BX := Lib.hid (BW.out.trans (hb.mono BW.out.size))
      clear hb BW
      have BW := BX
      clear BX
      have q0 : wc.cell? ⟨R, 0, none⟩ = some (.int .i64 a.o) := Lib.cell_of_heap (below_at' BW.out HX3.out) 0
      have q1 : wc.cell? ⟨R, 1, none⟩ = some (.int .i64 a.st) := Lib.cell_of_heap (below_at' BW.out HX3.out) 1
      have q2 : wc.cell? ⟨R, 2, none⟩ = some (.int .i64 a.b) := Lib.cell_of_heap (below_at' BW.out HX3.out) 2
      go_wp2_with fail
      clear q0 q1 q2 qa
      refine (mChg_any (Look.of_not (HN1.out.later BW.out)) FitF.none (HisI.none 13 [a.o, a.st]) HGA.out.b_o HGA.out.b_st).mono ?_
      rintro e wd ⟨rfl, hb⟩
      have BX := Lib.hid (BW.out.trans (hb.mono BW.out.size))
      clear hb BW
      have BW := BX
      clear BX
      go_wp2_with fail
      go_roundw
      case rel => exact ⟨.inr (.inr rfl), BW⟩
      case measure => simp [intOf]
    · clear q2
      go_wp2_with fail
      refine (lives22_any _).mono ?_
      rintro e w9 ⟨rfl, hb9⟩
      have hb39 := BW.out.trans (hb9.mono BW.out.size)
      have HBF := Lib.hid (HB3.out.trans (hb39.mono HB3.out.size))
      clear hb9 hb39
      go_wp2_with fail
      go_ret
      exact ⟨rfl, HBF.out⟩
end Go.Proofs.Ytnoocidoblndgaa
