/- Law 17: acts; BankNone. No condition. -/
import Derived.Test.YteaigmoldlbjdaaBnkN
namespace Go.Proofs.Yteaigmoldlbjdaa
open Go.RowKit

/-- tallagelaw17.Act, read. -/
structure Act17 where
  mint : Bool
  t : Int
  src : Int
  dst : Int
  m : Nat
def act17E (a : Act17) : List Value := [.bool a.mint, .int .i64 a.t, .int .i64 a.src, .int .i64 a.dst, .int .u64 (uw0 a.m), .int .u64 (uw1 a.m), .int .u64 (uw2 a.m), .int .u64 (uw3 a.m)]
theorem act17E_len (a : Act17) : (act17E a).length = 8 := rfl
structure Good17 (w : World) (a : Act17) : Prop where
  b_t : -9223372036854775808 ≤ a.t ∧ a.t < 9223372036854775808
  b_src : -9223372036854775808 ≤ a.src ∧ a.src < 9223372036854775808
  b_dst : -9223372036854775808 ≤ a.dst ∧ a.dst < 9223372036854775808
  lt_m : a.m < uMax
theorem Good17.later {w w' : World} {a : Act17} (h : Good17 w a) (_hb : Below w.heap.size w w') : Good17 w' a := ⟨h.b_t, h.b_src, h.b_dst, h.lt_m⟩
theorem Rd.act17 {w : World} {ad : Option Addr} {n cap : Nat} {t : List Act17} (h : Rd w act17E 8 (.slice ad n cap) t) (i : Nat) (hi : i < t.length) :
    ∃ g off, ad = some ⟨g, off, none⟩ ∧ g < w.heap.size ∧ w.cell? ⟨g, off + i * 8, none⟩ = some (.bool t[i].mint) ∧ w.cell? ⟨g, off + i * 8 + 1, none⟩ = some (.int .i64 t[i].t) ∧ w.cell? ⟨g, off + i * 8 + 2, none⟩ = some (.int .i64 t[i].src) ∧ w.cell? ⟨g, off + i * 8 + 3, none⟩ = some (.int .i64 t[i].dst) ∧ w.cell? ⟨g, off + i * 8 + 4, none⟩ = some (.int .u64 (uw0 t[i].m)) ∧ w.cell? ⟨g, off + i * 8 + 5, none⟩ = some (.int .u64 (uw1 t[i].m)) ∧ w.cell? ⟨g, off + i * 8 + 6, none⟩ = some (.int .u64 (uw2 t[i].m)) ∧ w.cell? ⟨g, off + i * 8 + 7, none⟩ = some (.int .u64 (uw3 t[i].m)) := by
  have hne : t ≠ [] := by rintro rfl; simp at hi
  obtain ⟨ax, cx, e3, _, _, h3⟩ := h
  obtain ⟨b, off, e4, hb, h5⟩ := h3 hne
  exact ⟨b, off, (Value.slice.inj e3).1.trans e4, hb, h5 i hi 0 (by decide), h5 i hi 1 (by decide), h5 i hi 2 (by decide), h5 i hi 3 (by decide), h5 i hi 4 (by decide), h5 i hi 5 (by decide), h5 i hi 6 (by decide), h5 i hi 7 (by decide)⟩
theorem Try.zeroAct17 (w : World) : (zeroValue 39).run Try.prog w = .ok (.agg #[.bool false, .int .i64 0, .int .i64 0, .int .i64 0, .int .u64 0, .int .u64 0, .int .u64 0, .int .u64 0]) w := by kernel_rfl
theorem Try.sizeAct17 : (Try.prog.info? 39).map (·.size) = some 8 := by kernel_rfl
theorem litA17 (w : World) (a : Act17) : Rd (w.alloc (.cells #[.bool a.mint, .int .i64 a.t, .int .i64 a.src, .int .i64 a.dst, .int .u64 (uw0 a.m), .int .u64 (uw1 a.m), .int .u64 (uw2 a.m), .int .u64 (uw3 a.m)] 39)) act17E 8 (.slice (some ⟨w.heap.size, 0, none⟩) 1 1) [a] := by
  refine ⟨_, 1, rfl, Nat.le_refl _, (by unfold maxLen; decide), fun _ => ⟨_, 0, rfl, by rw [World.size_alloc]; omega, fun i hi j hj => ?_⟩⟩
  have h := heap_alloc_new w (.cells #[.bool a.mint, .int .i64 a.t, .int .i64 a.src, .int .i64 a.dst, .int .u64 (uw0 a.m), .int .u64 (uw1 a.m), .int .u64 (uw2 a.m), .int .u64 (uw3 a.m)] 39)
  simp only [List.length_singleton] at hi
  obtain rfl : i = 0 := by omega
  match j, hj with
  | 0, _ => exact Lib.cell_of_heap h 0
  | 1, _ => exact Lib.cell_of_heap h 1
  | 2, _ => exact Lib.cell_of_heap h 2
  | 3, _ => exact Lib.cell_of_heap h 3
  | 4, _ => exact Lib.cell_of_heap h 4
  | 5, _ => exact Lib.cell_of_heap h 5
  | 6, _ => exact Lib.cell_of_heap h 6
  | 7, _ => exact Lib.cell_of_heap h 7

theorem Try.idxSt0 (p q : Value) (w : World) : (Instr.index 61 (.agg #[p, q]) (.int .i64 0)).run Try.prog w = .ok p w := by kernel_rfl
theorem Try.idxSt1 (p q : Value) (w : World) : (Instr.index 61 (.agg #[p, q]) (.int .i64 1)).run Try.prog w = .ok q w := by kernel_rfl

set_option maxHeartbeats 8000000 in
set_option maxRecDepth 100000 in
theorem none17_any {w : World} (a : Act17) (hga : Good17 w a) : Calls Try.prog 7 #[.agg #[.bool a.mint, .int .i64 a.t, .int .i64 a.src, .int .i64 a.dst, .int .u64 (uw0 a.m), .int .u64 (uw1 a.m), .int .u64 (uw2 a.m), .int .u64 (uw3 a.m)]] w (Ret w (.bool true)) := by
  have HGA := Lib.hid hga
  clear hga
  go_enter Try.func7, Try.ntmps7
  go_wp2_with fail
  obtain ⟨w0, hw0⟩ : ∃ w0, w0 = w.alloc (.cells #[.bool a.mint, .int .i64 a.t, .int .i64 a.src, .int .i64 a.dst, .int .u64 (uw0 a.m), .int .u64 (uw1 a.m), .int .u64 (uw2 a.m), .int .u64 (uw3 a.m)] 39) := ⟨_, rfl⟩
  obtain ⟨R, hR⟩ : ∃ R, R = w.heap.size := ⟨_, rfl⟩
  obtain ⟨w3, hw3⟩ : ∃ w3, w3 = w0.alloc (.cells #[.bool false, .map none, .slice none 0 0, .slice none 0 0] 60) := ⟨_, rfl⟩
  obtain ⟨gz, hgz⟩ : ∃ gz, gz = w.heap.size + 1 := ⟨_, rfl⟩
  rw [← hw0, ← hw3, ← hgz, ← hR]
  have hs0 : w0.heap.size = w.heap.size + 1 := by rw [hw0, World.size_alloc]
  have hx0 : w0.heap[R]? = some (.cells #[.bool a.mint, .int .i64 a.t, .int .i64 a.src, .int .i64 a.dst, .int .u64 (uw0 a.m), .int .u64 (uw1 a.m), .int .u64 (uw2 a.m), .int .u64 (uw3 a.m)] 39 (0, 0)) := by rw [hw0, hR]; exact heap_alloc_new _ _
  have hz3 : w3.heap[gz]? = some (.cells #[.bool false, .map none, .slice none 0 0, .slice none 0 0] 60 (0, 0)) := by rw [hw3, hgz, ← hs0]; exact heap_alloc_new _ _
  have hb0 : Below w.heap.size w w0 := by rw [hw0]; exact below_new _ _
  have hb3 : Below w0.heap.size w0 w3 := by rw [hw3]; exact below_new _ _
  have HB3 := Lib.hid (hb0.trans (hb3.mono hb0.size))
  have HX3 := Lib.hid (below_at' hb3 hx0)
  have HN0 : Hid (NotMade w3 none) := Lib.hid (.inl rfl)
  have HN1 : Hid (NotMade w3 (some ⟨gz, 0, none⟩)) := Lib.hid (.inr ⟨gz, _, _, rfl, hz3, rfl⟩)
  clear hw0 hR hw3 hgz hs0 hx0 hz3 hb0 hb3
  go_loopw [9] (fun vi wr => (vi = .int .i64 0 ∨ vi = .int .i64 1 ∨ vi = .int .i64 2) ∧ Hid (Below w3.heap.size w3 wr)) (fun vi _ => 2 - (intOf vi).toNat)
  case atStart => exact ⟨.inl rfl, Lib.hid (Below.refl _ _)⟩
  case round =>
    obtain ⟨hv, BW⟩ := hrel
    have hi0 := fun w => Try.idxSt0 (.pointer none) (.pointer (some ⟨gz, 0, none⟩)) w
    have hi1 := fun w => Try.idxSt1 (.pointer none) (.pointer (some ⟨gz, 0, none⟩)) w
    rcases hv with rfl | rfl | rfl
    · have q1 : wr.cell? ⟨R, 1, none⟩ = some (.int .i64 a.t) := Lib.cell_of_heap (below_at' BW.out HX3.out) 1
      have q3 : wr.cell? ⟨R, 3, none⟩ = some (.int .i64 a.dst) := Lib.cell_of_heap (below_at' BW.out HX3.out) 3
      have q4 : wr.cell? ⟨R, 4, none⟩ = some (.int .u64 (uw0 a.m)) := Lib.cell_of_heap (below_at' BW.out HX3.out) 4
      have q5 : wr.cell? ⟨R, 5, none⟩ = some (.int .u64 (uw1 a.m)) := Lib.cell_of_heap (below_at' BW.out HX3.out) 5
      have q6 : wr.cell? ⟨R, 6, none⟩ = some (.int .u64 (uw2 a.m)) := Lib.cell_of_heap (below_at' BW.out HX3.out) 6
      have q7 : wr.cell? ⟨R, 7, none⟩ = some (.int .u64 (uw3 a.m)) := Lib.cell_of_heap (below_at' BW.out HX3.out) 7
      go_wp2_with fail
      clear q1 q3 q4 q5 q6 q7
      refine (mint_not (HN0.out.later BW.out) HGA.out.b_t HGA.out.b_dst (uw_is HGA.out.lt_m)).mono ?_
      rintro e d1 ⟨v, rfl, hb⟩
      have BWm := Lib.hid (BW.out.trans (hb.mono BW.out.size))
      clear hb BW
      have BW := BWm
      clear BWm
      have q1 : d1.cell? ⟨R, 1, none⟩ = some (.int .i64 a.t) := Lib.cell_of_heap (below_at' BW.out HX3.out) 1
      go_wp2_with fail
      clear q1
      refine (total_any (UndB.not (HN0.out.later BW.out)) (fun _ => by show 0 < 1099511627776; decide) (fun _ p hp => by cases hp) HGA.out.b_t).mono ?_
      obtain ⟨ok, hok⟩ : ∃ q, q = totB (fun _ => []) a.t := ⟨_, rfl⟩
      rw [← hok]
      clear hok
      rintro e d2 ⟨ya, yb, yc, yd, hu, rfl, hb⟩
      have hu0 : UIs ya yb yc yd 0 := by
        have e0 : totF (fun _ => []) a.t = 0 := rfl
        rw [e0] at hu
        cases ok <;> exact hu
      have HYU := Lib.hid hu0
      clear hu hu0
      have BWm := Lib.hid (BW.out.trans (hb.mono BW.out.size))
      clear hb BW
      have BW := BWm
      clear BWm
      go_wp2_with (refine wpList_alloc_g rfl _ rfl _ _ Try.zeroUz rfl ?_)
      intro X d3 hX
      go_wp2_with (refine wpList_store_row_g (t := 24) (old := u0) rfl 24 _ _ rfl X #[.int .u64 ya, .int .u64 yb, .int .u64 yc, .int .u64 yd] rfl rfl hX.out.cells Try.sizeU rfl (one_u64 _ _ _ _) ?_)
      intro d4 hxX kX zX
      clear zX
      have hbX : Below d2.heap.size d2 d4 := hX.out.below.trans (kX.below (B := d2.heap.size) (fun x hx e => by have := hX.out.eq; omega) hX.out.below.size)
      have WX : Hid (w3.heap.size ≤ X) := Lib.hid (by rw [hX.out.eq]; exact (BW.out).size)
      have HXz := Lib.hid hxX
      clear hX hxX kX
      have BWm := Lib.hid (BW.out.trans (hbX.mono BW.out.size))
      clear hbX BW
      have BW := BWm
      clear BWm
      have HX := HXz
      clear HXz
      have q1 : d4.cell? ⟨R, 1, none⟩ = some (.int .i64 a.t) := Lib.cell_of_heap (below_at' BW.out HX3.out) 1
      have q3 : d4.cell? ⟨R, 3, none⟩ = some (.int .i64 a.dst) := Lib.cell_of_heap (below_at' BW.out HX3.out) 3
      go_wp2_with fail
      clear q1 q3
      refine (balance_any (f := f0) (Look.of_not (HN0.out.later BW.out)) f0_fit HGA.out.b_t HGA.out.b_dst).mono ?_
      rw [amtV_f0]
      rintro e d5 ⟨za, zb, zc, zd, hu, rfl, hb⟩
      have HZU := Lib.hid hu
      clear hu
      have BWm := Lib.hid (BW.out.trans (hb.mono BW.out.size))
      have HXm := Lib.hid (below_at' hb HX.out)
      clear hb BW HX
      have BW := BWm
      have HX := HXm
      clear BWm HXm
      have e1 := Try.eqUn HYU.out UIs.zero
      have e2 := Try.eqUn HZU.out UIs.zero
      rw [decide_eq_true rfl] at e1 e2
      have cX0 : d5.cell? ⟨X, 0, none⟩ = some (.int .u64 ya) := Lib.cell_of_heap HX.out 0
      have cX1 : d5.cell? ⟨X, 1, none⟩ = some (.int .u64 yb) := Lib.cell_of_heap HX.out 1
      have cX2 : d5.cell? ⟨X, 2, none⟩ = some (.int .u64 yc) := Lib.cell_of_heap HX.out 2
      have cX3 : d5.cell? ⟨X, 3, none⟩ = some (.int .u64 yd) := Lib.cell_of_heap HX.out 3
      go_wp2_with fail
      refine (slen_not (HN0.out.later BW.out)).mono ?_
      rintro e _ ⟨rfl, rfl⟩
      go_wp2_with fail
      go_roundw
      case rel => exact ⟨.inr (.inl rfl), BW⟩
      case measure => simp [intOf]
    · have q1 : wr.cell? ⟨R, 1, none⟩ = some (.int .i64 a.t) := Lib.cell_of_heap (below_at' BW.out HX3.out) 1
      have q3 : wr.cell? ⟨R, 3, none⟩ = some (.int .i64 a.dst) := Lib.cell_of_heap (below_at' BW.out HX3.out) 3
      have q4 : wr.cell? ⟨R, 4, none⟩ = some (.int .u64 (uw0 a.m)) := Lib.cell_of_heap (below_at' BW.out HX3.out) 4
      have q5 : wr.cell? ⟨R, 5, none⟩ = some (.int .u64 (uw1 a.m)) := Lib.cell_of_heap (below_at' BW.out HX3.out) 5
      have q6 : wr.cell? ⟨R, 6, none⟩ = some (.int .u64 (uw2 a.m)) := Lib.cell_of_heap (below_at' BW.out HX3.out) 6
      have q7 : wr.cell? ⟨R, 7, none⟩ = some (.int .u64 (uw3 a.m)) := Lib.cell_of_heap (below_at' BW.out HX3.out) 7
      go_wp2_with fail
      clear q1 q3 q4 q5 q6 q7
      refine (mint_not (HN1.out.later BW.out) HGA.out.b_t HGA.out.b_dst (uw_is HGA.out.lt_m)).mono ?_
      rintro e d1 ⟨v, rfl, hb⟩
      have BWm := Lib.hid (BW.out.trans (hb.mono BW.out.size))
      clear hb BW
      have BW := BWm
      clear BWm
      have q1 : d1.cell? ⟨R, 1, none⟩ = some (.int .i64 a.t) := Lib.cell_of_heap (below_at' BW.out HX3.out) 1
      go_wp2_with fail
      clear q1
      refine (total_any (UndB.not (HN1.out.later BW.out)) (fun _ => by show 0 < 1099511627776; decide) (fun _ p hp => by cases hp) HGA.out.b_t).mono ?_
      obtain ⟨ok, hok⟩ : ∃ q, q = totB (fun _ => []) a.t := ⟨_, rfl⟩
      rw [← hok]
      clear hok
      rintro e d2 ⟨ya, yb, yc, yd, hu, rfl, hb⟩
      have hu0 : UIs ya yb yc yd 0 := by
        have e0 : totF (fun _ => []) a.t = 0 := rfl
        rw [e0] at hu
        cases ok <;> exact hu
      have HYU := Lib.hid hu0
      clear hu hu0
      have BWm := Lib.hid (BW.out.trans (hb.mono BW.out.size))
      clear hb BW
      have BW := BWm
      clear BWm
      go_wp2_with (refine wpList_alloc_g rfl _ rfl _ _ Try.zeroUz rfl ?_)
      intro X d3 hX
      go_wp2_with (refine wpList_store_row_g (t := 24) (old := u0) rfl 24 _ _ rfl X #[.int .u64 ya, .int .u64 yb, .int .u64 yc, .int .u64 yd] rfl rfl hX.out.cells Try.sizeU rfl (one_u64 _ _ _ _) ?_)
      intro d4 hxX kX zX
      clear zX
      have hbX : Below d2.heap.size d2 d4 := hX.out.below.trans (kX.below (B := d2.heap.size) (fun x hx e => by have := hX.out.eq; omega) hX.out.below.size)
      have WX : Hid (w3.heap.size ≤ X) := Lib.hid (by rw [hX.out.eq]; exact (BW.out).size)
      have HXz := Lib.hid hxX
      clear hX hxX kX
      have BWm := Lib.hid (BW.out.trans (hbX.mono BW.out.size))
      clear hbX BW
      have BW := BWm
      clear BWm
      have HX := HXz
      clear HXz
      have q1 : d4.cell? ⟨R, 1, none⟩ = some (.int .i64 a.t) := Lib.cell_of_heap (below_at' BW.out HX3.out) 1
      have q3 : d4.cell? ⟨R, 3, none⟩ = some (.int .i64 a.dst) := Lib.cell_of_heap (below_at' BW.out HX3.out) 3
      go_wp2_with fail
      clear q1 q3
      refine (balance_any (f := f0) (Look.of_not (HN1.out.later BW.out)) f0_fit HGA.out.b_t HGA.out.b_dst).mono ?_
      rw [amtV_f0]
      rintro e d5 ⟨za, zb, zc, zd, hu, rfl, hb⟩
      have HZU := Lib.hid hu
      clear hu
      have BWm := Lib.hid (BW.out.trans (hb.mono BW.out.size))
      have HXm := Lib.hid (below_at' hb HX.out)
      clear hb BW HX
      have BW := BWm
      have HX := HXm
      clear BWm HXm
      have e1 := Try.eqUn HYU.out UIs.zero
      have e2 := Try.eqUn HZU.out UIs.zero
      rw [decide_eq_true rfl] at e1 e2
      have cX0 : d5.cell? ⟨X, 0, none⟩ = some (.int .u64 ya) := Lib.cell_of_heap HX.out 0
      have cX1 : d5.cell? ⟨X, 1, none⟩ = some (.int .u64 yb) := Lib.cell_of_heap HX.out 1
      have cX2 : d5.cell? ⟨X, 2, none⟩ = some (.int .u64 yc) := Lib.cell_of_heap HX.out 2
      have cX3 : d5.cell? ⟨X, 3, none⟩ = some (.int .u64 yd) := Lib.cell_of_heap HX.out 3
      go_wp2_with fail
      refine (slen_not (HN1.out.later BW.out)).mono ?_
      rintro e _ ⟨rfl, rfl⟩
      go_wp2_with fail
      go_roundw
      case rel => exact ⟨.inr (.inr rfl), BW⟩
      case measure => simp [intOf]
    · go_wp2_with fail
      refine (lives17_any _).mono ?_
      rintro e w4 ⟨rfl, hb⟩
      have BX := Lib.hid (HB3.out.trans ((BW.out.trans (hb.mono BW.out.size)).mono HB3.out.size))
      clear hb BW
      go_wp2_with fail
      go_ret
      exact ⟨rfl, BX.out⟩
end Go.Proofs.Yteaigmoldlbjdaa
