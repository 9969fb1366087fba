/- Chapter 11: one history in a store of its own; acts, light, lives. No condition. -/
import Derived.Test.YtohedljdkfmkdaaHisB
import Derived.Deep.QuietTactic
import Derived.BigQuiet
import Derived.WalkSmall
namespace Go.Proofs.Ytohedljdkfmkdaa
open Go.RowKit

/-- tallagelaw11.Push, read. -/
structure Act11 where
  idsd : Option Addr
  idsc : Nat
  ids : List Int
  b : Int
  m : Nat
def act11E (a : Act11) : List Value := [.slice a.idsd a.ids.length a.idsc, .int .i64 a.b, .int .u64 (uw0 a.m), .int .u64 (uw1 a.m), .int .u64 (uw2 a.m), .int .u64 (uw3 a.m)]
theorem act11E_len (a : Act11) : (act11E a).length = 6 := rfl
structure Good11 (w : World) (a : Act11) : Prop where
  rd_ids : Rd w intE 1 (.slice a.idsd a.ids.length a.idsc) a.ids
  i64_ids : I64s a.ids
  b_b : -9223372036854775808 ≤ a.b ∧ a.b < 9223372036854775808
  lt_m : a.m < uMax
theorem Good11.later {w w' : World} {a : Act11} (h : Good11 w a) (hb : Below w.heap.size w w') : Good11 w' a := ⟨h.rd_ids.later hb, h.i64_ids, h.b_b, h.lt_m⟩
theorem Rd.act11 {w : World} {ad : Option Addr} {n cap : Nat} {t : List Act11} (h : Rd w act11E 6 (.slice ad n cap) t) (i : Nat) (hi : i < t.length) :
    ∃ g off, ad = some ⟨g, off, none⟩ ∧ g < w.heap.size ∧ w.cell? ⟨g, off + i * 6, none⟩ = some (.slice t[i].idsd t[i].ids.length t[i].idsc) ∧ w.cell? ⟨g, off + i * 6 + 1, none⟩ = some (.int .i64 t[i].b) ∧ w.cell? ⟨g, off + i * 6 + 2, none⟩ = some (.int .u64 (uw0 t[i].m)) ∧ w.cell? ⟨g, off + i * 6 + 3, none⟩ = some (.int .u64 (uw1 t[i].m)) ∧ w.cell? ⟨g, off + i * 6 + 4, none⟩ = some (.int .u64 (uw2 t[i].m)) ∧ w.cell? ⟨g, off + i * 6 + 5, none⟩ = some (.int .u64 (uw3 t[i].m)) := by
  have hne : t ≠ [] := by rintro rfl; simp at hi
  obtain ⟨ax, cx, e3, _, _, h3⟩ := h
  obtain ⟨b, off, e4, hb, h5⟩ := h3 hne
  exact ⟨b, off, (Value.slice.inj e3).1.trans e4, hb, h5 i hi 0 (by decide), h5 i hi 1 (by decide), h5 i hi 2 (by decide), h5 i hi 3 (by decide), h5 i hi 4 (by decide), h5 i hi 5 (by decide)⟩
theorem Try.zeroAct11 (w : World) : (zeroValue 107).run Try.prog w = .ok (.agg #[.slice none 0 0, .int .i64 0, .int .u64 0, .int .u64 0, .int .u64 0, .int .u64 0]) w := by kernel_rfl
theorem Try.sizeAct11 : (Try.prog.info? 107).map (·.size) = some 6 := by kernel_rfl
theorem litA11 (w : World) (a : Act11) : Rd (w.alloc (.cells #[.slice a.idsd a.ids.length a.idsc, .int .i64 a.b, .int .u64 (uw0 a.m), .int .u64 (uw1 a.m), .int .u64 (uw2 a.m), .int .u64 (uw3 a.m)] 107)) act11E 6 (.slice (some ⟨w.heap.size, 0, none⟩) 1 1) [a] := by
  refine ⟨_, 1, rfl, Nat.le_refl _, (by unfold maxLen; decide), fun _ => ⟨_, 0, rfl, by rw [World.size_alloc]; omega, fun i hi j hj => ?_⟩⟩
  have h := heap_alloc_new w (.cells #[.slice a.idsd a.ids.length a.idsc, .int .i64 a.b, .int .u64 (uw0 a.m), .int .u64 (uw1 a.m), .int .u64 (uw2 a.m), .int .u64 (uw3 a.m)] 107)
  simp only [List.length_singleton] at hi
  obtain rfl : i = 0 := by omega
  match j, hj with
  | 0, _ => exact Lib.cell_of_heap h 0
  | 1, _ => exact Lib.cell_of_heap h 1
  | 2, _ => exact Lib.cell_of_heap h 2
  | 3, _ => exact Lib.cell_of_heap h 3
  | 4, _ => exact Lib.cell_of_heap h 4
  | 5, _ => exact Lib.cell_of_heap h 5

/-- A store that a law made, with one history in it. -/
structure HOne (w0 w : World) (g : Nat) (t : Int) (ids : List Int) (s : PS) (H : List (Int × Nat)) (n : Nat) : Prop where
  one : One w0 w g s
  fit : Fit s
  sz : s.sz ≤ 4 * n
  his : HisI (getP s.t) t ids H
  len : H.length ≤ n
theorem HOne.later {w0 w w' : World} {g : Nat} {t : Int} {ids : List Int} {s : PS} {H : List (Int × Nat)} {n : Nat} (h : HOne w0 w g t ids s H n) (hb : Below w.heap.size w w') : HOne w0 w' g t ids s H n := ⟨h.one.later hb, h.fit, h.sz, h.his, h.len⟩
theorem HOne.push {w0 w : World} {g : Nat} {t : Int} {ids : List Int} {s : PS} {H : List (Int × Nat)} {n : Nat} (h : HOne w0 w g t ids s H n) (hn : n ≤ 1000000) (hk : KeyOk t ids) {vi : Value} (hl : ids.length ≤ 1000000) {B0 : Nat} (hrd : Own w B0 3 intE 1 vi ids)
    {bk : Int} (hbk : -9223372036854775808 ≤ bk ∧ bk < 9223372036854775808) {a b c d : Int} {m : Nat} (hu : UIs a b c d m) :
    Calls Try.prog 56 #[.pointer (some ⟨g, 0, none⟩), .int .i64 t, vi, .int .i64 bk, .agg #[.int .u64 a, .int .u64 b, .int .u64 c, .int .u64 d]] w
      (fun e w' => e = .returned (.int .i64 (hisE H bk)) ∧ HOne w0 w' g t ids (hpushS s t ids bk m) (hisS H bk m) (n + 1) ∧ Oth w w') := by
  have hc := h.his.cnt
  have hln := h.len
  have hsz := h.sz
  refine (h.one.st fun F hs => hpush_any hs (by omega) h.fit t hl (fun x hx => by have := hk.2.2 x hx; exact ⟨by omega, by omega⟩) hrd hbk hu (by rw [hc]; omega)).mono ?_
  rintro e w' ⟨rfl, o, ho⟩
  rw [h.his.pushE hk bk]
  have h1 := sz_hpush s t ids bk m
  have h2 := hisS_len H bk m
  exact ⟨rfl, ⟨o, h.fit.hpush _ _ _ _, by omega, h.his.push hk (by omega) bk hu.lt, by omega⟩, ho⟩
/-- What it was at a block. -/
def AtH (w : World) (H : List (Int × Nat)) (bk : Int) (e : Ending) (w' : World) : Prop := ∃ a b c d : Int, UIs a b c d (((lookH H bk).map (·.2)).getD 0) ∧ e = .returned (.tuple #[.agg #[.int .u64 a, .int .u64 b, .int .u64 c, .int .u64 d], .bool (lookH H bk).isSome]) ∧ Below w.heap.size w w'
theorem hAtH {w : World} {x : Option Addr} {m : Bool} {f : Txt → Option Txt} (h : Look w x m f) (hf : FitF f) {t : Int} {ids : List Int} {vi : Value} {H : List (Int × Nat)} (hH : HisI f t ids H) (bk : Int) (hl : ids.length ≤ 1000000) (hi : I64s ids) (hrd : Rd w intE 1 vi ids) :
    Calls Try.prog 57 #[.pointer x, .int .i64 t, vi, .int .i64 bk] w (AtH w H bk) := by
  refine (hAt_any h hf t bk hl hi hrd hH.rises).mono ?_
  rintro e w' ⟨k, a, b, c, d, hk, hu, rfl, hb⟩
  obtain ⟨e1, e2⟩ := hH.look hk
  rw [e1] at hu
  rw [e2]
  exact ⟨a, b, c, d, hu, rfl, hb⟩
theorem HOne.at {w0 w : World} {g : Nat} {t : Int} {ids : List Int} {s : PS} {H : List (Int × Nat)} {n : Nat} (h : HOne w0 w g t ids s H n) {vi : Value} (bk : Int) (hl : ids.length ≤ 1000000) (hi : I64s ids) (hrd : Rd w intE 1 vi ids) :
    Calls Try.prog 57 #[.pointer (some ⟨g, 0, none⟩), .int .i64 t, vi, .int .i64 bk] w (AtH w H bk) := by
  obtain ⟨F, hs⟩ := h.one.get
  exact hAtH (Look.of_st hs) h.fit.f h.his bk hl hi hrd
theorem HOne.new {w0 w w' : World} {g : Nat} {F : List Nat} (h : St w' g PS.new F) (hF : ∀ x ∈ F, w.heap.size ≤ x) (hb : Below w.heap.size w w') (h0 : Below w0.heap.size w0 w) (t : Int) (ids : List Int) : HOne w0 w' g t ids PS.new [] 0 :=
  ⟨⟨F, h, fun x hx => Nat.le_trans h0.size (hF x hx), h0.trans (hb.mono h0.size)⟩, Fit.new, by decide, HisI.new _ _, Nat.le_refl _⟩
/-- What light says. -/
def Light11 (w : World) (l : List Act11) (e : Ending) (w' : World) : Prop := ∃ r : Bool, e = .returned (.bool r) ∧ (r = true → l.length ≤ 100 ∧ ∀ a ∈ l, a.ids.length ≤ 5) ∧ Below w.heap.size w w'

set_option maxHeartbeats 8000000 in
set_option maxRecDepth 100000 in
theorem light11_any {w : World} {v : Value} {l : List Act11} (h : Rd w act11E 6 v l) : Calls Try.prog 54 #[v] w (Light11 w l) := by
  obtain ⟨ad, cap, e1, l1, l1'⟩ := h.shape
  obtain ⟨n, hn⟩ : ∃ n, n = l.length := ⟨_, rfl⟩
  rw [← hn] at e1 l1
  subst e1
  have H := Lib.hid h; have HN := Lib.hid hn
  clear h hn
  by_cases hl : n ≤ 100
  · have j0 : ¬ 100 < n := by omega
    go_enter Try.func54, Try.ntmps54
    go_wp2_with fail
    clear j0
    go_loopw [4, 10] (fun _ vi wr => ∃ (i : Nat), vi = .int .i64 i ∧ i ≤ n ∧ Hid (∀ a ∈ l.take i, a.ids.length ≤ 5) ∧ Hid (Below w.heap.size w wr)) (fun _ vi _ => n - (intOf vi).toNat)
    case atStart => exact ⟨0, rfl, Nat.zero_le _, Lib.hid (by simp), Lib.hid (Below.refl _ _)⟩
    case round =>
      obtain ⟨i, rfl, hin, SH, BW⟩ := hrel
      by_cases hlt : i < n
      · have hi : i < l.length := by rw [← HN.out]; exact hlt
        obtain ⟨gL, off, rfl, hgL, q0, q1, q2, q3, q4, q5⟩ := Rd.act11 H.out i hi
        have q0' := (BW.out.cell (p := ⟨gL, off + i * 6, none⟩) hgL).trans q0
        have q1' := (BW.out.cell (p := ⟨gL, off + i * 6 + 1, none⟩) hgL).trans q1
        have q2' := (BW.out.cell (p := ⟨gL, off + i * 6 + 2, none⟩) hgL).trans q2
        have q3' := (BW.out.cell (p := ⟨gL, off + i * 6 + 3, none⟩) hgL).trans q3
        have q4' := (BW.out.cell (p := ⟨gL, off + i * 6 + 4, none⟩) hgL).trans q4
        have q5' := (BW.out.cell (p := ⟨gL, off + i * 6 + 5, none⟩) hgL).trans q5
        have hsh : ∀ q : (l[i].ids.length ≤ 5), ∀ a ∈ l.take (i + 1), a.ids.length ≤ 5 := by
          intro q a ha
          rw [List.take_succ_eq_append_getElem hi] at ha
          rcases List.mem_append.1 ha with ha | ha
          · exact SH.out a ha
          · simp only [List.mem_singleton] at ha; rw [ha]; exact q
        obtain ⟨a, ha⟩ : ∃ a, a = l[i] := ⟨_, rfl⟩
        rw [← ha] at q0' q1' q2' q3' q4' q5' hsh
        have HLT := Lib.hid hlt; have HSH := Lib.hid hsh
        clear ha q0 q1 q2 q3 q4 q5 hgL hi hsh
        go_wp2_with (refine wpList_alloc_g rfl _ rfl _ _ Try.zeroAct11 rfl ?_)
        intro R w1 h1
        go_wp2_with (refine wpList_store_row_g (t := 107) (old := #[.slice none 0 0, .int .i64 0, .int .u64 0, .int .u64 0, .int .u64 0, .int .u64 0]) rfl 107 _ _ rfl R #[.slice a.idsd a.ids.length a.idsc, .int .i64 a.b, .int .u64 (uw0 a.m), .int .u64 (uw1 a.m), .int .u64 (uw2 a.m), .int .u64 (uw3 a.m)] rfl rfl h1.out.cells Try.sizeAct11 rfl (by simp [Value.oneCell']) ?_)
        intro w2 h2' k12 z12
        have hb12 : Below wr.heap.size wr w2 := h1.out.below.trans (k12.below (B := wr.heap.size) (fun x hx e => by have := h1.out.eq; omega) h1.out.below.size)
        have r0 : w2.cell? ⟨R, 0, none⟩ = some (.slice a.idsd a.ids.length a.idsc) := Lib.cell_of_heap h2' 0
        have r1 : w2.cell? ⟨R, 1, none⟩ = some (.int .i64 a.b) := Lib.cell_of_heap h2' 1
        have r2 : w2.cell? ⟨R, 2, none⟩ = some (.int .u64 (uw0 a.m)) := Lib.cell_of_heap h2' 2
        have r3 : w2.cell? ⟨R, 3, none⟩ = some (.int .u64 (uw1 a.m)) := Lib.cell_of_heap h2' 3
        have r4 : w2.cell? ⟨R, 4, none⟩ = some (.int .u64 (uw2 a.m)) := Lib.cell_of_heap h2' 4
        have r5 : w2.cell? ⟨R, 5, none⟩ = some (.int .u64 (uw3 a.m)) := Lib.cell_of_heap h2' 5
        have HB2 := Lib.hid (BW.out.trans (hb12.mono BW.out.size))
        clear h1 h2' k12 z12 hb12 q0' q1' q2' q3' q4' q5'
        by_cases c0 : ¬ a.ids.length ≤ 5
        · have c0' : 5 < a.ids.length := by omega
          clear c0
          go_wp2_with fail
          go_ret
          exact ⟨false, rfl, fun h => (by cases h), HB2.out⟩
        have d0 : a.ids.length ≤ 5 := by omega
        have d0' : ¬ 5 < a.ids.length := by omega
        clear c0
        · skip
          go_wp2_with fail
          go_roundw
          case rel => exact ⟨i + 1, by go_num, Nat.succ_le_of_lt HLT.out, Lib.hid (HSH.out (by exact d0)), HB2⟩
          case measure => have hh : i < n := HLT.out; simp [intOf]; omega
      · have hfin : ∀ a ∈ l, a.ids.length ≤ 5 := by
          have h8 := SH.out
          rwa [List.take_of_length_le (by rw [← HN.out]; omega)] at h8
        have HF := Lib.hid hfin
        clear hfin SH
        go_wp2_with fail
        go_ret
        exact ⟨true, rfl, fun _ => ⟨by rw [← HN.out]; exact hl, HF.out⟩, BW.out⟩
  · have j0 : 100 < n := by omega
    clear hl
    go_enter Try.func54, Try.ntmps54
    go_wp2_with fail
    go_ret
    exact ⟨false, rfl, fun h => (by cases h), Below.refl _ _⟩

set_option maxHeartbeats 8000000 in
set_option maxRecDepth 100000 in
theorem lives11_any (w : World) : Calls Try.prog 55 #[] w (Ret w (.bool true)) := by
  go_enter Try.func55, Try.ntmps55
  go_wp2_with fail
  refine (snew_any _).mono ?_
  rintro e w1 ⟨g, F, rfl, h1, hb1, hf1⟩
  have O1 := Lib.hid (HOne.new h1 hf1 hb1 (Below.refl _ _) 13 [])
  clear h1 hb1 hf1
  have HK : Hid (KeyOk 13 []) := Lib.hid ⟨by decide, by decide, fun x hx => by cases hx⟩
  have u10 : UIs 10 0 0 0 10 := by unfold UIs; omega
  have u20 : UIs 20 0 0 0 20 := by unfold UIs; omega
  have U10 := Lib.hid u10; have U20 := Lib.hid u20
  clear u10 u20
  go_wp2_with fail
  refine (O1.out.push (by decide) HK.out (by decide) (Own.nil _ 0 _ _ _) (bk := 5) (by decide) U10.out).mono ?_
  rintro e w2 ⟨rfl, O2, _⟩
  have O2 := Lib.hid O2
  clear O1
  rw [show hisE [] 5 = 0 from rfl]
  go_wp2_with fail
  refine (O2.out.push (by decide) HK.out (by decide) (Own.nil _ 0 _ _ _) (bk := 7) (by decide) U20.out).mono ?_
  rintro e w3 ⟨rfl, O3, _⟩
  have O3 : Hid (HOne w w3 g 13 [] _ [(5, 10), (7, 20)] 2) := Lib.hid O3
  clear O2
  rw [show hisE (hisS [] 5 10) 7 = 0 from rfl]
  go_wp2_with fail
  refine (O3.out.at 6 (by decide) I64s_nil (Rd.nil _ _ _)).mono ?_
  rintro e w4 ⟨a, b, c, d, hu, rfl, hb⟩
  rw [show (lookH [(5, 10), (7, 20)] 6).isSome = true from rfl]
  have HU : Hid (UIs a b c d 10) := Lib.hid hu
  have O4 := Lib.hid (O3.out.later hb)
  clear hb hu O3
  go_wp2_with (refine wpList_alloc_g rfl _ rfl _ _ Try.zeroU rfl ?_)
  intro X w5 h5
  go_wp2_with (refine wpList_store_row_g (t := 105) (old := u0) rfl 105 _ _ rfl X #[.int .u64 a, .int .u64 b, .int .u64 c, .int .u64 d] rfl rfl h5.out.cells Try.sizeU rfl (one_u64 _ _ _ _) ?_)
  intro w6 hx6 k6 _
  have hb46 : Below w4.heap.size w4 w6 := h5.out.below.trans (k6.below (B := w4.heap.size) (fun x hx e => by have := h5.out.eq; omega) h5.out.below.size)
  have O6 := Lib.hid (O4.out.later hb46); have HX6 := Lib.hid hx6
  clear h5 hx6 k6 hb46 O4
  go_wp2_with fail
  refine (O6.out.at 7 (by decide) I64s_nil (Rd.nil _ _ _)).mono ?_
  rintro e w7 ⟨a2, b2, c2, d2, hu, rfl, hb⟩
  rw [show (lookH [(5, 10), (7, 20)] 7).isSome = true from rfl]
  have HU2 : Hid (UIs a2 b2 c2 d2 20) := Lib.hid hu
  have O7 := Lib.hid (O6.out.later hb); have HX7 := Lib.hid (below_at' hb HX6.out)
  clear hb hu O6 HX6
  go_wp2_with (refine wpList_alloc_g rfl _ rfl _ _ Try.zeroU rfl ?_)
  intro Y w8 h8
  go_wp2_with (refine wpList_store_row_g (t := 105) (old := u0) rfl 105 _ _ rfl Y #[.int .u64 a2, .int .u64 b2, .int .u64 c2, .int .u64 d2] rfl rfl h8.out.cells Try.sizeU rfl (one_u64 _ _ _ _) ?_)
  intro w9 hx9 k9 _
  have hb79 : Below w7.heap.size w7 w9 := h8.out.below.trans (k9.below (B := w7.heap.size) (fun x hx e => by have := h8.out.eq; omega) h8.out.below.size)
  have O9 := Lib.hid (O7.out.later hb79); have HX9 := Lib.hid (below_at' hb79 HX7.out); have HY9 := Lib.hid hx9
  clear h8 hx9 k9 hb79 O7 HX7
  go_wp2_with fail
  refine (O9.out.at 4 (by decide) I64s_nil (Rd.nil _ _ _)).mono ?_
  rintro e wa ⟨a3, b3, c3, d3, hu, rfl, hb⟩
  rw [show (lookH [(5, 10), (7, 20)] 4).isSome = false from rfl]
  have OA := Lib.hid (O9.out.later hb); have HXA := Lib.hid (below_at' hb HX9.out); have HYA := Lib.hid (below_at' hb HY9.out)
  clear hb hu O9 HX9 HY9
  go_wp2_with (refine wpList_alloc_g rfl _ rfl _ _ Try.zeroU rfl ?_)
  intro Z wb hb'
  go_wp2_with (refine wpList_store_row_g (t := 105) (old := u0) rfl 105 _ _ rfl Z #[.int .u64 a3, .int .u64 b3, .int .u64 c3, .int .u64 d3] rfl rfl hb'.out.cells Try.sizeU rfl (one_u64 _ _ _ _) ?_)
  intro wc hxc kc _
  have hbac : Below wa.heap.size wa wc := hb'.out.below.trans (kc.below (B := wa.heap.size) (fun x hx e => by have := hb'.out.eq; omega) hb'.out.below.size)
  have OC := Lib.hid (OA.out.later hbac); have HXC := Lib.hid (below_at' hbac HXA.out); have HYC := Lib.hid (below_at' hbac HYA.out)
  clear hb' hxc kc hbac OA HXA HYA
  have q1 := Try.eqUn HU.out U10.out
  have q2 := Try.eqUn HU2.out U20.out
  rw [decide_eq_true rfl] at q1 q2
  go_wp2_with (first
    | (refine wpList_load_row_y rfl 105 _ rfl X rfl 105 _ _ _ HXC.out Try.underlying105 rfl Try.sizeU ?_)
    | (refine wpList_load_row_y rfl 105 _ rfl Y rfl 105 _ _ _ HYC.out Try.underlying105 rfl Try.sizeU ?_))
  go_ret
  exact ⟨rfl, OC.out.one.below⟩
end Go.Proofs.Ytohedljdkfmkdaa
