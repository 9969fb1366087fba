/- Amounts of cells: added, taken, moved (code). No condition. -/
import Derived.Test.YthnjakomkdlglaaGreatCelC
namespace Go.Proofs.YthnjakomkdlglaaGreat
open Go.RowKit

def moveE (f : Txt → Option Txt) (k q : Txt) (m : Nat) : Int := if ¬ m ≤ amtV f k then 13 else if k = q then 0 else if amtV f q + m < uHalf then 0 else 6
def PS.moveA (s : PS) (k q : Txt) (m : Nat) : PS := if moveE (getP s.t) k q m = 0 ∧ k ≠ q then (s.setAmt k (amtV (getP s.t) k - m)).setAmt q (amtV (getP s.t) q + m) else s
theorem sz_moveA (s : PS) (k q : Txt) (n : Nat) : (s.moveA k q n).sz ≤ s.sz + 4 := by
  unfold PS.moveA; split
  · have h1 := sz_setAmt (s.setAmt k (amtV (getP s.t) k - n)) q (amtV (getP s.t) q + n)
    have h2 := sz_setAmt s k (amtV (getP s.t) k - n)
    omega
  · omega
theorem Fit.moveA {s : PS} (h : Fit s) (k q : Txt) (n : Nat) : Fit (s.moveA k q n) := by
  unfold PS.moveA; split
  · exact (h.setAmt _ _).setAmt _ _
  · exact h

set_option maxHeartbeats 4000000 in
set_option maxRecDepth 100000 in
theorem cadd_clo {a b c d a' b' c' d' : Int} {n m : Nat} (h : UIs a b c d n) (h' : UIs a' b' c' d' m) {w : World} {B : Nat} (hB : w.heap[B]? = some (.cells #[.int .u64 a', .int .u64 b', .int .u64 c', .int .u64 d'] 33 (0, 0))) :
    Calls Tryz.prog 162 #[.agg #[.int .u64 a, .int .u64 b, .int .u64 c, .int .u64 d], .pointer (some ⟨B, 0, none⟩)] w (UErr w (if n + m < uHalf then n + m else 0) (if n + m < uHalf then 0 else 6)) := by
  have HU := Lib.hid h; have HU2 := Lib.hid h'; have HB0 := Lib.hid hB
  clear h h' hB
  obtain ⟨vv, hvv⟩ : ∃ vv, vv = if n + m < uHalf then n + m else 0 := ⟨_, rfl⟩
  obtain ⟨ee, hee⟩ : ∃ ee : Int, ee = if n + m < uHalf then 0 else 6 := ⟨_, rfl⟩
  rw [← hvv, ← hee]
  have HVV := Lib.hid hvv; have HEE := Lib.hid hee
  clear hvv hee
  go_enter Tryz.func162, Tryz.ntmps162
  go_wp2_with (refine wpList_alloc_g rfl _ rfl _ _ Tryz.zeroUz rfl ?_)
  obtain ⟨w1, hw1⟩ : ∃ w1, w1 = w.alloc (.cells #[.int .u64 a, .int .u64 b, .int .u64 c, .int .u64 d] 33) := ⟨_, rfl⟩
  obtain ⟨X, hX⟩ : ∃ X, X = w.heap.size := ⟨_, rfl⟩
  rw [← hw1, ← hX]
  have hb1 : Below w.heap.size w w1 := by rw [hw1]; exact below_new _ _
  have HX1 : Hid (w1.heap[X]? = some (.cells #[.int .u64 a, .int .u64 b, .int .u64 c, .int .u64 d] 33 (0, 0))) := Lib.hid (by rw [hw1, hX]; exact heap_alloc_new _ _)
  have HB1 := Lib.hid hb1; have HQ1 := Lib.hid (below_at' hb1 HB0.out)
  clear hw1 hX hb1 HB0
  intro R w2 h2
  have HR2 := Lib.hid h2.out.cells; have HB2 := Lib.hid (HB1.out.trans (h2.out.below.mono HB1.out.size)); have HRW : Hid (w.heap.size ≤ R) := Lib.hid (by rw [h2.out.eq]; exact HB1.out.size)
  have HX2 := Lib.hid (below_at' h2.out.below HX1.out); have HQ2 := Lib.hid (below_at' h2.out.below HQ1.out)
  clear h2 HX1 HQ1 HB1
  go_wp2_with (first
    | (refine wpList_load_row rfl 33 _ rfl X rfl 33 _ _ _ HX2.out Tryz.underlying33 rfl Tryz.sizeU ?_)
    | (refine wpList_load_row rfl 33 _ rfl B rfl 33 _ _ _ HQ2.out Tryz.underlying33 rfl Tryz.sizeU ?_))
  refine (more10_any HU.out HU2.out _).mono ?_
  rw [← HVV.out, ← HEE.out]
  rintro e w3 ⟨sa, sb, sc, sd, hu, rfl, hb⟩
  have HSU := Lib.hid hu; have HR3 := Lib.hid (below_at' hb HR2.out); have HB3 := Lib.hid (HB2.out.trans (hb.mono HB2.out.size))
  clear hu hb HR2 HB2 HX2 HQ2
  go_wp2_with (refine wpList_store_row_g (t := 33) (old := u0) rfl 33 _ _ rfl R #[.int .u64 sa, .int .u64 sb, .int .u64 sc, .int .u64 sd] rfl rfl HR3.out Tryz.sizeU rfl (one_u64 _ _ _ _) ?_)
  intro w6 hx6 k6 _
  have HX6 := Lib.hid hx6; have HB6 := Lib.hid (HB3.out.trans (k6.below (B := w.heap.size) (fun y hy e => by have := HRW.out; omega) HB3.out.size))
  clear hx6 k6
  go_wp2_with fail
  exact bodyPost_ret (res_row_val rfl _ _ R _ _ _ _ rfl HX6.out Tryz.underlying33 rfl Tryz.sizeU _ rfl) rfl ⟨sa, sb, sc, sd, HSU.out, rfl, HB6.out⟩

set_option maxHeartbeats 4000000 in
set_option maxRecDepth 100000 in
theorem cadd_turn {w : World} {g : Nat} {s : PS} {F : List Nat} (h : St w g s F) (hz : s.sz < 1099511627776) (hf : Fit s) (k : Txt) {a' b' c' d' : Int} {m : Nat} (hu : UIs a' b' c' d' m) {B : Nat} (hB : w.heap[B]? = some (.cells #[.int .u64 a', .int .u64 b', .int .u64 c', .int .u64 d'] 33 (0, 0))) :
    Calls Tryz.prog 161 #[.pointer (some ⟨g, 0, none⟩), .string (bs k), .func (.func 162) #[] #[.pointer (some ⟨B, 0, none⟩)]] w (StRet w g F (PS.addA s k m) (.int .i64 (addE (getP s.t) k m))) := by
  have L := Lib.hid (Liv.start h); have HZ := Lib.hid hz; have HU2 := Lib.hid hu; have HB0 := Lib.hid hB
  have ham := camount_any (Look.of_st h) hf.f k
  obtain ⟨n, hn⟩ : ∃ n, n = amtV (getP s.t) k := ⟨_, rfl⟩
  rw [← hn] at ham
  have HE : Hid (addE (getP s.t) k m = if n + m < uHalf then 0 else 6) := Lib.hid (by rw [hn]; rfl)
  have HS : Hid (PS.addA s k m = if n + m < uHalf then s.setAmt k (n + m) else s) := Lib.hid (by rw [hn]; rfl)
  clear h hz hu hB hf hn
  go_enter Tryz.func161, Tryz.ntmps161
  go_wp2_with fail
  refine ham.mono ?_
  clear ham
  rintro e w1 ⟨a, b, c, d, hu1, rfl, hb⟩
  have HU1 := Lib.hid hu1; have L1 := Lib.hid (L.out.later hb); have HQ1 := Lib.hid (below_at' hb HB0.out)
  clear hu1 hb L HB0
  go_wp2_with fail
  refine (cadd_clo HU1.out HU2.out HQ1.out).mono ?_
  by_cases hc : n + m < uHalf
  · rw [if_pos hc, if_pos hc]
    have HEV : Hid (addE (getP s.t) k m = 0) := Lib.hid (by rw [HE.out, if_pos hc])
    have HSV : Hid (PS.addA s k m = s.setAmt k (n + m)) := Lib.hid (by rw [HS.out, if_pos hc])
    clear hc
    rintro e w2 ⟨sa, sb, sc, sd, hu2, rfl, hb⟩
    have HSU := Lib.hid hu2; have L2 := Lib.hid (L1.out.later hb)
    clear hu2 hb L1 HQ1
    go_wp2_with (refine wpList_alloc_g rfl _ rfl _ _ Tryz.zeroUz rfl ?_)
    intro O w3 h3
    go_wp2_with (refine wpList_store_row_g (t := 33) (old := u0) rfl 33 _ _ rfl O #[.int .u64 sa, .int .u64 sb, .int .u64 sc, .int .u64 sd] rfl rfl h3.out.cells Tryz.sizeU rfl (one_u64 _ _ _ _) ?_)
    intro w4 hx4 k4 _
    have hb24 : Below w2.heap.size w2 w4 := h3.out.below.trans (k4.below (B := w2.heap.size) (fun x hx e => by have := h3.out.eq; omega) h3.out.below.size)
    have L4 := Lib.hid (L2.out.later hb24); have HO4 := Lib.hid hx4
    clear h3 hx4 k4 hb24 L2
    go_wp2_with (refine wpList_load_row rfl 33 _ rfl O rfl 33 _ _ _ HO4.out Tryz.underlying33 rfl Tryz.sizeU ?_)
    refine (L4.out.call fun F h => csetAmount_any h HZ.out k HSU.out).mono ?_
    rintro e w5 ⟨rfl, L5, _⟩
    have L5 := Lib.hid L5
    go_wp2_with fail
    go_ret
    rw [HEV.out, HSV.out]; exact L5.out.ret
  · rw [if_neg hc, if_neg hc]
    have HEV : Hid (addE (getP s.t) k m = 6) := Lib.hid (by rw [HE.out, if_neg hc])
    have HSV : Hid (PS.addA s k m = s) := Lib.hid (by rw [HS.out, if_neg hc])
    clear hc
    rintro e w2 ⟨sa, sb, sc, sd, hu2, rfl, hb⟩
    have L2 := Lib.hid (L1.out.later hb)
    clear hu2 hb L1 HQ1
    go_wp2_with (refine wpList_alloc_g rfl _ rfl _ _ Tryz.zeroUz rfl ?_)
    intro O w3 h3
    go_wp2_with (refine wpList_store_row_g (t := 33) (old := u0) rfl 33 _ _ rfl O #[.int .u64 sa, .int .u64 sb, .int .u64 sc, .int .u64 sd] rfl rfl h3.out.cells Tryz.sizeU rfl (one_u64 _ _ _ _) ?_)
    intro w4 hx4 k4 _
    have hb24 : Below w2.heap.size w2 w4 := h3.out.below.trans (k4.below (B := w2.heap.size) (fun x hx e => by have := h3.out.eq; omega) h3.out.below.size)
    have L4 := Lib.hid (L2.out.later hb24)
    clear h3 hx4 k4 hb24 L2
    go_wp2_with fail
    go_ret
    rw [HEV.out, HSV.out]; exact L4.out.ret

set_option maxHeartbeats 4000000 in
set_option maxRecDepth 100000 in
theorem cadd_any {w : World} {g : Nat} {s : PS} {F : List Nat} (h : St w g s F) (hz : s.sz < 1099511627776) (hf : Fit s) (k : Txt) {a b c d : Int} {m : Nat} (hu : UIs a b c d m) :
    Calls Tryz.prog 108 #[.pointer (some ⟨g, 0, none⟩), .string (bs k), .agg #[.int .u64 a, .int .u64 b, .int .u64 c, .int .u64 d]] w (StRet w g F (PS.addA s k m) (.int .i64 (addE (getP s.t) k m))) := by
  have L := Lib.hid (Liv.start h); have HZ := Lib.hid hz; have HU := Lib.hid hu; have HF := Lib.hid hf
  clear h hz hu hf
  go_enter Tryz.func108, Tryz.ntmps108
  go_wp2_with fail
  have L1 := Lib.hid (L.out.later (below_new w (.cells #[.int .u64 a, .int .u64 b, .int .u64 c, .int .u64 d] 33)))
  refine (L1.out.call fun F h => cadd_turn h HZ.out HF.out k HU.out (heap_alloc_new w _)).mono ?_
  rintro e w2 ⟨rfl, L2, _⟩
  have L2 := Lib.hid L2
  go_wp2_with fail
  go_ret
  exact L2.out.ret

theorem less10v {a b c d a' b' c' d' : Int} {n m : Nat} (h : UIs a b c d n) (h' : UIs a' b' c' d' m) {v : Nat} {er : Int} (hv : v = if m ≤ n then n - m else 0) (he : er = if m ≤ n then 0 else 13) (w : World) :
    Calls Tryz.prog 164 #[.agg #[.int .u64 a, .int .u64 b, .int .u64 c, .int .u64 d], .agg #[.int .u64 a', .int .u64 b', .int .u64 c', .int .u64 d']] w (UErr w v er) := by subst hv; subst he; exact less10_any h h' w
theorem more10v {a b c d a' b' c' d' : Int} {n m : Nat} (h : UIs a b c d n) (h' : UIs a' b' c' d' m) {v : Nat} {er : Int} (hv : v = if n + m < uHalf then n + m else 0) (he : er = if n + m < uHalf then 0 else 6) (w : World) :
    Calls Tryz.prog 163 #[.agg #[.int .u64 a, .int .u64 b, .int .u64 c, .int .u64 d], .agg #[.int .u64 a', .int .u64 b', .int .u64 c', .int .u64 d']] w (UErr w v er) := by subst hv; subst he; exact more10_any h h' w

/-- A store into a block of amounts that is new leaves the store. -/
theorem liv_u {w0 w w' : World} {F0 : List Nat} {g : Nat} {s : PS} {X : Nat} {cs : Array Value} (L : Liv w0 F0 w g s) (hX : w.heap[X]? = some (.cells cs 33 (0, 0))) (hk : Keep (· = X) w w') (hw : w0.heap.size ≤ X) : Liv w0 F0 w' g s := by
  obtain ⟨F, h1, h2, h3⟩ := L
  refine ⟨F, h1.keep hk fun x hx hu => ?_, h2.trans (hk.mono fun y _ hy => .inr (hy ▸ hw)), h3⟩
  obtain ⟨o, ho, k1⟩ := h1.kind x hx
  subst hu
  rw [hX] at ho
  cases ho
  have k2 : stoKind (.cells cs 33 (0, 0)) = false := rfl
  rw [k2] at k1; cases k1
theorem Liv.look {w0 w : World} {F0 : List Nat} {g : Nat} {s : PS} (L : Liv w0 F0 w g s) : Look w (some ⟨g, 0, none⟩) true (getP s.t) := by
  obtain ⟨F, h1, _⟩ := L; exact Look.of_st h1

set_option maxHeartbeats 8000000 in
set_option maxRecDepth 100000 in
theorem cmove_any {w : World} {g : Nat} {s : PS} {F : List Nat} (h : St w g s F) (hz : s.sz < 1099511627000) (hf : Fit s) (k q : Txt) {a b c d : Int} {m : Nat} (hu : UIs a b c d m) :
    Calls Tryz.prog 111 #[.pointer (some ⟨g, 0, none⟩), .string (bs k), .string (bs q), .agg #[.int .u64 a, .int .u64 b, .int .u64 c, .int .u64 d]] w (StRet w g F (s.moveA k q m) (.int .i64 (moveE (getP s.t) k q m))) := by
  have L := Lib.hid (Liv.start h); have HZ := Lib.hid hz; have HU := Lib.hid hu; have HF := Lib.hid hf
  clear h hz hu hf
  obtain ⟨n1, hn1⟩ : ∃ n, n = amtV (getP s.t) k := ⟨_, rfl⟩
  obtain ⟨n2, hn2⟩ : ∃ n, n = amtV (getP s.t) q := ⟨_, rfl⟩
  have HN := Lib.hid (And.intro hn1 hn2)
  have HE : Hid (moveE (getP s.t) k q m = if ¬ m ≤ n1 then 13 else if k = q then 0 else if n2 + m < uHalf then 0 else 6) := Lib.hid (by rw [hn1, hn2]; rfl)
  have HS : Hid (s.moveA k q m = if moveE (getP s.t) k q m = 0 ∧ k ≠ q then (s.setAmt k (n1 - m)).setAmt q (n2 + m) else s) := Lib.hid (by rw [hn1, hn2]; rfl)
  clear hn1 hn2
  go_enter Tryz.func111, Tryz.ntmps111
  go_wp2_with fail
  obtain ⟨w1, hw1⟩ : ∃ w1, w1 = w.alloc (.cells #[.int .u64 a, .int .u64 b, .int .u64 c, .int .u64 d] 33) := ⟨_, rfl⟩
  obtain ⟨X, hX⟩ : ∃ X, X = w.heap.size := ⟨_, rfl⟩
  rw [← hw1, ← hX]
  have hb1 : Below w.heap.size w w1 := by rw [hw1]; exact below_new _ _
  have HX1 : Hid (w1.heap[X]? = some (.cells #[.int .u64 a, .int .u64 b, .int .u64 c, .int .u64 d] 33 (0, 0))) := Lib.hid (by rw [hw1, hX]; exact heap_alloc_new _ _)
  have L1 := Lib.hid (L.out.later hb1); have HW1 : Hid (w.heap.size ≤ w1.heap.size) := Lib.hid hb1.size
  clear hw1 hX hb1 L
  obtain ⟨wz, hwz⟩ : ∃ wz, wz = w1.drew := ⟨_, rfl⟩
  have hbz : Below w1.heap.size w1 wz := by rw [hwz]; exact (Below.refl _ _).drew
  have L0 := Lib.hid (L1.out.later hbz); have hS : wz.heap[X]? = some (.cells #[.int .u64 a, .int .u64 b, .int .u64 c, .int .u64 d] 33 (0, 0)) := below_at' hbz HX1.out
  have HWZ : Hid (w1.heap.size ≤ wz.heap.size) := Lib.hid hbz.size
  clear hbz L1
  have HXB : Hid (X < w1.heap.size) := Lib.hid (heap_lt HX1.out)
  have HSB : Hid (w1.heap.size ≤ wz.heap.size) := HWZ
  have SZ0 : Hid (wz.heap.size ≤ wz.heap.size) := Lib.hid (Nat.le_refl _)
  obtain ⟨x1, hx1⟩ : ∃ v, v = if m ≤ n1 then n1 - m else 0 := ⟨_, rfl⟩
  obtain ⟨r1, hr1⟩ : ∃ v : Int, v = if m ≤ n1 then 0 else 13 := ⟨_, rfl⟩
  have HV1 := Lib.hid (And.intro hx1 hr1)
  clear hx1 hr1 HX1
  go_wp2_with fail
  refine wp_region_till (fun w' => w'.heap[X]? = some (.cells #[.int .u64 a, .int .u64 b, .int .u64 c, .int .u64 d] 33 (0, 0))) 11 11 (by kernel_rfl) rfl ?_
  rw [← hwz]
  clear hwz
  refine till_take 0 (some 13) rfl rfl (by kernel_rfl) (by kernel_rfl) (by kernel_rfl) (by kernel_rfl) (by kernel_rfl) (by kernel_rfl) (fun _ _ _ h => h) (.inl ⟨by rfl, fun w' _ => (by go_simp; rfl)⟩) hS ?_
  go_frame
  refine till_take 1 (some 14) rfl rfl (by kernel_rfl) (by kernel_rfl) (by kernel_rfl) (by kernel_rfl) (by kernel_rfl) (by kernel_rfl) (fun _ _ _ h => h) (.inl ⟨by rfl, fun w' _ => (by go_simp; rfl)⟩) hS ?_
  go_frame
  refine till_take 3 (some 16) rfl rfl (by kernel_rfl) (by kernel_rfl) (by kernel_rfl) (by kernel_rfl) (by kernel_rfl) (by kernel_rfl) (fun _ _ _ h => h) (yields_load (by rfl) 33 _ rfl (.pointer (some ⟨X, 0, none⟩)) rfl (.agg #[.int .u64 a, .int .u64 b, .int .u64 c, .int .u64 d]) (fun w' hS' => load_heap hS' Tryz.underlying33 rfl Tryz.sizeU)) hS ?_
  go_frame
  refine till_two 2 8 rfl rfl (by kernel_rfl) (fun K hK => ?_) (fun K hK => ?_)
  · simp only [List.getElem_toArray, List.getElem_cons_succ, List.getElem_cons_zero]
    rw [if_pos (by rfl)]
    go_simp
    refine (camount_any L0.out.look HF.out.f k).mono ?_
    rintro e wt1 ⟨a1, b1, c1, d1, hu1, rfl, hb⟩
    have L1 := Lib.hid (L0.out.later hb)
    have SZ1 := Lib.hid (Nat.le_trans SZ0.out hb.size)
    rw [← HN.out.1] at hu1
    have HU11 := Lib.hid hu1
    clear hu1
    have hS1 := below_at' hb hS
    refine hK _ _ (fun _ _ => hS1) ?_
    clear hK hS hb L0 SZ0
    have hS := hS1
    clear hS1
    refine till_two 4 8 rfl rfl (by kernel_rfl) (fun K hK => ?_) (fun K hK => ?_)
    · simp only [List.getElem_toArray, List.getElem_cons_succ, List.getElem_cons_zero]
      rw [if_pos (by rfl)]
      go_simp
      refine (less10v HU11.out HU.out HV1.out.1 HV1.out.2 _).mono ?_
      rintro e wt2 ⟨sa, sb, sc, sd, hu2, rfl, hb⟩
      have L2 := Lib.hid (L1.out.later hb)
      have SZ2 := Lib.hid (Nat.le_trans SZ1.out hb.size)
      have HU12 := Lib.hid (HU11.out)
      have HRE2 := Lib.hid hu2
      clear hu2
      have hS1 := below_at' hb hS
      refine hK _ _ (fun _ _ => hS1) ?_
      clear hK hS hb L1 SZ1 HU11
      have hS := hS1
      clear hS1
      refine till_take 5 (some 12) rfl rfl (by kernel_rfl) (by kernel_rfl) (by kernel_rfl) (by kernel_rfl) (by kernel_rfl) (by kernel_rfl) (fun _ _ _ h => h) (.inl ⟨by rfl, fun w' _ => (by go_simp; rfl)⟩) hS ?_
      go_frame
      refine till_take 6 (some 18) rfl rfl (by kernel_rfl) (by kernel_rfl) (by kernel_rfl) (by kernel_rfl) (by kernel_rfl) (by kernel_rfl) (fun _ _ _ h => h) (.inl ⟨by rfl, fun w' _ => (by go_simp; rfl)⟩) hS ?_
      go_frame
      refine till_take 7 (some 19) rfl rfl (by kernel_rfl) (by kernel_rfl) (by kernel_rfl) (by kernel_rfl) (by kernel_rfl) (by kernel_rfl) (fun _ _ _ h => h) (.inl ⟨by rfl, fun w' _ => (by go_simp; rfl)⟩) hS ?_
      go_frame
      refine till_one 8 rfl (by kernel_rfl) fun K hK => ?_
      simp only [List.getElem_toArray, List.getElem_cons_succ, List.getElem_cons_zero]
      rw [if_pos (by rfl)]
      refine wp_alloc_g 33 rfl _ _ Tryz.zeroUz rfl ?_
      intro O3 wt3 hm
      have hb := hm.out.below
      have L3 := Lib.hid (L2.out.later hb)
      have SZ3 := Lib.hid (Nat.le_trans SZ2.out hb.size)
      have HU13 := Lib.hid (HU12.out)
      have HRE3 := Lib.hid (HRE2.out)
      have HO3 := Lib.hid hm.out.cells
      have WO3 : Hid (wz.heap.size ≤ O3) := Lib.hid (by have h1 := hm.out.eq; have h2 := SZ2.out; omega)
      have hS1 := below_at' hb hS
      refine hK _ _ (fun _ _ => hS1) ?_
      clear hK hS hb hm L2 SZ2 HU12 HRE2
      have hS := hS1
      clear hS1
      refine till_one 9 rfl (by kernel_rfl) fun K hK => ?_
      simp only [List.getElem_toArray, List.getElem_cons_succ, List.getElem_cons_zero]
      rw [if_pos (by rfl)]
      refine wp_store_row_g (t := 33) (old := u0) 33 _ _ rfl O3 #[.int .u64 sa, .int .u64 sb, .int .u64 sc, .int .u64 sd] rfl rfl HO3.out Tryz.sizeU rfl (one_u64 _ _ _ _) ?_
      intro wt4 hx8 k8 z8
      have HV4 := Lib.hid hx8
      have SZ4 := Lib.hid (Nat.le_trans SZ3.out (Nat.le_of_eq z8.symm))
      have hS1 := k8.at hS (fun e => by have h1 := HXB.out; have h2 := WO3.out; have h3 : X = O3 := e; have h4 := HSB.out; omega)
      have L4 := Lib.hid (liv_u L3.out HO3.out k8 (by have h1 := HW1.out; have h2 := WO3.out; have h4 := HSB.out; omega))
      refine hK _ _ (fun _ _ => hS1) ?_
      clear hK hS hx8 k8 z8 L3 HO3 SZ3
      have hS := hS1
      clear hS1
      refine till_take 10 (some 10) rfl rfl (by kernel_rfl) (by kernel_rfl) (by kernel_rfl) (by kernel_rfl) (by kernel_rfl) (by kernel_rfl) (fun _ _ _ h => h) (.inl ⟨by rfl, fun w' _ => (by go_simp; rfl)⟩) hS ?_
      go_frame
      refine till_done (by kernel_rfl) ?_ _
      obtain ⟨O1, hO1⟩ : ∃ o, o = O3 := ⟨_, rfl⟩
      rw [← hO1]
      have HO1 := HV4; have L2 := L4; have HX2 := Lib.hid hS; have HRA := HRE3
      rw [← hO1] at HO1
      clear hO1 HV4 L4 HRE3 hS
      obtain ⟨wy, hwy⟩ : ∃ wy, wy = wt4 := ⟨_, rfl⟩
      rw [← hwy] at HO1 L2 HX2 ⊢
      have HW2 : Hid (w1.heap.size ≤ wy.heap.size) := Lib.hid (by rw [hwy]; exact Nat.le_trans HWZ.out SZ4.out)
      clear hwy
      by_cases g1 : m ≤ n1
      · have hr : r1 = 0 := by rw [HV1.out.2, if_pos g1]
        have HX1E : Hid (x1 = n1 - m) := Lib.hid (by rw [HV1.out.1, if_pos g1])
        subst hr
        by_cases g2 : k = q
        · have HEV : Hid (moveE (getP s.t) k q m = 0) := Lib.hid (by rw [HE.out, if_neg (fun h => h g1), if_pos g2])
          have HSV : Hid (s.moveA k q m = s) := Lib.hid (by rw [HS.out, if_neg (fun h => h.2 g2)])
          have hst : ((bs k).toList == (bs q).toList) = true := by rw [eq_txt, decide_eq_true g2]
          have hst2 : (bs k).toList = (bs q).toList := by rw [g2]
          clear g1 g2
          go_wp2_with fail
          go_ret
          rw [HEV.out, HSV.out]; exact L2.out.ret
        have hst : ((bs k).toList == (bs q).toList) = false := by rw [eq_txt, decide_eq_false g2]
        have hst2 : ¬ (bs k).toList = (bs q).toList := by rw [toList_bs, toList_bs]; exact g2
        have HG := Lib.hid (And.intro g1 g2)
        clear g1 g2
        obtain ⟨x2, hx2⟩ : ∃ v, v = if n2 + m < uHalf then n2 + m else 0 := ⟨_, rfl⟩
        obtain ⟨r2, hr2⟩ : ∃ v : Int, v = if n2 + m < uHalf then 0 else 6 := ⟨_, rfl⟩
        have HV2 := Lib.hid (And.intro hx2 hr2)
        obtain ⟨wz, hwz⟩ : ∃ wz, wz = wy.drew := ⟨_, rfl⟩
        have hbz : Below wy.heap.size wy wz := by rw [hwz]; exact (Below.refl _ _).drew
        have L0 := Lib.hid (L2.out.later hbz); have hS : wz.heap[X]? = some (.cells #[.int .u64 a, .int .u64 b, .int .u64 c, .int .u64 d] 33 (0, 0)) := below_at' hbz HX2.out
        have R90 := Lib.hid (below_at' hbz HO1.out)
        have HSB : Hid (w1.heap.size ≤ wz.heap.size) := Lib.hid (Nat.le_trans HW2.out hbz.size)
        have HOB : Hid (O1 < wz.heap.size) := Lib.hid (Nat.lt_of_lt_of_le (heap_lt HO1.out) hbz.size)
        have SZ0 : Hid (wz.heap.size ≤ wz.heap.size) := Lib.hid (Nat.le_refl _)
        clear hbz L2 HX2 HO1 hx2 hr2
        go_wp2_with fail
        clear hst hst2
        refine wp_region_till (fun w' => w'.heap[X]? = some (.cells #[.int .u64 a, .int .u64 b, .int .u64 c, .int .u64 d] 33 (0, 0))) 11 11 (by kernel_rfl) rfl ?_
        rw [← hwz]
        clear hwz
        refine till_take 0 (some 29) rfl rfl (by kernel_rfl) (by kernel_rfl) (by kernel_rfl) (by kernel_rfl) (by kernel_rfl) (by kernel_rfl) (fun _ _ _ h => h) (.inl ⟨by rfl, fun w' _ => (by go_simp; rfl)⟩) hS ?_
        go_frame
        refine till_take 1 (some 30) rfl rfl (by kernel_rfl) (by kernel_rfl) (by kernel_rfl) (by kernel_rfl) (by kernel_rfl) (by kernel_rfl) (fun _ _ _ h => h) (.inl ⟨by rfl, fun w' _ => (by go_simp; rfl)⟩) hS ?_
        go_frame
        refine till_take 3 (some 32) rfl rfl (by kernel_rfl) (by kernel_rfl) (by kernel_rfl) (by kernel_rfl) (by kernel_rfl) (by kernel_rfl) (fun _ _ _ h => h) (yields_load (by rfl) 33 _ rfl (.pointer (some ⟨X, 0, none⟩)) rfl (.agg #[.int .u64 a, .int .u64 b, .int .u64 c, .int .u64 d]) (fun w' hS' => load_heap hS' Tryz.underlying33 rfl Tryz.sizeU)) hS ?_
        go_frame
        refine till_two 2 8 rfl rfl (by kernel_rfl) (fun K hK => ?_) (fun K hK => ?_)
        · simp only [List.getElem_toArray, List.getElem_cons_succ, List.getElem_cons_zero]
          rw [if_pos (by rfl)]
          go_simp
          refine (camount_any L0.out.look HF.out.f q).mono ?_
          rintro e wt1 ⟨ta1, tb1, tc1, td1, hu1, rfl, hb⟩
          have L1 := Lib.hid (L0.out.later hb)
          have R91 := Lib.hid (below_at' hb R90.out)
          have SZ1 := Lib.hid (Nat.le_trans SZ0.out hb.size)
          rw [← HN.out.2] at hu1
          have HU11 := Lib.hid hu1
          clear hu1
          have hS1 := below_at' hb hS
          refine hK _ _ (fun _ _ => hS1) ?_
          clear hK hS hb L0 R90 SZ0
          have hS := hS1
          clear hS1
          refine till_two 4 8 rfl rfl (by kernel_rfl) (fun K hK => ?_) (fun K hK => ?_)
          · simp only [List.getElem_toArray, List.getElem_cons_succ, List.getElem_cons_zero]
            rw [if_pos (by rfl)]
            go_simp
            refine (more10v HU11.out HU.out HV2.out.1 HV2.out.2 _).mono ?_
            rintro e wt2 ⟨tsa, tsb, tsc, tsd, hu2, rfl, hb⟩
            have L2 := Lib.hid (L1.out.later hb)
            have R92 := Lib.hid (below_at' hb R91.out)
            have SZ2 := Lib.hid (Nat.le_trans SZ1.out hb.size)
            have HU12 := Lib.hid (HU11.out)
            have HRE2 := Lib.hid hu2
            clear hu2
            have hS1 := below_at' hb hS
            refine hK _ _ (fun _ _ => hS1) ?_
            clear hK hS hb L1 R91 SZ1 HU11
            have hS := hS1
            clear hS1
            refine till_take 5 (some 28) rfl rfl (by kernel_rfl) (by kernel_rfl) (by kernel_rfl) (by kernel_rfl) (by kernel_rfl) (by kernel_rfl) (fun _ _ _ h => h) (.inl ⟨by rfl, fun w' _ => (by go_simp; rfl)⟩) hS ?_
            go_frame
            refine till_take 6 (some 34) rfl rfl (by kernel_rfl) (by kernel_rfl) (by kernel_rfl) (by kernel_rfl) (by kernel_rfl) (by kernel_rfl) (fun _ _ _ h => h) (.inl ⟨by rfl, fun w' _ => (by go_simp; rfl)⟩) hS ?_
            go_frame
            refine till_take 7 (some 35) rfl rfl (by kernel_rfl) (by kernel_rfl) (by kernel_rfl) (by kernel_rfl) (by kernel_rfl) (by kernel_rfl) (fun _ _ _ h => h) (.inl ⟨by rfl, fun w' _ => (by go_simp; rfl)⟩) hS ?_
            go_frame
            refine till_one 8 rfl (by kernel_rfl) fun K hK => ?_
            simp only [List.getElem_toArray, List.getElem_cons_succ, List.getElem_cons_zero]
            rw [if_pos (by rfl)]
            refine wp_alloc_g 33 rfl _ _ Tryz.zeroUz rfl ?_
            intro O3 wt3 hm
            have hb := hm.out.below
            have L3 := Lib.hid (L2.out.later hb)
            have R93 := Lib.hid (below_at' hb R92.out)
            have SZ3 := Lib.hid (Nat.le_trans SZ2.out hb.size)
            have HU13 := Lib.hid (HU12.out)
            have HRE3 := Lib.hid (HRE2.out)
            have HO3 := Lib.hid hm.out.cells
            have WO3 : Hid (wz.heap.size ≤ O3) := Lib.hid (by have h1 := hm.out.eq; have h2 := SZ2.out; omega)
            have hS1 := below_at' hb hS
            refine hK _ _ (fun _ _ => hS1) ?_
            clear hK hS hb hm L2 R92 SZ2 HU12 HRE2
            have hS := hS1
            clear hS1
            refine till_one 9 rfl (by kernel_rfl) fun K hK => ?_
            simp only [List.getElem_toArray, List.getElem_cons_succ, List.getElem_cons_zero]
            rw [if_pos (by rfl)]
            refine wp_store_row_g (t := 33) (old := u0) 33 _ _ rfl O3 #[.int .u64 tsa, .int .u64 tsb, .int .u64 tsc, .int .u64 tsd] rfl rfl HO3.out Tryz.sizeU rfl (one_u64 _ _ _ _) ?_
            intro wt4 hx8 k8 z8
            have HV4 := Lib.hid hx8
            have SZ4 := Lib.hid (Nat.le_trans SZ3.out (Nat.le_of_eq z8.symm))
            have hS1 := k8.at hS (fun e => by have h1 := HXB.out; have h2 := WO3.out; have h3 : X = O3 := e; have h4 := HSB.out; omega)
            have L4 := Lib.hid (liv_u L3.out HO3.out k8 (by have h1 := HW1.out; have h2 := WO3.out; have h4 := HSB.out; omega))
            have R94 := Lib.hid (k8.at R93.out (fun e => by have h1 := HOB.out; have h2 := WO3.out; have h3 : O1 = O3 := e; omega))
            refine hK _ _ (fun _ _ => hS1) ?_
            clear hK hS hx8 k8 z8 L3 HO3 SZ3 R93
            have hS := hS1
            clear hS1
            refine till_take 10 (some 10) rfl rfl (by kernel_rfl) (by kernel_rfl) (by kernel_rfl) (by kernel_rfl) (by kernel_rfl) (by kernel_rfl) (fun _ _ _ h => h) (.inl ⟨by rfl, fun w' _ => (by go_simp; rfl)⟩) hS ?_
            go_frame
            refine till_done (by kernel_rfl) ?_ _
            have HO2 := HV4; have L3 := L4; have HRB := HRE3; have HO1 := R94
            clear hS
            by_cases g3 : n2 + m < uHalf
            · have hr : r2 = 0 := by rw [HV2.out.2, if_pos g3]
              have HX2E : Hid (x2 = n2 + m) := Lib.hid (by rw [HV2.out.1, if_pos g3])
              have HEV : Hid (moveE (getP s.t) k q m = 0) := Lib.hid (by rw [HE.out, if_neg (fun h => h HG.out.1), if_neg HG.out.2, if_pos g3])
              have HSV : Hid (s.moveA k q m = (s.setAmt k (n1 - m)).setAmt q (n2 + m)) := Lib.hid (by rw [HS.out, if_pos ⟨HEV.out, HG.out.2⟩])
              subst hr
              clear g3
              go_wp2_with (refine wpList_load_row rfl 33 _ rfl O1 rfl 33 _ _ _ HO1.out Tryz.underlying33 rfl Tryz.sizeU ?_)
              refine (L3.out.call fun F h => csetAmount_any h (by have := HZ.out; omega) k HRA.out).mono ?_
              rw [HX1E.out]
              rintro e w8 ⟨rfl, L4, ho⟩
              have L4 := Lib.hid L4; have HO2' := Lib.hid (ho.2 _ _ HO2.out rfl rfl)
              clear ho L3 HO1 HO2
              go_wp2_with (refine wpList_load_row rfl 33 _ rfl O3 rfl 33 _ _ _ HO2'.out Tryz.underlying33 rfl Tryz.sizeU ?_)
              refine (L4.out.call fun F h => csetAmount_any h (by have := HZ.out; have := sz_setAmt s k (n1 - m); omega) q HRB.out).mono ?_
              rw [HX2E.out]
              rintro e w9 ⟨rfl, L5, _⟩
              have L5 := Lib.hid L5
              go_wp2_with fail
              go_ret
              rw [HEV.out, HSV.out]; exact L5.out.ret
            · have hr : r2 = 6 := by rw [HV2.out.2, if_neg g3]
              have HEV : Hid (moveE (getP s.t) k q m = 6) := Lib.hid (by rw [HE.out, if_neg (fun h => h HG.out.1), if_neg HG.out.2, if_neg g3])
              have HSV : Hid (s.moveA k q m = s) := Lib.hid (by rw [HS.out, HEV.out]; rfl)
              subst hr
              clear g3
              go_wp2_with fail
              go_ret
              rw [HEV.out, HSV.out]; exact L3.out.ret
          · simp only [List.getElem_toArray, List.getElem_cons_succ, List.getElem_cons_zero]
            rw [if_pos (by rfl)]
            refine wp_alloc_g 33 rfl _ _ Tryz.zeroUz rfl ?_
            intro O5 wt5 hm
            have hb := hm.out.below
            have L5 := Lib.hid (L1.out.later hb)
            have R95 := Lib.hid (below_at' hb R91.out)
            have SZ5 := Lib.hid (Nat.le_trans SZ1.out hb.size)
            have HU15 := Lib.hid (HU11.out)
            have HO5 := Lib.hid hm.out.cells
            have WO5 : Hid (wz.heap.size ≤ O5) := Lib.hid (by have h1 := hm.out.eq; have h2 := SZ1.out; omega)
            have hS1 := below_at' hb hS
            refine hK _ _ (fun _ _ => hS1) ?_
            clear hK hS hb hm L1 R91 SZ1 HU11
            have hS := hS1
            clear hS1
            refine till_one 4 rfl (by kernel_rfl) fun K hK => ?_
            simp only [List.getElem_toArray, List.getElem_cons_succ, List.getElem_cons_zero]
            rw [if_pos (by rfl)]
            go_simp
            refine (more10v HU15.out HU.out HV2.out.1 HV2.out.2 _).mono ?_
            rintro e wt6 ⟨tsa, tsb, tsc, tsd, hu2, rfl, hb⟩
            have L6 := Lib.hid (L5.out.later hb)
            have R96 := Lib.hid (below_at' hb R95.out)
            have SZ6 := Lib.hid (Nat.le_trans SZ5.out hb.size)
            have HU16 := Lib.hid (HU15.out)
            have HO6 := Lib.hid (below_at' hb HO5.out)
            have WO6 := Lib.hid (WO5.out)
            have HRE6 := Lib.hid hu2
            clear hu2
            have hS1 := below_at' hb hS
            refine hK _ _ (fun _ _ => hS1) ?_
            clear hK hS hb L5 R95 SZ5 HU15 HO5 WO5
            have hS := hS1
            clear hS1
            refine till_take 5 (some 28) rfl rfl (by kernel_rfl) (by kernel_rfl) (by kernel_rfl) (by kernel_rfl) (by kernel_rfl) (by kernel_rfl) (fun _ _ _ h => h) (.inl ⟨by rfl, fun w' _ => (by go_simp; rfl)⟩) hS ?_
            go_frame
            refine till_take 6 (some 34) rfl rfl (by kernel_rfl) (by kernel_rfl) (by kernel_rfl) (by kernel_rfl) (by kernel_rfl) (by kernel_rfl) (fun _ _ _ h => h) (.inl ⟨by rfl, fun w' _ => (by go_simp; rfl)⟩) hS ?_
            go_frame
            refine till_take 7 (some 35) rfl rfl (by kernel_rfl) (by kernel_rfl) (by kernel_rfl) (by kernel_rfl) (by kernel_rfl) (by kernel_rfl) (fun _ _ _ h => h) (.inl ⟨by rfl, fun w' _ => (by go_simp; rfl)⟩) hS ?_
            go_frame
            refine till_one 9 rfl (by kernel_rfl) fun K hK => ?_
            simp only [List.getElem_toArray, List.getElem_cons_succ, List.getElem_cons_zero]
            rw [if_pos (by rfl)]
            refine wp_store_row_g (t := 33) (old := u0) 33 _ _ rfl O5 #[.int .u64 tsa, .int .u64 tsb, .int .u64 tsc, .int .u64 tsd] rfl rfl HO6.out Tryz.sizeU rfl (one_u64 _ _ _ _) ?_
            intro wt7 hx8 k8 z8
            have HV7 := Lib.hid hx8
            have SZ7 := Lib.hid (Nat.le_trans SZ6.out (Nat.le_of_eq z8.symm))
            have hS1 := k8.at hS (fun e => by have h1 := HXB.out; have h2 := WO6.out; have h3 : X = O5 := e; have h4 := HSB.out; omega)
            have L7 := Lib.hid (liv_u L6.out HO6.out k8 (by have h1 := HW1.out; have h2 := WO6.out; have h4 := HSB.out; omega))
            have R97 := Lib.hid (k8.at R96.out (fun e => by have h1 := HOB.out; have h2 := WO6.out; have h3 : O1 = O5 := e; omega))
            refine hK _ _ (fun _ _ => hS1) ?_
            clear hK hS hx8 k8 z8 L6 HO6 SZ6 R96
            have hS := hS1
            clear hS1
            refine till_take 10 (some 10) rfl rfl (by kernel_rfl) (by kernel_rfl) (by kernel_rfl) (by kernel_rfl) (by kernel_rfl) (by kernel_rfl) (fun _ _ _ h => h) (.inl ⟨by rfl, fun w' _ => (by go_simp; rfl)⟩) hS ?_
            go_frame
            refine till_done (by kernel_rfl) ?_ _
            have HO2 := HV7; have L3 := L7; have HRB := HRE6; have HO1 := R97
            clear hS
            by_cases g3 : n2 + m < uHalf
            · have hr : r2 = 0 := by rw [HV2.out.2, if_pos g3]
              have HX2E : Hid (x2 = n2 + m) := Lib.hid (by rw [HV2.out.1, if_pos g3])
              have HEV : Hid (moveE (getP s.t) k q m = 0) := Lib.hid (by rw [HE.out, if_neg (fun h => h HG.out.1), if_neg HG.out.2, if_pos g3])
              have HSV : Hid (s.moveA k q m = (s.setAmt k (n1 - m)).setAmt q (n2 + m)) := Lib.hid (by rw [HS.out, if_pos ⟨HEV.out, HG.out.2⟩])
              subst hr
              clear g3
              go_wp2_with (refine wpList_load_row rfl 33 _ rfl O1 rfl 33 _ _ _ HO1.out Tryz.underlying33 rfl Tryz.sizeU ?_)
              refine (L3.out.call fun F h => csetAmount_any h (by have := HZ.out; omega) k HRA.out).mono ?_
              rw [HX1E.out]
              rintro e w8 ⟨rfl, L4, ho⟩
              have L4 := Lib.hid L4; have HO2' := Lib.hid (ho.2 _ _ HO2.out rfl rfl)
              clear ho L3 HO1 HO2
              go_wp2_with (refine wpList_load_row rfl 33 _ rfl O5 rfl 33 _ _ _ HO2'.out Tryz.underlying33 rfl Tryz.sizeU ?_)
              refine (L4.out.call fun F h => csetAmount_any h (by have := HZ.out; have := sz_setAmt s k (n1 - m); omega) q HRB.out).mono ?_
              rw [HX2E.out]
              rintro e w9 ⟨rfl, L5, _⟩
              have L5 := Lib.hid L5
              go_wp2_with fail
              go_ret
              rw [HEV.out, HSV.out]; exact L5.out.ret
            · have hr : r2 = 6 := by rw [HV2.out.2, if_neg g3]
              have HEV : Hid (moveE (getP s.t) k q m = 6) := Lib.hid (by rw [HE.out, if_neg (fun h => h HG.out.1), if_neg HG.out.2, if_neg g3])
              have HSV : Hid (s.moveA k q m = s) := Lib.hid (by rw [HS.out, HEV.out]; rfl)
              subst hr
              clear g3
              go_wp2_with fail
              go_ret
              rw [HEV.out, HSV.out]; exact L3.out.ret
        · simp only [List.getElem_toArray, List.getElem_cons_succ, List.getElem_cons_zero]
          rw [if_pos (by rfl)]
          refine wp_alloc_g 33 rfl _ _ Tryz.zeroUz rfl ?_
          intro O8 wt8 hm
          have hb := hm.out.below
          have L8 := Lib.hid (L0.out.later hb)
          have R98 := Lib.hid (below_at' hb R90.out)
          have SZ8 := Lib.hid (Nat.le_trans SZ0.out hb.size)
          have HO8 := Lib.hid hm.out.cells
          have WO8 : Hid (wz.heap.size ≤ O8) := Lib.hid (by have h1 := hm.out.eq; have h2 := SZ0.out; omega)
          have hS1 := below_at' hb hS
          refine hK _ _ (fun _ _ => hS1) ?_
          clear hK hS hb hm L0 R90 SZ0
          have hS := hS1
          clear hS1
          refine till_one 2 rfl (by kernel_rfl) fun K hK => ?_
          simp only [List.getElem_toArray, List.getElem_cons_succ, List.getElem_cons_zero]
          rw [if_pos (by rfl)]
          go_simp
          refine (camount_any L8.out.look HF.out.f q).mono ?_
          rintro e wt9 ⟨ta1, tb1, tc1, td1, hu1, rfl, hb⟩
          have L9 := Lib.hid (L8.out.later hb)
          have R99 := Lib.hid (below_at' hb R98.out)
          have SZ9 := Lib.hid (Nat.le_trans SZ8.out hb.size)
          have HO9 := Lib.hid (below_at' hb HO8.out)
          have WO9 := Lib.hid (WO8.out)
          rw [← HN.out.2] at hu1
          have HU19 := Lib.hid hu1
          clear hu1
          have hS1 := below_at' hb hS
          refine hK _ _ (fun _ _ => hS1) ?_
          clear hK hS hb L8 R98 SZ8 HO8 WO8
          have hS := hS1
          clear hS1
          refine till_one 4 rfl (by kernel_rfl) fun K hK => ?_
          simp only [List.getElem_toArray, List.getElem_cons_succ, List.getElem_cons_zero]
          rw [if_pos (by rfl)]
          go_simp
          refine (more10v HU19.out HU.out HV2.out.1 HV2.out.2 _).mono ?_
          rintro e wt10 ⟨tsa, tsb, tsc, tsd, hu2, rfl, hb⟩
          have L10 := Lib.hid (L9.out.later hb)
          have R910 := Lib.hid (below_at' hb R99.out)
          have SZ10 := Lib.hid (Nat.le_trans SZ9.out hb.size)
          have HO10 := Lib.hid (below_at' hb HO9.out)
          have WO10 := Lib.hid (WO9.out)
          have HU110 := Lib.hid (HU19.out)
          have HRE10 := Lib.hid hu2
          clear hu2
          have hS1 := below_at' hb hS
          refine hK _ _ (fun _ _ => hS1) ?_
          clear hK hS hb L9 R99 SZ9 HO9 WO9 HU19
          have hS := hS1
          clear hS1
          refine till_take 5 (some 28) rfl rfl (by kernel_rfl) (by kernel_rfl) (by kernel_rfl) (by kernel_rfl) (by kernel_rfl) (by kernel_rfl) (fun _ _ _ h => h) (.inl ⟨by rfl, fun w' _ => (by go_simp; rfl)⟩) hS ?_
          go_frame
          refine till_take 6 (some 34) rfl rfl (by kernel_rfl) (by kernel_rfl) (by kernel_rfl) (by kernel_rfl) (by kernel_rfl) (by kernel_rfl) (fun _ _ _ h => h) (.inl ⟨by rfl, fun w' _ => (by go_simp; rfl)⟩) hS ?_
          go_frame
          refine till_take 7 (some 35) rfl rfl (by kernel_rfl) (by kernel_rfl) (by kernel_rfl) (by kernel_rfl) (by kernel_rfl) (by kernel_rfl) (fun _ _ _ h => h) (.inl ⟨by rfl, fun w' _ => (by go_simp; rfl)⟩) hS ?_
          go_frame
          refine till_one 9 rfl (by kernel_rfl) fun K hK => ?_
          simp only [List.getElem_toArray, List.getElem_cons_succ, List.getElem_cons_zero]
          rw [if_pos (by rfl)]
          refine wp_store_row_g (t := 33) (old := u0) 33 _ _ rfl O8 #[.int .u64 tsa, .int .u64 tsb, .int .u64 tsc, .int .u64 tsd] rfl rfl HO10.out Tryz.sizeU rfl (one_u64 _ _ _ _) ?_
          intro wt11 hx8 k8 z8
          have HV11 := Lib.hid hx8
          have SZ11 := Lib.hid (Nat.le_trans SZ10.out (Nat.le_of_eq z8.symm))
          have hS1 := k8.at hS (fun e => by have h1 := HXB.out; have h2 := WO10.out; have h3 : X = O8 := e; have h4 := HSB.out; omega)
          have L11 := Lib.hid (liv_u L10.out HO10.out k8 (by have h1 := HW1.out; have h2 := WO10.out; have h4 := HSB.out; omega))
          have R911 := Lib.hid (k8.at R910.out (fun e => by have h1 := HOB.out; have h2 := WO10.out; have h3 : O1 = O8 := e; omega))
          refine hK _ _ (fun _ _ => hS1) ?_
          clear hK hS hx8 k8 z8 L10 HO10 SZ10 R910
          have hS := hS1
          clear hS1
          refine till_take 10 (some 10) rfl rfl (by kernel_rfl) (by kernel_rfl) (by kernel_rfl) (by kernel_rfl) (by kernel_rfl) (by kernel_rfl) (fun _ _ _ h => h) (.inl ⟨by rfl, fun w' _ => (by go_simp; rfl)⟩) hS ?_
          go_frame
          refine till_done (by kernel_rfl) ?_ _
          have HO2 := HV11; have L3 := L11; have HRB := HRE10; have HO1 := R911
          clear hS
          by_cases g3 : n2 + m < uHalf
          · have hr : r2 = 0 := by rw [HV2.out.2, if_pos g3]
            have HX2E : Hid (x2 = n2 + m) := Lib.hid (by rw [HV2.out.1, if_pos g3])
            have HEV : Hid (moveE (getP s.t) k q m = 0) := Lib.hid (by rw [HE.out, if_neg (fun h => h HG.out.1), if_neg HG.out.2, if_pos g3])
            have HSV : Hid (s.moveA k q m = (s.setAmt k (n1 - m)).setAmt q (n2 + m)) := Lib.hid (by rw [HS.out, if_pos ⟨HEV.out, HG.out.2⟩])
            subst hr
            clear g3
            go_wp2_with (refine wpList_load_row rfl 33 _ rfl O1 rfl 33 _ _ _ HO1.out Tryz.underlying33 rfl Tryz.sizeU ?_)
            refine (L3.out.call fun F h => csetAmount_any h (by have := HZ.out; omega) k HRA.out).mono ?_
            rw [HX1E.out]
            rintro e w8 ⟨rfl, L4, ho⟩
            have L4 := Lib.hid L4; have HO2' := Lib.hid (ho.2 _ _ HO2.out rfl rfl)
            clear ho L3 HO1 HO2
            go_wp2_with (refine wpList_load_row rfl 33 _ rfl O8 rfl 33 _ _ _ HO2'.out Tryz.underlying33 rfl Tryz.sizeU ?_)
            refine (L4.out.call fun F h => csetAmount_any h (by have := HZ.out; have := sz_setAmt s k (n1 - m); omega) q HRB.out).mono ?_
            rw [HX2E.out]
            rintro e w9 ⟨rfl, L5, _⟩
            have L5 := Lib.hid L5
            go_wp2_with fail
            go_ret
            rw [HEV.out, HSV.out]; exact L5.out.ret
          · have hr : r2 = 6 := by rw [HV2.out.2, if_neg g3]
            have HEV : Hid (moveE (getP s.t) k q m = 6) := Lib.hid (by rw [HE.out, if_neg (fun h => h HG.out.1), if_neg HG.out.2, if_neg g3])
            have HSV : Hid (s.moveA k q m = s) := Lib.hid (by rw [HS.out, HEV.out]; rfl)
            subst hr
            clear g3
            go_wp2_with fail
            go_ret
            rw [HEV.out, HSV.out]; exact L3.out.ret
      · have hr : r1 = 13 := by rw [HV1.out.2, if_neg g1]
        have HEV : Hid (moveE (getP s.t) k q m = 13) := Lib.hid (by rw [HE.out, if_pos g1])
        have HSV : Hid (s.moveA k q m = s) := Lib.hid (by rw [HS.out, HEV.out]; rfl)
        subst hr
        clear g1
        go_wp2_with fail
        go_ret
        rw [HEV.out, HSV.out]; exact L2.out.ret
    · simp only [List.getElem_toArray, List.getElem_cons_succ, List.getElem_cons_zero]
      rw [if_pos (by rfl)]
      refine wp_alloc_g 33 rfl _ _ Tryz.zeroUz rfl ?_
      intro O5 wt5 hm
      have hb := hm.out.below
      have L5 := Lib.hid (L1.out.later hb)
      have SZ5 := Lib.hid (Nat.le_trans SZ1.out hb.size)
      have HU15 := Lib.hid (HU11.out)
      have HO5 := Lib.hid hm.out.cells
      have WO5 : Hid (wz.heap.size ≤ O5) := Lib.hid (by have h1 := hm.out.eq; have h2 := SZ1.out; omega)
      have hS1 := below_at' hb hS
      refine hK _ _ (fun _ _ => hS1) ?_
      clear hK hS hb hm L1 SZ1 HU11
      have hS := hS1
      clear hS1
      refine till_one 4 rfl (by kernel_rfl) fun K hK => ?_
      simp only [List.getElem_toArray, List.getElem_cons_succ, List.getElem_cons_zero]
      rw [if_pos (by rfl)]
      go_simp
      refine (less10v HU15.out HU.out HV1.out.1 HV1.out.2 _).mono ?_
      rintro e wt6 ⟨sa, sb, sc, sd, hu2, rfl, hb⟩
      have L6 := Lib.hid (L5.out.later hb)
      have SZ6 := Lib.hid (Nat.le_trans SZ5.out hb.size)
      have HU16 := Lib.hid (HU15.out)
      have HO6 := Lib.hid (below_at' hb HO5.out)
      have WO6 := Lib.hid (WO5.out)
      have HRE6 := Lib.hid hu2
      clear hu2
      have hS1 := below_at' hb hS
      refine hK _ _ (fun _ _ => hS1) ?_
      clear hK hS hb L5 SZ5 HU15 HO5 WO5
      have hS := hS1
      clear hS1
      refine till_take 5 (some 12) rfl rfl (by kernel_rfl) (by kernel_rfl) (by kernel_rfl) (by kernel_rfl) (by kernel_rfl) (by kernel_rfl) (fun _ _ _ h => h) (.inl ⟨by rfl, fun w' _ => (by go_simp; rfl)⟩) hS ?_
      go_frame
      refine till_take 6 (some 18) rfl rfl (by kernel_rfl) (by kernel_rfl) (by kernel_rfl) (by kernel_rfl) (by kernel_rfl) (by kernel_rfl) (fun _ _ _ h => h) (.inl ⟨by rfl, fun w' _ => (by go_simp; rfl)⟩) hS ?_
      go_frame
      refine till_take 7 (some 19) rfl rfl (by kernel_rfl) (by kernel_rfl) (by kernel_rfl) (by kernel_rfl) (by kernel_rfl) (by kernel_rfl) (fun _ _ _ h => h) (.inl ⟨by rfl, fun w' _ => (by go_simp; rfl)⟩) hS ?_
      go_frame
      refine till_one 9 rfl (by kernel_rfl) fun K hK => ?_
      simp only [List.getElem_toArray, List.getElem_cons_succ, List.getElem_cons_zero]
      rw [if_pos (by rfl)]
      refine wp_store_row_g (t := 33) (old := u0) 33 _ _ rfl O5 #[.int .u64 sa, .int .u64 sb, .int .u64 sc, .int .u64 sd] rfl rfl HO6.out Tryz.sizeU rfl (one_u64 _ _ _ _) ?_
      intro wt7 hx8 k8 z8
      have HV7 := Lib.hid hx8
      have SZ7 := Lib.hid (Nat.le_trans SZ6.out (Nat.le_of_eq z8.symm))
      have hS1 := k8.at hS (fun e => by have h1 := HXB.out; have h2 := WO6.out; have h3 : X = O5 := e; have h4 := HSB.out; omega)
      have L7 := Lib.hid (liv_u L6.out HO6.out k8 (by have h1 := HW1.out; have h2 := WO6.out; have h4 := HSB.out; omega))
      refine hK _ _ (fun _ _ => hS1) ?_
      clear hK hS hx8 k8 z8 L6 HO6 SZ6
      have hS := hS1
      clear hS1
      refine till_take 10 (some 10) rfl rfl (by kernel_rfl) (by kernel_rfl) (by kernel_rfl) (by kernel_rfl) (by kernel_rfl) (by kernel_rfl) (fun _ _ _ h => h) (.inl ⟨by rfl, fun w' _ => (by go_simp; rfl)⟩) hS ?_
      go_frame
      refine till_done (by kernel_rfl) ?_ _
      obtain ⟨O1, hO1⟩ : ∃ o, o = O5 := ⟨_, rfl⟩
      rw [← hO1]
      have HO1 := HV7; have L2 := L7; have HX2 := Lib.hid hS; have HRA := HRE6
      rw [← hO1] at HO1
      clear hO1 HV7 L7 HRE6 hS
      obtain ⟨wy, hwy⟩ : ∃ wy, wy = wt7 := ⟨_, rfl⟩
      rw [← hwy] at HO1 L2 HX2 ⊢
      have HW2 : Hid (w1.heap.size ≤ wy.heap.size) := Lib.hid (by rw [hwy]; exact Nat.le_trans HWZ.out SZ7.out)
      clear hwy
      by_cases g1 : m ≤ n1
      · have hr : r1 = 0 := by rw [HV1.out.2, if_pos g1]
        have HX1E : Hid (x1 = n1 - m) := Lib.hid (by rw [HV1.out.1, if_pos g1])
        subst hr
        by_cases g2 : k = q
        · have HEV : Hid (moveE (getP s.t) k q m = 0) := Lib.hid (by rw [HE.out, if_neg (fun h => h g1), if_pos g2])
          have HSV : Hid (s.moveA k q m = s) := Lib.hid (by rw [HS.out, if_neg (fun h => h.2 g2)])
          have hst : ((bs k).toList == (bs q).toList) = true := by rw [eq_txt, decide_eq_true g2]
          have hst2 : (bs k).toList = (bs q).toList := by rw [g2]
          clear g1 g2
          go_wp2_with fail
          go_ret
          rw [HEV.out, HSV.out]; exact L2.out.ret
        have hst : ((bs k).toList == (bs q).toList) = false := by rw [eq_txt, decide_eq_false g2]
        have hst2 : ¬ (bs k).toList = (bs q).toList := by rw [toList_bs, toList_bs]; exact g2
        have HG := Lib.hid (And.intro g1 g2)
        clear g1 g2
        obtain ⟨x2, hx2⟩ : ∃ v, v = if n2 + m < uHalf then n2 + m else 0 := ⟨_, rfl⟩
        obtain ⟨r2, hr2⟩ : ∃ v : Int, v = if n2 + m < uHalf then 0 else 6 := ⟨_, rfl⟩
        have HV2 := Lib.hid (And.intro hx2 hr2)
        obtain ⟨wz, hwz⟩ : ∃ wz, wz = wy.drew := ⟨_, rfl⟩
        have hbz : Below wy.heap.size wy wz := by rw [hwz]; exact (Below.refl _ _).drew
        have L0 := Lib.hid (L2.out.later hbz); have hS : wz.heap[X]? = some (.cells #[.int .u64 a, .int .u64 b, .int .u64 c, .int .u64 d] 33 (0, 0)) := below_at' hbz HX2.out
        have R90 := Lib.hid (below_at' hbz HO1.out)
        have HSB : Hid (w1.heap.size ≤ wz.heap.size) := Lib.hid (Nat.le_trans HW2.out hbz.size)
        have HOB : Hid (O1 < wz.heap.size) := Lib.hid (Nat.lt_of_lt_of_le (heap_lt HO1.out) hbz.size)
        have SZ0 : Hid (wz.heap.size ≤ wz.heap.size) := Lib.hid (Nat.le_refl _)
        clear hbz L2 HX2 HO1 hx2 hr2
        go_wp2_with fail
        clear hst hst2
        refine wp_region_till (fun w' => w'.heap[X]? = some (.cells #[.int .u64 a, .int .u64 b, .int .u64 c, .int .u64 d] 33 (0, 0))) 11 11 (by kernel_rfl) rfl ?_
        rw [← hwz]
        clear hwz
        refine till_take 0 (some 29) rfl rfl (by kernel_rfl) (by kernel_rfl) (by kernel_rfl) (by kernel_rfl) (by kernel_rfl) (by kernel_rfl) (fun _ _ _ h => h) (.inl ⟨by rfl, fun w' _ => (by go_simp; rfl)⟩) hS ?_
        go_frame
        refine till_take 1 (some 30) rfl rfl (by kernel_rfl) (by kernel_rfl) (by kernel_rfl) (by kernel_rfl) (by kernel_rfl) (by kernel_rfl) (fun _ _ _ h => h) (.inl ⟨by rfl, fun w' _ => (by go_simp; rfl)⟩) hS ?_
        go_frame
        refine till_take 3 (some 32) rfl rfl (by kernel_rfl) (by kernel_rfl) (by kernel_rfl) (by kernel_rfl) (by kernel_rfl) (by kernel_rfl) (fun _ _ _ h => h) (yields_load (by rfl) 33 _ rfl (.pointer (some ⟨X, 0, none⟩)) rfl (.agg #[.int .u64 a, .int .u64 b, .int .u64 c, .int .u64 d]) (fun w' hS' => load_heap hS' Tryz.underlying33 rfl Tryz.sizeU)) hS ?_
        go_frame
        refine till_two 2 8 rfl rfl (by kernel_rfl) (fun K hK => ?_) (fun K hK => ?_)
        · simp only [List.getElem_toArray, List.getElem_cons_succ, List.getElem_cons_zero]
          rw [if_pos (by rfl)]
          go_simp
          refine (camount_any L0.out.look HF.out.f q).mono ?_
          rintro e wt1 ⟨ta1, tb1, tc1, td1, hu1, rfl, hb⟩
          have L1 := Lib.hid (L0.out.later hb)
          have R91 := Lib.hid (below_at' hb R90.out)
          have SZ1 := Lib.hid (Nat.le_trans SZ0.out hb.size)
          rw [← HN.out.2] at hu1
          have HU11 := Lib.hid hu1
          clear hu1
          have hS1 := below_at' hb hS
          refine hK _ _ (fun _ _ => hS1) ?_
          clear hK hS hb L0 R90 SZ0
          have hS := hS1
          clear hS1
          refine till_two 4 8 rfl rfl (by kernel_rfl) (fun K hK => ?_) (fun K hK => ?_)
          · simp only [List.getElem_toArray, List.getElem_cons_succ, List.getElem_cons_zero]
            rw [if_pos (by rfl)]
            go_simp
            refine (more10v HU11.out HU.out HV2.out.1 HV2.out.2 _).mono ?_
            rintro e wt2 ⟨tsa, tsb, tsc, tsd, hu2, rfl, hb⟩
            have L2 := Lib.hid (L1.out.later hb)
            have R92 := Lib.hid (below_at' hb R91.out)
            have SZ2 := Lib.hid (Nat.le_trans SZ1.out hb.size)
            have HU12 := Lib.hid (HU11.out)
            have HRE2 := Lib.hid hu2
            clear hu2
            have hS1 := below_at' hb hS
            refine hK _ _ (fun _ _ => hS1) ?_
            clear hK hS hb L1 R91 SZ1 HU11
            have hS := hS1
            clear hS1
            refine till_take 5 (some 28) rfl rfl (by kernel_rfl) (by kernel_rfl) (by kernel_rfl) (by kernel_rfl) (by kernel_rfl) (by kernel_rfl) (fun _ _ _ h => h) (.inl ⟨by rfl, fun w' _ => (by go_simp; rfl)⟩) hS ?_
            go_frame
            refine till_take 6 (some 34) rfl rfl (by kernel_rfl) (by kernel_rfl) (by kernel_rfl) (by kernel_rfl) (by kernel_rfl) (by kernel_rfl) (fun _ _ _ h => h) (.inl ⟨by rfl, fun w' _ => (by go_simp; rfl)⟩) hS ?_
            go_frame
            refine till_take 7 (some 35) rfl rfl (by kernel_rfl) (by kernel_rfl) (by kernel_rfl) (by kernel_rfl) (by kernel_rfl) (by kernel_rfl) (fun _ _ _ h => h) (.inl ⟨by rfl, fun w' _ => (by go_simp; rfl)⟩) hS ?_
            go_frame
            refine till_one 8 rfl (by kernel_rfl) fun K hK => ?_
            simp only [List.getElem_toArray, List.getElem_cons_succ, List.getElem_cons_zero]
            rw [if_pos (by rfl)]
            refine wp_alloc_g 33 rfl _ _ Tryz.zeroUz rfl ?_
            intro O3 wt3 hm
            have hb := hm.out.below
            have L3 := Lib.hid (L2.out.later hb)
            have R93 := Lib.hid (below_at' hb R92.out)
            have SZ3 := Lib.hid (Nat.le_trans SZ2.out hb.size)
            have HU13 := Lib.hid (HU12.out)
            have HRE3 := Lib.hid (HRE2.out)
            have HO3 := Lib.hid hm.out.cells
            have WO3 : Hid (wz.heap.size ≤ O3) := Lib.hid (by have h1 := hm.out.eq; have h2 := SZ2.out; omega)
            have hS1 := below_at' hb hS
            refine hK _ _ (fun _ _ => hS1) ?_
            clear hK hS hb hm L2 R92 SZ2 HU12 HRE2
            have hS := hS1
            clear hS1
            refine till_one 9 rfl (by kernel_rfl) fun K hK => ?_
            simp only [List.getElem_toArray, List.getElem_cons_succ, List.getElem_cons_zero]
            rw [if_pos (by rfl)]
            refine wp_store_row_g (t := 33) (old := u0) 33 _ _ rfl O3 #[.int .u64 tsa, .int .u64 tsb, .int .u64 tsc, .int .u64 tsd] rfl rfl HO3.out Tryz.sizeU rfl (one_u64 _ _ _ _) ?_
            intro wt4 hx8 k8 z8
            have HV4 := Lib.hid hx8
            have SZ4 := Lib.hid (Nat.le_trans SZ3.out (Nat.le_of_eq z8.symm))
            have hS1 := k8.at hS (fun e => by have h1 := HXB.out; have h2 := WO3.out; have h3 : X = O3 := e; have h4 := HSB.out; omega)
            have L4 := Lib.hid (liv_u L3.out HO3.out k8 (by have h1 := HW1.out; have h2 := WO3.out; have h4 := HSB.out; omega))
            have R94 := Lib.hid (k8.at R93.out (fun e => by have h1 := HOB.out; have h2 := WO3.out; have h3 : O1 = O3 := e; omega))
            refine hK _ _ (fun _ _ => hS1) ?_
            clear hK hS hx8 k8 z8 L3 HO3 SZ3 R93
            have hS := hS1
            clear hS1
            refine till_take 10 (some 10) rfl rfl (by kernel_rfl) (by kernel_rfl) (by kernel_rfl) (by kernel_rfl) (by kernel_rfl) (by kernel_rfl) (fun _ _ _ h => h) (.inl ⟨by rfl, fun w' _ => (by go_simp; rfl)⟩) hS ?_
            go_frame
            refine till_done (by kernel_rfl) ?_ _
            have HO2 := HV4; have L3 := L4; have HRB := HRE3; have HO1 := R94
            clear hS
            by_cases g3 : n2 + m < uHalf
            · have hr : r2 = 0 := by rw [HV2.out.2, if_pos g3]
              have HX2E : Hid (x2 = n2 + m) := Lib.hid (by rw [HV2.out.1, if_pos g3])
              have HEV : Hid (moveE (getP s.t) k q m = 0) := Lib.hid (by rw [HE.out, if_neg (fun h => h HG.out.1), if_neg HG.out.2, if_pos g3])
              have HSV : Hid (s.moveA k q m = (s.setAmt k (n1 - m)).setAmt q (n2 + m)) := Lib.hid (by rw [HS.out, if_pos ⟨HEV.out, HG.out.2⟩])
              subst hr
              clear g3
              go_wp2_with (refine wpList_load_row rfl 33 _ rfl O1 rfl 33 _ _ _ HO1.out Tryz.underlying33 rfl Tryz.sizeU ?_)
              refine (L3.out.call fun F h => csetAmount_any h (by have := HZ.out; omega) k HRA.out).mono ?_
              rw [HX1E.out]
              rintro e w8 ⟨rfl, L4, ho⟩
              have L4 := Lib.hid L4; have HO2' := Lib.hid (ho.2 _ _ HO2.out rfl rfl)
              clear ho L3 HO1 HO2
              go_wp2_with (refine wpList_load_row rfl 33 _ rfl O3 rfl 33 _ _ _ HO2'.out Tryz.underlying33 rfl Tryz.sizeU ?_)
              refine (L4.out.call fun F h => csetAmount_any h (by have := HZ.out; have := sz_setAmt s k (n1 - m); omega) q HRB.out).mono ?_
              rw [HX2E.out]
              rintro e w9 ⟨rfl, L5, _⟩
              have L5 := Lib.hid L5
              go_wp2_with fail
              go_ret
              rw [HEV.out, HSV.out]; exact L5.out.ret
            · have hr : r2 = 6 := by rw [HV2.out.2, if_neg g3]
              have HEV : Hid (moveE (getP s.t) k q m = 6) := Lib.hid (by rw [HE.out, if_neg (fun h => h HG.out.1), if_neg HG.out.2, if_neg g3])
              have HSV : Hid (s.moveA k q m = s) := Lib.hid (by rw [HS.out, HEV.out]; rfl)
              subst hr
              clear g3
              go_wp2_with fail
              go_ret
              rw [HEV.out, HSV.out]; exact L3.out.ret
          · simp only [List.getElem_toArray, List.getElem_cons_succ, List.getElem_cons_zero]
            rw [if_pos (by rfl)]
            refine wp_alloc_g 33 rfl _ _ Tryz.zeroUz rfl ?_
            intro O5 wt5 hm
            have hb := hm.out.below
            have L5 := Lib.hid (L1.out.later hb)
            have R95 := Lib.hid (below_at' hb R91.out)
            have SZ5 := Lib.hid (Nat.le_trans SZ1.out hb.size)
            have HU15 := Lib.hid (HU11.out)
            have HO5 := Lib.hid hm.out.cells
            have WO5 : Hid (wz.heap.size ≤ O5) := Lib.hid (by have h1 := hm.out.eq; have h2 := SZ1.out; omega)
            have hS1 := below_at' hb hS
            refine hK _ _ (fun _ _ => hS1) ?_
            clear hK hS hb hm L1 R91 SZ1 HU11
            have hS := hS1
            clear hS1
            refine till_one 4 rfl (by kernel_rfl) fun K hK => ?_
            simp only [List.getElem_toArray, List.getElem_cons_succ, List.getElem_cons_zero]
            rw [if_pos (by rfl)]
            go_simp
            refine (more10v HU15.out HU.out HV2.out.1 HV2.out.2 _).mono ?_
            rintro e wt6 ⟨tsa, tsb, tsc, tsd, hu2, rfl, hb⟩
            have L6 := Lib.hid (L5.out.later hb)
            have R96 := Lib.hid (below_at' hb R95.out)
            have SZ6 := Lib.hid (Nat.le_trans SZ5.out hb.size)
            have HU16 := Lib.hid (HU15.out)
            have HO6 := Lib.hid (below_at' hb HO5.out)
            have WO6 := Lib.hid (WO5.out)
            have HRE6 := Lib.hid hu2
            clear hu2
            have hS1 := below_at' hb hS
            refine hK _ _ (fun _ _ => hS1) ?_
            clear hK hS hb L5 R95 SZ5 HU15 HO5 WO5
            have hS := hS1
            clear hS1
            refine till_take 5 (some 28) rfl rfl (by kernel_rfl) (by kernel_rfl) (by kernel_rfl) (by kernel_rfl) (by kernel_rfl) (by kernel_rfl) (fun _ _ _ h => h) (.inl ⟨by rfl, fun w' _ => (by go_simp; rfl)⟩) hS ?_
            go_frame
            refine till_take 6 (some 34) rfl rfl (by kernel_rfl) (by kernel_rfl) (by kernel_rfl) (by kernel_rfl) (by kernel_rfl) (by kernel_rfl) (fun _ _ _ h => h) (.inl ⟨by rfl, fun w' _ => (by go_simp; rfl)⟩) hS ?_
            go_frame
            refine till_take 7 (some 35) rfl rfl (by kernel_rfl) (by kernel_rfl) (by kernel_rfl) (by kernel_rfl) (by kernel_rfl) (by kernel_rfl) (fun _ _ _ h => h) (.inl ⟨by rfl, fun w' _ => (by go_simp; rfl)⟩) hS ?_
            go_frame
            refine till_one 9 rfl (by kernel_rfl) fun K hK => ?_
            simp only [List.getElem_toArray, List.getElem_cons_succ, List.getElem_cons_zero]
            rw [if_pos (by rfl)]
            refine wp_store_row_g (t := 33) (old := u0) 33 _ _ rfl O5 #[.int .u64 tsa, .int .u64 tsb, .int .u64 tsc, .int .u64 tsd] rfl rfl HO6.out Tryz.sizeU rfl (one_u64 _ _ _ _) ?_
            intro wt7 hx8 k8 z8
            have HV7 := Lib.hid hx8
            have SZ7 := Lib.hid (Nat.le_trans SZ6.out (Nat.le_of_eq z8.symm))
            have hS1 := k8.at hS (fun e => by have h1 := HXB.out; have h2 := WO6.out; have h3 : X = O5 := e; have h4 := HSB.out; omega)
            have L7 := Lib.hid (liv_u L6.out HO6.out k8 (by have h1 := HW1.out; have h2 := WO6.out; have h4 := HSB.out; omega))
            have R97 := Lib.hid (k8.at R96.out (fun e => by have h1 := HOB.out; have h2 := WO6.out; have h3 : O1 = O5 := e; omega))
            refine hK _ _ (fun _ _ => hS1) ?_
            clear hK hS hx8 k8 z8 L6 HO6 SZ6 R96
            have hS := hS1
            clear hS1
            refine till_take 10 (some 10) rfl rfl (by kernel_rfl) (by kernel_rfl) (by kernel_rfl) (by kernel_rfl) (by kernel_rfl) (by kernel_rfl) (fun _ _ _ h => h) (.inl ⟨by rfl, fun w' _ => (by go_simp; rfl)⟩) hS ?_
            go_frame
            refine till_done (by kernel_rfl) ?_ _
            have HO2 := HV7; have L3 := L7; have HRB := HRE6; have HO1 := R97
            clear hS
            by_cases g3 : n2 + m < uHalf
            · have hr : r2 = 0 := by rw [HV2.out.2, if_pos g3]
              have HX2E : Hid (x2 = n2 + m) := Lib.hid (by rw [HV2.out.1, if_pos g3])
              have HEV : Hid (moveE (getP s.t) k q m = 0) := Lib.hid (by rw [HE.out, if_neg (fun h => h HG.out.1), if_neg HG.out.2, if_pos g3])
              have HSV : Hid (s.moveA k q m = (s.setAmt k (n1 - m)).setAmt q (n2 + m)) := Lib.hid (by rw [HS.out, if_pos ⟨HEV.out, HG.out.2⟩])
              subst hr
              clear g3
              go_wp2_with (refine wpList_load_row rfl 33 _ rfl O1 rfl 33 _ _ _ HO1.out Tryz.underlying33 rfl Tryz.sizeU ?_)
              refine (L3.out.call fun F h => csetAmount_any h (by have := HZ.out; omega) k HRA.out).mono ?_
              rw [HX1E.out]
              rintro e w8 ⟨rfl, L4, ho⟩
              have L4 := Lib.hid L4; have HO2' := Lib.hid (ho.2 _ _ HO2.out rfl rfl)
              clear ho L3 HO1 HO2
              go_wp2_with (refine wpList_load_row rfl 33 _ rfl O5 rfl 33 _ _ _ HO2'.out Tryz.underlying33 rfl Tryz.sizeU ?_)
              refine (L4.out.call fun F h => csetAmount_any h (by have := HZ.out; have := sz_setAmt s k (n1 - m); omega) q HRB.out).mono ?_
              rw [HX2E.out]
              rintro e w9 ⟨rfl, L5, _⟩
              have L5 := Lib.hid L5
              go_wp2_with fail
              go_ret
              rw [HEV.out, HSV.out]; exact L5.out.ret
            · have hr : r2 = 6 := by rw [HV2.out.2, if_neg g3]
              have HEV : Hid (moveE (getP s.t) k q m = 6) := Lib.hid (by rw [HE.out, if_neg (fun h => h HG.out.1), if_neg HG.out.2, if_neg g3])
              have HSV : Hid (s.moveA k q m = s) := Lib.hid (by rw [HS.out, HEV.out]; rfl)
              subst hr
              clear g3
              go_wp2_with fail
              go_ret
              rw [HEV.out, HSV.out]; exact L3.out.ret
        · simp only [List.getElem_toArray, List.getElem_cons_succ, List.getElem_cons_zero]
          rw [if_pos (by rfl)]
          refine wp_alloc_g 33 rfl _ _ Tryz.zeroUz rfl ?_
          intro O8 wt8 hm
          have hb := hm.out.below
          have L8 := Lib.hid (L0.out.later hb)
          have R98 := Lib.hid (below_at' hb R90.out)
          have SZ8 := Lib.hid (Nat.le_trans SZ0.out hb.size)
          have HO8 := Lib.hid hm.out.cells
          have WO8 : Hid (wz.heap.size ≤ O8) := Lib.hid (by have h1 := hm.out.eq; have h2 := SZ0.out; omega)
          have hS1 := below_at' hb hS
          refine hK _ _ (fun _ _ => hS1) ?_
          clear hK hS hb hm L0 R90 SZ0
          have hS := hS1
          clear hS1
          refine till_one 2 rfl (by kernel_rfl) fun K hK => ?_
          simp only [List.getElem_toArray, List.getElem_cons_succ, List.getElem_cons_zero]
          rw [if_pos (by rfl)]
          go_simp
          refine (camount_any L8.out.look HF.out.f q).mono ?_
          rintro e wt9 ⟨ta1, tb1, tc1, td1, hu1, rfl, hb⟩
          have L9 := Lib.hid (L8.out.later hb)
          have R99 := Lib.hid (below_at' hb R98.out)
          have SZ9 := Lib.hid (Nat.le_trans SZ8.out hb.size)
          have HO9 := Lib.hid (below_at' hb HO8.out)
          have WO9 := Lib.hid (WO8.out)
          rw [← HN.out.2] at hu1
          have HU19 := Lib.hid hu1
          clear hu1
          have hS1 := below_at' hb hS
          refine hK _ _ (fun _ _ => hS1) ?_
          clear hK hS hb L8 R98 SZ8 HO8 WO8
          have hS := hS1
          clear hS1
          refine till_one 4 rfl (by kernel_rfl) fun K hK => ?_
          simp only [List.getElem_toArray, List.getElem_cons_succ, List.getElem_cons_zero]
          rw [if_pos (by rfl)]
          go_simp
          refine (more10v HU19.out HU.out HV2.out.1 HV2.out.2 _).mono ?_
          rintro e wt10 ⟨tsa, tsb, tsc, tsd, hu2, rfl, hb⟩
          have L10 := Lib.hid (L9.out.later hb)
          have R910 := Lib.hid (below_at' hb R99.out)
          have SZ10 := Lib.hid (Nat.le_trans SZ9.out hb.size)
          have HO10 := Lib.hid (below_at' hb HO9.out)
          have WO10 := Lib.hid (WO9.out)
          have HU110 := Lib.hid (HU19.out)
          have HRE10 := Lib.hid hu2
          clear hu2
          have hS1 := below_at' hb hS
          refine hK _ _ (fun _ _ => hS1) ?_
          clear hK hS hb L9 R99 SZ9 HO9 WO9 HU19
          have hS := hS1
          clear hS1
          refine till_take 5 (some 28) rfl rfl (by kernel_rfl) (by kernel_rfl) (by kernel_rfl) (by kernel_rfl) (by kernel_rfl) (by kernel_rfl) (fun _ _ _ h => h) (.inl ⟨by rfl, fun w' _ => (by go_simp; rfl)⟩) hS ?_
          go_frame
          refine till_take 6 (some 34) rfl rfl (by kernel_rfl) (by kernel_rfl) (by kernel_rfl) (by kernel_rfl) (by kernel_rfl) (by kernel_rfl) (fun _ _ _ h => h) (.inl ⟨by rfl, fun w' _ => (by go_simp; rfl)⟩) hS ?_
          go_frame
          refine till_take 7 (some 35) rfl rfl (by kernel_rfl) (by kernel_rfl) (by kernel_rfl) (by kernel_rfl) (by kernel_rfl) (by kernel_rfl) (fun _ _ _ h => h) (.inl ⟨by rfl, fun w' _ => (by go_simp; rfl)⟩) hS ?_
          go_frame
          refine till_one 9 rfl (by kernel_rfl) fun K hK => ?_
          simp only [List.getElem_toArray, List.getElem_cons_succ, List.getElem_cons_zero]
          rw [if_pos (by rfl)]
          refine wp_store_row_g (t := 33) (old := u0) 33 _ _ rfl O8 #[.int .u64 tsa, .int .u64 tsb, .int .u64 tsc, .int .u64 tsd] rfl rfl HO10.out Tryz.sizeU rfl (one_u64 _ _ _ _) ?_
          intro wt11 hx8 k8 z8
          have HV11 := Lib.hid hx8
          have SZ11 := Lib.hid (Nat.le_trans SZ10.out (Nat.le_of_eq z8.symm))
          have hS1 := k8.at hS (fun e => by have h1 := HXB.out; have h2 := WO10.out; have h3 : X = O8 := e; have h4 := HSB.out; omega)
          have L11 := Lib.hid (liv_u L10.out HO10.out k8 (by have h1 := HW1.out; have h2 := WO10.out; have h4 := HSB.out; omega))
          have R911 := Lib.hid (k8.at R910.out (fun e => by have h1 := HOB.out; have h2 := WO10.out; have h3 : O1 = O8 := e; omega))
          refine hK _ _ (fun _ _ => hS1) ?_
          clear hK hS hx8 k8 z8 L10 HO10 SZ10 R910
          have hS := hS1
          clear hS1
          refine till_take 10 (some 10) rfl rfl (by kernel_rfl) (by kernel_rfl) (by kernel_rfl) (by kernel_rfl) (by kernel_rfl) (by kernel_rfl) (fun _ _ _ h => h) (.inl ⟨by rfl, fun w' _ => (by go_simp; rfl)⟩) hS ?_
          go_frame
          refine till_done (by kernel_rfl) ?_ _
          have HO2 := HV11; have L3 := L11; have HRB := HRE10; have HO1 := R911
          clear hS
          by_cases g3 : n2 + m < uHalf
          · have hr : r2 = 0 := by rw [HV2.out.2, if_pos g3]
            have HX2E : Hid (x2 = n2 + m) := Lib.hid (by rw [HV2.out.1, if_pos g3])
            have HEV : Hid (moveE (getP s.t) k q m = 0) := Lib.hid (by rw [HE.out, if_neg (fun h => h HG.out.1), if_neg HG.out.2, if_pos g3])
            have HSV : Hid (s.moveA k q m = (s.setAmt k (n1 - m)).setAmt q (n2 + m)) := Lib.hid (by rw [HS.out, if_pos ⟨HEV.out, HG.out.2⟩])
            subst hr
            clear g3
            go_wp2_with (refine wpList_load_row rfl 33 _ rfl O1 rfl 33 _ _ _ HO1.out Tryz.underlying33 rfl Tryz.sizeU ?_)
            refine (L3.out.call fun F h => csetAmount_any h (by have := HZ.out; omega) k HRA.out).mono ?_
            rw [HX1E.out]
            rintro e w8 ⟨rfl, L4, ho⟩
            have L4 := Lib.hid L4; have HO2' := Lib.hid (ho.2 _ _ HO2.out rfl rfl)
            clear ho L3 HO1 HO2
            go_wp2_with (refine wpList_load_row rfl 33 _ rfl O8 rfl 33 _ _ _ HO2'.out Tryz.underlying33 rfl Tryz.sizeU ?_)
            refine (L4.out.call fun F h => csetAmount_any h (by have := HZ.out; have := sz_setAmt s k (n1 - m); omega) q HRB.out).mono ?_
            rw [HX2E.out]
            rintro e w9 ⟨rfl, L5, _⟩
            have L5 := Lib.hid L5
            go_wp2_with fail
            go_ret
            rw [HEV.out, HSV.out]; exact L5.out.ret
          · have hr : r2 = 6 := by rw [HV2.out.2, if_neg g3]
            have HEV : Hid (moveE (getP s.t) k q m = 6) := Lib.hid (by rw [HE.out, if_neg (fun h => h HG.out.1), if_neg HG.out.2, if_neg g3])
            have HSV : Hid (s.moveA k q m = s) := Lib.hid (by rw [HS.out, HEV.out]; rfl)
            subst hr
            clear g3
            go_wp2_with fail
            go_ret
            rw [HEV.out, HSV.out]; exact L3.out.ret
      · have hr : r1 = 13 := by rw [HV1.out.2, if_neg g1]
        have HEV : Hid (moveE (getP s.t) k q m = 13) := Lib.hid (by rw [HE.out, if_pos g1])
        have HSV : Hid (s.moveA k q m = s) := Lib.hid (by rw [HS.out, HEV.out]; rfl)
        subst hr
        clear g1
        go_wp2_with fail
        go_ret
        rw [HEV.out, HSV.out]; exact L2.out.ret
  · simp only [List.getElem_toArray, List.getElem_cons_succ, List.getElem_cons_zero]
    rw [if_pos (by rfl)]
    refine wp_alloc_g 33 rfl _ _ Tryz.zeroUz rfl ?_
    intro O8 wt8 hm
    have hb := hm.out.below
    have L8 := Lib.hid (L0.out.later hb)
    have SZ8 := Lib.hid (Nat.le_trans SZ0.out hb.size)
    have HO8 := Lib.hid hm.out.cells
    have WO8 : Hid (wz.heap.size ≤ O8) := Lib.hid (by have h1 := hm.out.eq; have h2 := SZ0.out; omega)
    have hS1 := below_at' hb hS
    refine hK _ _ (fun _ _ => hS1) ?_
    clear hK hS hb hm L0 SZ0
    have hS := hS1
    clear hS1
    refine till_one 2 rfl (by kernel_rfl) fun K hK => ?_
    simp only [List.getElem_toArray, List.getElem_cons_succ, List.getElem_cons_zero]
    rw [if_pos (by rfl)]
    go_simp
    refine (camount_any L8.out.look HF.out.f k).mono ?_
    rintro e wt9 ⟨a1, b1, c1, d1, hu1, rfl, hb⟩
    have L9 := Lib.hid (L8.out.later hb)
    have SZ9 := Lib.hid (Nat.le_trans SZ8.out hb.size)
    have HO9 := Lib.hid (below_at' hb HO8.out)
    have WO9 := Lib.hid (WO8.out)
    rw [← HN.out.1] at hu1
    have HU19 := Lib.hid hu1
    clear hu1
    have hS1 := below_at' hb hS
    refine hK _ _ (fun _ _ => hS1) ?_
    clear hK hS hb L8 SZ8 HO8 WO8
    have hS := hS1
    clear hS1
    refine till_one 4 rfl (by kernel_rfl) fun K hK => ?_
    simp only [List.getElem_toArray, List.getElem_cons_succ, List.getElem_cons_zero]
    rw [if_pos (by rfl)]
    go_simp
    refine (less10v HU19.out HU.out HV1.out.1 HV1.out.2 _).mono ?_
    rintro e wt10 ⟨sa, sb, sc, sd, hu2, rfl, hb⟩
    have L10 := Lib.hid (L9.out.later hb)
    have SZ10 := Lib.hid (Nat.le_trans SZ9.out hb.size)
    have HO10 := Lib.hid (below_at' hb HO9.out)
    have WO10 := Lib.hid (WO9.out)
    have HU110 := Lib.hid (HU19.out)
    have HRE10 := Lib.hid hu2
    clear hu2
    have hS1 := below_at' hb hS
    refine hK _ _ (fun _ _ => hS1) ?_
    clear hK hS hb L9 SZ9 HO9 WO9 HU19
    have hS := hS1
    clear hS1
    refine till_take 5 (some 12) rfl rfl (by kernel_rfl) (by kernel_rfl) (by kernel_rfl) (by kernel_rfl) (by kernel_rfl) (by kernel_rfl) (fun _ _ _ h => h) (.inl ⟨by rfl, fun w' _ => (by go_simp; rfl)⟩) hS ?_
    go_frame
    refine till_take 6 (some 18) rfl rfl (by kernel_rfl) (by kernel_rfl) (by kernel_rfl) (by kernel_rfl) (by kernel_rfl) (by kernel_rfl) (fun _ _ _ h => h) (.inl ⟨by rfl, fun w' _ => (by go_simp; rfl)⟩) hS ?_
    go_frame
    refine till_take 7 (some 19) rfl rfl (by kernel_rfl) (by kernel_rfl) (by kernel_rfl) (by kernel_rfl) (by kernel_rfl) (by kernel_rfl) (fun _ _ _ h => h) (.inl ⟨by rfl, fun w' _ => (by go_simp; rfl)⟩) hS ?_
    go_frame
    refine till_one 9 rfl (by kernel_rfl) fun K hK => ?_
    simp only [List.getElem_toArray, List.getElem_cons_succ, List.getElem_cons_zero]
    rw [if_pos (by rfl)]
    refine wp_store_row_g (t := 33) (old := u0) 33 _ _ rfl O8 #[.int .u64 sa, .int .u64 sb, .int .u64 sc, .int .u64 sd] rfl rfl HO10.out Tryz.sizeU rfl (one_u64 _ _ _ _) ?_
    intro wt11 hx8 k8 z8
    have HV11 := Lib.hid hx8
    have SZ11 := Lib.hid (Nat.le_trans SZ10.out (Nat.le_of_eq z8.symm))
    have hS1 := k8.at hS (fun e => by have h1 := HXB.out; have h2 := WO10.out; have h3 : X = O8 := e; have h4 := HSB.out; omega)
    have L11 := Lib.hid (liv_u L10.out HO10.out k8 (by have h1 := HW1.out; have h2 := WO10.out; have h4 := HSB.out; omega))
    refine hK _ _ (fun _ _ => hS1) ?_
    clear hK hS hx8 k8 z8 L10 HO10 SZ10
    have hS := hS1
    clear hS1
    refine till_take 10 (some 10) rfl rfl (by kernel_rfl) (by kernel_rfl) (by kernel_rfl) (by kernel_rfl) (by kernel_rfl) (by kernel_rfl) (fun _ _ _ h => h) (.inl ⟨by rfl, fun w' _ => (by go_simp; rfl)⟩) hS ?_
    go_frame
    refine till_done (by kernel_rfl) ?_ _
    obtain ⟨O1, hO1⟩ : ∃ o, o = O8 := ⟨_, rfl⟩
    rw [← hO1]
    have HO1 := HV11; have L2 := L11; have HX2 := Lib.hid hS; have HRA := HRE10
    rw [← hO1] at HO1
    clear hO1 HV11 L11 HRE10 hS
    obtain ⟨wy, hwy⟩ : ∃ wy, wy = wt11 := ⟨_, rfl⟩
    rw [← hwy] at HO1 L2 HX2 ⊢
    have HW2 : Hid (w1.heap.size ≤ wy.heap.size) := Lib.hid (by rw [hwy]; exact Nat.le_trans HWZ.out SZ11.out)
    clear hwy
    by_cases g1 : m ≤ n1
    · have hr : r1 = 0 := by rw [HV1.out.2, if_pos g1]
      have HX1E : Hid (x1 = n1 - m) := Lib.hid (by rw [HV1.out.1, if_pos g1])
      subst hr
      by_cases g2 : k = q
      · have HEV : Hid (moveE (getP s.t) k q m = 0) := Lib.hid (by rw [HE.out, if_neg (fun h => h g1), if_pos g2])
        have HSV : Hid (s.moveA k q m = s) := Lib.hid (by rw [HS.out, if_neg (fun h => h.2 g2)])
        have hst : ((bs k).toList == (bs q).toList) = true := by rw [eq_txt, decide_eq_true g2]
        have hst2 : (bs k).toList = (bs q).toList := by rw [g2]
        clear g1 g2
        go_wp2_with fail
        go_ret
        rw [HEV.out, HSV.out]; exact L2.out.ret
      have hst : ((bs k).toList == (bs q).toList) = false := by rw [eq_txt, decide_eq_false g2]
      have hst2 : ¬ (bs k).toList = (bs q).toList := by rw [toList_bs, toList_bs]; exact g2
      have HG := Lib.hid (And.intro g1 g2)
      clear g1 g2
      obtain ⟨x2, hx2⟩ : ∃ v, v = if n2 + m < uHalf then n2 + m else 0 := ⟨_, rfl⟩
      obtain ⟨r2, hr2⟩ : ∃ v : Int, v = if n2 + m < uHalf then 0 else 6 := ⟨_, rfl⟩
      have HV2 := Lib.hid (And.intro hx2 hr2)
      obtain ⟨wz, hwz⟩ : ∃ wz, wz = wy.drew := ⟨_, rfl⟩
      have hbz : Below wy.heap.size wy wz := by rw [hwz]; exact (Below.refl _ _).drew
      have L0 := Lib.hid (L2.out.later hbz); have hS : wz.heap[X]? = some (.cells #[.int .u64 a, .int .u64 b, .int .u64 c, .int .u64 d] 33 (0, 0)) := below_at' hbz HX2.out
      have R90 := Lib.hid (below_at' hbz HO1.out)
      have HSB : Hid (w1.heap.size ≤ wz.heap.size) := Lib.hid (Nat.le_trans HW2.out hbz.size)
      have HOB : Hid (O1 < wz.heap.size) := Lib.hid (Nat.lt_of_lt_of_le (heap_lt HO1.out) hbz.size)
      have SZ0 : Hid (wz.heap.size ≤ wz.heap.size) := Lib.hid (Nat.le_refl _)
      clear hbz L2 HX2 HO1 hx2 hr2
      go_wp2_with fail
      clear hst hst2
      refine wp_region_till (fun w' => w'.heap[X]? = some (.cells #[.int .u64 a, .int .u64 b, .int .u64 c, .int .u64 d] 33 (0, 0))) 11 11 (by kernel_rfl) rfl ?_
      rw [← hwz]
      clear hwz
      refine till_take 0 (some 29) rfl rfl (by kernel_rfl) (by kernel_rfl) (by kernel_rfl) (by kernel_rfl) (by kernel_rfl) (by kernel_rfl) (fun _ _ _ h => h) (.inl ⟨by rfl, fun w' _ => (by go_simp; rfl)⟩) hS ?_
      go_frame
      refine till_take 1 (some 30) rfl rfl (by kernel_rfl) (by kernel_rfl) (by kernel_rfl) (by kernel_rfl) (by kernel_rfl) (by kernel_rfl) (fun _ _ _ h => h) (.inl ⟨by rfl, fun w' _ => (by go_simp; rfl)⟩) hS ?_
      go_frame
      refine till_take 3 (some 32) rfl rfl (by kernel_rfl) (by kernel_rfl) (by kernel_rfl) (by kernel_rfl) (by kernel_rfl) (by kernel_rfl) (fun _ _ _ h => h) (yields_load (by rfl) 33 _ rfl (.pointer (some ⟨X, 0, none⟩)) rfl (.agg #[.int .u64 a, .int .u64 b, .int .u64 c, .int .u64 d]) (fun w' hS' => load_heap hS' Tryz.underlying33 rfl Tryz.sizeU)) hS ?_
      go_frame
      refine till_two 2 8 rfl rfl (by kernel_rfl) (fun K hK => ?_) (fun K hK => ?_)
      · simp only [List.getElem_toArray, List.getElem_cons_succ, List.getElem_cons_zero]
        rw [if_pos (by rfl)]
        go_simp
        refine (camount_any L0.out.look HF.out.f q).mono ?_
        rintro e wt1 ⟨ta1, tb1, tc1, td1, hu1, rfl, hb⟩
        have L1 := Lib.hid (L0.out.later hb)
        have R91 := Lib.hid (below_at' hb R90.out)
        have SZ1 := Lib.hid (Nat.le_trans SZ0.out hb.size)
        rw [← HN.out.2] at hu1
        have HU11 := Lib.hid hu1
        clear hu1
        have hS1 := below_at' hb hS
        refine hK _ _ (fun _ _ => hS1) ?_
        clear hK hS hb L0 R90 SZ0
        have hS := hS1
        clear hS1
        refine till_two 4 8 rfl rfl (by kernel_rfl) (fun K hK => ?_) (fun K hK => ?_)
        · simp only [List.getElem_toArray, List.getElem_cons_succ, List.getElem_cons_zero]
          rw [if_pos (by rfl)]
          go_simp
          refine (more10v HU11.out HU.out HV2.out.1 HV2.out.2 _).mono ?_
          rintro e wt2 ⟨tsa, tsb, tsc, tsd, hu2, rfl, hb⟩
          have L2 := Lib.hid (L1.out.later hb)
          have R92 := Lib.hid (below_at' hb R91.out)
          have SZ2 := Lib.hid (Nat.le_trans SZ1.out hb.size)
          have HU12 := Lib.hid (HU11.out)
          have HRE2 := Lib.hid hu2
          clear hu2
          have hS1 := below_at' hb hS
          refine hK _ _ (fun _ _ => hS1) ?_
          clear hK hS hb L1 R91 SZ1 HU11
          have hS := hS1
          clear hS1
          refine till_take 5 (some 28) rfl rfl (by kernel_rfl) (by kernel_rfl) (by kernel_rfl) (by kernel_rfl) (by kernel_rfl) (by kernel_rfl) (fun _ _ _ h => h) (.inl ⟨by rfl, fun w' _ => (by go_simp; rfl)⟩) hS ?_
          go_frame
          refine till_take 6 (some 34) rfl rfl (by kernel_rfl) (by kernel_rfl) (by kernel_rfl) (by kernel_rfl) (by kernel_rfl) (by kernel_rfl) (fun _ _ _ h => h) (.inl ⟨by rfl, fun w' _ => (by go_simp; rfl)⟩) hS ?_
          go_frame
          refine till_take 7 (some 35) rfl rfl (by kernel_rfl) (by kernel_rfl) (by kernel_rfl) (by kernel_rfl) (by kernel_rfl) (by kernel_rfl) (fun _ _ _ h => h) (.inl ⟨by rfl, fun w' _ => (by go_simp; rfl)⟩) hS ?_
          go_frame
          refine till_one 8 rfl (by kernel_rfl) fun K hK => ?_
          simp only [List.getElem_toArray, List.getElem_cons_succ, List.getElem_cons_zero]
          rw [if_pos (by rfl)]
          refine wp_alloc_g 33 rfl _ _ Tryz.zeroUz rfl ?_
          intro O3 wt3 hm
          have hb := hm.out.below
          have L3 := Lib.hid (L2.out.later hb)
          have R93 := Lib.hid (below_at' hb R92.out)
          have SZ3 := Lib.hid (Nat.le_trans SZ2.out hb.size)
          have HU13 := Lib.hid (HU12.out)
          have HRE3 := Lib.hid (HRE2.out)
          have HO3 := Lib.hid hm.out.cells
          have WO3 : Hid (wz.heap.size ≤ O3) := Lib.hid (by have h1 := hm.out.eq; have h2 := SZ2.out; omega)
          have hS1 := below_at' hb hS
          refine hK _ _ (fun _ _ => hS1) ?_
          clear hK hS hb hm L2 R92 SZ2 HU12 HRE2
          have hS := hS1
          clear hS1
          refine till_one 9 rfl (by kernel_rfl) fun K hK => ?_
          simp only [List.getElem_toArray, List.getElem_cons_succ, List.getElem_cons_zero]
          rw [if_pos (by rfl)]
          refine wp_store_row_g (t := 33) (old := u0) 33 _ _ rfl O3 #[.int .u64 tsa, .int .u64 tsb, .int .u64 tsc, .int .u64 tsd] rfl rfl HO3.out Tryz.sizeU rfl (one_u64 _ _ _ _) ?_
          intro wt4 hx8 k8 z8
          have HV4 := Lib.hid hx8
          have SZ4 := Lib.hid (Nat.le_trans SZ3.out (Nat.le_of_eq z8.symm))
          have hS1 := k8.at hS (fun e => by have h1 := HXB.out; have h2 := WO3.out; have h3 : X = O3 := e; have h4 := HSB.out; omega)
          have L4 := Lib.hid (liv_u L3.out HO3.out k8 (by have h1 := HW1.out; have h2 := WO3.out; have h4 := HSB.out; omega))
          have R94 := Lib.hid (k8.at R93.out (fun e => by have h1 := HOB.out; have h2 := WO3.out; have h3 : O1 = O3 := e; omega))
          refine hK _ _ (fun _ _ => hS1) ?_
          clear hK hS hx8 k8 z8 L3 HO3 SZ3 R93
          have hS := hS1
          clear hS1
          refine till_take 10 (some 10) rfl rfl (by kernel_rfl) (by kernel_rfl) (by kernel_rfl) (by kernel_rfl) (by kernel_rfl) (by kernel_rfl) (fun _ _ _ h => h) (.inl ⟨by rfl, fun w' _ => (by go_simp; rfl)⟩) hS ?_
          go_frame
          refine till_done (by kernel_rfl) ?_ _
          have HO2 := HV4; have L3 := L4; have HRB := HRE3; have HO1 := R94
          clear hS
          by_cases g3 : n2 + m < uHalf
          · have hr : r2 = 0 := by rw [HV2.out.2, if_pos g3]
            have HX2E : Hid (x2 = n2 + m) := Lib.hid (by rw [HV2.out.1, if_pos g3])
            have HEV : Hid (moveE (getP s.t) k q m = 0) := Lib.hid (by rw [HE.out, if_neg (fun h => h HG.out.1), if_neg HG.out.2, if_pos g3])
            have HSV : Hid (s.moveA k q m = (s.setAmt k (n1 - m)).setAmt q (n2 + m)) := Lib.hid (by rw [HS.out, if_pos ⟨HEV.out, HG.out.2⟩])
            subst hr
            clear g3
            go_wp2_with (refine wpList_load_row rfl 33 _ rfl O1 rfl 33 _ _ _ HO1.out Tryz.underlying33 rfl Tryz.sizeU ?_)
            refine (L3.out.call fun F h => csetAmount_any h (by have := HZ.out; omega) k HRA.out).mono ?_
            rw [HX1E.out]
            rintro e w8 ⟨rfl, L4, ho⟩
            have L4 := Lib.hid L4; have HO2' := Lib.hid (ho.2 _ _ HO2.out rfl rfl)
            clear ho L3 HO1 HO2
            go_wp2_with (refine wpList_load_row rfl 33 _ rfl O3 rfl 33 _ _ _ HO2'.out Tryz.underlying33 rfl Tryz.sizeU ?_)
            refine (L4.out.call fun F h => csetAmount_any h (by have := HZ.out; have := sz_setAmt s k (n1 - m); omega) q HRB.out).mono ?_
            rw [HX2E.out]
            rintro e w9 ⟨rfl, L5, _⟩
            have L5 := Lib.hid L5
            go_wp2_with fail
            go_ret
            rw [HEV.out, HSV.out]; exact L5.out.ret
          · have hr : r2 = 6 := by rw [HV2.out.2, if_neg g3]
            have HEV : Hid (moveE (getP s.t) k q m = 6) := Lib.hid (by rw [HE.out, if_neg (fun h => h HG.out.1), if_neg HG.out.2, if_neg g3])
            have HSV : Hid (s.moveA k q m = s) := Lib.hid (by rw [HS.out, HEV.out]; rfl)
            subst hr
            clear g3
            go_wp2_with fail
            go_ret
            rw [HEV.out, HSV.out]; exact L3.out.ret
        · simp only [List.getElem_toArray, List.getElem_cons_succ, List.getElem_cons_zero]
          rw [if_pos (by rfl)]
          refine wp_alloc_g 33 rfl _ _ Tryz.zeroUz rfl ?_
          intro O5 wt5 hm
          have hb := hm.out.below
          have L5 := Lib.hid (L1.out.later hb)
          have R95 := Lib.hid (below_at' hb R91.out)
          have SZ5 := Lib.hid (Nat.le_trans SZ1.out hb.size)
          have HU15 := Lib.hid (HU11.out)
          have HO5 := Lib.hid hm.out.cells
          have WO5 : Hid (wz.heap.size ≤ O5) := Lib.hid (by have h1 := hm.out.eq; have h2 := SZ1.out; omega)
          have hS1 := below_at' hb hS
          refine hK _ _ (fun _ _ => hS1) ?_
          clear hK hS hb hm L1 R91 SZ1 HU11
          have hS := hS1
          clear hS1
          refine till_one 4 rfl (by kernel_rfl) fun K hK => ?_
          simp only [List.getElem_toArray, List.getElem_cons_succ, List.getElem_cons_zero]
          rw [if_pos (by rfl)]
          go_simp
          refine (more10v HU15.out HU.out HV2.out.1 HV2.out.2 _).mono ?_
          rintro e wt6 ⟨tsa, tsb, tsc, tsd, hu2, rfl, hb⟩
          have L6 := Lib.hid (L5.out.later hb)
          have R96 := Lib.hid (below_at' hb R95.out)
          have SZ6 := Lib.hid (Nat.le_trans SZ5.out hb.size)
          have HU16 := Lib.hid (HU15.out)
          have HO6 := Lib.hid (below_at' hb HO5.out)
          have WO6 := Lib.hid (WO5.out)
          have HRE6 := Lib.hid hu2
          clear hu2
          have hS1 := below_at' hb hS
          refine hK _ _ (fun _ _ => hS1) ?_
          clear hK hS hb L5 R95 SZ5 HU15 HO5 WO5
          have hS := hS1
          clear hS1
          refine till_take 5 (some 28) rfl rfl (by kernel_rfl) (by kernel_rfl) (by kernel_rfl) (by kernel_rfl) (by kernel_rfl) (by kernel_rfl) (fun _ _ _ h => h) (.inl ⟨by rfl, fun w' _ => (by go_simp; rfl)⟩) hS ?_
          go_frame
          refine till_take 6 (some 34) rfl rfl (by kernel_rfl) (by kernel_rfl) (by kernel_rfl) (by kernel_rfl) (by kernel_rfl) (by kernel_rfl) (fun _ _ _ h => h) (.inl ⟨by rfl, fun w' _ => (by go_simp; rfl)⟩) hS ?_
          go_frame
          refine till_take 7 (some 35) rfl rfl (by kernel_rfl) (by kernel_rfl) (by kernel_rfl) (by kernel_rfl) (by kernel_rfl) (by kernel_rfl) (fun _ _ _ h => h) (.inl ⟨by rfl, fun w' _ => (by go_simp; rfl)⟩) hS ?_
          go_frame
          refine till_one 9 rfl (by kernel_rfl) fun K hK => ?_
          simp only [List.getElem_toArray, List.getElem_cons_succ, List.getElem_cons_zero]
          rw [if_pos (by rfl)]
          refine wp_store_row_g (t := 33) (old := u0) 33 _ _ rfl O5 #[.int .u64 tsa, .int .u64 tsb, .int .u64 tsc, .int .u64 tsd] rfl rfl HO6.out Tryz.sizeU rfl (one_u64 _ _ _ _) ?_
          intro wt7 hx8 k8 z8
          have HV7 := Lib.hid hx8
          have SZ7 := Lib.hid (Nat.le_trans SZ6.out (Nat.le_of_eq z8.symm))
          have hS1 := k8.at hS (fun e => by have h1 := HXB.out; have h2 := WO6.out; have h3 : X = O5 := e; have h4 := HSB.out; omega)
          have L7 := Lib.hid (liv_u L6.out HO6.out k8 (by have h1 := HW1.out; have h2 := WO6.out; have h4 := HSB.out; omega))
          have R97 := Lib.hid (k8.at R96.out (fun e => by have h1 := HOB.out; have h2 := WO6.out; have h3 : O1 = O5 := e; omega))
          refine hK _ _ (fun _ _ => hS1) ?_
          clear hK hS hx8 k8 z8 L6 HO6 SZ6 R96
          have hS := hS1
          clear hS1
          refine till_take 10 (some 10) rfl rfl (by kernel_rfl) (by kernel_rfl) (by kernel_rfl) (by kernel_rfl) (by kernel_rfl) (by kernel_rfl) (fun _ _ _ h => h) (.inl ⟨by rfl, fun w' _ => (by go_simp; rfl)⟩) hS ?_
          go_frame
          refine till_done (by kernel_rfl) ?_ _
          have HO2 := HV7; have L3 := L7; have HRB := HRE6; have HO1 := R97
          clear hS
          by_cases g3 : n2 + m < uHalf
          · have hr : r2 = 0 := by rw [HV2.out.2, if_pos g3]
            have HX2E : Hid (x2 = n2 + m) := Lib.hid (by rw [HV2.out.1, if_pos g3])
            have HEV : Hid (moveE (getP s.t) k q m = 0) := Lib.hid (by rw [HE.out, if_neg (fun h => h HG.out.1), if_neg HG.out.2, if_pos g3])
            have HSV : Hid (s.moveA k q m = (s.setAmt k (n1 - m)).setAmt q (n2 + m)) := Lib.hid (by rw [HS.out, if_pos ⟨HEV.out, HG.out.2⟩])
            subst hr
            clear g3
            go_wp2_with (refine wpList_load_row rfl 33 _ rfl O1 rfl 33 _ _ _ HO1.out Tryz.underlying33 rfl Tryz.sizeU ?_)
            refine (L3.out.call fun F h => csetAmount_any h (by have := HZ.out; omega) k HRA.out).mono ?_
            rw [HX1E.out]
            rintro e w8 ⟨rfl, L4, ho⟩
            have L4 := Lib.hid L4; have HO2' := Lib.hid (ho.2 _ _ HO2.out rfl rfl)
            clear ho L3 HO1 HO2
            go_wp2_with (refine wpList_load_row rfl 33 _ rfl O5 rfl 33 _ _ _ HO2'.out Tryz.underlying33 rfl Tryz.sizeU ?_)
            refine (L4.out.call fun F h => csetAmount_any h (by have := HZ.out; have := sz_setAmt s k (n1 - m); omega) q HRB.out).mono ?_
            rw [HX2E.out]
            rintro e w9 ⟨rfl, L5, _⟩
            have L5 := Lib.hid L5
            go_wp2_with fail
            go_ret
            rw [HEV.out, HSV.out]; exact L5.out.ret
          · have hr : r2 = 6 := by rw [HV2.out.2, if_neg g3]
            have HEV : Hid (moveE (getP s.t) k q m = 6) := Lib.hid (by rw [HE.out, if_neg (fun h => h HG.out.1), if_neg HG.out.2, if_neg g3])
            have HSV : Hid (s.moveA k q m = s) := Lib.hid (by rw [HS.out, HEV.out]; rfl)
            subst hr
            clear g3
            go_wp2_with fail
            go_ret
            rw [HEV.out, HSV.out]; exact L3.out.ret
      · simp only [List.getElem_toArray, List.getElem_cons_succ, List.getElem_cons_zero]
        rw [if_pos (by rfl)]
        refine wp_alloc_g 33 rfl _ _ Tryz.zeroUz rfl ?_
        intro O8 wt8 hm
        have hb := hm.out.below
        have L8 := Lib.hid (L0.out.later hb)
        have R98 := Lib.hid (below_at' hb R90.out)
        have SZ8 := Lib.hid (Nat.le_trans SZ0.out hb.size)
        have HO8 := Lib.hid hm.out.cells
        have WO8 : Hid (wz.heap.size ≤ O8) := Lib.hid (by have h1 := hm.out.eq; have h2 := SZ0.out; omega)
        have hS1 := below_at' hb hS
        refine hK _ _ (fun _ _ => hS1) ?_
        clear hK hS hb hm L0 R90 SZ0
        have hS := hS1
        clear hS1
        refine till_one 2 rfl (by kernel_rfl) fun K hK => ?_
        simp only [List.getElem_toArray, List.getElem_cons_succ, List.getElem_cons_zero]
        rw [if_pos (by rfl)]
        go_simp
        refine (camount_any L8.out.look HF.out.f q).mono ?_
        rintro e wt9 ⟨ta1, tb1, tc1, td1, hu1, rfl, hb⟩
        have L9 := Lib.hid (L8.out.later hb)
        have R99 := Lib.hid (below_at' hb R98.out)
        have SZ9 := Lib.hid (Nat.le_trans SZ8.out hb.size)
        have HO9 := Lib.hid (below_at' hb HO8.out)
        have WO9 := Lib.hid (WO8.out)
        rw [← HN.out.2] at hu1
        have HU19 := Lib.hid hu1
        clear hu1
        have hS1 := below_at' hb hS
        refine hK _ _ (fun _ _ => hS1) ?_
        clear hK hS hb L8 R98 SZ8 HO8 WO8
        have hS := hS1
        clear hS1
        refine till_one 4 rfl (by kernel_rfl) fun K hK => ?_
        simp only [List.getElem_toArray, List.getElem_cons_succ, List.getElem_cons_zero]
        rw [if_pos (by rfl)]
        go_simp
        refine (more10v HU19.out HU.out HV2.out.1 HV2.out.2 _).mono ?_
        rintro e wt10 ⟨tsa, tsb, tsc, tsd, hu2, rfl, hb⟩
        have L10 := Lib.hid (L9.out.later hb)
        have R910 := Lib.hid (below_at' hb R99.out)
        have SZ10 := Lib.hid (Nat.le_trans SZ9.out hb.size)
        have HO10 := Lib.hid (below_at' hb HO9.out)
        have WO10 := Lib.hid (WO9.out)
        have HU110 := Lib.hid (HU19.out)
        have HRE10 := Lib.hid hu2
        clear hu2
        have hS1 := below_at' hb hS
        refine hK _ _ (fun _ _ => hS1) ?_
        clear hK hS hb L9 R99 SZ9 HO9 WO9 HU19
        have hS := hS1
        clear hS1
        refine till_take 5 (some 28) rfl rfl (by kernel_rfl) (by kernel_rfl) (by kernel_rfl) (by kernel_rfl) (by kernel_rfl) (by kernel_rfl) (fun _ _ _ h => h) (.inl ⟨by rfl, fun w' _ => (by go_simp; rfl)⟩) hS ?_
        go_frame
        refine till_take 6 (some 34) rfl rfl (by kernel_rfl) (by kernel_rfl) (by kernel_rfl) (by kernel_rfl) (by kernel_rfl) (by kernel_rfl) (fun _ _ _ h => h) (.inl ⟨by rfl, fun w' _ => (by go_simp; rfl)⟩) hS ?_
        go_frame
        refine till_take 7 (some 35) rfl rfl (by kernel_rfl) (by kernel_rfl) (by kernel_rfl) (by kernel_rfl) (by kernel_rfl) (by kernel_rfl) (fun _ _ _ h => h) (.inl ⟨by rfl, fun w' _ => (by go_simp; rfl)⟩) hS ?_
        go_frame
        refine till_one 9 rfl (by kernel_rfl) fun K hK => ?_
        simp only [List.getElem_toArray, List.getElem_cons_succ, List.getElem_cons_zero]
        rw [if_pos (by rfl)]
        refine wp_store_row_g (t := 33) (old := u0) 33 _ _ rfl O8 #[.int .u64 tsa, .int .u64 tsb, .int .u64 tsc, .int .u64 tsd] rfl rfl HO10.out Tryz.sizeU rfl (one_u64 _ _ _ _) ?_
        intro wt11 hx8 k8 z8
        have HV11 := Lib.hid hx8
        have SZ11 := Lib.hid (Nat.le_trans SZ10.out (Nat.le_of_eq z8.symm))
        have hS1 := k8.at hS (fun e => by have h1 := HXB.out; have h2 := WO10.out; have h3 : X = O8 := e; have h4 := HSB.out; omega)
        have L11 := Lib.hid (liv_u L10.out HO10.out k8 (by have h1 := HW1.out; have h2 := WO10.out; have h4 := HSB.out; omega))
        have R911 := Lib.hid (k8.at R910.out (fun e => by have h1 := HOB.out; have h2 := WO10.out; have h3 : O1 = O8 := e; omega))
        refine hK _ _ (fun _ _ => hS1) ?_
        clear hK hS hx8 k8 z8 L10 HO10 SZ10 R910
        have hS := hS1
        clear hS1
        refine till_take 10 (some 10) rfl rfl (by kernel_rfl) (by kernel_rfl) (by kernel_rfl) (by kernel_rfl) (by kernel_rfl) (by kernel_rfl) (fun _ _ _ h => h) (.inl ⟨by rfl, fun w' _ => (by go_simp; rfl)⟩) hS ?_
        go_frame
        refine till_done (by kernel_rfl) ?_ _
        have HO2 := HV11; have L3 := L11; have HRB := HRE10; have HO1 := R911
        clear hS
        by_cases g3 : n2 + m < uHalf
        · have hr : r2 = 0 := by rw [HV2.out.2, if_pos g3]
          have HX2E : Hid (x2 = n2 + m) := Lib.hid (by rw [HV2.out.1, if_pos g3])
          have HEV : Hid (moveE (getP s.t) k q m = 0) := Lib.hid (by rw [HE.out, if_neg (fun h => h HG.out.1), if_neg HG.out.2, if_pos g3])
          have HSV : Hid (s.moveA k q m = (s.setAmt k (n1 - m)).setAmt q (n2 + m)) := Lib.hid (by rw [HS.out, if_pos ⟨HEV.out, HG.out.2⟩])
          subst hr
          clear g3
          go_wp2_with (refine wpList_load_row rfl 33 _ rfl O1 rfl 33 _ _ _ HO1.out Tryz.underlying33 rfl Tryz.sizeU ?_)
          refine (L3.out.call fun F h => csetAmount_any h (by have := HZ.out; omega) k HRA.out).mono ?_
          rw [HX1E.out]
          rintro e w8 ⟨rfl, L4, ho⟩
          have L4 := Lib.hid L4; have HO2' := Lib.hid (ho.2 _ _ HO2.out rfl rfl)
          clear ho L3 HO1 HO2
          go_wp2_with (refine wpList_load_row rfl 33 _ rfl O8 rfl 33 _ _ _ HO2'.out Tryz.underlying33 rfl Tryz.sizeU ?_)
          refine (L4.out.call fun F h => csetAmount_any h (by have := HZ.out; have := sz_setAmt s k (n1 - m); omega) q HRB.out).mono ?_
          rw [HX2E.out]
          rintro e w9 ⟨rfl, L5, _⟩
          have L5 := Lib.hid L5
          go_wp2_with fail
          go_ret
          rw [HEV.out, HSV.out]; exact L5.out.ret
        · have hr : r2 = 6 := by rw [HV2.out.2, if_neg g3]
          have HEV : Hid (moveE (getP s.t) k q m = 6) := Lib.hid (by rw [HE.out, if_neg (fun h => h HG.out.1), if_neg HG.out.2, if_neg g3])
          have HSV : Hid (s.moveA k q m = s) := Lib.hid (by rw [HS.out, HEV.out]; rfl)
          subst hr
          clear g3
          go_wp2_with fail
          go_ret
          rw [HEV.out, HSV.out]; exact L3.out.ret
    · have hr : r1 = 13 := by rw [HV1.out.2, if_neg g1]
      have HEV : Hid (moveE (getP s.t) k q m = 13) := Lib.hid (by rw [HE.out, if_pos g1])
      have HSV : Hid (s.moveA k q m = s) := Lib.hid (by rw [HS.out, HEV.out]; rfl)
      subst hr
      clear g1
      go_wp2_with fail
      go_ret
      rw [HEV.out, HSV.out]; exact L2.out.ret
end Go.Proofs.YthnjakomkdlglaaGreat
