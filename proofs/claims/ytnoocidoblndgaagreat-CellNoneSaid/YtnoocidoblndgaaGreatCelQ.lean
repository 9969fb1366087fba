/- Cells of a store that no call made (code). No condition. -/
import Derived.Test.YtnoocidoblndgaaGreatCelE
import Derived.Test.YtnoocidoblndgaaGreatLawI
namespace Go.Proofs.YtnoocidoblndgaaGreat
open Go.RowKit

def f0 : Txt → Option Txt := fun _ => none
theorem f0_fit : FitF f0 := fun _ => Nat.zero_le _
theorem amtV_f0 (k : Txt) : amtV f0 k = 0 := rfl
/-- A store that no call made, and the world behind another. -/
def NLiv (w0 w : World) (x : Option Addr) : Prop := NotMade w x ∧ Below w0.heap.size w0 w
theorem NLiv.start {w : World} {x : Option Addr} (h : NotMade w x) : NLiv w w x := ⟨h, Below.refl _ _⟩
theorem NLiv.later {w0 w w' : World} {x : Option Addr} (h : NLiv w0 w x) (hb : Below w.heap.size w w') : NLiv w0 w' x := ⟨h.1.later hb, h.2.trans (hb.mono h.2.size)⟩
theorem NLiv.call {P : Program} {f : FuncId} {args : Array Value} {w0 w : World} {x : Option Addr} {v : Value} (L : NLiv w0 w x) (h : NotMade w x → Calls P f args w (Ret w v)) :
    Calls P f args w fun e w' => e = .returned v ∧ NLiv w0 w' x ∧ Below w.heap.size w w' := (h L.1).mono fun _ _ ⟨e1, hb⟩ => ⟨e1, L.later hb, hb⟩
theorem NLiv.ret {w0 w : World} {x : Option Addr} {v : Value} (h : NLiv w0 w x) : Ret w0 v (.returned v) w := ⟨rfl, h.2⟩
theorem ret_of {P : Program} {f : FuncId} {args : Array Value} {w : World} {v : Value} (h : Calls P f args w fun e w' => e = .returned v ∧ w = w') : Calls P f args w (Ret w v) := h.mono fun _ _ ⟨e1, e2⟩ => ⟨e1, e2 ▸ Below.refl _ _⟩
theorem nliv_u {w0 w w' : World} {x : Option Addr} {X : Nat} {cs : Array Value} (L : NLiv w0 w x) (hX : w.heap[X]? = some (.cells cs 24 (0, 0))) (hk : Keep (· = X) w w') (hw : w0.heap.size ≤ X) (hne : ∀ (i : Nat) (v : Value), cs[i]? = some v → v ≠ Value.bool false) : NLiv w0 w' x := by
  refine ⟨?_, L.2.trans (hk.below (B := w0.heap.size) (fun y hy e => by omega) L.2.size)⟩
  rcases L.1 with h | ⟨g, c2, T, h1, h2, h3⟩
  · exact .inl h
  · refine .inr ⟨g, c2, T, h1, hk.at h2 fun e => ?_, h3⟩
    subst e
    rw [hX] at h2
    cases h2
    exact hne _ _ h3 rfl
theorem u_nobool {a b c d : Int} : ∀ (i : Nat) (v : Value), (#[Value.int .u64 a, .int .u64 b, .int .u64 c, .int .u64 d])[i]? = some v → v ≠ .bool false := by
  intro i v h
  match i, h with
  | 0, h => cases h; intro e; cases e
  | 1, h => cases h; intro e; cases e
  | 2, h => cases h; intro e; cases e
  | 3, h => cases h; intro e; cases e
  | n + 4, h => simp at h

set_option maxHeartbeats 1000000 in
theorem put_not {w : World} {x : Option Addr} (h : NotMade w x) (k v : Txt) :
    Calls Tryz.prog 99 #[.pointer x, .string (bs k), .string (bs v)] w (Ret w (.tuple #[])) := by
  have L := Lib.hid (NLiv.start h)
  clear h
  by_cases hv : v = []
  · subst hv
    have j1 : (bs ([] : Txt)).toList = [] := toList_bs _
    have j2 : (bs ([] : Txt)).toList.isEmpty = true := by rw [toList_bs]; rfl
    go_enter Tryz.func99, Tryz.ntmps99
    go_wp2_with fail
    refine (L.out.call fun h => ret_of (sdel_not h k)).mono ?_
    rintro e w1 ⟨rfl, L1, _⟩
    have L1 := Lib.hid L1
    go_wp2_with fail
    go_end0
    exact L1.out.ret
  · have j1 : (bs v).toList ≠ [] := by rw [toList_bs]; exact hv
    have j2 : (bs v).toList.isEmpty = false := by rw [toList_bs]; cases v <;> simp_all
    have j3 : ((bs v).toList == []) = false := by rw [toList_bs]; cases v <;> simp_all
    clear hv
    go_enter Tryz.func99, Tryz.ntmps99
    go_wp2_with fail
    refine (L.out.call fun h => ret_of (sset_not h k v)).mono ?_
    rintro e w1 ⟨rfl, L1, _⟩
    have L1 := Lib.hid L1
    go_wp2_with fail
    go_end0
    exact L1.out.ret

set_option maxHeartbeats 4000000 in
set_option maxRecDepth 100000 in
theorem csetAmount_not {w : World} {x : Option Addr} (h : NotMade w x) (k : Txt) {a b c d : Int} {n : Nat} (hu : UIs a b c d n) :
    Calls Tryz.prog 47 #[.pointer x, .string (bs k), .agg #[.int .u64 a, .int .u64 b, .int .u64 c, .int .u64 d]] w (Ret w (.tuple #[])) := by
  have L := Lib.hid (NLiv.start h); have HU := Lib.hid hu
  have q := Tryz.eqUn hu UIs.zero
  clear h hu
  by_cases h0 : n = 0
  · rw [decide_eq_true h0] at q
    clear h0
    go_enter Tryz.func47, Tryz.ntmps47
    go_wp2_with (refine wpList_load_row rfl 24 _ rfl w.heap.size rfl 24 _ _ _ (heap_alloc_new w _) Tryz.underlying24 rfl Tryz.sizeU ?_)
    have L1 := Lib.hid (L.out.later (below_new w (.cells #[.int .u64 a, .int .u64 b, .int .u64 c, .int .u64 d] 24)))
    refine (L1.out.call fun h => put_not h k []).mono ?_
    rintro e w1 ⟨rfl, L2, _⟩
    have L2 := Lib.hid L2
    go_wp2_with fail
    go_end0
    exact L2.out.ret
  · rw [decide_eq_false h0] at q
    clear h0
    go_enter Tryz.func47, Tryz.ntmps47
    go_wp2_with (refine wpList_load_row rfl 24 _ rfl w.heap.size rfl 24 _ _ _ (heap_alloc_new w _) Tryz.underlying24 rfl Tryz.sizeU ?_)
    have L1 := Lib.hid (L.out.later (below_new w (.cells #[.int .u64 a, .int .u64 b, .int .u64 c, .int .u64 d] 24)))
    refine (amt_any HU.out _).mono ?_
    rintro e w1 ⟨rfl, hb⟩
    have L2 := Lib.hid (L1.out.later hb)
    clear hb L1 L
    go_wp2_with fail
    refine (L2.out.call fun h => put_not h k (amtB n)).mono ?_
    rintro e w1 ⟨rfl, L3, _⟩
    have L3 := Lib.hid L3
    go_wp2_with fail
    go_end0
    exact L3.out.ret

set_option maxHeartbeats 4000000 in
set_option maxRecDepth 100000 in
theorem cadd_turn_not {w : World} {x : Option Addr} (h : NotMade w x) (k : Txt) {a' b' c' d' : Int} {m : Nat} (hu : UIs a' b' c' d' m) {B : Nat} (hB : w.heap[B]? = some (.cells #[.int .u64 a', .int .u64 b', .int .u64 c', .int .u64 d'] 24 (0, 0))) :
    Calls Tryz.prog 61 #[.pointer x, .string (bs k), .func (.func 97) #[] #[.pointer (some ⟨B, 0, none⟩)]] w (Ret w (.int .i64 (addE (f0) k m))) := by
  have L := Lib.hid (NLiv.start h); have HU2 := Lib.hid hu; have HB0 := Lib.hid hB
  have ham := camount_any (f := f0) (Look.of_not h) f0_fit k
  obtain ⟨n, hn⟩ : ∃ n, n = amtV (f0) k := ⟨_, rfl⟩
  rw [← hn] at ham
  have HE : Hid (addE (f0) k m = if n + m < uHalf then 0 else 6) := Lib.hid (by rw [hn]; rfl)
  clear h hu hB hn
  go_enter Tryz.func61, Tryz.ntmps61
  go_wp2_with fail
  refine ham.mono ?_
  clear ham
  rintro e w1 ⟨a, b, c, d, hu1, rfl, hb⟩
  have HU1 := Lib.hid hu1; have L1 := Lib.hid (L.out.later hb); have HQ1 := Lib.hid (below_at' hb HB0.out)
  clear hu1 hb L HB0
  go_wp2_with fail
  refine (cadd_clo HU1.out HU2.out HQ1.out).mono ?_
  by_cases hc : n + m < uHalf
  · rw [if_pos hc, if_pos hc]
    have HEV : Hid (addE (f0) k m = 0) := Lib.hid (by rw [HE.out, if_pos hc])
    clear hc
    rintro e w2 ⟨sa, sb, sc, sd, hu2, rfl, hb⟩
    have HSU := Lib.hid hu2; have L2 := Lib.hid (L1.out.later hb)
    clear hu2 hb L1 HQ1
    go_wp2_with (refine wpList_alloc_g rfl _ rfl _ _ Tryz.zeroUz rfl ?_)
    intro O w3 h3
    go_wp2_with (refine wpList_store_row_g (t := 24) (old := u0) rfl 24 _ _ rfl O #[.int .u64 sa, .int .u64 sb, .int .u64 sc, .int .u64 sd] rfl rfl h3.out.cells Tryz.sizeU rfl (one_u64 _ _ _ _) ?_)
    intro w4 hx4 k4 _
    have hb24 : Below w2.heap.size w2 w4 := h3.out.below.trans (k4.below (B := w2.heap.size) (fun x hx e => by have := h3.out.eq; omega) h3.out.below.size)
    have L4 := Lib.hid (L2.out.later hb24); have HO4 := Lib.hid hx4
    clear h3 hx4 k4 hb24 L2
    go_wp2_with (refine wpList_load_row rfl 24 _ rfl O rfl 24 _ _ _ HO4.out Tryz.underlying24 rfl Tryz.sizeU ?_)
    refine (L4.out.call fun h => csetAmount_not h k HSU.out).mono ?_
    rintro e w5 ⟨rfl, L5, _⟩
    have L5 := Lib.hid L5
    go_wp2_with fail
    go_ret
    rw [HEV.out]; exact L5.out.ret
  · rw [if_neg hc, if_neg hc]
    have HEV : Hid (addE (f0) k m = 6) := Lib.hid (by rw [HE.out, if_neg hc])
    clear hc
    rintro e w2 ⟨sa, sb, sc, sd, hu2, rfl, hb⟩
    have L2 := Lib.hid (L1.out.later hb)
    clear hu2 hb L1 HQ1
    go_wp2_with (refine wpList_alloc_g rfl _ rfl _ _ Tryz.zeroUz rfl ?_)
    intro O w3 h3
    go_wp2_with (refine wpList_store_row_g (t := 24) (old := u0) rfl 24 _ _ rfl O #[.int .u64 sa, .int .u64 sb, .int .u64 sc, .int .u64 sd] rfl rfl h3.out.cells Tryz.sizeU rfl (one_u64 _ _ _ _) ?_)
    intro w4 hx4 k4 _
    have hb24 : Below w2.heap.size w2 w4 := h3.out.below.trans (k4.below (B := w2.heap.size) (fun x hx e => by have := h3.out.eq; omega) h3.out.below.size)
    have L4 := Lib.hid (L2.out.later hb24)
    clear h3 hx4 k4 hb24 L2
    go_wp2_with fail
    go_ret
    rw [HEV.out]; exact L4.out.ret

set_option maxHeartbeats 4000000 in
set_option maxRecDepth 100000 in
theorem cadd_not {w : World} {x : Option Addr} (h : NotMade w x) (k : Txt) {a b c d : Int} {m : Nat} (hu : UIs a b c d m) :
    Calls Tryz.prog 42 #[.pointer x, .string (bs k), .agg #[.int .u64 a, .int .u64 b, .int .u64 c, .int .u64 d]] w (Ret w (.int .i64 (addE (f0) k m))) := by
  have L := Lib.hid (NLiv.start h); have HU := Lib.hid hu
  clear h hu
  go_enter Tryz.func42, Tryz.ntmps42
  go_wp2_with fail
  have L1 := Lib.hid (L.out.later (below_new w (.cells #[.int .u64 a, .int .u64 b, .int .u64 c, .int .u64 d] 24)))
  refine (L1.out.call fun h => cadd_turn_not h k HU.out (heap_alloc_new w _)).mono ?_
  rintro e w2 ⟨rfl, L2, _⟩
  have L2 := Lib.hid L2
  go_wp2_with fail
  go_ret
  exact L2.out.ret

set_option maxHeartbeats 4000000 in
set_option maxRecDepth 100000 in
theorem csub_turn_not {w : World} {x : Option Addr} (h : NotMade w x) (k : Txt) {a' b' c' d' : Int} {m : Nat} (hu : UIs a' b' c' d' m) {B : Nat} (hB : w.heap[B]? = some (.cells #[.int .u64 a', .int .u64 b', .int .u64 c', .int .u64 d'] 24 (0, 0))) :
    Calls Tryz.prog 61 #[.pointer x, .string (bs k), .func (.func 62) #[] #[.pointer (some ⟨B, 0, none⟩)]] w (Ret w (.int .i64 (subE (f0) k m))) := by
  have L := Lib.hid (NLiv.start h); have HU2 := Lib.hid hu; have HB0 := Lib.hid hB
  have ham := camount_any (f := f0) (Look.of_not h) f0_fit k
  obtain ⟨n, hn⟩ : ∃ n, n = amtV (f0) k := ⟨_, rfl⟩
  rw [← hn] at ham
  have HE : Hid (subE (f0) k m = if m ≤ n then 0 else 13) := Lib.hid (by rw [hn]; rfl)
  clear h hu hB hn
  go_enter Tryz.func61, Tryz.ntmps61
  go_wp2_with fail
  refine ham.mono ?_
  clear ham
  rintro e w1 ⟨a, b, c, d, hu1, rfl, hb⟩
  have HU1 := Lib.hid hu1; have L1 := Lib.hid (L.out.later hb); have HQ1 := Lib.hid (below_at' hb HB0.out)
  clear hu1 hb L HB0
  go_wp2_with fail
  refine (csub_clo HU1.out HU2.out HQ1.out).mono ?_
  by_cases hc : m ≤ n
  · rw [if_pos hc, if_pos hc]
    have HEV : Hid (subE (f0) k m = 0) := Lib.hid (by rw [HE.out, if_pos hc])
    clear hc
    rintro e w2 ⟨sa, sb, sc, sd, hu2, rfl, hb⟩
    have HSU := Lib.hid hu2; have L2 := Lib.hid (L1.out.later hb)
    clear hu2 hb L1 HQ1
    go_wp2_with (refine wpList_alloc_g rfl _ rfl _ _ Tryz.zeroUz rfl ?_)
    intro O w3 h3
    go_wp2_with (refine wpList_store_row_g (t := 24) (old := u0) rfl 24 _ _ rfl O #[.int .u64 sa, .int .u64 sb, .int .u64 sc, .int .u64 sd] rfl rfl h3.out.cells Tryz.sizeU rfl (one_u64 _ _ _ _) ?_)
    intro w4 hx4 k4 _
    have hb24 : Below w2.heap.size w2 w4 := h3.out.below.trans (k4.below (B := w2.heap.size) (fun x hx e => by have := h3.out.eq; omega) h3.out.below.size)
    have L4 := Lib.hid (L2.out.later hb24); have HO4 := Lib.hid hx4
    clear h3 hx4 k4 hb24 L2
    go_wp2_with (refine wpList_load_row rfl 24 _ rfl O rfl 24 _ _ _ HO4.out Tryz.underlying24 rfl Tryz.sizeU ?_)
    refine (L4.out.call fun h => csetAmount_not h k HSU.out).mono ?_
    rintro e w5 ⟨rfl, L5, _⟩
    have L5 := Lib.hid L5
    go_wp2_with fail
    go_ret
    rw [HEV.out]; exact L5.out.ret
  · rw [if_neg hc, if_neg hc]
    have HEV : Hid (subE (f0) k m = 13) := Lib.hid (by rw [HE.out, if_neg hc])
    clear hc
    rintro e w2 ⟨sa, sb, sc, sd, hu2, rfl, hb⟩
    have L2 := Lib.hid (L1.out.later hb)
    clear hu2 hb L1 HQ1
    go_wp2_with (refine wpList_alloc_g rfl _ rfl _ _ Tryz.zeroUz rfl ?_)
    intro O w3 h3
    go_wp2_with (refine wpList_store_row_g (t := 24) (old := u0) rfl 24 _ _ rfl O #[.int .u64 sa, .int .u64 sb, .int .u64 sc, .int .u64 sd] rfl rfl h3.out.cells Tryz.sizeU rfl (one_u64 _ _ _ _) ?_)
    intro w4 hx4 k4 _
    have hb24 : Below w2.heap.size w2 w4 := h3.out.below.trans (k4.below (B := w2.heap.size) (fun x hx e => by have := h3.out.eq; omega) h3.out.below.size)
    have L4 := Lib.hid (L2.out.later hb24)
    clear h3 hx4 k4 hb24 L2
    go_wp2_with fail
    go_ret
    rw [HEV.out]; exact L4.out.ret

set_option maxHeartbeats 4000000 in
set_option maxRecDepth 100000 in
theorem csub_not {w : World} {x : Option Addr} (h : NotMade w x) (k : Txt) {a b c d : Int} {m : Nat} (hu : UIs a b c d m) :
    Calls Tryz.prog 15 #[.pointer x, .string (bs k), .agg #[.int .u64 a, .int .u64 b, .int .u64 c, .int .u64 d]] w (Ret w (.int .i64 (subE (f0) k m))) := by
  have L := Lib.hid (NLiv.start h); have HU := Lib.hid hu
  clear h hu
  go_enter Tryz.func15, Tryz.ntmps15
  go_wp2_with fail
  have L1 := Lib.hid (L.out.later (below_new w (.cells #[.int .u64 a, .int .u64 b, .int .u64 c, .int .u64 d] 24)))
  refine (L1.out.call fun h => csub_turn_not h k HU.out (heap_alloc_new w _)).mono ?_
  rintro e w2 ⟨rfl, L2, _⟩
  have L2 := Lib.hid L2
  go_wp2_with fail
  go_ret
  exact L2.out.ret

set_option maxHeartbeats 8000000 in
set_option maxRecDepth 100000 in
theorem cmove_not {w : World} {x : Option Addr} (h : NotMade w x) (k q : Txt) {a b c d : Int} {m : Nat} (hu : UIs a b c d m) :
    Calls Tryz.prog 51 #[.pointer x, .string (bs k), .string (bs q), .agg #[.int .u64 a, .int .u64 b, .int .u64 c, .int .u64 d]] w (Ret w (.int .i64 (moveE (f0) k q m))) := by
  have L := Lib.hid (NLiv.start h); have HU := Lib.hid hu
  clear h hu
  obtain ⟨n1, hn1⟩ : ∃ n, n = amtV (f0) k := ⟨_, rfl⟩
  obtain ⟨n2, hn2⟩ : ∃ n, n = amtV (f0) q := ⟨_, rfl⟩
  have HN := Lib.hid (And.intro hn1 hn2)
  have HE : Hid (moveE (f0) k q m = if ¬ m ≤ n1 then 13 else if k = q then 0 else if n2 + m < uHalf then 0 else 6) := Lib.hid (by rw [hn1, hn2]; rfl)
  clear hn1 hn2
  go_enter Tryz.func51, Tryz.ntmps51
  go_wp2_with fail
  obtain ⟨w1, hw1⟩ : ∃ w1, w1 = w.alloc (.cells #[.int .u64 a, .int .u64 b, .int .u64 c, .int .u64 d] 24) := ⟨_, rfl⟩
  obtain ⟨X, hX⟩ : ∃ X, X = w.heap.size := ⟨_, rfl⟩
  rw [← hw1, ← hX]
  have hb1 : Below w.heap.size w w1 := by rw [hw1]; exact below_new _ _
  have HX1 : Hid (w1.heap[X]? = some (.cells #[.int .u64 a, .int .u64 b, .int .u64 c, .int .u64 d] 24 (0, 0))) := Lib.hid (by rw [hw1, hX]; exact heap_alloc_new _ _)
  have L1 := Lib.hid (L.out.later hb1); have HW1 : Hid (w.heap.size ≤ w1.heap.size) := Lib.hid hb1.size
  clear hw1 hX hb1 L
  obtain ⟨wz, hwz⟩ : ∃ wz, wz = w1.drew := ⟨_, rfl⟩
  have hbz : Below w1.heap.size w1 wz := by rw [hwz]; exact (Below.refl _ _).drew
  have L0 := Lib.hid (L1.out.later hbz); have hS : wz.heap[X]? = some (.cells #[.int .u64 a, .int .u64 b, .int .u64 c, .int .u64 d] 24 (0, 0)) := below_at' hbz HX1.out
  have HWZ : Hid (w1.heap.size ≤ wz.heap.size) := Lib.hid hbz.size
  clear hbz L1
  have HXB : Hid (X < w1.heap.size) := Lib.hid (heap_lt HX1.out)
  have HSB : Hid (w1.heap.size ≤ wz.heap.size) := HWZ
  have SZ0 : Hid (wz.heap.size ≤ wz.heap.size) := Lib.hid (Nat.le_refl _)
  obtain ⟨x1, hx1⟩ : ∃ v, v = if m ≤ n1 then n1 - m else 0 := ⟨_, rfl⟩
  obtain ⟨r1, hr1⟩ : ∃ v : Int, v = if m ≤ n1 then 0 else 13 := ⟨_, rfl⟩
  have HV1 := Lib.hid (And.intro hx1 hr1)
  clear hx1 hr1 HX1
  go_wp2_with fail
  refine wp_region_till (fun w' => w'.heap[X]? = some (.cells #[.int .u64 a, .int .u64 b, .int .u64 c, .int .u64 d] 24 (0, 0))) 11 11 (by kernel_rfl) rfl ?_
  rw [← hwz]
  clear hwz
  refine till_take 0 (some 13) rfl rfl (by kernel_rfl) (by kernel_rfl) (by kernel_rfl) (by kernel_rfl) (by kernel_rfl) (by kernel_rfl) (fun _ _ _ h => h) (.inl ⟨by rfl, fun w' _ => (by go_simp; rfl)⟩) hS ?_
  go_frame
  refine till_take 1 (some 14) rfl rfl (by kernel_rfl) (by kernel_rfl) (by kernel_rfl) (by kernel_rfl) (by kernel_rfl) (by kernel_rfl) (fun _ _ _ h => h) (.inl ⟨by rfl, fun w' _ => (by go_simp; rfl)⟩) hS ?_
  go_frame
  refine till_take 3 (some 16) rfl rfl (by kernel_rfl) (by kernel_rfl) (by kernel_rfl) (by kernel_rfl) (by kernel_rfl) (by kernel_rfl) (fun _ _ _ h => h) (yields_load (by rfl) 24 _ rfl (.pointer (some ⟨X, 0, none⟩)) rfl (.agg #[.int .u64 a, .int .u64 b, .int .u64 c, .int .u64 d]) (fun w' hS' => load_heap hS' Tryz.underlying24 rfl Tryz.sizeU)) hS ?_
  go_frame
  refine till_two 2 8 rfl rfl (by kernel_rfl) (fun K hK => ?_) (fun K hK => ?_)
  · simp only [List.getElem_toArray, List.getElem_cons_succ, List.getElem_cons_zero]
    rw [if_pos (by rfl)]
    go_simp
    refine (camount_any (f := f0) (Look.of_not L0.out.1) f0_fit k).mono ?_
    rintro e wt1 ⟨a1, b1, c1, d1, hu1, rfl, hb⟩
    have L1 := Lib.hid (L0.out.later hb)
    have SZ1 := Lib.hid (Nat.le_trans SZ0.out hb.size)
    rw [← HN.out.1] at hu1
    have HU11 := Lib.hid hu1
    clear hu1
    have hS1 := below_at' hb hS
    refine hK _ _ (fun _ _ => hS1) ?_
    clear hK hS hb L0 SZ0
    have hS := hS1
    clear hS1
    refine till_two 4 8 rfl rfl (by kernel_rfl) (fun K hK => ?_) (fun K hK => ?_)
    · simp only [List.getElem_toArray, List.getElem_cons_succ, List.getElem_cons_zero]
      rw [if_pos (by rfl)]
      go_simp
      refine (less10v HU11.out HU.out HV1.out.1 HV1.out.2 _).mono ?_
      rintro e wt2 ⟨sa, sb, sc, sd, hu2, rfl, hb⟩
      have L2 := Lib.hid (L1.out.later hb)
      have SZ2 := Lib.hid (Nat.le_trans SZ1.out hb.size)
      have HU12 := Lib.hid (HU11.out)
      have HRE2 := Lib.hid hu2
      clear hu2
      have hS1 := below_at' hb hS
      refine hK _ _ (fun _ _ => hS1) ?_
      clear hK hS hb L1 SZ1 HU11
      have hS := hS1
      clear hS1
      refine till_take 5 (some 12) rfl rfl (by kernel_rfl) (by kernel_rfl) (by kernel_rfl) (by kernel_rfl) (by kernel_rfl) (by kernel_rfl) (fun _ _ _ h => h) (.inl ⟨by rfl, fun w' _ => (by go_simp; rfl)⟩) hS ?_
      go_frame
      refine till_take 6 (some 18) rfl rfl (by kernel_rfl) (by kernel_rfl) (by kernel_rfl) (by kernel_rfl) (by kernel_rfl) (by kernel_rfl) (fun _ _ _ h => h) (.inl ⟨by rfl, fun w' _ => (by go_simp; rfl)⟩) hS ?_
      go_frame
      refine till_take 7 (some 19) rfl rfl (by kernel_rfl) (by kernel_rfl) (by kernel_rfl) (by kernel_rfl) (by kernel_rfl) (by kernel_rfl) (fun _ _ _ h => h) (.inl ⟨by rfl, fun w' _ => (by go_simp; rfl)⟩) hS ?_
      go_frame
      refine till_one 8 rfl (by kernel_rfl) fun K hK => ?_
      simp only [List.getElem_toArray, List.getElem_cons_succ, List.getElem_cons_zero]
      rw [if_pos (by rfl)]
      refine wp_alloc_g 24 rfl _ _ Tryz.zeroUz rfl ?_
      intro O3 wt3 hm
      have hb := hm.out.below
      have L3 := Lib.hid (L2.out.later hb)
      have SZ3 := Lib.hid (Nat.le_trans SZ2.out hb.size)
      have HU13 := Lib.hid (HU12.out)
      have HRE3 := Lib.hid (HRE2.out)
      have HO3 := Lib.hid hm.out.cells
      have WO3 : Hid (wz.heap.size ≤ O3) := Lib.hid (by have h1 := hm.out.eq; have h2 := SZ2.out; omega)
      have hS1 := below_at' hb hS
      refine hK _ _ (fun _ _ => hS1) ?_
      clear hK hS hb hm L2 SZ2 HU12 HRE2
      have hS := hS1
      clear hS1
      refine till_one 9 rfl (by kernel_rfl) fun K hK => ?_
      simp only [List.getElem_toArray, List.getElem_cons_succ, List.getElem_cons_zero]
      rw [if_pos (by rfl)]
      refine wp_store_row_g (t := 24) (old := u0) 24 _ _ rfl O3 #[.int .u64 sa, .int .u64 sb, .int .u64 sc, .int .u64 sd] rfl rfl HO3.out Tryz.sizeU rfl (one_u64 _ _ _ _) ?_
      intro wt4 hx8 k8 z8
      have HV4 := Lib.hid hx8
      have SZ4 := Lib.hid (Nat.le_trans SZ3.out (Nat.le_of_eq z8.symm))
      have hS1 := k8.at hS (fun e => by have h1 := HXB.out; have h2 := WO3.out; have h3 : X = O3 := e; have h4 := HSB.out; omega)
      have L4 := Lib.hid (nliv_u L3.out HO3.out k8 (by have h1 := HW1.out; have h2 := WO3.out; have h4 := HSB.out; omega) u_nobool)
      refine hK _ _ (fun _ _ => hS1) ?_
      clear hK hS hx8 k8 z8 L3 HO3 SZ3
      have hS := hS1
      clear hS1
      refine till_take 10 (some 10) rfl rfl (by kernel_rfl) (by kernel_rfl) (by kernel_rfl) (by kernel_rfl) (by kernel_rfl) (by kernel_rfl) (fun _ _ _ h => h) (.inl ⟨by rfl, fun w' _ => (by go_simp; rfl)⟩) hS ?_
      go_frame
      refine till_done (by kernel_rfl) ?_ _
      obtain ⟨O1, hO1⟩ : ∃ o, o = O3 := ⟨_, rfl⟩
      rw [← hO1]
      have HO1 := HV4; have L2 := L4; have HX2 := Lib.hid hS; have HRA := HRE3
      rw [← hO1] at HO1
      clear hO1 HV4 L4 HRE3 hS
      obtain ⟨wy, hwy⟩ : ∃ wy, wy = wt4 := ⟨_, rfl⟩
      rw [← hwy] at HO1 L2 HX2 ⊢
      have HW2 : Hid (w1.heap.size ≤ wy.heap.size) := Lib.hid (by rw [hwy]; exact Nat.le_trans HWZ.out SZ4.out)
      clear hwy
      by_cases g1 : m ≤ n1
      · have hr : r1 = 0 := by rw [HV1.out.2, if_pos g1]
        have HX1E : Hid (x1 = n1 - m) := Lib.hid (by rw [HV1.out.1, if_pos g1])
        subst hr
        by_cases g2 : k = q
        · have HEV : Hid (moveE (f0) k q m = 0) := Lib.hid (by rw [HE.out, if_neg (fun h => h g1), if_pos g2])
          have hst : ((bs k).toList == (bs q).toList) = true := by rw [eq_txt, decide_eq_true g2]
          have hst2 : (bs k).toList = (bs q).toList := by rw [g2]
          clear g1 g2
          go_wp2_with fail
          go_ret
          rw [HEV.out]; exact L2.out.ret
        have hst : ((bs k).toList == (bs q).toList) = false := by rw [eq_txt, decide_eq_false g2]
        have hst2 : ¬ (bs k).toList = (bs q).toList := by rw [toList_bs, toList_bs]; exact g2
        have HG := Lib.hid (And.intro g1 g2)
        clear g1 g2
        obtain ⟨x2, hx2⟩ : ∃ v, v = if n2 + m < uHalf then n2 + m else 0 := ⟨_, rfl⟩
        obtain ⟨r2, hr2⟩ : ∃ v : Int, v = if n2 + m < uHalf then 0 else 6 := ⟨_, rfl⟩
        have HV2 := Lib.hid (And.intro hx2 hr2)
        obtain ⟨wz, hwz⟩ : ∃ wz, wz = wy.drew := ⟨_, rfl⟩
        have hbz : Below wy.heap.size wy wz := by rw [hwz]; exact (Below.refl _ _).drew
        have L0 := Lib.hid (L2.out.later hbz); have hS : wz.heap[X]? = some (.cells #[.int .u64 a, .int .u64 b, .int .u64 c, .int .u64 d] 24 (0, 0)) := below_at' hbz HX2.out
        have R90 := Lib.hid (below_at' hbz HO1.out)
        have HSB : Hid (w1.heap.size ≤ wz.heap.size) := Lib.hid (Nat.le_trans HW2.out hbz.size)
        have HOB : Hid (O1 < wz.heap.size) := Lib.hid (Nat.lt_of_lt_of_le (heap_lt HO1.out) hbz.size)
        have SZ0 : Hid (wz.heap.size ≤ wz.heap.size) := Lib.hid (Nat.le_refl _)
        clear hbz L2 HX2 HO1 hx2 hr2
        go_wp2_with fail
        clear hst hst2
        refine wp_region_till (fun w' => w'.heap[X]? = some (.cells #[.int .u64 a, .int .u64 b, .int .u64 c, .int .u64 d] 24 (0, 0))) 11 11 (by kernel_rfl) rfl ?_
        rw [← hwz]
        clear hwz
        refine till_take 0 (some 29) rfl rfl (by kernel_rfl) (by kernel_rfl) (by kernel_rfl) (by kernel_rfl) (by kernel_rfl) (by kernel_rfl) (fun _ _ _ h => h) (.inl ⟨by rfl, fun w' _ => (by go_simp; rfl)⟩) hS ?_
        go_frame
        refine till_take 1 (some 30) rfl rfl (by kernel_rfl) (by kernel_rfl) (by kernel_rfl) (by kernel_rfl) (by kernel_rfl) (by kernel_rfl) (fun _ _ _ h => h) (.inl ⟨by rfl, fun w' _ => (by go_simp; rfl)⟩) hS ?_
        go_frame
        refine till_take 3 (some 32) rfl rfl (by kernel_rfl) (by kernel_rfl) (by kernel_rfl) (by kernel_rfl) (by kernel_rfl) (by kernel_rfl) (fun _ _ _ h => h) (yields_load (by rfl) 24 _ rfl (.pointer (some ⟨X, 0, none⟩)) rfl (.agg #[.int .u64 a, .int .u64 b, .int .u64 c, .int .u64 d]) (fun w' hS' => load_heap hS' Tryz.underlying24 rfl Tryz.sizeU)) hS ?_
        go_frame
        refine till_two 2 8 rfl rfl (by kernel_rfl) (fun K hK => ?_) (fun K hK => ?_)
        · simp only [List.getElem_toArray, List.getElem_cons_succ, List.getElem_cons_zero]
          rw [if_pos (by rfl)]
          go_simp
          refine (camount_any (f := f0) (Look.of_not L0.out.1) f0_fit q).mono ?_
          rintro e wt1 ⟨ta1, tb1, tc1, td1, hu1, rfl, hb⟩
          have L1 := Lib.hid (L0.out.later hb)
          have R91 := Lib.hid (below_at' hb R90.out)
          have SZ1 := Lib.hid (Nat.le_trans SZ0.out hb.size)
          rw [← HN.out.2] at hu1
          have HU11 := Lib.hid hu1
          clear hu1
          have hS1 := below_at' hb hS
          refine hK _ _ (fun _ _ => hS1) ?_
          clear hK hS hb L0 R90 SZ0
          have hS := hS1
          clear hS1
          refine till_two 4 8 rfl rfl (by kernel_rfl) (fun K hK => ?_) (fun K hK => ?_)
          · simp only [List.getElem_toArray, List.getElem_cons_succ, List.getElem_cons_zero]
            rw [if_pos (by rfl)]
            go_simp
            refine (more10v HU11.out HU.out HV2.out.1 HV2.out.2 _).mono ?_
            rintro e wt2 ⟨tsa, tsb, tsc, tsd, hu2, rfl, hb⟩
            have L2 := Lib.hid (L1.out.later hb)
            have R92 := Lib.hid (below_at' hb R91.out)
            have SZ2 := Lib.hid (Nat.le_trans SZ1.out hb.size)
            have HU12 := Lib.hid (HU11.out)
            have HRE2 := Lib.hid hu2
            clear hu2
            have hS1 := below_at' hb hS
            refine hK _ _ (fun _ _ => hS1) ?_
            clear hK hS hb L1 R91 SZ1 HU11
            have hS := hS1
            clear hS1
            refine till_take 5 (some 28) rfl rfl (by kernel_rfl) (by kernel_rfl) (by kernel_rfl) (by kernel_rfl) (by kernel_rfl) (by kernel_rfl) (fun _ _ _ h => h) (.inl ⟨by rfl, fun w' _ => (by go_simp; rfl)⟩) hS ?_
            go_frame
            refine till_take 6 (some 34) rfl rfl (by kernel_rfl) (by kernel_rfl) (by kernel_rfl) (by kernel_rfl) (by kernel_rfl) (by kernel_rfl) (fun _ _ _ h => h) (.inl ⟨by rfl, fun w' _ => (by go_simp; rfl)⟩) hS ?_
            go_frame
            refine till_take 7 (some 35) rfl rfl (by kernel_rfl) (by kernel_rfl) (by kernel_rfl) (by kernel_rfl) (by kernel_rfl) (by kernel_rfl) (fun _ _ _ h => h) (.inl ⟨by rfl, fun w' _ => (by go_simp; rfl)⟩) hS ?_
            go_frame
            refine till_one 8 rfl (by kernel_rfl) fun K hK => ?_
            simp only [List.getElem_toArray, List.getElem_cons_succ, List.getElem_cons_zero]
            rw [if_pos (by rfl)]
            refine wp_alloc_g 24 rfl _ _ Tryz.zeroUz rfl ?_
            intro O3 wt3 hm
            have hb := hm.out.below
            have L3 := Lib.hid (L2.out.later hb)
            have R93 := Lib.hid (below_at' hb R92.out)
            have SZ3 := Lib.hid (Nat.le_trans SZ2.out hb.size)
            have HU13 := Lib.hid (HU12.out)
            have HRE3 := Lib.hid (HRE2.out)
            have HO3 := Lib.hid hm.out.cells
            have WO3 : Hid (wz.heap.size ≤ O3) := Lib.hid (by have h1 := hm.out.eq; have h2 := SZ2.out; omega)
            have hS1 := below_at' hb hS
            refine hK _ _ (fun _ _ => hS1) ?_
            clear hK hS hb hm L2 R92 SZ2 HU12 HRE2
            have hS := hS1
            clear hS1
            refine till_one 9 rfl (by kernel_rfl) fun K hK => ?_
            simp only [List.getElem_toArray, List.getElem_cons_succ, List.getElem_cons_zero]
            rw [if_pos (by rfl)]
            refine wp_store_row_g (t := 24) (old := u0) 24 _ _ rfl O3 #[.int .u64 tsa, .int .u64 tsb, .int .u64 tsc, .int .u64 tsd] rfl rfl HO3.out Tryz.sizeU rfl (one_u64 _ _ _ _) ?_
            intro wt4 hx8 k8 z8
            have HV4 := Lib.hid hx8
            have SZ4 := Lib.hid (Nat.le_trans SZ3.out (Nat.le_of_eq z8.symm))
            have hS1 := k8.at hS (fun e => by have h1 := HXB.out; have h2 := WO3.out; have h3 : X = O3 := e; have h4 := HSB.out; omega)
            have L4 := Lib.hid (nliv_u L3.out HO3.out k8 (by have h1 := HW1.out; have h2 := WO3.out; have h4 := HSB.out; omega) u_nobool)
            have R94 := Lib.hid (k8.at R93.out (fun e => by have h1 := HOB.out; have h2 := WO3.out; have h3 : O1 = O3 := e; omega))
            refine hK _ _ (fun _ _ => hS1) ?_
            clear hK hS hx8 k8 z8 L3 HO3 SZ3 R93
            have hS := hS1
            clear hS1
            refine till_take 10 (some 10) rfl rfl (by kernel_rfl) (by kernel_rfl) (by kernel_rfl) (by kernel_rfl) (by kernel_rfl) (by kernel_rfl) (fun _ _ _ h => h) (.inl ⟨by rfl, fun w' _ => (by go_simp; rfl)⟩) hS ?_
            go_frame
            refine till_done (by kernel_rfl) ?_ _
            have HO2 := HV4; have L3 := L4; have HRB := HRE3; have HO1 := R94
            clear hS
            by_cases g3 : n2 + m < uHalf
            · have hr : r2 = 0 := by rw [HV2.out.2, if_pos g3]
              have HX2E : Hid (x2 = n2 + m) := Lib.hid (by rw [HV2.out.1, if_pos g3])
              have HEV : Hid (moveE (f0) k q m = 0) := Lib.hid (by rw [HE.out, if_neg (fun h => h HG.out.1), if_neg HG.out.2, if_pos g3])
              subst hr
              clear g3
              go_wp2_with (refine wpList_load_row rfl 24 _ rfl O1 rfl 24 _ _ _ HO1.out Tryz.underlying24 rfl Tryz.sizeU ?_)
              refine (L3.out.call fun h => csetAmount_not h k HRA.out).mono ?_
              rintro e w8 ⟨rfl, L4, ho⟩
              have L4 := Lib.hid L4; have HO2' := Lib.hid (below_at' ho HO2.out)
              clear ho L3 HO1 HO2
              go_wp2_with (refine wpList_load_row rfl 24 _ rfl O3 rfl 24 _ _ _ HO2'.out Tryz.underlying24 rfl Tryz.sizeU ?_)
              refine (L4.out.call fun h => csetAmount_not h q HRB.out).mono ?_
              rintro e w9 ⟨rfl, L5, _⟩
              have L5 := Lib.hid L5
              go_wp2_with fail
              go_ret
              rw [HEV.out]; exact L5.out.ret
            · have hr : r2 = 6 := by rw [HV2.out.2, if_neg g3]
              have HEV : Hid (moveE (f0) k q m = 6) := Lib.hid (by rw [HE.out, if_neg (fun h => h HG.out.1), if_neg HG.out.2, if_neg g3])
              subst hr
              clear g3
              go_wp2_with fail
              go_ret
              rw [HEV.out]; exact L3.out.ret
          · simp only [List.getElem_toArray, List.getElem_cons_succ, List.getElem_cons_zero]
            rw [if_pos (by rfl)]
            refine wp_alloc_g 24 rfl _ _ Tryz.zeroUz rfl ?_
            intro O5 wt5 hm
            have hb := hm.out.below
            have L5 := Lib.hid (L1.out.later hb)
            have R95 := Lib.hid (below_at' hb R91.out)
            have SZ5 := Lib.hid (Nat.le_trans SZ1.out hb.size)
            have HU15 := Lib.hid (HU11.out)
            have HO5 := Lib.hid hm.out.cells
            have WO5 : Hid (wz.heap.size ≤ O5) := Lib.hid (by have h1 := hm.out.eq; have h2 := SZ1.out; omega)
            have hS1 := below_at' hb hS
            refine hK _ _ (fun _ _ => hS1) ?_
            clear hK hS hb hm L1 R91 SZ1 HU11
            have hS := hS1
            clear hS1
            refine till_one 4 rfl (by kernel_rfl) fun K hK => ?_
            simp only [List.getElem_toArray, List.getElem_cons_succ, List.getElem_cons_zero]
            rw [if_pos (by rfl)]
            go_simp
            refine (more10v HU15.out HU.out HV2.out.1 HV2.out.2 _).mono ?_
            rintro e wt6 ⟨tsa, tsb, tsc, tsd, hu2, rfl, hb⟩
            have L6 := Lib.hid (L5.out.later hb)
            have R96 := Lib.hid (below_at' hb R95.out)
            have SZ6 := Lib.hid (Nat.le_trans SZ5.out hb.size)
            have HU16 := Lib.hid (HU15.out)
            have HO6 := Lib.hid (below_at' hb HO5.out)
            have WO6 := Lib.hid (WO5.out)
            have HRE6 := Lib.hid hu2
            clear hu2
            have hS1 := below_at' hb hS
            refine hK _ _ (fun _ _ => hS1) ?_
            clear hK hS hb L5 R95 SZ5 HU15 HO5 WO5
            have hS := hS1
            clear hS1
            refine till_take 5 (some 28) rfl rfl (by kernel_rfl) (by kernel_rfl) (by kernel_rfl) (by kernel_rfl) (by kernel_rfl) (by kernel_rfl) (fun _ _ _ h => h) (.inl ⟨by rfl, fun w' _ => (by go_simp; rfl)⟩) hS ?_
            go_frame
            refine till_take 6 (some 34) rfl rfl (by kernel_rfl) (by kernel_rfl) (by kernel_rfl) (by kernel_rfl) (by kernel_rfl) (by kernel_rfl) (fun _ _ _ h => h) (.inl ⟨by rfl, fun w' _ => (by go_simp; rfl)⟩) hS ?_
            go_frame
            refine till_take 7 (some 35) rfl rfl (by kernel_rfl) (by kernel_rfl) (by kernel_rfl) (by kernel_rfl) (by kernel_rfl) (by kernel_rfl) (fun _ _ _ h => h) (.inl ⟨by rfl, fun w' _ => (by go_simp; rfl)⟩) hS ?_
            go_frame
            refine till_one 9 rfl (by kernel_rfl) fun K hK => ?_
            simp only [List.getElem_toArray, List.getElem_cons_succ, List.getElem_cons_zero]
            rw [if_pos (by rfl)]
            refine wp_store_row_g (t := 24) (old := u0) 24 _ _ rfl O5 #[.int .u64 tsa, .int .u64 tsb, .int .u64 tsc, .int .u64 tsd] rfl rfl HO6.out Tryz.sizeU rfl (one_u64 _ _ _ _) ?_
            intro wt7 hx8 k8 z8
            have HV7 := Lib.hid hx8
            have SZ7 := Lib.hid (Nat.le_trans SZ6.out (Nat.le_of_eq z8.symm))
            have hS1 := k8.at hS (fun e => by have h1 := HXB.out; have h2 := WO6.out; have h3 : X = O5 := e; have h4 := HSB.out; omega)
            have L7 := Lib.hid (nliv_u L6.out HO6.out k8 (by have h1 := HW1.out; have h2 := WO6.out; have h4 := HSB.out; omega) u_nobool)
            have R97 := Lib.hid (k8.at R96.out (fun e => by have h1 := HOB.out; have h2 := WO6.out; have h3 : O1 = O5 := e; omega))
            refine hK _ _ (fun _ _ => hS1) ?_
            clear hK hS hx8 k8 z8 L6 HO6 SZ6 R96
            have hS := hS1
            clear hS1
            refine till_take 10 (some 10) rfl rfl (by kernel_rfl) (by kernel_rfl) (by kernel_rfl) (by kernel_rfl) (by kernel_rfl) (by kernel_rfl) (fun _ _ _ h => h) (.inl ⟨by rfl, fun w' _ => (by go_simp; rfl)⟩) hS ?_
            go_frame
            refine till_done (by kernel_rfl) ?_ _
            have HO2 := HV7; have L3 := L7; have HRB := HRE6; have HO1 := R97
            clear hS
            by_cases g3 : n2 + m < uHalf
            · have hr : r2 = 0 := by rw [HV2.out.2, if_pos g3]
              have HX2E : Hid (x2 = n2 + m) := Lib.hid (by rw [HV2.out.1, if_pos g3])
              have HEV : Hid (moveE (f0) k q m = 0) := Lib.hid (by rw [HE.out, if_neg (fun h => h HG.out.1), if_neg HG.out.2, if_pos g3])
              subst hr
              clear g3
              go_wp2_with (refine wpList_load_row rfl 24 _ rfl O1 rfl 24 _ _ _ HO1.out Tryz.underlying24 rfl Tryz.sizeU ?_)
              refine (L3.out.call fun h => csetAmount_not h k HRA.out).mono ?_
              rintro e w8 ⟨rfl, L4, ho⟩
              have L4 := Lib.hid L4; have HO2' := Lib.hid (below_at' ho HO2.out)
              clear ho L3 HO1 HO2
              go_wp2_with (refine wpList_load_row rfl 24 _ rfl O5 rfl 24 _ _ _ HO2'.out Tryz.underlying24 rfl Tryz.sizeU ?_)
              refine (L4.out.call fun h => csetAmount_not h q HRB.out).mono ?_
              rintro e w9 ⟨rfl, L5, _⟩
              have L5 := Lib.hid L5
              go_wp2_with fail
              go_ret
              rw [HEV.out]; exact L5.out.ret
            · have hr : r2 = 6 := by rw [HV2.out.2, if_neg g3]
              have HEV : Hid (moveE (f0) k q m = 6) := Lib.hid (by rw [HE.out, if_neg (fun h => h HG.out.1), if_neg HG.out.2, if_neg g3])
              subst hr
              clear g3
              go_wp2_with fail
              go_ret
              rw [HEV.out]; exact L3.out.ret
        · simp only [List.getElem_toArray, List.getElem_cons_succ, List.getElem_cons_zero]
          rw [if_pos (by rfl)]
          refine wp_alloc_g 24 rfl _ _ Tryz.zeroUz rfl ?_
          intro O8 wt8 hm
          have hb := hm.out.below
          have L8 := Lib.hid (L0.out.later hb)
          have R98 := Lib.hid (below_at' hb R90.out)
          have SZ8 := Lib.hid (Nat.le_trans SZ0.out hb.size)
          have HO8 := Lib.hid hm.out.cells
          have WO8 : Hid (wz.heap.size ≤ O8) := Lib.hid (by have h1 := hm.out.eq; have h2 := SZ0.out; omega)
          have hS1 := below_at' hb hS
          refine hK _ _ (fun _ _ => hS1) ?_
          clear hK hS hb hm L0 R90 SZ0
          have hS := hS1
          clear hS1
          refine till_one 2 rfl (by kernel_rfl) fun K hK => ?_
          simp only [List.getElem_toArray, List.getElem_cons_succ, List.getElem_cons_zero]
          rw [if_pos (by rfl)]
          go_simp
          refine (camount_any (f := f0) (Look.of_not L8.out.1) f0_fit q).mono ?_
          rintro e wt9 ⟨ta1, tb1, tc1, td1, hu1, rfl, hb⟩
          have L9 := Lib.hid (L8.out.later hb)
          have R99 := Lib.hid (below_at' hb R98.out)
          have SZ9 := Lib.hid (Nat.le_trans SZ8.out hb.size)
          have HO9 := Lib.hid (below_at' hb HO8.out)
          have WO9 := Lib.hid (WO8.out)
          rw [← HN.out.2] at hu1
          have HU19 := Lib.hid hu1
          clear hu1
          have hS1 := below_at' hb hS
          refine hK _ _ (fun _ _ => hS1) ?_
          clear hK hS hb L8 R98 SZ8 HO8 WO8
          have hS := hS1
          clear hS1
          refine till_one 4 rfl (by kernel_rfl) fun K hK => ?_
          simp only [List.getElem_toArray, List.getElem_cons_succ, List.getElem_cons_zero]
          rw [if_pos (by rfl)]
          go_simp
          refine (more10v HU19.out HU.out HV2.out.1 HV2.out.2 _).mono ?_
          rintro e wt10 ⟨tsa, tsb, tsc, tsd, hu2, rfl, hb⟩
          have L10 := Lib.hid (L9.out.later hb)
          have R910 := Lib.hid (below_at' hb R99.out)
          have SZ10 := Lib.hid (Nat.le_trans SZ9.out hb.size)
          have HO10 := Lib.hid (below_at' hb HO9.out)
          have WO10 := Lib.hid (WO9.out)
          have HU110 := Lib.hid (HU19.out)
          have HRE10 := Lib.hid hu2
          clear hu2
          have hS1 := below_at' hb hS
          refine hK _ _ (fun _ _ => hS1) ?_
          clear hK hS hb L9 R99 SZ9 HO9 WO9 HU19
          have hS := hS1
          clear hS1
          refine till_take 5 (some 28) rfl rfl (by kernel_rfl) (by kernel_rfl) (by kernel_rfl) (by kernel_rfl) (by kernel_rfl) (by kernel_rfl) (fun _ _ _ h => h) (.inl ⟨by rfl, fun w' _ => (by go_simp; rfl)⟩) hS ?_
          go_frame
          refine till_take 6 (some 34) rfl rfl (by kernel_rfl) (by kernel_rfl) (by kernel_rfl) (by kernel_rfl) (by kernel_rfl) (by kernel_rfl) (fun _ _ _ h => h) (.inl ⟨by rfl, fun w' _ => (by go_simp; rfl)⟩) hS ?_
          go_frame
          refine till_take 7 (some 35) rfl rfl (by kernel_rfl) (by kernel_rfl) (by kernel_rfl) (by kernel_rfl) (by kernel_rfl) (by kernel_rfl) (fun _ _ _ h => h) (.inl ⟨by rfl, fun w' _ => (by go_simp; rfl)⟩) hS ?_
          go_frame
          refine till_one 9 rfl (by kernel_rfl) fun K hK => ?_
          simp only [List.getElem_toArray, List.getElem_cons_succ, List.getElem_cons_zero]
          rw [if_pos (by rfl)]
          refine wp_store_row_g (t := 24) (old := u0) 24 _ _ rfl O8 #[.int .u64 tsa, .int .u64 tsb, .int .u64 tsc, .int .u64 tsd] rfl rfl HO10.out Tryz.sizeU rfl (one_u64 _ _ _ _) ?_
          intro wt11 hx8 k8 z8
          have HV11 := Lib.hid hx8
          have SZ11 := Lib.hid (Nat.le_trans SZ10.out (Nat.le_of_eq z8.symm))
          have hS1 := k8.at hS (fun e => by have h1 := HXB.out; have h2 := WO10.out; have h3 : X = O8 := e; have h4 := HSB.out; omega)
          have L11 := Lib.hid (nliv_u L10.out HO10.out k8 (by have h1 := HW1.out; have h2 := WO10.out; have h4 := HSB.out; omega) u_nobool)
          have R911 := Lib.hid (k8.at R910.out (fun e => by have h1 := HOB.out; have h2 := WO10.out; have h3 : O1 = O8 := e; omega))
          refine hK _ _ (fun _ _ => hS1) ?_
          clear hK hS hx8 k8 z8 L10 HO10 SZ10 R910
          have hS := hS1
          clear hS1
          refine till_take 10 (some 10) rfl rfl (by kernel_rfl) (by kernel_rfl) (by kernel_rfl) (by kernel_rfl) (by kernel_rfl) (by kernel_rfl) (fun _ _ _ h => h) (.inl ⟨by rfl, fun w' _ => (by go_simp; rfl)⟩) hS ?_
          go_frame
          refine till_done (by kernel_rfl) ?_ _
          have HO2 := HV11; have L3 := L11; have HRB := HRE10; have HO1 := R911
          clear hS
          by_cases g3 : n2 + m < uHalf
          · have hr : r2 = 0 := by rw [HV2.out.2, if_pos g3]
            have HX2E : Hid (x2 = n2 + m) := Lib.hid (by rw [HV2.out.1, if_pos g3])
            have HEV : Hid (moveE (f0) k q m = 0) := Lib.hid (by rw [HE.out, if_neg (fun h => h HG.out.1), if_neg HG.out.2, if_pos g3])
            subst hr
            clear g3
            go_wp2_with (refine wpList_load_row rfl 24 _ rfl O1 rfl 24 _ _ _ HO1.out Tryz.underlying24 rfl Tryz.sizeU ?_)
            refine (L3.out.call fun h => csetAmount_not h k HRA.out).mono ?_
            rintro e w8 ⟨rfl, L4, ho⟩
            have L4 := Lib.hid L4; have HO2' := Lib.hid (below_at' ho HO2.out)
            clear ho L3 HO1 HO2
            go_wp2_with (refine wpList_load_row rfl 24 _ rfl O8 rfl 24 _ _ _ HO2'.out Tryz.underlying24 rfl Tryz.sizeU ?_)
            refine (L4.out.call fun h => csetAmount_not h q HRB.out).mono ?_
            rintro e w9 ⟨rfl, L5, _⟩
            have L5 := Lib.hid L5
            go_wp2_with fail
            go_ret
            rw [HEV.out]; exact L5.out.ret
          · have hr : r2 = 6 := by rw [HV2.out.2, if_neg g3]
            have HEV : Hid (moveE (f0) k q m = 6) := Lib.hid (by rw [HE.out, if_neg (fun h => h HG.out.1), if_neg HG.out.2, if_neg g3])
            subst hr
            clear g3
            go_wp2_with fail
            go_ret
            rw [HEV.out]; exact L3.out.ret
      · have hr : r1 = 13 := by rw [HV1.out.2, if_neg g1]
        have HEV : Hid (moveE (f0) k q m = 13) := Lib.hid (by rw [HE.out, if_pos g1])
        subst hr
        clear g1
        go_wp2_with fail
        go_ret
        rw [HEV.out]; exact L2.out.ret
    · simp only [List.getElem_toArray, List.getElem_cons_succ, List.getElem_cons_zero]
      rw [if_pos (by rfl)]
      refine wp_alloc_g 24 rfl _ _ Tryz.zeroUz rfl ?_
      intro O5 wt5 hm
      have hb := hm.out.below
      have L5 := Lib.hid (L1.out.later hb)
      have SZ5 := Lib.hid (Nat.le_trans SZ1.out hb.size)
      have HU15 := Lib.hid (HU11.out)
      have HO5 := Lib.hid hm.out.cells
      have WO5 : Hid (wz.heap.size ≤ O5) := Lib.hid (by have h1 := hm.out.eq; have h2 := SZ1.out; omega)
      have hS1 := below_at' hb hS
      refine hK _ _ (fun _ _ => hS1) ?_
      clear hK hS hb hm L1 SZ1 HU11
      have hS := hS1
      clear hS1
      refine till_one 4 rfl (by kernel_rfl) fun K hK => ?_
      simp only [List.getElem_toArray, List.getElem_cons_succ, List.getElem_cons_zero]
      rw [if_pos (by rfl)]
      go_simp
      refine (less10v HU15.out HU.out HV1.out.1 HV1.out.2 _).mono ?_
      rintro e wt6 ⟨sa, sb, sc, sd, hu2, rfl, hb⟩
      have L6 := Lib.hid (L5.out.later hb)
      have SZ6 := Lib.hid (Nat.le_trans SZ5.out hb.size)
      have HU16 := Lib.hid (HU15.out)
      have HO6 := Lib.hid (below_at' hb HO5.out)
      have WO6 := Lib.hid (WO5.out)
      have HRE6 := Lib.hid hu2
      clear hu2
      have hS1 := below_at' hb hS
      refine hK _ _ (fun _ _ => hS1) ?_
      clear hK hS hb L5 SZ5 HU15 HO5 WO5
      have hS := hS1
      clear hS1
      refine till_take 5 (some 12) rfl rfl (by kernel_rfl) (by kernel_rfl) (by kernel_rfl) (by kernel_rfl) (by kernel_rfl) (by kernel_rfl) (fun _ _ _ h => h) (.inl ⟨by rfl, fun w' _ => (by go_simp; rfl)⟩) hS ?_
      go_frame
      refine till_take 6 (some 18) rfl rfl (by kernel_rfl) (by kernel_rfl) (by kernel_rfl) (by kernel_rfl) (by kernel_rfl) (by kernel_rfl) (fun _ _ _ h => h) (.inl ⟨by rfl, fun w' _ => (by go_simp; rfl)⟩) hS ?_
      go_frame
      refine till_take 7 (some 19) rfl rfl (by kernel_rfl) (by kernel_rfl) (by kernel_rfl) (by kernel_rfl) (by kernel_rfl) (by kernel_rfl) (fun _ _ _ h => h) (.inl ⟨by rfl, fun w' _ => (by go_simp; rfl)⟩) hS ?_
      go_frame
      refine till_one 9 rfl (by kernel_rfl) fun K hK => ?_
      simp only [List.getElem_toArray, List.getElem_cons_succ, List.getElem_cons_zero]
      rw [if_pos (by rfl)]
      refine wp_store_row_g (t := 24) (old := u0) 24 _ _ rfl O5 #[.int .u64 sa, .int .u64 sb, .int .u64 sc, .int .u64 sd] rfl rfl HO6.out Tryz.sizeU rfl (one_u64 _ _ _ _) ?_
      intro wt7 hx8 k8 z8
      have HV7 := Lib.hid hx8
      have SZ7 := Lib.hid (Nat.le_trans SZ6.out (Nat.le_of_eq z8.symm))
      have hS1 := k8.at hS (fun e => by have h1 := HXB.out; have h2 := WO6.out; have h3 : X = O5 := e; have h4 := HSB.out; omega)
      have L7 := Lib.hid (nliv_u L6.out HO6.out k8 (by have h1 := HW1.out; have h2 := WO6.out; have h4 := HSB.out; omega) u_nobool)
      refine hK _ _ (fun _ _ => hS1) ?_
      clear hK hS hx8 k8 z8 L6 HO6 SZ6
      have hS := hS1
      clear hS1
      refine till_take 10 (some 10) rfl rfl (by kernel_rfl) (by kernel_rfl) (by kernel_rfl) (by kernel_rfl) (by kernel_rfl) (by kernel_rfl) (fun _ _ _ h => h) (.inl ⟨by rfl, fun w' _ => (by go_simp; rfl)⟩) hS ?_
      go_frame
      refine till_done (by kernel_rfl) ?_ _
      obtain ⟨O1, hO1⟩ : ∃ o, o = O5 := ⟨_, rfl⟩
      rw [← hO1]
      have HO1 := HV7; have L2 := L7; have HX2 := Lib.hid hS; have HRA := HRE6
      rw [← hO1] at HO1
      clear hO1 HV7 L7 HRE6 hS
      obtain ⟨wy, hwy⟩ : ∃ wy, wy = wt7 := ⟨_, rfl⟩
      rw [← hwy] at HO1 L2 HX2 ⊢
      have HW2 : Hid (w1.heap.size ≤ wy.heap.size) := Lib.hid (by rw [hwy]; exact Nat.le_trans HWZ.out SZ7.out)
      clear hwy
      by_cases g1 : m ≤ n1
      · have hr : r1 = 0 := by rw [HV1.out.2, if_pos g1]
        have HX1E : Hid (x1 = n1 - m) := Lib.hid (by rw [HV1.out.1, if_pos g1])
        subst hr
        by_cases g2 : k = q
        · have HEV : Hid (moveE (f0) k q m = 0) := Lib.hid (by rw [HE.out, if_neg (fun h => h g1), if_pos g2])
          have hst : ((bs k).toList == (bs q).toList) = true := by rw [eq_txt, decide_eq_true g2]
          have hst2 : (bs k).toList = (bs q).toList := by rw [g2]
          clear g1 g2
          go_wp2_with fail
          go_ret
          rw [HEV.out]; exact L2.out.ret
        have hst : ((bs k).toList == (bs q).toList) = false := by rw [eq_txt, decide_eq_false g2]
        have hst2 : ¬ (bs k).toList = (bs q).toList := by rw [toList_bs, toList_bs]; exact g2
        have HG := Lib.hid (And.intro g1 g2)
        clear g1 g2
        obtain ⟨x2, hx2⟩ : ∃ v, v = if n2 + m < uHalf then n2 + m else 0 := ⟨_, rfl⟩
        obtain ⟨r2, hr2⟩ : ∃ v : Int, v = if n2 + m < uHalf then 0 else 6 := ⟨_, rfl⟩
        have HV2 := Lib.hid (And.intro hx2 hr2)
        obtain ⟨wz, hwz⟩ : ∃ wz, wz = wy.drew := ⟨_, rfl⟩
        have hbz : Below wy.heap.size wy wz := by rw [hwz]; exact (Below.refl _ _).drew
        have L0 := Lib.hid (L2.out.later hbz); have hS : wz.heap[X]? = some (.cells #[.int .u64 a, .int .u64 b, .int .u64 c, .int .u64 d] 24 (0, 0)) := below_at' hbz HX2.out
        have R90 := Lib.hid (below_at' hbz HO1.out)
        have HSB : Hid (w1.heap.size ≤ wz.heap.size) := Lib.hid (Nat.le_trans HW2.out hbz.size)
        have HOB : Hid (O1 < wz.heap.size) := Lib.hid (Nat.lt_of_lt_of_le (heap_lt HO1.out) hbz.size)
        have SZ0 : Hid (wz.heap.size ≤ wz.heap.size) := Lib.hid (Nat.le_refl _)
        clear hbz L2 HX2 HO1 hx2 hr2
        go_wp2_with fail
        clear hst hst2
        refine wp_region_till (fun w' => w'.heap[X]? = some (.cells #[.int .u64 a, .int .u64 b, .int .u64 c, .int .u64 d] 24 (0, 0))) 11 11 (by kernel_rfl) rfl ?_
        rw [← hwz]
        clear hwz
        refine till_take 0 (some 29) rfl rfl (by kernel_rfl) (by kernel_rfl) (by kernel_rfl) (by kernel_rfl) (by kernel_rfl) (by kernel_rfl) (fun _ _ _ h => h) (.inl ⟨by rfl, fun w' _ => (by go_simp; rfl)⟩) hS ?_
        go_frame
        refine till_take 1 (some 30) rfl rfl (by kernel_rfl) (by kernel_rfl) (by kernel_rfl) (by kernel_rfl) (by kernel_rfl) (by kernel_rfl) (fun _ _ _ h => h) (.inl ⟨by rfl, fun w' _ => (by go_simp; rfl)⟩) hS ?_
        go_frame
        refine till_take 3 (some 32) rfl rfl (by kernel_rfl) (by kernel_rfl) (by kernel_rfl) (by kernel_rfl) (by kernel_rfl) (by kernel_rfl) (fun _ _ _ h => h) (yields_load (by rfl) 24 _ rfl (.pointer (some ⟨X, 0, none⟩)) rfl (.agg #[.int .u64 a, .int .u64 b, .int .u64 c, .int .u64 d]) (fun w' hS' => load_heap hS' Tryz.underlying24 rfl Tryz.sizeU)) hS ?_
        go_frame
        refine till_two 2 8 rfl rfl (by kernel_rfl) (fun K hK => ?_) (fun K hK => ?_)
        · simp only [List.getElem_toArray, List.getElem_cons_succ, List.getElem_cons_zero]
          rw [if_pos (by rfl)]
          go_simp
          refine (camount_any (f := f0) (Look.of_not L0.out.1) f0_fit q).mono ?_
          rintro e wt1 ⟨ta1, tb1, tc1, td1, hu1, rfl, hb⟩
          have L1 := Lib.hid (L0.out.later hb)
          have R91 := Lib.hid (below_at' hb R90.out)
          have SZ1 := Lib.hid (Nat.le_trans SZ0.out hb.size)
          rw [← HN.out.2] at hu1
          have HU11 := Lib.hid hu1
          clear hu1
          have hS1 := below_at' hb hS
          refine hK _ _ (fun _ _ => hS1) ?_
          clear hK hS hb L0 R90 SZ0
          have hS := hS1
          clear hS1
          refine till_two 4 8 rfl rfl (by kernel_rfl) (fun K hK => ?_) (fun K hK => ?_)
          · simp only [List.getElem_toArray, List.getElem_cons_succ, List.getElem_cons_zero]
            rw [if_pos (by rfl)]
            go_simp
            refine (more10v HU11.out HU.out HV2.out.1 HV2.out.2 _).mono ?_
            rintro e wt2 ⟨tsa, tsb, tsc, tsd, hu2, rfl, hb⟩
            have L2 := Lib.hid (L1.out.later hb)
            have R92 := Lib.hid (below_at' hb R91.out)
            have SZ2 := Lib.hid (Nat.le_trans SZ1.out hb.size)
            have HU12 := Lib.hid (HU11.out)
            have HRE2 := Lib.hid hu2
            clear hu2
            have hS1 := below_at' hb hS
            refine hK _ _ (fun _ _ => hS1) ?_
            clear hK hS hb L1 R91 SZ1 HU11
            have hS := hS1
            clear hS1
            refine till_take 5 (some 28) rfl rfl (by kernel_rfl) (by kernel_rfl) (by kernel_rfl) (by kernel_rfl) (by kernel_rfl) (by kernel_rfl) (fun _ _ _ h => h) (.inl ⟨by rfl, fun w' _ => (by go_simp; rfl)⟩) hS ?_
            go_frame
            refine till_take 6 (some 34) rfl rfl (by kernel_rfl) (by kernel_rfl) (by kernel_rfl) (by kernel_rfl) (by kernel_rfl) (by kernel_rfl) (fun _ _ _ h => h) (.inl ⟨by rfl, fun w' _ => (by go_simp; rfl)⟩) hS ?_
            go_frame
            refine till_take 7 (some 35) rfl rfl (by kernel_rfl) (by kernel_rfl) (by kernel_rfl) (by kernel_rfl) (by kernel_rfl) (by kernel_rfl) (fun _ _ _ h => h) (.inl ⟨by rfl, fun w' _ => (by go_simp; rfl)⟩) hS ?_
            go_frame
            refine till_one 8 rfl (by kernel_rfl) fun K hK => ?_
            simp only [List.getElem_toArray, List.getElem_cons_succ, List.getElem_cons_zero]
            rw [if_pos (by rfl)]
            refine wp_alloc_g 24 rfl _ _ Tryz.zeroUz rfl ?_
            intro O3 wt3 hm
            have hb := hm.out.below
            have L3 := Lib.hid (L2.out.later hb)
            have R93 := Lib.hid (below_at' hb R92.out)
            have SZ3 := Lib.hid (Nat.le_trans SZ2.out hb.size)
            have HU13 := Lib.hid (HU12.out)
            have HRE3 := Lib.hid (HRE2.out)
            have HO3 := Lib.hid hm.out.cells
            have WO3 : Hid (wz.heap.size ≤ O3) := Lib.hid (by have h1 := hm.out.eq; have h2 := SZ2.out; omega)
            have hS1 := below_at' hb hS
            refine hK _ _ (fun _ _ => hS1) ?_
            clear hK hS hb hm L2 R92 SZ2 HU12 HRE2
            have hS := hS1
            clear hS1
            refine till_one 9 rfl (by kernel_rfl) fun K hK => ?_
            simp only [List.getElem_toArray, List.getElem_cons_succ, List.getElem_cons_zero]
            rw [if_pos (by rfl)]
            refine wp_store_row_g (t := 24) (old := u0) 24 _ _ rfl O3 #[.int .u64 tsa, .int .u64 tsb, .int .u64 tsc, .int .u64 tsd] rfl rfl HO3.out Tryz.sizeU rfl (one_u64 _ _ _ _) ?_
            intro wt4 hx8 k8 z8
            have HV4 := Lib.hid hx8
            have SZ4 := Lib.hid (Nat.le_trans SZ3.out (Nat.le_of_eq z8.symm))
            have hS1 := k8.at hS (fun e => by have h1 := HXB.out; have h2 := WO3.out; have h3 : X = O3 := e; have h4 := HSB.out; omega)
            have L4 := Lib.hid (nliv_u L3.out HO3.out k8 (by have h1 := HW1.out; have h2 := WO3.out; have h4 := HSB.out; omega) u_nobool)
            have R94 := Lib.hid (k8.at R93.out (fun e => by have h1 := HOB.out; have h2 := WO3.out; have h3 : O1 = O3 := e; omega))
            refine hK _ _ (fun _ _ => hS1) ?_
            clear hK hS hx8 k8 z8 L3 HO3 SZ3 R93
            have hS := hS1
            clear hS1
            refine till_take 10 (some 10) rfl rfl (by kernel_rfl) (by kernel_rfl) (by kernel_rfl) (by kernel_rfl) (by kernel_rfl) (by kernel_rfl) (fun _ _ _ h => h) (.inl ⟨by rfl, fun w' _ => (by go_simp; rfl)⟩) hS ?_
            go_frame
            refine till_done (by kernel_rfl) ?_ _
            have HO2 := HV4; have L3 := L4; have HRB := HRE3; have HO1 := R94
            clear hS
            by_cases g3 : n2 + m < uHalf
            · have hr : r2 = 0 := by rw [HV2.out.2, if_pos g3]
              have HX2E : Hid (x2 = n2 + m) := Lib.hid (by rw [HV2.out.1, if_pos g3])
              have HEV : Hid (moveE (f0) k q m = 0) := Lib.hid (by rw [HE.out, if_neg (fun h => h HG.out.1), if_neg HG.out.2, if_pos g3])
              subst hr
              clear g3
              go_wp2_with (refine wpList_load_row rfl 24 _ rfl O1 rfl 24 _ _ _ HO1.out Tryz.underlying24 rfl Tryz.sizeU ?_)
              refine (L3.out.call fun h => csetAmount_not h k HRA.out).mono ?_
              rintro e w8 ⟨rfl, L4, ho⟩
              have L4 := Lib.hid L4; have HO2' := Lib.hid (below_at' ho HO2.out)
              clear ho L3 HO1 HO2
              go_wp2_with (refine wpList_load_row rfl 24 _ rfl O3 rfl 24 _ _ _ HO2'.out Tryz.underlying24 rfl Tryz.sizeU ?_)
              refine (L4.out.call fun h => csetAmount_not h q HRB.out).mono ?_
              rintro e w9 ⟨rfl, L5, _⟩
              have L5 := Lib.hid L5
              go_wp2_with fail
              go_ret
              rw [HEV.out]; exact L5.out.ret
            · have hr : r2 = 6 := by rw [HV2.out.2, if_neg g3]
              have HEV : Hid (moveE (f0) k q m = 6) := Lib.hid (by rw [HE.out, if_neg (fun h => h HG.out.1), if_neg HG.out.2, if_neg g3])
              subst hr
              clear g3
              go_wp2_with fail
              go_ret
              rw [HEV.out]; exact L3.out.ret
          · simp only [List.getElem_toArray, List.getElem_cons_succ, List.getElem_cons_zero]
            rw [if_pos (by rfl)]
            refine wp_alloc_g 24 rfl _ _ Tryz.zeroUz rfl ?_
            intro O5 wt5 hm
            have hb := hm.out.below
            have L5 := Lib.hid (L1.out.later hb)
            have R95 := Lib.hid (below_at' hb R91.out)
            have SZ5 := Lib.hid (Nat.le_trans SZ1.out hb.size)
            have HU15 := Lib.hid (HU11.out)
            have HO5 := Lib.hid hm.out.cells
            have WO5 : Hid (wz.heap.size ≤ O5) := Lib.hid (by have h1 := hm.out.eq; have h2 := SZ1.out; omega)
            have hS1 := below_at' hb hS
            refine hK _ _ (fun _ _ => hS1) ?_
            clear hK hS hb hm L1 R91 SZ1 HU11
            have hS := hS1
            clear hS1
            refine till_one 4 rfl (by kernel_rfl) fun K hK => ?_
            simp only [List.getElem_toArray, List.getElem_cons_succ, List.getElem_cons_zero]
            rw [if_pos (by rfl)]
            go_simp
            refine (more10v HU15.out HU.out HV2.out.1 HV2.out.2 _).mono ?_
            rintro e wt6 ⟨tsa, tsb, tsc, tsd, hu2, rfl, hb⟩
            have L6 := Lib.hid (L5.out.later hb)
            have R96 := Lib.hid (below_at' hb R95.out)
            have SZ6 := Lib.hid (Nat.le_trans SZ5.out hb.size)
            have HU16 := Lib.hid (HU15.out)
            have HO6 := Lib.hid (below_at' hb HO5.out)
            have WO6 := Lib.hid (WO5.out)
            have HRE6 := Lib.hid hu2
            clear hu2
            have hS1 := below_at' hb hS
            refine hK _ _ (fun _ _ => hS1) ?_
            clear hK hS hb L5 R95 SZ5 HU15 HO5 WO5
            have hS := hS1
            clear hS1
            refine till_take 5 (some 28) rfl rfl (by kernel_rfl) (by kernel_rfl) (by kernel_rfl) (by kernel_rfl) (by kernel_rfl) (by kernel_rfl) (fun _ _ _ h => h) (.inl ⟨by rfl, fun w' _ => (by go_simp; rfl)⟩) hS ?_
            go_frame
            refine till_take 6 (some 34) rfl rfl (by kernel_rfl) (by kernel_rfl) (by kernel_rfl) (by kernel_rfl) (by kernel_rfl) (by kernel_rfl) (fun _ _ _ h => h) (.inl ⟨by rfl, fun w' _ => (by go_simp; rfl)⟩) hS ?_
            go_frame
            refine till_take 7 (some 35) rfl rfl (by kernel_rfl) (by kernel_rfl) (by kernel_rfl) (by kernel_rfl) (by kernel_rfl) (by kernel_rfl) (fun _ _ _ h => h) (.inl ⟨by rfl, fun w' _ => (by go_simp; rfl)⟩) hS ?_
            go_frame
            refine till_one 9 rfl (by kernel_rfl) fun K hK => ?_
            simp only [List.getElem_toArray, List.getElem_cons_succ, List.getElem_cons_zero]
            rw [if_pos (by rfl)]
            refine wp_store_row_g (t := 24) (old := u0) 24 _ _ rfl O5 #[.int .u64 tsa, .int .u64 tsb, .int .u64 tsc, .int .u64 tsd] rfl rfl HO6.out Tryz.sizeU rfl (one_u64 _ _ _ _) ?_
            intro wt7 hx8 k8 z8
            have HV7 := Lib.hid hx8
            have SZ7 := Lib.hid (Nat.le_trans SZ6.out (Nat.le_of_eq z8.symm))
            have hS1 := k8.at hS (fun e => by have h1 := HXB.out; have h2 := WO6.out; have h3 : X = O5 := e; have h4 := HSB.out; omega)
            have L7 := Lib.hid (nliv_u L6.out HO6.out k8 (by have h1 := HW1.out; have h2 := WO6.out; have h4 := HSB.out; omega) u_nobool)
            have R97 := Lib.hid (k8.at R96.out (fun e => by have h1 := HOB.out; have h2 := WO6.out; have h3 : O1 = O5 := e; omega))
            refine hK _ _ (fun _ _ => hS1) ?_
            clear hK hS hx8 k8 z8 L6 HO6 SZ6 R96
            have hS := hS1
            clear hS1
            refine till_take 10 (some 10) rfl rfl (by kernel_rfl) (by kernel_rfl) (by kernel_rfl) (by kernel_rfl) (by kernel_rfl) (by kernel_rfl) (fun _ _ _ h => h) (.inl ⟨by rfl, fun w' _ => (by go_simp; rfl)⟩) hS ?_
            go_frame
            refine till_done (by kernel_rfl) ?_ _
            have HO2 := HV7; have L3 := L7; have HRB := HRE6; have HO1 := R97
            clear hS
            by_cases g3 : n2 + m < uHalf
            · have hr : r2 = 0 := by rw [HV2.out.2, if_pos g3]
              have HX2E : Hid (x2 = n2 + m) := Lib.hid (by rw [HV2.out.1, if_pos g3])
              have HEV : Hid (moveE (f0) k q m = 0) := Lib.hid (by rw [HE.out, if_neg (fun h => h HG.out.1), if_neg HG.out.2, if_pos g3])
              subst hr
              clear g3
              go_wp2_with (refine wpList_load_row rfl 24 _ rfl O1 rfl 24 _ _ _ HO1.out Tryz.underlying24 rfl Tryz.sizeU ?_)
              refine (L3.out.call fun h => csetAmount_not h k HRA.out).mono ?_
              rintro e w8 ⟨rfl, L4, ho⟩
              have L4 := Lib.hid L4; have HO2' := Lib.hid (below_at' ho HO2.out)
              clear ho L3 HO1 HO2
              go_wp2_with (refine wpList_load_row rfl 24 _ rfl O5 rfl 24 _ _ _ HO2'.out Tryz.underlying24 rfl Tryz.sizeU ?_)
              refine (L4.out.call fun h => csetAmount_not h q HRB.out).mono ?_
              rintro e w9 ⟨rfl, L5, _⟩
              have L5 := Lib.hid L5
              go_wp2_with fail
              go_ret
              rw [HEV.out]; exact L5.out.ret
            · have hr : r2 = 6 := by rw [HV2.out.2, if_neg g3]
              have HEV : Hid (moveE (f0) k q m = 6) := Lib.hid (by rw [HE.out, if_neg (fun h => h HG.out.1), if_neg HG.out.2, if_neg g3])
              subst hr
              clear g3
              go_wp2_with fail
              go_ret
              rw [HEV.out]; exact L3.out.ret
        · simp only [List.getElem_toArray, List.getElem_cons_succ, List.getElem_cons_zero]
          rw [if_pos (by rfl)]
          refine wp_alloc_g 24 rfl _ _ Tryz.zeroUz rfl ?_
          intro O8 wt8 hm
          have hb := hm.out.below
          have L8 := Lib.hid (L0.out.later hb)
          have R98 := Lib.hid (below_at' hb R90.out)
          have SZ8 := Lib.hid (Nat.le_trans SZ0.out hb.size)
          have HO8 := Lib.hid hm.out.cells
          have WO8 : Hid (wz.heap.size ≤ O8) := Lib.hid (by have h1 := hm.out.eq; have h2 := SZ0.out; omega)
          have hS1 := below_at' hb hS
          refine hK _ _ (fun _ _ => hS1) ?_
          clear hK hS hb hm L0 R90 SZ0
          have hS := hS1
          clear hS1
          refine till_one 2 rfl (by kernel_rfl) fun K hK => ?_
          simp only [List.getElem_toArray, List.getElem_cons_succ, List.getElem_cons_zero]
          rw [if_pos (by rfl)]
          go_simp
          refine (camount_any (f := f0) (Look.of_not L8.out.1) f0_fit q).mono ?_
          rintro e wt9 ⟨ta1, tb1, tc1, td1, hu1, rfl, hb⟩
          have L9 := Lib.hid (L8.out.later hb)
          have R99 := Lib.hid (below_at' hb R98.out)
          have SZ9 := Lib.hid (Nat.le_trans SZ8.out hb.size)
          have HO9 := Lib.hid (below_at' hb HO8.out)
          have WO9 := Lib.hid (WO8.out)
          rw [← HN.out.2] at hu1
          have HU19 := Lib.hid hu1
          clear hu1
          have hS1 := below_at' hb hS
          refine hK _ _ (fun _ _ => hS1) ?_
          clear hK hS hb L8 R98 SZ8 HO8 WO8
          have hS := hS1
          clear hS1
          refine till_one 4 rfl (by kernel_rfl) fun K hK => ?_
          simp only [List.getElem_toArray, List.getElem_cons_succ, List.getElem_cons_zero]
          rw [if_pos (by rfl)]
          go_simp
          refine (more10v HU19.out HU.out HV2.out.1 HV2.out.2 _).mono ?_
          rintro e wt10 ⟨tsa, tsb, tsc, tsd, hu2, rfl, hb⟩
          have L10 := Lib.hid (L9.out.later hb)
          have R910 := Lib.hid (below_at' hb R99.out)
          have SZ10 := Lib.hid (Nat.le_trans SZ9.out hb.size)
          have HO10 := Lib.hid (below_at' hb HO9.out)
          have WO10 := Lib.hid (WO9.out)
          have HU110 := Lib.hid (HU19.out)
          have HRE10 := Lib.hid hu2
          clear hu2
          have hS1 := below_at' hb hS
          refine hK _ _ (fun _ _ => hS1) ?_
          clear hK hS hb L9 R99 SZ9 HO9 WO9 HU19
          have hS := hS1
          clear hS1
          refine till_take 5 (some 28) rfl rfl (by kernel_rfl) (by kernel_rfl) (by kernel_rfl) (by kernel_rfl) (by kernel_rfl) (by kernel_rfl) (fun _ _ _ h => h) (.inl ⟨by rfl, fun w' _ => (by go_simp; rfl)⟩) hS ?_
          go_frame
          refine till_take 6 (some 34) rfl rfl (by kernel_rfl) (by kernel_rfl) (by kernel_rfl) (by kernel_rfl) (by kernel_rfl) (by kernel_rfl) (fun _ _ _ h => h) (.inl ⟨by rfl, fun w' _ => (by go_simp; rfl)⟩) hS ?_
          go_frame
          refine till_take 7 (some 35) rfl rfl (by kernel_rfl) (by kernel_rfl) (by kernel_rfl) (by kernel_rfl) (by kernel_rfl) (by kernel_rfl) (fun _ _ _ h => h) (.inl ⟨by rfl, fun w' _ => (by go_simp; rfl)⟩) hS ?_
          go_frame
          refine till_one 9 rfl (by kernel_rfl) fun K hK => ?_
          simp only [List.getElem_toArray, List.getElem_cons_succ, List.getElem_cons_zero]
          rw [if_pos (by rfl)]
          refine wp_store_row_g (t := 24) (old := u0) 24 _ _ rfl O8 #[.int .u64 tsa, .int .u64 tsb, .int .u64 tsc, .int .u64 tsd] rfl rfl HO10.out Tryz.sizeU rfl (one_u64 _ _ _ _) ?_
          intro wt11 hx8 k8 z8
          have HV11 := Lib.hid hx8
          have SZ11 := Lib.hid (Nat.le_trans SZ10.out (Nat.le_of_eq z8.symm))
          have hS1 := k8.at hS (fun e => by have h1 := HXB.out; have h2 := WO10.out; have h3 : X = O8 := e; have h4 := HSB.out; omega)
          have L11 := Lib.hid (nliv_u L10.out HO10.out k8 (by have h1 := HW1.out; have h2 := WO10.out; have h4 := HSB.out; omega) u_nobool)
          have R911 := Lib.hid (k8.at R910.out (fun e => by have h1 := HOB.out; have h2 := WO10.out; have h3 : O1 = O8 := e; omega))
          refine hK _ _ (fun _ _ => hS1) ?_
          clear hK hS hx8 k8 z8 L10 HO10 SZ10 R910
          have hS := hS1
          clear hS1
          refine till_take 10 (some 10) rfl rfl (by kernel_rfl) (by kernel_rfl) (by kernel_rfl) (by kernel_rfl) (by kernel_rfl) (by kernel_rfl) (fun _ _ _ h => h) (.inl ⟨by rfl, fun w' _ => (by go_simp; rfl)⟩) hS ?_
          go_frame
          refine till_done (by kernel_rfl) ?_ _
          have HO2 := HV11; have L3 := L11; have HRB := HRE10; have HO1 := R911
          clear hS
          by_cases g3 : n2 + m < uHalf
          · have hr : r2 = 0 := by rw [HV2.out.2, if_pos g3]
            have HX2E : Hid (x2 = n2 + m) := Lib.hid (by rw [HV2.out.1, if_pos g3])
            have HEV : Hid (moveE (f0) k q m = 0) := Lib.hid (by rw [HE.out, if_neg (fun h => h HG.out.1), if_neg HG.out.2, if_pos g3])
            subst hr
            clear g3
            go_wp2_with (refine wpList_load_row rfl 24 _ rfl O1 rfl 24 _ _ _ HO1.out Tryz.underlying24 rfl Tryz.sizeU ?_)
            refine (L3.out.call fun h => csetAmount_not h k HRA.out).mono ?_
            rintro e w8 ⟨rfl, L4, ho⟩
            have L4 := Lib.hid L4; have HO2' := Lib.hid (below_at' ho HO2.out)
            clear ho L3 HO1 HO2
            go_wp2_with (refine wpList_load_row rfl 24 _ rfl O8 rfl 24 _ _ _ HO2'.out Tryz.underlying24 rfl Tryz.sizeU ?_)
            refine (L4.out.call fun h => csetAmount_not h q HRB.out).mono ?_
            rintro e w9 ⟨rfl, L5, _⟩
            have L5 := Lib.hid L5
            go_wp2_with fail
            go_ret
            rw [HEV.out]; exact L5.out.ret
          · have hr : r2 = 6 := by rw [HV2.out.2, if_neg g3]
            have HEV : Hid (moveE (f0) k q m = 6) := Lib.hid (by rw [HE.out, if_neg (fun h => h HG.out.1), if_neg HG.out.2, if_neg g3])
            subst hr
            clear g3
            go_wp2_with fail
            go_ret
            rw [HEV.out]; exact L3.out.ret
      · have hr : r1 = 13 := by rw [HV1.out.2, if_neg g1]
        have HEV : Hid (moveE (f0) k q m = 13) := Lib.hid (by rw [HE.out, if_pos g1])
        subst hr
        clear g1
        go_wp2_with fail
        go_ret
        rw [HEV.out]; exact L2.out.ret
  · simp only [List.getElem_toArray, List.getElem_cons_succ, List.getElem_cons_zero]
    rw [if_pos (by rfl)]
    refine wp_alloc_g 24 rfl _ _ Tryz.zeroUz rfl ?_
    intro O8 wt8 hm
    have hb := hm.out.below
    have L8 := Lib.hid (L0.out.later hb)
    have SZ8 := Lib.hid (Nat.le_trans SZ0.out hb.size)
    have HO8 := Lib.hid hm.out.cells
    have WO8 : Hid (wz.heap.size ≤ O8) := Lib.hid (by have h1 := hm.out.eq; have h2 := SZ0.out; omega)
    have hS1 := below_at' hb hS
    refine hK _ _ (fun _ _ => hS1) ?_
    clear hK hS hb hm L0 SZ0
    have hS := hS1
    clear hS1
    refine till_one 2 rfl (by kernel_rfl) fun K hK => ?_
    simp only [List.getElem_toArray, List.getElem_cons_succ, List.getElem_cons_zero]
    rw [if_pos (by rfl)]
    go_simp
    refine (camount_any (f := f0) (Look.of_not L8.out.1) f0_fit k).mono ?_
    rintro e wt9 ⟨a1, b1, c1, d1, hu1, rfl, hb⟩
    have L9 := Lib.hid (L8.out.later hb)
    have SZ9 := Lib.hid (Nat.le_trans SZ8.out hb.size)
    have HO9 := Lib.hid (below_at' hb HO8.out)
    have WO9 := Lib.hid (WO8.out)
    rw [← HN.out.1] at hu1
    have HU19 := Lib.hid hu1
    clear hu1
    have hS1 := below_at' hb hS
    refine hK _ _ (fun _ _ => hS1) ?_
    clear hK hS hb L8 SZ8 HO8 WO8
    have hS := hS1
    clear hS1
    refine till_one 4 rfl (by kernel_rfl) fun K hK => ?_
    simp only [List.getElem_toArray, List.getElem_cons_succ, List.getElem_cons_zero]
    rw [if_pos (by rfl)]
    go_simp
    refine (less10v HU19.out HU.out HV1.out.1 HV1.out.2 _).mono ?_
    rintro e wt10 ⟨sa, sb, sc, sd, hu2, rfl, hb⟩
    have L10 := Lib.hid (L9.out.later hb)
    have SZ10 := Lib.hid (Nat.le_trans SZ9.out hb.size)
    have HO10 := Lib.hid (below_at' hb HO9.out)
    have WO10 := Lib.hid (WO9.out)
    have HU110 := Lib.hid (HU19.out)
    have HRE10 := Lib.hid hu2
    clear hu2
    have hS1 := below_at' hb hS
    refine hK _ _ (fun _ _ => hS1) ?_
    clear hK hS hb L9 SZ9 HO9 WO9 HU19
    have hS := hS1
    clear hS1
    refine till_take 5 (some 12) rfl rfl (by kernel_rfl) (by kernel_rfl) (by kernel_rfl) (by kernel_rfl) (by kernel_rfl) (by kernel_rfl) (fun _ _ _ h => h) (.inl ⟨by rfl, fun w' _ => (by go_simp; rfl)⟩) hS ?_
    go_frame
    refine till_take 6 (some 18) rfl rfl (by kernel_rfl) (by kernel_rfl) (by kernel_rfl) (by kernel_rfl) (by kernel_rfl) (by kernel_rfl) (fun _ _ _ h => h) (.inl ⟨by rfl, fun w' _ => (by go_simp; rfl)⟩) hS ?_
    go_frame
    refine till_take 7 (some 19) rfl rfl (by kernel_rfl) (by kernel_rfl) (by kernel_rfl) (by kernel_rfl) (by kernel_rfl) (by kernel_rfl) (fun _ _ _ h => h) (.inl ⟨by rfl, fun w' _ => (by go_simp; rfl)⟩) hS ?_
    go_frame
    refine till_one 9 rfl (by kernel_rfl) fun K hK => ?_
    simp only [List.getElem_toArray, List.getElem_cons_succ, List.getElem_cons_zero]
    rw [if_pos (by rfl)]
    refine wp_store_row_g (t := 24) (old := u0) 24 _ _ rfl O8 #[.int .u64 sa, .int .u64 sb, .int .u64 sc, .int .u64 sd] rfl rfl HO10.out Tryz.sizeU rfl (one_u64 _ _ _ _) ?_
    intro wt11 hx8 k8 z8
    have HV11 := Lib.hid hx8
    have SZ11 := Lib.hid (Nat.le_trans SZ10.out (Nat.le_of_eq z8.symm))
    have hS1 := k8.at hS (fun e => by have h1 := HXB.out; have h2 := WO10.out; have h3 : X = O8 := e; have h4 := HSB.out; omega)
    have L11 := Lib.hid (nliv_u L10.out HO10.out k8 (by have h1 := HW1.out; have h2 := WO10.out; have h4 := HSB.out; omega) u_nobool)
    refine hK _ _ (fun _ _ => hS1) ?_
    clear hK hS hx8 k8 z8 L10 HO10 SZ10
    have hS := hS1
    clear hS1
    refine till_take 10 (some 10) rfl rfl (by kernel_rfl) (by kernel_rfl) (by kernel_rfl) (by kernel_rfl) (by kernel_rfl) (by kernel_rfl) (fun _ _ _ h => h) (.inl ⟨by rfl, fun w' _ => (by go_simp; rfl)⟩) hS ?_
    go_frame
    refine till_done (by kernel_rfl) ?_ _
    obtain ⟨O1, hO1⟩ : ∃ o, o = O8 := ⟨_, rfl⟩
    rw [← hO1]
    have HO1 := HV11; have L2 := L11; have HX2 := Lib.hid hS; have HRA := HRE10
    rw [← hO1] at HO1
    clear hO1 HV11 L11 HRE10 hS
    obtain ⟨wy, hwy⟩ : ∃ wy, wy = wt11 := ⟨_, rfl⟩
    rw [← hwy] at HO1 L2 HX2 ⊢
    have HW2 : Hid (w1.heap.size ≤ wy.heap.size) := Lib.hid (by rw [hwy]; exact Nat.le_trans HWZ.out SZ11.out)
    clear hwy
    by_cases g1 : m ≤ n1
    · have hr : r1 = 0 := by rw [HV1.out.2, if_pos g1]
      have HX1E : Hid (x1 = n1 - m) := Lib.hid (by rw [HV1.out.1, if_pos g1])
      subst hr
      by_cases g2 : k = q
      · have HEV : Hid (moveE (f0) k q m = 0) := Lib.hid (by rw [HE.out, if_neg (fun h => h g1), if_pos g2])
        have hst : ((bs k).toList == (bs q).toList) = true := by rw [eq_txt, decide_eq_true g2]
        have hst2 : (bs k).toList = (bs q).toList := by rw [g2]
        clear g1 g2
        go_wp2_with fail
        go_ret
        rw [HEV.out]; exact L2.out.ret
      have hst : ((bs k).toList == (bs q).toList) = false := by rw [eq_txt, decide_eq_false g2]
      have hst2 : ¬ (bs k).toList = (bs q).toList := by rw [toList_bs, toList_bs]; exact g2
      have HG := Lib.hid (And.intro g1 g2)
      clear g1 g2
      obtain ⟨x2, hx2⟩ : ∃ v, v = if n2 + m < uHalf then n2 + m else 0 := ⟨_, rfl⟩
      obtain ⟨r2, hr2⟩ : ∃ v : Int, v = if n2 + m < uHalf then 0 else 6 := ⟨_, rfl⟩
      have HV2 := Lib.hid (And.intro hx2 hr2)
      obtain ⟨wz, hwz⟩ : ∃ wz, wz = wy.drew := ⟨_, rfl⟩
      have hbz : Below wy.heap.size wy wz := by rw [hwz]; exact (Below.refl _ _).drew
      have L0 := Lib.hid (L2.out.later hbz); have hS : wz.heap[X]? = some (.cells #[.int .u64 a, .int .u64 b, .int .u64 c, .int .u64 d] 24 (0, 0)) := below_at' hbz HX2.out
      have R90 := Lib.hid (below_at' hbz HO1.out)
      have HSB : Hid (w1.heap.size ≤ wz.heap.size) := Lib.hid (Nat.le_trans HW2.out hbz.size)
      have HOB : Hid (O1 < wz.heap.size) := Lib.hid (Nat.lt_of_lt_of_le (heap_lt HO1.out) hbz.size)
      have SZ0 : Hid (wz.heap.size ≤ wz.heap.size) := Lib.hid (Nat.le_refl _)
      clear hbz L2 HX2 HO1 hx2 hr2
      go_wp2_with fail
      clear hst hst2
      refine wp_region_till (fun w' => w'.heap[X]? = some (.cells #[.int .u64 a, .int .u64 b, .int .u64 c, .int .u64 d] 24 (0, 0))) 11 11 (by kernel_rfl) rfl ?_
      rw [← hwz]
      clear hwz
      refine till_take 0 (some 29) rfl rfl (by kernel_rfl) (by kernel_rfl) (by kernel_rfl) (by kernel_rfl) (by kernel_rfl) (by kernel_rfl) (fun _ _ _ h => h) (.inl ⟨by rfl, fun w' _ => (by go_simp; rfl)⟩) hS ?_
      go_frame
      refine till_take 1 (some 30) rfl rfl (by kernel_rfl) (by kernel_rfl) (by kernel_rfl) (by kernel_rfl) (by kernel_rfl) (by kernel_rfl) (fun _ _ _ h => h) (.inl ⟨by rfl, fun w' _ => (by go_simp; rfl)⟩) hS ?_
      go_frame
      refine till_take 3 (some 32) rfl rfl (by kernel_rfl) (by kernel_rfl) (by kernel_rfl) (by kernel_rfl) (by kernel_rfl) (by kernel_rfl) (fun _ _ _ h => h) (yields_load (by rfl) 24 _ rfl (.pointer (some ⟨X, 0, none⟩)) rfl (.agg #[.int .u64 a, .int .u64 b, .int .u64 c, .int .u64 d]) (fun w' hS' => load_heap hS' Tryz.underlying24 rfl Tryz.sizeU)) hS ?_
      go_frame
      refine till_two 2 8 rfl rfl (by kernel_rfl) (fun K hK => ?_) (fun K hK => ?_)
      · simp only [List.getElem_toArray, List.getElem_cons_succ, List.getElem_cons_zero]
        rw [if_pos (by rfl)]
        go_simp
        refine (camount_any (f := f0) (Look.of_not L0.out.1) f0_fit q).mono ?_
        rintro e wt1 ⟨ta1, tb1, tc1, td1, hu1, rfl, hb⟩
        have L1 := Lib.hid (L0.out.later hb)
        have R91 := Lib.hid (below_at' hb R90.out)
        have SZ1 := Lib.hid (Nat.le_trans SZ0.out hb.size)
        rw [← HN.out.2] at hu1
        have HU11 := Lib.hid hu1
        clear hu1
        have hS1 := below_at' hb hS
        refine hK _ _ (fun _ _ => hS1) ?_
        clear hK hS hb L0 R90 SZ0
        have hS := hS1
        clear hS1
        refine till_two 4 8 rfl rfl (by kernel_rfl) (fun K hK => ?_) (fun K hK => ?_)
        · simp only [List.getElem_toArray, List.getElem_cons_succ, List.getElem_cons_zero]
          rw [if_pos (by rfl)]
          go_simp
          refine (more10v HU11.out HU.out HV2.out.1 HV2.out.2 _).mono ?_
          rintro e wt2 ⟨tsa, tsb, tsc, tsd, hu2, rfl, hb⟩
          have L2 := Lib.hid (L1.out.later hb)
          have R92 := Lib.hid (below_at' hb R91.out)
          have SZ2 := Lib.hid (Nat.le_trans SZ1.out hb.size)
          have HU12 := Lib.hid (HU11.out)
          have HRE2 := Lib.hid hu2
          clear hu2
          have hS1 := below_at' hb hS
          refine hK _ _ (fun _ _ => hS1) ?_
          clear hK hS hb L1 R91 SZ1 HU11
          have hS := hS1
          clear hS1
          refine till_take 5 (some 28) rfl rfl (by kernel_rfl) (by kernel_rfl) (by kernel_rfl) (by kernel_rfl) (by kernel_rfl) (by kernel_rfl) (fun _ _ _ h => h) (.inl ⟨by rfl, fun w' _ => (by go_simp; rfl)⟩) hS ?_
          go_frame
          refine till_take 6 (some 34) rfl rfl (by kernel_rfl) (by kernel_rfl) (by kernel_rfl) (by kernel_rfl) (by kernel_rfl) (by kernel_rfl) (fun _ _ _ h => h) (.inl ⟨by rfl, fun w' _ => (by go_simp; rfl)⟩) hS ?_
          go_frame
          refine till_take 7 (some 35) rfl rfl (by kernel_rfl) (by kernel_rfl) (by kernel_rfl) (by kernel_rfl) (by kernel_rfl) (by kernel_rfl) (fun _ _ _ h => h) (.inl ⟨by rfl, fun w' _ => (by go_simp; rfl)⟩) hS ?_
          go_frame
          refine till_one 8 rfl (by kernel_rfl) fun K hK => ?_
          simp only [List.getElem_toArray, List.getElem_cons_succ, List.getElem_cons_zero]
          rw [if_pos (by rfl)]
          refine wp_alloc_g 24 rfl _ _ Tryz.zeroUz rfl ?_
          intro O3 wt3 hm
          have hb := hm.out.below
          have L3 := Lib.hid (L2.out.later hb)
          have R93 := Lib.hid (below_at' hb R92.out)
          have SZ3 := Lib.hid (Nat.le_trans SZ2.out hb.size)
          have HU13 := Lib.hid (HU12.out)
          have HRE3 := Lib.hid (HRE2.out)
          have HO3 := Lib.hid hm.out.cells
          have WO3 : Hid (wz.heap.size ≤ O3) := Lib.hid (by have h1 := hm.out.eq; have h2 := SZ2.out; omega)
          have hS1 := below_at' hb hS
          refine hK _ _ (fun _ _ => hS1) ?_
          clear hK hS hb hm L2 R92 SZ2 HU12 HRE2
          have hS := hS1
          clear hS1
          refine till_one 9 rfl (by kernel_rfl) fun K hK => ?_
          simp only [List.getElem_toArray, List.getElem_cons_succ, List.getElem_cons_zero]
          rw [if_pos (by rfl)]
          refine wp_store_row_g (t := 24) (old := u0) 24 _ _ rfl O3 #[.int .u64 tsa, .int .u64 tsb, .int .u64 tsc, .int .u64 tsd] rfl rfl HO3.out Tryz.sizeU rfl (one_u64 _ _ _ _) ?_
          intro wt4 hx8 k8 z8
          have HV4 := Lib.hid hx8
          have SZ4 := Lib.hid (Nat.le_trans SZ3.out (Nat.le_of_eq z8.symm))
          have hS1 := k8.at hS (fun e => by have h1 := HXB.out; have h2 := WO3.out; have h3 : X = O3 := e; have h4 := HSB.out; omega)
          have L4 := Lib.hid (nliv_u L3.out HO3.out k8 (by have h1 := HW1.out; have h2 := WO3.out; have h4 := HSB.out; omega) u_nobool)
          have R94 := Lib.hid (k8.at R93.out (fun e => by have h1 := HOB.out; have h2 := WO3.out; have h3 : O1 = O3 := e; omega))
          refine hK _ _ (fun _ _ => hS1) ?_
          clear hK hS hx8 k8 z8 L3 HO3 SZ3 R93
          have hS := hS1
          clear hS1
          refine till_take 10 (some 10) rfl rfl (by kernel_rfl) (by kernel_rfl) (by kernel_rfl) (by kernel_rfl) (by kernel_rfl) (by kernel_rfl) (fun _ _ _ h => h) (.inl ⟨by rfl, fun w' _ => (by go_simp; rfl)⟩) hS ?_
          go_frame
          refine till_done (by kernel_rfl) ?_ _
          have HO2 := HV4; have L3 := L4; have HRB := HRE3; have HO1 := R94
          clear hS
          by_cases g3 : n2 + m < uHalf
          · have hr : r2 = 0 := by rw [HV2.out.2, if_pos g3]
            have HX2E : Hid (x2 = n2 + m) := Lib.hid (by rw [HV2.out.1, if_pos g3])
            have HEV : Hid (moveE (f0) k q m = 0) := Lib.hid (by rw [HE.out, if_neg (fun h => h HG.out.1), if_neg HG.out.2, if_pos g3])
            subst hr
            clear g3
            go_wp2_with (refine wpList_load_row rfl 24 _ rfl O1 rfl 24 _ _ _ HO1.out Tryz.underlying24 rfl Tryz.sizeU ?_)
            refine (L3.out.call fun h => csetAmount_not h k HRA.out).mono ?_
            rintro e w8 ⟨rfl, L4, ho⟩
            have L4 := Lib.hid L4; have HO2' := Lib.hid (below_at' ho HO2.out)
            clear ho L3 HO1 HO2
            go_wp2_with (refine wpList_load_row rfl 24 _ rfl O3 rfl 24 _ _ _ HO2'.out Tryz.underlying24 rfl Tryz.sizeU ?_)
            refine (L4.out.call fun h => csetAmount_not h q HRB.out).mono ?_
            rintro e w9 ⟨rfl, L5, _⟩
            have L5 := Lib.hid L5
            go_wp2_with fail
            go_ret
            rw [HEV.out]; exact L5.out.ret
          · have hr : r2 = 6 := by rw [HV2.out.2, if_neg g3]
            have HEV : Hid (moveE (f0) k q m = 6) := Lib.hid (by rw [HE.out, if_neg (fun h => h HG.out.1), if_neg HG.out.2, if_neg g3])
            subst hr
            clear g3
            go_wp2_with fail
            go_ret
            rw [HEV.out]; exact L3.out.ret
        · simp only [List.getElem_toArray, List.getElem_cons_succ, List.getElem_cons_zero]
          rw [if_pos (by rfl)]
          refine wp_alloc_g 24 rfl _ _ Tryz.zeroUz rfl ?_
          intro O5 wt5 hm
          have hb := hm.out.below
          have L5 := Lib.hid (L1.out.later hb)
          have R95 := Lib.hid (below_at' hb R91.out)
          have SZ5 := Lib.hid (Nat.le_trans SZ1.out hb.size)
          have HU15 := Lib.hid (HU11.out)
          have HO5 := Lib.hid hm.out.cells
          have WO5 : Hid (wz.heap.size ≤ O5) := Lib.hid (by have h1 := hm.out.eq; have h2 := SZ1.out; omega)
          have hS1 := below_at' hb hS
          refine hK _ _ (fun _ _ => hS1) ?_
          clear hK hS hb hm L1 R91 SZ1 HU11
          have hS := hS1
          clear hS1
          refine till_one 4 rfl (by kernel_rfl) fun K hK => ?_
          simp only [List.getElem_toArray, List.getElem_cons_succ, List.getElem_cons_zero]
          rw [if_pos (by rfl)]
          go_simp
          refine (more10v HU15.out HU.out HV2.out.1 HV2.out.2 _).mono ?_
          rintro e wt6 ⟨tsa, tsb, tsc, tsd, hu2, rfl, hb⟩
          have L6 := Lib.hid (L5.out.later hb)
          have R96 := Lib.hid (below_at' hb R95.out)
          have SZ6 := Lib.hid (Nat.le_trans SZ5.out hb.size)
          have HU16 := Lib.hid (HU15.out)
          have HO6 := Lib.hid (below_at' hb HO5.out)
          have WO6 := Lib.hid (WO5.out)
          have HRE6 := Lib.hid hu2
          clear hu2
          have hS1 := below_at' hb hS
          refine hK _ _ (fun _ _ => hS1) ?_
          clear hK hS hb L5 R95 SZ5 HU15 HO5 WO5
          have hS := hS1
          clear hS1
          refine till_take 5 (some 28) rfl rfl (by kernel_rfl) (by kernel_rfl) (by kernel_rfl) (by kernel_rfl) (by kernel_rfl) (by kernel_rfl) (fun _ _ _ h => h) (.inl ⟨by rfl, fun w' _ => (by go_simp; rfl)⟩) hS ?_
          go_frame
          refine till_take 6 (some 34) rfl rfl (by kernel_rfl) (by kernel_rfl) (by kernel_rfl) (by kernel_rfl) (by kernel_rfl) (by kernel_rfl) (fun _ _ _ h => h) (.inl ⟨by rfl, fun w' _ => (by go_simp; rfl)⟩) hS ?_
          go_frame
          refine till_take 7 (some 35) rfl rfl (by kernel_rfl) (by kernel_rfl) (by kernel_rfl) (by kernel_rfl) (by kernel_rfl) (by kernel_rfl) (fun _ _ _ h => h) (.inl ⟨by rfl, fun w' _ => (by go_simp; rfl)⟩) hS ?_
          go_frame
          refine till_one 9 rfl (by kernel_rfl) fun K hK => ?_
          simp only [List.getElem_toArray, List.getElem_cons_succ, List.getElem_cons_zero]
          rw [if_pos (by rfl)]
          refine wp_store_row_g (t := 24) (old := u0) 24 _ _ rfl O5 #[.int .u64 tsa, .int .u64 tsb, .int .u64 tsc, .int .u64 tsd] rfl rfl HO6.out Tryz.sizeU rfl (one_u64 _ _ _ _) ?_
          intro wt7 hx8 k8 z8
          have HV7 := Lib.hid hx8
          have SZ7 := Lib.hid (Nat.le_trans SZ6.out (Nat.le_of_eq z8.symm))
          have hS1 := k8.at hS (fun e => by have h1 := HXB.out; have h2 := WO6.out; have h3 : X = O5 := e; have h4 := HSB.out; omega)
          have L7 := Lib.hid (nliv_u L6.out HO6.out k8 (by have h1 := HW1.out; have h2 := WO6.out; have h4 := HSB.out; omega) u_nobool)
          have R97 := Lib.hid (k8.at R96.out (fun e => by have h1 := HOB.out; have h2 := WO6.out; have h3 : O1 = O5 := e; omega))
          refine hK _ _ (fun _ _ => hS1) ?_
          clear hK hS hx8 k8 z8 L6 HO6 SZ6 R96
          have hS := hS1
          clear hS1
          refine till_take 10 (some 10) rfl rfl (by kernel_rfl) (by kernel_rfl) (by kernel_rfl) (by kernel_rfl) (by kernel_rfl) (by kernel_rfl) (fun _ _ _ h => h) (.inl ⟨by rfl, fun w' _ => (by go_simp; rfl)⟩) hS ?_
          go_frame
          refine till_done (by kernel_rfl) ?_ _
          have HO2 := HV7; have L3 := L7; have HRB := HRE6; have HO1 := R97
          clear hS
          by_cases g3 : n2 + m < uHalf
          · have hr : r2 = 0 := by rw [HV2.out.2, if_pos g3]
            have HX2E : Hid (x2 = n2 + m) := Lib.hid (by rw [HV2.out.1, if_pos g3])
            have HEV : Hid (moveE (f0) k q m = 0) := Lib.hid (by rw [HE.out, if_neg (fun h => h HG.out.1), if_neg HG.out.2, if_pos g3])
            subst hr
            clear g3
            go_wp2_with (refine wpList_load_row rfl 24 _ rfl O1 rfl 24 _ _ _ HO1.out Tryz.underlying24 rfl Tryz.sizeU ?_)
            refine (L3.out.call fun h => csetAmount_not h k HRA.out).mono ?_
            rintro e w8 ⟨rfl, L4, ho⟩
            have L4 := Lib.hid L4; have HO2' := Lib.hid (below_at' ho HO2.out)
            clear ho L3 HO1 HO2
            go_wp2_with (refine wpList_load_row rfl 24 _ rfl O5 rfl 24 _ _ _ HO2'.out Tryz.underlying24 rfl Tryz.sizeU ?_)
            refine (L4.out.call fun h => csetAmount_not h q HRB.out).mono ?_
            rintro e w9 ⟨rfl, L5, _⟩
            have L5 := Lib.hid L5
            go_wp2_with fail
            go_ret
            rw [HEV.out]; exact L5.out.ret
          · have hr : r2 = 6 := by rw [HV2.out.2, if_neg g3]
            have HEV : Hid (moveE (f0) k q m = 6) := Lib.hid (by rw [HE.out, if_neg (fun h => h HG.out.1), if_neg HG.out.2, if_neg g3])
            subst hr
            clear g3
            go_wp2_with fail
            go_ret
            rw [HEV.out]; exact L3.out.ret
      · simp only [List.getElem_toArray, List.getElem_cons_succ, List.getElem_cons_zero]
        rw [if_pos (by rfl)]
        refine wp_alloc_g 24 rfl _ _ Tryz.zeroUz rfl ?_
        intro O8 wt8 hm
        have hb := hm.out.below
        have L8 := Lib.hid (L0.out.later hb)
        have R98 := Lib.hid (below_at' hb R90.out)
        have SZ8 := Lib.hid (Nat.le_trans SZ0.out hb.size)
        have HO8 := Lib.hid hm.out.cells
        have WO8 : Hid (wz.heap.size ≤ O8) := Lib.hid (by have h1 := hm.out.eq; have h2 := SZ0.out; omega)
        have hS1 := below_at' hb hS
        refine hK _ _ (fun _ _ => hS1) ?_
        clear hK hS hb hm L0 R90 SZ0
        have hS := hS1
        clear hS1
        refine till_one 2 rfl (by kernel_rfl) fun K hK => ?_
        simp only [List.getElem_toArray, List.getElem_cons_succ, List.getElem_cons_zero]
        rw [if_pos (by rfl)]
        go_simp
        refine (camount_any (f := f0) (Look.of_not L8.out.1) f0_fit q).mono ?_
        rintro e wt9 ⟨ta1, tb1, tc1, td1, hu1, rfl, hb⟩
        have L9 := Lib.hid (L8.out.later hb)
        have R99 := Lib.hid (below_at' hb R98.out)
        have SZ9 := Lib.hid (Nat.le_trans SZ8.out hb.size)
        have HO9 := Lib.hid (below_at' hb HO8.out)
        have WO9 := Lib.hid (WO8.out)
        rw [← HN.out.2] at hu1
        have HU19 := Lib.hid hu1
        clear hu1
        have hS1 := below_at' hb hS
        refine hK _ _ (fun _ _ => hS1) ?_
        clear hK hS hb L8 R98 SZ8 HO8 WO8
        have hS := hS1
        clear hS1
        refine till_one 4 rfl (by kernel_rfl) fun K hK => ?_
        simp only [List.getElem_toArray, List.getElem_cons_succ, List.getElem_cons_zero]
        rw [if_pos (by rfl)]
        go_simp
        refine (more10v HU19.out HU.out HV2.out.1 HV2.out.2 _).mono ?_
        rintro e wt10 ⟨tsa, tsb, tsc, tsd, hu2, rfl, hb⟩
        have L10 := Lib.hid (L9.out.later hb)
        have R910 := Lib.hid (below_at' hb R99.out)
        have SZ10 := Lib.hid (Nat.le_trans SZ9.out hb.size)
        have HO10 := Lib.hid (below_at' hb HO9.out)
        have WO10 := Lib.hid (WO9.out)
        have HU110 := Lib.hid (HU19.out)
        have HRE10 := Lib.hid hu2
        clear hu2
        have hS1 := below_at' hb hS
        refine hK _ _ (fun _ _ => hS1) ?_
        clear hK hS hb L9 R99 SZ9 HO9 WO9 HU19
        have hS := hS1
        clear hS1
        refine till_take 5 (some 28) rfl rfl (by kernel_rfl) (by kernel_rfl) (by kernel_rfl) (by kernel_rfl) (by kernel_rfl) (by kernel_rfl) (fun _ _ _ h => h) (.inl ⟨by rfl, fun w' _ => (by go_simp; rfl)⟩) hS ?_
        go_frame
        refine till_take 6 (some 34) rfl rfl (by kernel_rfl) (by kernel_rfl) (by kernel_rfl) (by kernel_rfl) (by kernel_rfl) (by kernel_rfl) (fun _ _ _ h => h) (.inl ⟨by rfl, fun w' _ => (by go_simp; rfl)⟩) hS ?_
        go_frame
        refine till_take 7 (some 35) rfl rfl (by kernel_rfl) (by kernel_rfl) (by kernel_rfl) (by kernel_rfl) (by kernel_rfl) (by kernel_rfl) (fun _ _ _ h => h) (.inl ⟨by rfl, fun w' _ => (by go_simp; rfl)⟩) hS ?_
        go_frame
        refine till_one 9 rfl (by kernel_rfl) fun K hK => ?_
        simp only [List.getElem_toArray, List.getElem_cons_succ, List.getElem_cons_zero]
        rw [if_pos (by rfl)]
        refine wp_store_row_g (t := 24) (old := u0) 24 _ _ rfl O8 #[.int .u64 tsa, .int .u64 tsb, .int .u64 tsc, .int .u64 tsd] rfl rfl HO10.out Tryz.sizeU rfl (one_u64 _ _ _ _) ?_
        intro wt11 hx8 k8 z8
        have HV11 := Lib.hid hx8
        have SZ11 := Lib.hid (Nat.le_trans SZ10.out (Nat.le_of_eq z8.symm))
        have hS1 := k8.at hS (fun e => by have h1 := HXB.out; have h2 := WO10.out; have h3 : X = O8 := e; have h4 := HSB.out; omega)
        have L11 := Lib.hid (nliv_u L10.out HO10.out k8 (by have h1 := HW1.out; have h2 := WO10.out; have h4 := HSB.out; omega) u_nobool)
        have R911 := Lib.hid (k8.at R910.out (fun e => by have h1 := HOB.out; have h2 := WO10.out; have h3 : O1 = O8 := e; omega))
        refine hK _ _ (fun _ _ => hS1) ?_
        clear hK hS hx8 k8 z8 L10 HO10 SZ10 R910
        have hS := hS1
        clear hS1
        refine till_take 10 (some 10) rfl rfl (by kernel_rfl) (by kernel_rfl) (by kernel_rfl) (by kernel_rfl) (by kernel_rfl) (by kernel_rfl) (fun _ _ _ h => h) (.inl ⟨by rfl, fun w' _ => (by go_simp; rfl)⟩) hS ?_
        go_frame
        refine till_done (by kernel_rfl) ?_ _
        have HO2 := HV11; have L3 := L11; have HRB := HRE10; have HO1 := R911
        clear hS
        by_cases g3 : n2 + m < uHalf
        · have hr : r2 = 0 := by rw [HV2.out.2, if_pos g3]
          have HX2E : Hid (x2 = n2 + m) := Lib.hid (by rw [HV2.out.1, if_pos g3])
          have HEV : Hid (moveE (f0) k q m = 0) := Lib.hid (by rw [HE.out, if_neg (fun h => h HG.out.1), if_neg HG.out.2, if_pos g3])
          subst hr
          clear g3
          go_wp2_with (refine wpList_load_row rfl 24 _ rfl O1 rfl 24 _ _ _ HO1.out Tryz.underlying24 rfl Tryz.sizeU ?_)
          refine (L3.out.call fun h => csetAmount_not h k HRA.out).mono ?_
          rintro e w8 ⟨rfl, L4, ho⟩
          have L4 := Lib.hid L4; have HO2' := Lib.hid (below_at' ho HO2.out)
          clear ho L3 HO1 HO2
          go_wp2_with (refine wpList_load_row rfl 24 _ rfl O8 rfl 24 _ _ _ HO2'.out Tryz.underlying24 rfl Tryz.sizeU ?_)
          refine (L4.out.call fun h => csetAmount_not h q HRB.out).mono ?_
          rintro e w9 ⟨rfl, L5, _⟩
          have L5 := Lib.hid L5
          go_wp2_with fail
          go_ret
          rw [HEV.out]; exact L5.out.ret
        · have hr : r2 = 6 := by rw [HV2.out.2, if_neg g3]
          have HEV : Hid (moveE (f0) k q m = 6) := Lib.hid (by rw [HE.out, if_neg (fun h => h HG.out.1), if_neg HG.out.2, if_neg g3])
          subst hr
          clear g3
          go_wp2_with fail
          go_ret
          rw [HEV.out]; exact L3.out.ret
    · have hr : r1 = 13 := by rw [HV1.out.2, if_neg g1]
      have HEV : Hid (moveE (f0) k q m = 13) := Lib.hid (by rw [HE.out, if_pos g1])
      subst hr
      clear g1
      go_wp2_with fail
      go_ret
      rw [HEV.out]; exact L2.out.ret

set_option maxHeartbeats 1000000 in
theorem setInt_not {w : World} {x : Option Addr} (h : NotMade w x) (k : Txt) (n : Int) (hn : n < 9223372036854775808) :
    Calls Tryz.prog 44 #[.pointer x, .string (bs k), .int .i64 n] w (Ret w (.tuple #[])) := by
  have L := Lib.hid (NLiv.start h)
  clear h
  by_cases h1 : n < 1
  · go_enter Tryz.func44, Tryz.ntmps44
    go_wp2_with fail
    refine (L.out.call fun h => put_not h k []).mono ?_
    rintro e w1 ⟨rfl, L1, _⟩
    have L1 := Lib.hid L1
    go_wp2_with fail
    go_end0
    exact L1.out.ret
  · go_enter Tryz.func44, Tryz.ntmps44
    go_wp2_with fail
    refine (num_pos n _ (by omega) hn).mono ?_
    rintro e w1 ⟨rfl, hb1⟩
    have L1 := Lib.hid (L.out.later hb1)
    clear hb1 L
    go_wp2_with fail
    refine (L1.out.call fun h => put_not h k (numL n)).mono ?_
    rintro e w1 ⟨rfl, L1, _⟩
    have L1 := Lib.hid L1
    go_wp2_with fail
    go_end0
    exact L1.out.ret

set_option maxHeartbeats 1000000 in
theorem setRow_not {w : World} {x : Option Addr} (h : NotMade w x) (k : Txt) {l : List Int} {v : Value} (hl : l.length ≤ 100000000) (hi : I64s l) (hrd : Rd w intE 1 v l) :
    Calls Tryz.prog 53 #[.pointer x, .string (bs k), v] w (Ret w (.tuple #[])) := by
  have L := Lib.hid (NLiv.start h)
  obtain ⟨ad, cap, rfl, hc1, hc2⟩ := hrd.shape
  clear h
  go_enter Tryz.func53, Tryz.ntmps53
  go_wp2_with fail
  have hb2 := (Below.refl w.heap.size w).alloc (Nat.le_refl _) (.cells #[.pointer none, .slice none 0 0] 145)
  have hbl := Bld.fresh w _ (Nat.le_refl w.heap.size)
  rw [← flatT_zero l] at hbl
  go_loopw [11] (fun i wr => ∃ k : Nat, k ≤ l.length ∧ i = .int .i64 k ∧ Hid (∀ x ∈ l.take k, 0 ≤ x) ∧ Bld wr w.heap.size w.heap.size (flatT l k) ∧ Below w.heap.size w wr) (fun i _ => l.length - (intOf i).toNat)
  case atStart => exact ⟨0, by omega, rfl, by simp [Hid], hbl, hb2⟩
  case round =>
    clear hbl hb2
    obtain ⟨i, hk, rfl, hp, hbl, hb⟩ := hrel
    have hz := hb.size
    by_cases hlt : i < l.length
    · obtain ⟨b, off, rfl, hbb, hcell⟩ := (hrd.later hb).at i hlt
      obtain ⟨n, hn⟩ : ∃ n, n = l[i] := ⟨_, rfl⟩
      rw [← hn] at hcell
      have hni := hi n (by rw [hn]; exact List.getElem_mem hlt)
      replace hcell : wr.cell? ⟨b, off + i, none⟩ = some (.int .i64 n) := hcell
      have hlen := flatT_len l i
      have HN := Lib.hid hn; clear hn
      by_cases hneg : n < 0
      · go_wp2
        go_end0
        have h1 := (L.out.later hb).ret (v := .tuple #[])
        exact h1
      · go_wp2_with (first | (go_at_call 100; refine (num_pos n _ (by omega) hni.2).mono ?_; rintro e w1 ⟨rfl, hb1⟩; have hbl1 := hbl.later hb1; have hb2 := hb.trans (hb1.mono hz); have hz2 := hb2.size; clear hb1) | (go_at_call 107; refine (writeString_any w.heap.size w.heap.size _ _ _ hbl1 (by rw [bs_size, numL_length]; omega) hz2).mono ?_; rintro e w2 ⟨rfl, hbl2, hb3⟩))
        have hkt : bs (numL n) = bs (numL l[i]) := by rw [HN.out]
        rw [show (bs (numL n)).data.toList = numL l[i] by rw [HN.out]; rfl, ← flatT_succ l i hlt] at hbl2
        have hp2 := take_nonneg hlt hp.out (by rw [← HN.out]; omega)
        go_roundw
        case rel => exact ⟨i + 1, by omega, by go_num, hp2, hbl2, hb2.trans hb3⟩
        case measure => simp [intOf]; omega
    · go_wp2_with (go_at_call 108; refine (bString_any w.heap.size w.heap.size _ _ hbl hz).mono ?_; rintro e w1 ⟨rfl, hb1⟩)
      have L1 := Lib.hid (L.out.later (hb.trans hb1))
      clear hb hb1 hbl
      refine (L1.out.call fun h => put_not h k (flatT l i)).mono ?_
      rintro e w2 ⟨rfl, L2, _⟩
      have L2 := Lib.hid L2
      go_wp2_with fail
      go_end0
      exact L2.out.ret

set_option maxHeartbeats 1000000 in
theorem next_not {w : World} {x : Option Addr} (h : NotMade w x) (k : Txt) :
    Calls Tryz.prog 55 #[.pointer x, .string (bs k)] w (Ret w (.int .i64 (nextI (getI (f0) k)))) := by
  have L := Lib.hid (NLiv.start h)
  go_enter Tryz.func55, Tryz.ntmps55
  go_wp2_with fail
  refine (int_any (f := f0) (Look.of_not h) f0_fit k).mono ?_
  rintro e w1 ⟨rfl, hb1⟩
  have L1 := Lib.hid (L.out.later hb1)
  have hbd := getI_bound (f0) k
  obtain ⟨n, hn⟩ : ∃ n, n = getI (f0) k := ⟨_, rfl⟩
  rw [← hn] at hbd
  have HN := Lib.hid hn
  rw [← hn]
  clear hn hb1 h L
  by_cases hm : n < 9223372036854775807
  · have hx : nextI n = n + 1 := if_pos hm
    have HX := Lib.hid hx
    clear hx
    go_wp2_with fail
    refine (L1.out.call fun h => setInt_not h k (n + 1) (by omega)).mono ?_
    rintro e w1 ⟨rfl, L1, _⟩
    have L1 := Lib.hid L1
    go_wp2_with fail
    go_ret
    rw [← HN.out, HX.out]
    exact L1.out.ret
  · have hx : nextI n = n := if_neg hm
    have HX := Lib.hid hx
    clear hx
    go_wp2_with fail
    refine (L1.out.call fun h => setInt_not h k n (by omega)).mono ?_
    rintro e w1 ⟨rfl, L1, _⟩
    have L1 := Lib.hid L1
    go_wp2_with fail
    go_ret
    rw [← HN.out, HX.out]
    exact L1.out.ret

end Go.Proofs.YtnoocidoblndgaaGreat
