/- Banks: keys, Good, Mint, Pay, Balance (code). No condition. -/
import Derived.Test.YteaigmoldlbjdaaBnkQ
import Derived.Test.YteaigmoldlbjdaaLit
namespace Go.Proofs.Yteaigmoldlbjdaa
open Go.RowKit

/-- A number that a slice of numbers may hold. -/
def I64 (n : Int) : Prop := -9223372036854775808 ≤ n ∧ n < 9223372036854775808
set_option maxHeartbeats 4000000 in
set_option maxRecDepth 100000 in
theorem bAcc_any {t n : Int} (ht : I64 t) (hn : I64 n) (w : World) : Calls Try.prog 22 #[.int .i64 t, .int .i64 n] w (Ret w (.string (bs (keyF 1 [t, n])))) := by
  have H := Lib.hid (And.intro ht hn)
  clear ht hn
  go_enter Try.func22, Try.ntmps22
  go_wp2_with fail
  obtain ⟨w1, hw1⟩ : ∃ w1, w1 = w.alloc (.cells #[.int .i64 t, .int .i64 n] 3) := ⟨_, rfl⟩
  obtain ⟨gi, hgi⟩ : ∃ gi, gi = w.heap.size := ⟨_, rfl⟩
  rw [← hw1, ← hgi]
  have HOI : Hid (Own w1 0 3 intE 1 (.slice (some ⟨gi, 0, none⟩) 2 2) [t, n]) := Lib.hid (own_lit (l := [t, n]) (by rw [hw1, hgi]; exact heap_alloc_new _ _) (Nat.zero_le _) (by unfold maxLen; simp))
  have HB : Hid (Below w.heap.size w w1) := Lib.hid (by rw [hw1]; exact below_new _ _)
  clear hw1 hgi
  refine (key_any 1 [t, n] _ _ (by simp) (I64s.two H.out.1 H.out.2) (HOI.out.rd fun _ => rfl)).mono ?_
  rintro e w2 ⟨rfl, hb⟩
  have HB2 := Lib.hid (HB.out.trans (hb.mono HB.out.size))
  clear hb
  go_wp2_with fail
  go_ret
  exact ⟨rfl, HB2.out⟩
set_option maxHeartbeats 4000000 in
set_option maxRecDepth 100000 in
theorem rbAcc_any {t n : Int} (ht : I64 t) (hn : I64 n) (w : World) : Calls Try.prog 23 #[.int .i64 t, .int .i64 n] w (Ret w (.string (bs (keyF 1 [t, n])))) := by
  have H := Lib.hid (And.intro ht hn)
  clear ht hn
  go_enter Try.func23, Try.ntmps23
  go_wp2_with fail
  obtain ⟨w1, hw1⟩ : ∃ w1, w1 = w.alloc (.cells #[.int .i64 t, .int .i64 n] 3) := ⟨_, rfl⟩
  obtain ⟨gi, hgi⟩ : ∃ gi, gi = w.heap.size := ⟨_, rfl⟩
  rw [← hw1, ← hgi]
  have HOI : Hid (Own w1 0 3 intE 1 (.slice (some ⟨gi, 0, none⟩) 2 2) [t, n]) := Lib.hid (own_lit (l := [t, n]) (by rw [hw1, hgi]; exact heap_alloc_new _ _) (Nat.zero_le _) (by unfold maxLen; simp))
  have HB : Hid (Below w.heap.size w w1) := Lib.hid (by rw [hw1]; exact below_new _ _)
  clear hw1 hgi
  refine (refKey_any 1 [t, n] _ _ (by simp) (I64s.two H.out.1 H.out.2) (HOI.out.rd fun _ => rfl)).mono ?_
  rintro e w2 ⟨rfl, hb⟩
  have HB2 := Lib.hid (HB.out.trans (hb.mono HB.out.size))
  clear hb
  go_wp2_with fail
  go_ret
  exact ⟨rfl, HB2.out⟩
set_option maxHeartbeats 4000000 in
set_option maxRecDepth 100000 in
theorem bSup_any {t : Int} (ht : I64 t) (w : World) : Calls Try.prog 20 #[.int .i64 t] w (Ret w (.string (bs (keyF 2 [t])))) := by
  have H := Lib.hid ht
  clear ht
  go_enter Try.func20, Try.ntmps20
  go_wp2_with fail
  obtain ⟨w1, hw1⟩ : ∃ w1, w1 = w.alloc (.cells #[.int .i64 t] 3) := ⟨_, rfl⟩
  obtain ⟨gi, hgi⟩ : ∃ gi, gi = w.heap.size := ⟨_, rfl⟩
  rw [← hw1, ← hgi]
  have HOI : Hid (Own w1 0 3 intE 1 (.slice (some ⟨gi, 0, none⟩) 1 1) [t]) := Lib.hid (own_lit (l := [t]) (by rw [hw1, hgi]; exact heap_alloc_new _ _) (Nat.zero_le _) (by unfold maxLen; simp))
  have HB : Hid (Below w.heap.size w w1) := Lib.hid (by rw [hw1]; exact below_new _ _)
  clear hw1 hgi
  refine (key_any 2 [t] _ _ (by simp) (I64s.one H.out) (HOI.out.rd fun _ => rfl)).mono ?_
  rintro e w2 ⟨rfl, hb⟩
  have HB2 := Lib.hid (HB.out.trans (hb.mono HB.out.size))
  clear hb
  go_wp2_with fail
  go_ret
  exact ⟨rfl, HB2.out⟩
set_option maxHeartbeats 4000000 in
set_option maxRecDepth 100000 in
theorem rbSup_any {t : Int} (ht : I64 t) (w : World) : Calls Try.prog 24 #[.int .i64 t] w (Ret w (.string (bs (keyF 2 [t])))) := by
  have H := Lib.hid ht
  clear ht
  go_enter Try.func24, Try.ntmps24
  go_wp2_with fail
  obtain ⟨w1, hw1⟩ : ∃ w1, w1 = w.alloc (.cells #[.int .i64 t] 3) := ⟨_, rfl⟩
  obtain ⟨gi, hgi⟩ : ∃ gi, gi = w.heap.size := ⟨_, rfl⟩
  rw [← hw1, ← hgi]
  have HOI : Hid (Own w1 0 3 intE 1 (.slice (some ⟨gi, 0, none⟩) 1 1) [t]) := Lib.hid (own_lit (l := [t]) (by rw [hw1, hgi]; exact heap_alloc_new _ _) (Nat.zero_le _) (by unfold maxLen; simp))
  have HB : Hid (Below w.heap.size w w1) := Lib.hid (by rw [hw1]; exact below_new _ _)
  clear hw1 hgi
  refine (refKey_any 2 [t] _ _ (by simp) (I64s.one H.out) (HOI.out.rd fun _ => rfl)).mono ?_
  rintro e w2 ⟨rfl, hb⟩
  have HB2 := Lib.hid (HB.out.trans (hb.mono HB.out.size))
  clear hb
  go_wp2_with fail
  go_ret
  exact ⟨rfl, HB2.out⟩
set_option maxHeartbeats 4000000 in
set_option maxRecDepth 100000 in
theorem bSink_any {t : Int} (ht : I64 t) (w : World) : Calls Try.prog 25 #[.int .i64 t] w (Ret w (.string (bs (keyF 3 [t])))) := by
  have H := Lib.hid ht
  clear ht
  go_enter Try.func25, Try.ntmps25
  go_wp2_with fail
  obtain ⟨w1, hw1⟩ : ∃ w1, w1 = w.alloc (.cells #[.int .i64 t] 3) := ⟨_, rfl⟩
  obtain ⟨gi, hgi⟩ : ∃ gi, gi = w.heap.size := ⟨_, rfl⟩
  rw [← hw1, ← hgi]
  have HOI : Hid (Own w1 0 3 intE 1 (.slice (some ⟨gi, 0, none⟩) 1 1) [t]) := Lib.hid (own_lit (l := [t]) (by rw [hw1, hgi]; exact heap_alloc_new _ _) (Nat.zero_le _) (by unfold maxLen; simp))
  have HB : Hid (Below w.heap.size w w1) := Lib.hid (by rw [hw1]; exact below_new _ _)
  clear hw1 hgi
  refine (key_any 3 [t] _ _ (by simp) (I64s.one H.out) (HOI.out.rd fun _ => rfl)).mono ?_
  rintro e w2 ⟨rfl, hb⟩
  have HB2 := Lib.hid (HB.out.trans (hb.mono HB.out.size))
  clear hb
  go_wp2_with fail
  go_ret
  exact ⟨rfl, HB2.out⟩
set_option maxHeartbeats 4000000 in
set_option maxRecDepth 100000 in
theorem rbSink_any {t : Int} (ht : I64 t) (w : World) : Calls Try.prog 26 #[.int .i64 t] w (Ret w (.string (bs (keyF 3 [t])))) := by
  have H := Lib.hid ht
  clear ht
  go_enter Try.func26, Try.ntmps26
  go_wp2_with fail
  obtain ⟨w1, hw1⟩ : ∃ w1, w1 = w.alloc (.cells #[.int .i64 t] 3) := ⟨_, rfl⟩
  obtain ⟨gi, hgi⟩ : ∃ gi, gi = w.heap.size := ⟨_, rfl⟩
  rw [← hw1, ← hgi]
  have HOI : Hid (Own w1 0 3 intE 1 (.slice (some ⟨gi, 0, none⟩) 1 1) [t]) := Lib.hid (own_lit (l := [t]) (by rw [hw1, hgi]; exact heap_alloc_new _ _) (Nat.zero_le _) (by unfold maxLen; simp))
  have HB : Hid (Below w.heap.size w w1) := Lib.hid (by rw [hw1]; exact below_new _ _)
  clear hw1 hgi
  refine (refKey_any 3 [t] _ _ (by simp) (I64s.one H.out) (HOI.out.rd fun _ => rfl)).mono ?_
  rintro e w2 ⟨rfl, hb⟩
  have HB2 := Lib.hid (HB.out.trans (hb.mono HB.out.size))
  clear hb
  go_wp2_with fail
  go_ret
  exact ⟨rfl, HB2.out⟩
set_option maxHeartbeats 4000000 in
set_option maxRecDepth 100000 in
theorem bPool_any {t : Int} (ht : I64 t) (w : World) : Calls Try.prog 27 #[.int .i64 t] w (Ret w (.string (bs (keyF 4 [t])))) := by
  have H := Lib.hid ht
  clear ht
  go_enter Try.func27, Try.ntmps27
  go_wp2_with fail
  obtain ⟨w1, hw1⟩ : ∃ w1, w1 = w.alloc (.cells #[.int .i64 t] 3) := ⟨_, rfl⟩
  obtain ⟨gi, hgi⟩ : ∃ gi, gi = w.heap.size := ⟨_, rfl⟩
  rw [← hw1, ← hgi]
  have HOI : Hid (Own w1 0 3 intE 1 (.slice (some ⟨gi, 0, none⟩) 1 1) [t]) := Lib.hid (own_lit (l := [t]) (by rw [hw1, hgi]; exact heap_alloc_new _ _) (Nat.zero_le _) (by unfold maxLen; simp))
  have HB : Hid (Below w.heap.size w w1) := Lib.hid (by rw [hw1]; exact below_new _ _)
  clear hw1 hgi
  refine (key_any 4 [t] _ _ (by simp) (I64s.one H.out) (HOI.out.rd fun _ => rfl)).mono ?_
  rintro e w2 ⟨rfl, hb⟩
  have HB2 := Lib.hid (HB.out.trans (hb.mono HB.out.size))
  clear hb
  go_wp2_with fail
  go_ret
  exact ⟨rfl, HB2.out⟩
set_option maxHeartbeats 4000000 in
set_option maxRecDepth 100000 in
theorem rbPool_any {t : Int} (ht : I64 t) (w : World) : Calls Try.prog 28 #[.int .i64 t] w (Ret w (.string (bs (keyF 4 [t])))) := by
  have H := Lib.hid ht
  clear ht
  go_enter Try.func28, Try.ntmps28
  go_wp2_with fail
  obtain ⟨w1, hw1⟩ : ∃ w1, w1 = w.alloc (.cells #[.int .i64 t] 3) := ⟨_, rfl⟩
  obtain ⟨gi, hgi⟩ : ∃ gi, gi = w.heap.size := ⟨_, rfl⟩
  rw [← hw1, ← hgi]
  have HOI : Hid (Own w1 0 3 intE 1 (.slice (some ⟨gi, 0, none⟩) 1 1) [t]) := Lib.hid (own_lit (l := [t]) (by rw [hw1, hgi]; exact heap_alloc_new _ _) (Nat.zero_le _) (by unfold maxLen; simp))
  have HB : Hid (Below w.heap.size w w1) := Lib.hid (by rw [hw1]; exact below_new _ _)
  clear hw1 hgi
  refine (refKey_any 4 [t] _ _ (by simp) (I64s.one H.out) (HOI.out.rd fun _ => rfl)).mono ?_
  rintro e w2 ⟨rfl, hb⟩
  have HB2 := Lib.hid (HB.out.trans (hb.mono HB.out.size))
  clear hb
  go_wp2_with fail
  go_ret
  exact ⟨rfl, HB2.out⟩
set_option maxHeartbeats 4000000 in
set_option maxRecDepth 100000 in
theorem bStock_any {t n : Int} (ht : I64 t) (hn : I64 n) (w : World) : Calls Try.prog 29 #[.int .i64 t, .int .i64 n] w (Ret w (.string (bs (keyF 6 [t, n])))) := by
  have H := Lib.hid (And.intro ht hn)
  clear ht hn
  go_enter Try.func29, Try.ntmps29
  go_wp2_with fail
  obtain ⟨w1, hw1⟩ : ∃ w1, w1 = w.alloc (.cells #[.int .i64 t, .int .i64 n] 3) := ⟨_, rfl⟩
  obtain ⟨gi, hgi⟩ : ∃ gi, gi = w.heap.size := ⟨_, rfl⟩
  rw [← hw1, ← hgi]
  have HOI : Hid (Own w1 0 3 intE 1 (.slice (some ⟨gi, 0, none⟩) 2 2) [t, n]) := Lib.hid (own_lit (l := [t, n]) (by rw [hw1, hgi]; exact heap_alloc_new _ _) (Nat.zero_le _) (by unfold maxLen; simp))
  have HB : Hid (Below w.heap.size w w1) := Lib.hid (by rw [hw1]; exact below_new _ _)
  clear hw1 hgi
  refine (key_any 6 [t, n] _ _ (by simp) (I64s.two H.out.1 H.out.2) (HOI.out.rd fun _ => rfl)).mono ?_
  rintro e w2 ⟨rfl, hb⟩
  have HB2 := Lib.hid (HB.out.trans (hb.mono HB.out.size))
  clear hb
  go_wp2_with fail
  go_ret
  exact ⟨rfl, HB2.out⟩
set_option maxHeartbeats 4000000 in
set_option maxRecDepth 100000 in
theorem rbStock_any {t n : Int} (ht : I64 t) (hn : I64 n) (w : World) : Calls Try.prog 30 #[.int .i64 t, .int .i64 n] w (Ret w (.string (bs (keyF 6 [t, n])))) := by
  have H := Lib.hid (And.intro ht hn)
  clear ht hn
  go_enter Try.func30, Try.ntmps30
  go_wp2_with fail
  obtain ⟨w1, hw1⟩ : ∃ w1, w1 = w.alloc (.cells #[.int .i64 t, .int .i64 n] 3) := ⟨_, rfl⟩
  obtain ⟨gi, hgi⟩ : ∃ gi, gi = w.heap.size := ⟨_, rfl⟩
  rw [← hw1, ← hgi]
  have HOI : Hid (Own w1 0 3 intE 1 (.slice (some ⟨gi, 0, none⟩) 2 2) [t, n]) := Lib.hid (own_lit (l := [t, n]) (by rw [hw1, hgi]; exact heap_alloc_new _ _) (Nat.zero_le _) (by unfold maxLen; simp))
  have HB : Hid (Below w.heap.size w w1) := Lib.hid (by rw [hw1]; exact below_new _ _)
  clear hw1 hgi
  refine (refKey_any 6 [t, n] _ _ (by simp) (I64s.two H.out.1 H.out.2) (HOI.out.rd fun _ => rfl)).mono ?_
  rintro e w2 ⟨rfl, hb⟩
  have HB2 := Lib.hid (HB.out.trans (hb.mono HB.out.size))
  clear hb
  go_wp2_with fail
  go_ret
  exact ⟨rfl, HB2.out⟩
set_option maxHeartbeats 4000000 in
theorem within_any (n m : Int) (w : World) : Calls Try.prog 55 #[.int .i64 n, .int .i64 m] w fun e w' => e = .returned (.bool (decide (1 ≤ n ∧ n ≤ m))) ∧ w = w' := by
  obtain ⟨q, hq⟩ : ∃ q, q = decide (1 ≤ n ∧ n ≤ m) := ⟨_, rfl⟩
  have HQ := Lib.hid hq
  rw [← hq]
  clear hq
  by_cases h1 : 1 ≤ n
  · have hd : Hid (decide (n ≤ m) = q) := Lib.hid (by rw [HQ.out]; simp only [h1, true_and])
    go_enter Try.func55, Try.ntmps55
    go_wp2_with fail
    go_ret
    exact ⟨by rw [← hd.out]; rfl, rfl⟩
  · have hd : Hid (q = false) := Lib.hid (by rw [HQ.out]; exact decide_eq_false fun e => h1 e.1)
    have h3 : n < 1 := by omega
    clear h1
    go_enter Try.func55, Try.ntmps55
    go_wp2_with fail
    go_ret
    exact ⟨by rw [hd.out]; rfl, rfl⟩
set_option maxHeartbeats 4000000 in
theorem bgood_any (t n : Int) (w : World) : Calls Try.prog 49 #[.int .i64 t, .int .i64 n] w fun e w' => e = .returned (.bool (goodB t n)) ∧ w = w' := by
  obtain ⟨g1, hg1⟩ : ∃ g, g = decide (1 ≤ t ∧ t ≤ 1000) := ⟨_, rfl⟩
  obtain ⟨g2, hg2⟩ : ∃ g, g = decide (1 ≤ n ∧ n ≤ 4294967295) := ⟨_, rfl⟩
  have HG : Hid (goodB t n = (g1 && g2)) := Lib.hid (by rw [hg1, hg2]; unfold goodB; rw [Bool.decide_and])
  have G1 := Lib.hid hg1; have G2 := Lib.hid hg2
  clear hg1 hg2
  go_enter Try.func49, Try.ntmps49
  go_wp2_with fail
  refine (within_any t 1000 _).mono ?_
  rw [← G1.out]
  rintro e w1 ⟨rfl, rfl⟩
  cases g1 with
  | false =>
    go_wp2_with fail
    go_ret
    exact ⟨by rw [HG.out]; rfl, rfl⟩
  | true =>
    go_wp2_with fail
    refine (within_any n 4294967295 _).mono ?_
    rw [← G2.out]
    rintro e w1 ⟨rfl, rfl⟩
    go_wp2_with fail
    go_ret
    exact ⟨by rw [HG.out]; rfl, rfl⟩
theorem liv_cells {w0 w w' : World} {F0 : List Nat} {g : Nat} {s : PS} {X : Nat} {cs : Array Value} {T : TypeId} (L : Liv w0 F0 w g s) (hX : w.heap[X]? = some (.cells cs T (0, 0))) (hT : stoKind (.cells cs T (0, 0)) = false) (hk : Keep (· = X) w w') (hw : w0.heap.size ≤ X) : Liv w0 F0 w' g s := by
  obtain ⟨F, h1, h2, h3⟩ := L
  refine ⟨F, h1.keep hk fun x hx hu => ?_, h2.trans (hk.mono fun y _ hy => .inr (hy ▸ hw)), h3⟩
  obtain ⟨o, ho, k1⟩ := h1.kind x hx
  subst hu
  rw [hX] at ho
  cases ho
  rw [hT] at k1; cases k1

/-! ### Mint -/
set_option maxHeartbeats 4000000 in
set_option maxRecDepth 100000 in
theorem mint1_any {w : World} {g : Nat} {s : PS} {F : List Nat} (h : St w g s F) (hz : s.sz < 1000000000) (hf : Fit s) {t n : Int} (ht : I64 t) (hn : I64 n) {a b c d : Int} {m : Nat} (hu : UIs a b c d m) {BS BT BA : Nat} (hBS : w.heap[BS]? = some (.cells #[.pointer (some ⟨g, 0, none⟩)] 35 (0, 0))) (hBT : w.heap[BT]? = some (.cells #[.int .i64 t] 3 (0, 0))) (hBA : w.heap[BA]? = some (.cells #[.int .u64 a, .int .u64 b, .int .u64 c, .int .u64 d] 24 (0, 0))) :
    Calls Try.prog 51 #[.pointer (some ⟨BS, 0, none⟩), .pointer (some ⟨BT, 0, none⟩), .pointer (some ⟨BA, 0, none⟩)] w (StRet w g F (s.addA (kSup t) m) (.int .i64 (addE (getP s.t) (kSup t) m))) := by
  have L := Lib.hid (Liv.start h); have HZ := Lib.hid hz; have HF := Lib.hid hf; have HTN := Lib.hid (And.intro ht hn); have HU := Lib.hid hu
  have HBS := Lib.hid hBS
  have HBT := Lib.hid hBT
  have HBA := Lib.hid hBA
  clear h hz hf ht hn hu hBS hBT hBA
  go_enter Try.func51, Try.ntmps51
  go_wp2_with fail
  obtain ⟨a1, hwz⟩ : ∃ wz, wz = w.drew := ⟨_, rfl⟩
  have hbz : Below w.heap.size w a1 := by rw [hwz]; exact (Below.refl _ _).drew
  have Lm := Lib.hid (L.out.later hbz)
  have HBSm := Lib.hid (below_at' hbz HBS.out)
  have HBTm := Lib.hid (below_at' hbz HBT.out)
  have HBAm := Lib.hid (below_at' hbz HBA.out)
  clear hbz L HBS HBT HBA
  have L := Lm
  have HBS := HBSm
  have HBT := HBTm
  have HBA := HBAm
  clear Lm HBSm HBTm HBAm
  have hS : a1.heap[BS]? = some (.cells #[.pointer (some ⟨g, 0, none⟩)] 35 (0, 0)) ∧ a1.heap[BT]? = some (.cells #[.int .i64 t] 3 (0, 0)) ∧ a1.heap[BA]? = some (.cells #[.int .u64 a, .int .u64 b, .int .u64 c, .int .u64 d] 24 (0, 0)) := ⟨HBS.out, HBT.out, HBA.out⟩
  refine wp_region_till (fun w' => w'.heap[BS]? = some (.cells #[.pointer (some ⟨g, 0, none⟩)] 35 (0, 0)) ∧ w'.heap[BT]? = some (.cells #[.int .i64 t] 3 (0, 0)) ∧ w'.heap[BA]? = some (.cells #[.int .u64 a, .int .u64 b, .int .u64 c, .int .u64 d] 24 (0, 0))) 6 6 (by kernel_rfl) rfl ?_
  rw [← hwz]
  clear hwz
  refine till_take 0 (some 4) rfl rfl (by kernel_rfl) (by kernel_rfl) (by kernel_rfl) (by kernel_rfl) (by kernel_rfl) (by kernel_rfl) (fun _ _ _ h => h) (.inl ⟨by rfl, fun w' hS' => (by have hc : w'.cell? ⟨BS, 0, none⟩ = some (.pointer (some ⟨g, 0, none⟩)) := Lib.cell_of_heap (hS'.1) 0; go_simp; rfl)⟩) hS ?_
  go_frame
  refine till_take 1 (some 5) rfl rfl (by kernel_rfl) (by kernel_rfl) (by kernel_rfl) (by kernel_rfl) (by kernel_rfl) (by kernel_rfl) (fun _ _ _ h => h) (.inl ⟨by rfl, fun w' hS' => (by have hc : w'.cell? ⟨BT, 0, none⟩ = some (.int .i64 t) := Lib.cell_of_heap (hS'.2.1) 0; go_simp; rfl)⟩) hS ?_
  go_frame
  refine till_take 3 (some 7) rfl rfl (by kernel_rfl) (by kernel_rfl) (by kernel_rfl) (by kernel_rfl) (by kernel_rfl) (by kernel_rfl) (fun _ _ _ h => h) (yields_load (by rfl) 24 _ rfl (.pointer (some ⟨BA, 0, none⟩)) rfl (.agg #[.int .u64 a, .int .u64 b, .int .u64 c, .int .u64 d]) (fun w' hS' => load_heap (hS'.2.2) Try.underlying24 rfl Try.sizeU)) hS ?_
  go_frame
  refine till_one 2 rfl (by kernel_rfl) fun K hK => ?_
  simp only [List.getElem_toArray, List.getElem_cons_succ, List.getElem_cons_zero]
  rw [if_pos (by rfl)]
  go_simp
  refine (bSup_any HTN.out.1 _).mono ?_
  rintro e a2 ⟨rfl, hb⟩
  have Lm := Lib.hid (L.out.later hb)
  have HBSm := Lib.hid (below_at' hb HBS.out)
  have HBTm := Lib.hid (below_at' hb HBT.out)
  have HBAm := Lib.hid (below_at' hb HBA.out)
  clear hb L HBS HBT HBA
  have L := Lm
  have HBS := HBSm
  have HBT := HBTm
  have HBA := HBAm
  clear Lm HBSm HBTm HBAm
  have hS2 : a2.heap[BS]? = some (.cells #[.pointer (some ⟨g, 0, none⟩)] 35 (0, 0)) ∧ a2.heap[BT]? = some (.cells #[.int .i64 t] 3 (0, 0)) ∧ a2.heap[BA]? = some (.cells #[.int .u64 a, .int .u64 b, .int .u64 c, .int .u64 d] 24 (0, 0)) := ⟨HBS.out, HBT.out, HBA.out⟩
  refine hK _ _ (fun _ _ => hS2) ?_
  clear hK hS
  have hS := hS2
  clear hS2
  refine till_one 4 rfl (by kernel_rfl) fun K hK => ?_
  simp only [List.getElem_toArray, List.getElem_cons_succ, List.getElem_cons_zero]
  rw [if_pos (by rfl)]
  go_simp
  refine (L.out.call fun F hs => cadd_any hs (by have := HZ.out; omega) HF.out (kSup t) HU.out).mono ?_
  rintro e a3 ⟨rfl, o, hoth⟩
  have Lm := Lib.hid o
  have HBSm := Lib.hid (hoth.2 BS _ HBS.out rfl rfl)
  have HBTm := Lib.hid (hoth.2 BT _ HBT.out rfl rfl)
  have HBAm := Lib.hid (hoth.2 BA _ HBA.out rfl rfl)
  clear o hoth L HBS HBT HBA
  have L := Lm
  have HBS := HBSm
  have HBT := HBTm
  have HBA := HBAm
  clear Lm HBSm HBTm HBAm
  have hS2 : a3.heap[BS]? = some (.cells #[.pointer (some ⟨g, 0, none⟩)] 35 (0, 0)) ∧ a3.heap[BT]? = some (.cells #[.int .i64 t] 3 (0, 0)) ∧ a3.heap[BA]? = some (.cells #[.int .u64 a, .int .u64 b, .int .u64 c, .int .u64 d] 24 (0, 0)) := ⟨HBS.out, HBT.out, HBA.out⟩
  refine hK _ _ (fun _ _ => hS2) ?_
  clear hK hS
  have hS := hS2
  clear hS2
  refine till_take 5 (some 3) rfl rfl (by kernel_rfl) (by kernel_rfl) (by kernel_rfl) (by kernel_rfl) (by kernel_rfl) (by kernel_rfl) (fun _ _ _ h => h) (.inl ⟨by rfl, fun w' _ => (by go_simp; rfl)⟩) hS ?_
  go_frame
  refine till_done (by kernel_rfl) ?_ _
  clear hS
  go_wp2_with fail
  go_ret
  exact L.out.ret
set_option maxHeartbeats 4000000 in
set_option maxRecDepth 100000 in
theorem mint2_any {w : World} {g : Nat} {s : PS} {F : List Nat} (h : St w g s F) (hz : s.sz < 1000000000) (hf : Fit s) {t n : Int} (ht : I64 t) (hn : I64 n) {a b c d : Int} {m : Nat} (hu : UIs a b c d m) {BS BT BN BA : Nat} (hBS : w.heap[BS]? = some (.cells #[.pointer (some ⟨g, 0, none⟩)] 35 (0, 0))) (hBT : w.heap[BT]? = some (.cells #[.int .i64 t] 3 (0, 0))) (hBN : w.heap[BN]? = some (.cells #[.int .i64 n] 3 (0, 0))) (hBA : w.heap[BA]? = some (.cells #[.int .u64 a, .int .u64 b, .int .u64 c, .int .u64 d] 24 (0, 0))) :
    Calls Try.prog 53 #[.pointer (some ⟨BS, 0, none⟩), .pointer (some ⟨BT, 0, none⟩), .pointer (some ⟨BN, 0, none⟩), .pointer (some ⟨BA, 0, none⟩)] w (StRet w g F (s.addA (kAcc t n) m) (.int .i64 (addE (getP s.t) (kAcc t n) m))) := by
  have L := Lib.hid (Liv.start h); have HZ := Lib.hid hz; have HF := Lib.hid hf; have HTN := Lib.hid (And.intro ht hn); have HU := Lib.hid hu
  have HBS := Lib.hid hBS
  have HBT := Lib.hid hBT
  have HBN := Lib.hid hBN
  have HBA := Lib.hid hBA
  clear h hz hf ht hn hu hBS hBT hBN hBA
  go_enter Try.func53, Try.ntmps53
  go_wp2_with fail
  obtain ⟨a1, hwz⟩ : ∃ wz, wz = w.drew := ⟨_, rfl⟩
  have hbz : Below w.heap.size w a1 := by rw [hwz]; exact (Below.refl _ _).drew
  have Lm := Lib.hid (L.out.later hbz)
  have HBSm := Lib.hid (below_at' hbz HBS.out)
  have HBTm := Lib.hid (below_at' hbz HBT.out)
  have HBNm := Lib.hid (below_at' hbz HBN.out)
  have HBAm := Lib.hid (below_at' hbz HBA.out)
  clear hbz L HBS HBT HBN HBA
  have L := Lm
  have HBS := HBSm
  have HBT := HBTm
  have HBN := HBNm
  have HBA := HBAm
  clear Lm HBSm HBTm HBNm HBAm
  have hS : a1.heap[BS]? = some (.cells #[.pointer (some ⟨g, 0, none⟩)] 35 (0, 0)) ∧ a1.heap[BT]? = some (.cells #[.int .i64 t] 3 (0, 0)) ∧ a1.heap[BN]? = some (.cells #[.int .i64 n] 3 (0, 0)) ∧ a1.heap[BA]? = some (.cells #[.int .u64 a, .int .u64 b, .int .u64 c, .int .u64 d] 24 (0, 0)) := ⟨HBS.out, HBT.out, HBN.out, HBA.out⟩
  refine wp_region_till (fun w' => w'.heap[BS]? = some (.cells #[.pointer (some ⟨g, 0, none⟩)] 35 (0, 0)) ∧ w'.heap[BT]? = some (.cells #[.int .i64 t] 3 (0, 0)) ∧ w'.heap[BN]? = some (.cells #[.int .i64 n] 3 (0, 0)) ∧ w'.heap[BA]? = some (.cells #[.int .u64 a, .int .u64 b, .int .u64 c, .int .u64 d] 24 (0, 0))) 7 7 (by kernel_rfl) rfl ?_
  rw [← hwz]
  clear hwz
  refine till_take 0 (some 5) rfl rfl (by kernel_rfl) (by kernel_rfl) (by kernel_rfl) (by kernel_rfl) (by kernel_rfl) (by kernel_rfl) (fun _ _ _ h => h) (.inl ⟨by rfl, fun w' hS' => (by have hc : w'.cell? ⟨BS, 0, none⟩ = some (.pointer (some ⟨g, 0, none⟩)) := Lib.cell_of_heap (hS'.1) 0; go_simp; rfl)⟩) hS ?_
  go_frame
  refine till_take 1 (some 6) rfl rfl (by kernel_rfl) (by kernel_rfl) (by kernel_rfl) (by kernel_rfl) (by kernel_rfl) (by kernel_rfl) (fun _ _ _ h => h) (.inl ⟨by rfl, fun w' hS' => (by have hc : w'.cell? ⟨BT, 0, none⟩ = some (.int .i64 t) := Lib.cell_of_heap (hS'.2.1) 0; go_simp; rfl)⟩) hS ?_
  go_frame
  refine till_take 2 (some 7) rfl rfl (by kernel_rfl) (by kernel_rfl) (by kernel_rfl) (by kernel_rfl) (by kernel_rfl) (by kernel_rfl) (fun _ _ _ h => h) (.inl ⟨by rfl, fun w' hS' => (by have hc : w'.cell? ⟨BN, 0, none⟩ = some (.int .i64 n) := Lib.cell_of_heap (hS'.2.2.1) 0; go_simp; rfl)⟩) hS ?_
  go_frame
  refine till_take 4 (some 9) rfl rfl (by kernel_rfl) (by kernel_rfl) (by kernel_rfl) (by kernel_rfl) (by kernel_rfl) (by kernel_rfl) (fun _ _ _ h => h) (yields_load (by rfl) 24 _ rfl (.pointer (some ⟨BA, 0, none⟩)) rfl (.agg #[.int .u64 a, .int .u64 b, .int .u64 c, .int .u64 d]) (fun w' hS' => load_heap (hS'.2.2.2) Try.underlying24 rfl Try.sizeU)) hS ?_
  go_frame
  refine till_one 3 rfl (by kernel_rfl) fun K hK => ?_
  simp only [List.getElem_toArray, List.getElem_cons_succ, List.getElem_cons_zero]
  rw [if_pos (by rfl)]
  go_simp
  refine (bAcc_any HTN.out.1 HTN.out.2 _).mono ?_
  rintro e a2 ⟨rfl, hb⟩
  have Lm := Lib.hid (L.out.later hb)
  have HBSm := Lib.hid (below_at' hb HBS.out)
  have HBTm := Lib.hid (below_at' hb HBT.out)
  have HBNm := Lib.hid (below_at' hb HBN.out)
  have HBAm := Lib.hid (below_at' hb HBA.out)
  clear hb L HBS HBT HBN HBA
  have L := Lm
  have HBS := HBSm
  have HBT := HBTm
  have HBN := HBNm
  have HBA := HBAm
  clear Lm HBSm HBTm HBNm HBAm
  have hS2 : a2.heap[BS]? = some (.cells #[.pointer (some ⟨g, 0, none⟩)] 35 (0, 0)) ∧ a2.heap[BT]? = some (.cells #[.int .i64 t] 3 (0, 0)) ∧ a2.heap[BN]? = some (.cells #[.int .i64 n] 3 (0, 0)) ∧ a2.heap[BA]? = some (.cells #[.int .u64 a, .int .u64 b, .int .u64 c, .int .u64 d] 24 (0, 0)) := ⟨HBS.out, HBT.out, HBN.out, HBA.out⟩
  refine hK _ _ (fun _ _ => hS2) ?_
  clear hK hS
  have hS := hS2
  clear hS2
  refine till_one 5 rfl (by kernel_rfl) fun K hK => ?_
  simp only [List.getElem_toArray, List.getElem_cons_succ, List.getElem_cons_zero]
  rw [if_pos (by rfl)]
  go_simp
  refine (L.out.call fun F hs => cadd_any hs (by have := HZ.out; omega) HF.out (kAcc t n) HU.out).mono ?_
  rintro e a3 ⟨rfl, o, hoth⟩
  have Lm := Lib.hid o
  have HBSm := Lib.hid (hoth.2 BS _ HBS.out rfl rfl)
  have HBTm := Lib.hid (hoth.2 BT _ HBT.out rfl rfl)
  have HBNm := Lib.hid (hoth.2 BN _ HBN.out rfl rfl)
  have HBAm := Lib.hid (hoth.2 BA _ HBA.out rfl rfl)
  clear o hoth L HBS HBT HBN HBA
  have L := Lm
  have HBS := HBSm
  have HBT := HBTm
  have HBN := HBNm
  have HBA := HBAm
  clear Lm HBSm HBTm HBNm HBAm
  have hS2 : a3.heap[BS]? = some (.cells #[.pointer (some ⟨g, 0, none⟩)] 35 (0, 0)) ∧ a3.heap[BT]? = some (.cells #[.int .i64 t] 3 (0, 0)) ∧ a3.heap[BN]? = some (.cells #[.int .i64 n] 3 (0, 0)) ∧ a3.heap[BA]? = some (.cells #[.int .u64 a, .int .u64 b, .int .u64 c, .int .u64 d] 24 (0, 0)) := ⟨HBS.out, HBT.out, HBN.out, HBA.out⟩
  refine hK _ _ (fun _ _ => hS2) ?_
  clear hK hS
  have hS := hS2
  clear hS2
  refine till_take 6 (some 4) rfl rfl (by kernel_rfl) (by kernel_rfl) (by kernel_rfl) (by kernel_rfl) (by kernel_rfl) (by kernel_rfl) (fun _ _ _ h => h) (.inl ⟨by rfl, fun w' _ => (by go_simp; rfl)⟩) hS ?_
  go_frame
  refine till_done (by kernel_rfl) ?_ _
  clear hS
  go_wp2_with fail
  go_ret
  exact L.out.ret
def mint2E (s : PS) (t n : Int) (m : Nat) : Int := if addE (getP s.t) (kSup t) m ≠ 0 then addE (getP s.t) (kSup t) m else addE (getP (s.addA (kSup t) m).t) (kAcc t n) m
def PS.mint2 (s : PS) (t n : Int) (m : Nat) : PS := if addE (getP s.t) (kSup t) m ≠ 0 then s else if addE (getP (s.addA (kSup t) m).t) (kAcc t n) m ≠ 0 then ((s.addA (kSup t) m).addA (kAcc t n) m).undo s.past.length else (s.addA (kSup t) m).addA (kAcc t n) m
theorem past_addA (s : PS) (k : Txt) (m : Nat) : s.past.length ≤ (s.addA k m).past.length := by
  have hset : ∀ (k v : Txt), s.past.length ≤ (s.set k v).past.length := fun k v => by unfold PS.set PS.put; split <;> simp
  have hdel : ∀ (k : Txt), s.past.length ≤ (s.del k).past.length := fun k => by unfold PS.del PS.put; split <;> simp
  unfold PS.addA PS.setAmt
  split
  · split
    · exact hdel _
    · exact hset _ _
  · exact Nat.le_refl _
set_option maxHeartbeats 8000000 in
set_option maxRecDepth 100000 in
theorem ball_any {w : World} {g : Nat} {s : PS} {F : List Nat} (h : St w g s F) (hz : s.sz < 100000000) (hf : Fit s) {t n : Int} (ht : I64 t) (hn : I64 n) {a b c d : Int} {m : Nat} (hu : UIs a b c d m) {BS BT BN BA L0 : Nat} (hBS : w.heap[BS]? = some (.cells #[.pointer (some ⟨g, 0, none⟩)] 35 (0, 0))) (hBT : w.heap[BT]? = some (.cells #[.int .i64 t] 3 (0, 0))) (hBN : w.heap[BN]? = some (.cells #[.int .i64 n] 3 (0, 0))) (hBA : w.heap[BA]? = some (.cells #[.int .u64 a, .int .u64 b, .int .u64 c, .int .u64 d] 24 (0, 0))) (hL0 : w.heap[L0]? = some (.cells #[.func (.func 51) #[] #[.pointer (some ⟨BS, 0, none⟩), .pointer (some ⟨BT, 0, none⟩), .pointer (some ⟨BA, 0, none⟩)], .func (.func 53) #[] #[.pointer (some ⟨BS, 0, none⟩), .pointer (some ⟨BT, 0, none⟩), .pointer (some ⟨BN, 0, none⟩), .pointer (some ⟨BA, 0, none⟩)]] 83 (0, 0))) :
    Calls Try.prog 50 #[.pointer (some ⟨g, 0, none⟩), .slice (some ⟨L0, 0, none⟩) 2 2] w (StRet w g F (s.mint2 t n m) (.int .i64 (mint2E s t n m))) := by
  have L := Lib.hid (Liv.start h); have HZ := Lib.hid hz; have HF := Lib.hid hf; have HT := Lib.hid ht; have HN := Lib.hid hn; have HU := Lib.hid hu
  have HBS := Lib.hid hBS; have HBT := Lib.hid hBT; have HBN := Lib.hid hBN; have HBA := Lib.hid hBA; have HL0 := Lib.hid hL0
  have hmk := smark_any h
  clear hz hf ht hn hu hBS hBT hBN hBA hL0
  go_enter Try.func50, Try.ntmps50
  go_wp2_with fail
  refine hmk.mono ?_
  rintro e _ ⟨rfl, rfl⟩
  clear hmk h
  obtain ⟨pl, hpl⟩ : ∃ pl, pl = s.past.length := ⟨_, rfl⟩
  rw [← hpl]
  have HPL := Lib.hid hpl
  clear hpl
  obtain ⟨e1, he1⟩ : ∃ e1, e1 = addE (getP s.t) (kSup t) m := ⟨_, rfl⟩
  obtain ⟨s1, hs1⟩ : ∃ s1, s1 = s.addA (kSup t) m := ⟨_, rfl⟩
  obtain ⟨e2, he2⟩ : ∃ e2, e2 = addE (getP s1.t) (kAcc t n) m := ⟨_, rfl⟩
  obtain ⟨s2, hs2⟩ : ∃ s2, s2 = s1.addA (kAcc t n) m := ⟨_, rfl⟩
  have HE : Hid (mint2E s t n m = if e1 ≠ 0 then e1 else e2) := Lib.hid (by unfold mint2E; rw [he2, hs1, he1])
  have HS : Hid (s.mint2 t n m = if e1 ≠ 0 then s else if e2 ≠ 0 then s2.undo s.past.length else s2) := Lib.hid (by unfold PS.mint2; rw [he2, hs2, hs1, he1])
  have HZ1 : Hid (s1.sz < 1000000000 ∧ Fit s1) := Lib.hid (by rw [hs1]; have h8 := sz_addA s (kSup t) m; have h9 := HZ.out; exact ⟨by omega, HF.out.addA _ _⟩)
  have HZ2 : Hid (s2.sz < 1000000000) := Lib.hid (by rw [hs2, hs1]; have h8 := sz_addA s (kSup t) m; have h9 := HZ.out; have h7 := sz_addA (s.addA (kSup t) m) (kAcc t n) m; omega)
  have HSA : Hid (e1 ≠ 0 → s1 = s) := Lib.hid (by intro h9; rw [hs1]; exact addA_no (by rw [← he1]; exact h9))
  have H1 := Lib.hid (And.intro he1 hs1); have H2 := Lib.hid (And.intro he2 hs2)
  clear he1 hs1 he2 hs2
  go_wp2_with fail
  go_loopw [13] (fun vi wr => ∃ i : Nat, vi = .int .i64 i ∧ i ≤ 2 ∧ Hid ((i = 0 ∧ Liv w F wr g s) ∨ (i = 1 ∧ e1 = 0 ∧ Liv w F wr g s1) ∨ (i = 2 ∧ e1 = 0 ∧ e2 = 0 ∧ Liv w F wr g s2)) ∧ Hid (wr.heap[BS]? = some (.cells #[.pointer (some ⟨g, 0, none⟩)] 35 (0, 0)) ∧ wr.heap[BT]? = some (.cells #[.int .i64 t] 3 (0, 0)) ∧ wr.heap[BN]? = some (.cells #[.int .i64 n] 3 (0, 0)) ∧ wr.heap[BA]? = some (.cells #[.int .u64 a, .int .u64 b, .int .u64 c, .int .u64 d] 24 (0, 0)) ∧ wr.heap[L0]? = some (.cells #[.func (.func 51) #[] #[.pointer (some ⟨BS, 0, none⟩), .pointer (some ⟨BT, 0, none⟩), .pointer (some ⟨BA, 0, none⟩)], .func (.func 53) #[] #[.pointer (some ⟨BS, 0, none⟩), .pointer (some ⟨BT, 0, none⟩), .pointer (some ⟨BN, 0, none⟩), .pointer (some ⟨BA, 0, none⟩)]] 83 (0, 0)))) (fun vi _ => 2 - (intOf vi).toNat)
  case atStart => exact ⟨0, rfl, by omega, Lib.hid (.inl ⟨rfl, L.out⟩), Lib.hid ⟨HBS.out, HBT.out, HBN.out, HBA.out, HL0.out⟩⟩
  case round =>
    clear L HBS HBT HBN HBA HL0
    obtain ⟨i, rfl, hi, HI, HX⟩ := hrel
    rcases (show i = 0 ∨ i = 1 ∨ i = 2 by omega) with rfl | rfl | rfl
    · have L : Hid (Liv w F wr g s) := Lib.hid (by rcases HI.out with h | h | h; exact h.2; exact absurd h.1 (by decide); exact absurd h.1 (by decide))
      have c0 : wr.cell? ⟨L0, 0, none⟩ = some (.func (.func 51) #[] #[.pointer (some ⟨BS, 0, none⟩), .pointer (some ⟨BT, 0, none⟩), .pointer (some ⟨BA, 0, none⟩)]) := Lib.cell_of_heap HX.out.2.2.2.2 0
      go_wp2_with fail
      clear c0 HI
      refine (L.out.call fun F2 hs => mint1_any hs (by have := HZ.out; omega) HF.out HT.out HN.out HU.out HX.out.1 HX.out.2.1 HX.out.2.2.2.1).mono ?_
      rw [← H1.out.1, ← H1.out.2]
      rintro e w2 ⟨rfl, L2, hoth⟩
      have L2 := Lib.hid L2
      have HX2 := Lib.hid (And.intro (hoth.2 BS _ HX.out.1 rfl rfl) (And.intro (hoth.2 BT _ HX.out.2.1 rfl rfl) (And.intro (hoth.2 BN _ HX.out.2.2.1 rfl rfl) (And.intro (hoth.2 BA _ HX.out.2.2.2.1 rfl rfl) (hoth.2 L0 _ HX.out.2.2.2.2 rfl rfl)))))
      clear hoth L HX
      by_cases hz0 : e1 = 0
      · have HZE := Lib.hid hz0
        have hb0 : (e1 != 0) = false := by rw [hz0]; rfl
        clear hz0
        go_wp2_with fail
        go_roundw
        case rel => exact ⟨1, by go_num, by omega, Lib.hid (.inr (.inl ⟨rfl, HZE.out, L2.out⟩)), HX2⟩
        case measure => simp [intOf]
      · have hb0 : (e1 != 0) = true := by rw [bne_iff_ne]; exact hz0
        have HEV : Hid (mint2E s t n m = e1) := Lib.hid (by rw [HE.out, if_pos hz0])
        have HSV : Hid (s.mint2 t n m = s1.undo pl) := Lib.hid (by rw [HS.out, HPL.out, if_pos hz0, HSA.out hz0, undo_same])
        have hne : (e1 == 0) = false := by rw [beq_eq_false_iff_ne]; exact hz0
        clear hz0
        go_wp2_with fail
        refine (L2.out.call fun F2 hs => sundo_any hs (by have h8 := HZ1.out.1; have h9 := HZ2.out; unfold PS.sz at h8 h9; omega) pl).mono ?_
        rintro e w3 ⟨rfl, L3, _⟩
        have L3 := Lib.hid L3
        clear L2
        go_wp2_with fail
        go_ret
        rw [HEV.out, HSV.out]; exact L3.out.ret
    · have hh : e1 = 0 ∧ Liv w F wr g s1 := by rcases HI.out with h | h | h; exact absurd h.1 (by decide); exact h.2; exact absurd h.1 (by decide)
      have L := Lib.hid hh.2; have HE1 := Lib.hid hh.1
      have c0 : wr.cell? ⟨L0, 1, none⟩ = some (.func (.func 53) #[] #[.pointer (some ⟨BS, 0, none⟩), .pointer (some ⟨BT, 0, none⟩), .pointer (some ⟨BN, 0, none⟩), .pointer (some ⟨BA, 0, none⟩)]) := Lib.cell_of_heap HX.out.2.2.2.2 1
      clear hh
      go_wp2_with fail
      clear c0 HI
      refine (L.out.call fun F2 hs => mint2_any hs HZ1.out.1 HZ1.out.2 HT.out HN.out HU.out HX.out.1 HX.out.2.1 HX.out.2.2.1 HX.out.2.2.2.1).mono ?_
      rw [← H2.out.1, ← H2.out.2]
      rintro e w2 ⟨rfl, L2, hoth⟩
      have L2 := Lib.hid L2
      have HX2 := Lib.hid (And.intro (hoth.2 BS _ HX.out.1 rfl rfl) (And.intro (hoth.2 BT _ HX.out.2.1 rfl rfl) (And.intro (hoth.2 BN _ HX.out.2.2.1 rfl rfl) (And.intro (hoth.2 BA _ HX.out.2.2.2.1 rfl rfl) (hoth.2 L0 _ HX.out.2.2.2.2 rfl rfl)))))
      clear hoth L HX
      by_cases hz0 : e2 = 0
      · have HZE := Lib.hid hz0
        have hb0 : (e2 != 0) = false := by rw [hz0]; rfl
        clear hz0
        go_wp2_with fail
        go_roundw
        case rel => exact ⟨2, by go_num, by omega, Lib.hid (.inr (.inr ⟨rfl, HE1.out, HZE.out, L2.out⟩)), HX2⟩
        case measure => simp [intOf]
      · have hb0 : (e2 != 0) = true := by rw [bne_iff_ne]; exact hz0
        have HEV : Hid (mint2E s t n m = e2) := Lib.hid (by rw [HE.out, if_neg (fun e => e HE1.out)])
        have HSV : Hid (s.mint2 t n m = s2.undo pl) := Lib.hid (by rw [HS.out, HPL.out, if_neg (fun e => e HE1.out), if_pos hz0])
        have hne : (e2 == 0) = false := by rw [beq_eq_false_iff_ne]; exact hz0
        clear hz0
        go_wp2_with fail
        refine (L2.out.call fun F2 hs => sundo_any hs (by have h8 := HZ1.out.1; have h9 := HZ2.out; unfold PS.sz at h8 h9; omega) pl).mono ?_
        rintro e w3 ⟨rfl, L3, _⟩
        have L3 := Lib.hid L3
        clear L2
        go_wp2_with fail
        go_ret
        rw [HEV.out, HSV.out]; exact L3.out.ret
    · have hh : e1 = 0 ∧ e2 = 0 ∧ Liv w F wr g s2 := by rcases HI.out with h | h | h; exact absurd h.1 (by decide); exact absurd h.1 (by decide); exact h.2
      have L := Lib.hid hh.2.2
      have HEV : Hid (mint2E s t n m = 0) := Lib.hid (by rw [HE.out, if_neg (fun e => e hh.1), hh.2.1])
      have HSV : Hid (s.mint2 t n m = s2) := Lib.hid (by rw [HS.out, if_neg (fun e => e hh.1), if_neg (fun e => e hh.2.1)])
      clear hh HI
      go_wp2_with fail
      go_ret
      rw [HEV.out, HSV.out]; exact L.out.ret
end Go.Proofs.Yteaigmoldlbjdaa
