/- Histories: what it was at a block; a checkpoint more (code). No condition. -/
import Derived.Test.YthnjakomkdlglaaGreatHisP
import Derived.WalkMore
namespace Go.Proofs.YthnjakomkdlglaaGreat
open Go.RowKit

def AtRet (w : World) (f : Txt → Option Txt) (t : Int) (ids : List Int) (bk : Int) (e : Ending) (w' : World) : Prop :=
  ∃ k a b c d : Int, AtK f t ids bk k ∧ UIs a b c d (if k = 0 then 0 else ptN (valF f (keyF t (ids ++ [k - 1])))) ∧ e = .returned (.tuple #[.agg #[.int .u64 a, .int .u64 b, .int .u64 c, .int .u64 d], .bool (decide (k ≠ 0))]) ∧ Below w.heap.size w w'

set_option maxHeartbeats 8000000 in
set_option maxRecDepth 100000 in
theorem hAt_any {w : World} {x : Option Addr} {m : Bool} {f : Txt → Option Txt} (h : Look w x m f) (hf : FitF f) (t : Int) {ids : List Int} {vi : Value} (bk : Int) (hl : ids.length ≤ 1000000) (hi : I64s ids) (hrd : Rd w intE 1 vi ids) (hr : Rises f t ids) :
    Calls Tryz.prog 75 #[.pointer x, .int .i64 t, vi, .int .i64 bk] w (AtRet w f t ids bk) := by
  obtain ⟨adi, capi, rfl, _, _⟩ := hrd.shape
  have H := Lib.hid h; have HF := Lib.hid hf; have HI := Lib.hid hi; have HR := Lib.hid hrd; have HL := Lib.hid hl; have HRI := Lib.hid hr
  have hNb := getI_bound f (keyF t ids)
  obtain ⟨N, hN⟩ : ∃ N : Nat, (N : Int) = getI f (keyF t ids) := ⟨(getI f (keyF t ids)).toNat, by omega⟩
  rw [← hN] at hNb
  have HN := Lib.hid hN
  clear h hf hl hi hrd hr hN
  go_enter Tryz.func75, Tryz.ntmps75
  go_wp2_with (refine wpList_alloc_g rfl _ rfl _ _ Tryz.zeroU rfl ?_)
  intro R w1 h1
  have HRR := Lib.hid h1.out.cells; have HB1 := Lib.hid h1.out.below; have HRW : Hid (w.heap.size ≤ R) := Lib.hid (Nat.le_of_eq h1.out.eq.symm)
  clear h1
  go_wp2_with fail
  go_step3
  go_wp2_with fail
  refine (hlen_any (H.out.later HB1.out) HF.out t HL.out HI.out (HR.out.later HB1.out)).mono ?_
  rintro e w2 ⟨rfl, hb⟩
  rw [← HN.out]
  have HRR := Lib.hid (below_at' hb HRR.out); have HB2 := Lib.hid (HB1.out.trans (hb.mono HB1.out.size))
  clear hb HB1
  go_wp2_with fail
  go_step3
  go_wp2_with fail
  go_loopw [10, 11] (fun vl vh wr => ∃ (lo hi : Nat), vl = .int .i64 lo ∧ vh = .int .i64 hi ∧ lo ≤ hi ∧ hi ≤ N ∧ Hid (∀ i : Int, 0 ≤ i → i < lo → ptB (valF f (keyF t (ids ++ [i]))) ≤ bk) ∧ Hid (∀ i : Int, hi ≤ i → i < N → bk < ptB (valF f (keyF t (ids ++ [i])))) ∧ Hid (Below w.heap.size w wr) ∧ Hid (wr.heap[R]? = some (.cells u0 33 (0, 0)))) (fun vl vh _ => (intOf vh).toNat - (intOf vl).toNat)
  case atStart => exact ⟨0, N, rfl, rfl, Nat.zero_le _, Nat.le_refl _, Lib.hid (fun i h0 h1 => absurd h1 (by omega)), Lib.hid (fun i h0 h1 => absurd h1 (by omega)), HB2, HRR⟩
  case round =>
    clear HRR HB2
    obtain ⟨lo, hi, rfl, rfl, hle, hN, HLO, HHI, HB, HRR⟩ := hrel
    by_cases hlt : lo < hi
    · obtain ⟨m, hm⟩ : ∃ m : Nat, (lo : Int) + ((hi : Int) - lo) / 2 = m := ⟨((lo : Int) + ((hi : Int) - lo) / 2).toNat, by omega⟩
      have hm1 : lo ≤ m := by omega
      have hm2 : m < hi := by omega
      have hq : ((hi : Int) - lo).tdiv 2 = ((hi : Int) - lo) / 2 := Int.tdiv_eq_ediv_of_nonneg (by omega)
      go_wp2_with fail
      refine (hread_any (H.out.later HB.out) HF.out t (n := (m : Int)) HL.out HI.out (HR.out.later HB.out) (by omega)).mono ?_
      rintro e w4 ⟨a, b, c, d, _, rfl, hb⟩
      obtain ⟨lb, hlb⟩ : ∃ lb, lb = ptB (valF f (keyF t (ids ++ [(m : Int)]))) := ⟨_, rfl⟩
      rw [← hlb]
      have hfd := Tryz.ptField0 lb a b c d
      have HLB := Lib.hid hlb; have HRR4 := Lib.hid (below_at' hb HRR.out); have HB4 := Lib.hid (HB.out.trans (hb.mono HB.out.size))
      clear hb hlb HRR HB
      by_cases g : lb ≤ bk
      · have hlo2 : Hid (∀ i : Int, 0 ≤ i → i < ((m + 1 : Nat) : Int) → ptB (valF f (keyF t (ids ++ [i]))) ≤ bk) := Lib.hid fun i h0 h1 => by
          have := HRI.out i m h0 (by omega) (by rw [← HN.out]; omega)
          rw [← HLB.out] at this
          exact Int.le_trans this g
        clear HLO
        go_wp2_with fail
        go_roundw
        case rel => exact ⟨m + 1, hi, by go_num, rfl, by omega, hN, hlo2, HHI, HB4, HRR4⟩
        case measure => simp [intOf]; omega
      · have hhi2 : Hid (∀ i : Int, ((m : Nat) : Int) ≤ i → i < N → bk < ptB (valF f (keyF t (ids ++ [i])))) := Lib.hid fun i h0 h1 => by
          have := HRI.out m i (by omega) h0 (by rw [← HN.out]; omega)
          rw [← HLB.out] at this
          omega
        clear HHI
        go_wp2_with fail
        go_roundw
        case rel => exact ⟨lo, m, rfl, rfl, by omega, by omega, HLO, hhi2, HB4, HRR4⟩
        case measure => simp [intOf]; omega
    · obtain rfl : lo = hi := by omega
      have HK : Hid (AtK f t ids bk (lo : Int)) := Lib.hid ⟨by omega, by rw [← HN.out]; omega, HLO.out, by rw [← HN.out]; exact HHI.out⟩
      clear HLO HHI
      by_cases h0 : lo = 0
      · subst h0
        go_wp2_with (refine wpList_store_row_g (t := 33) (old := u0) rfl 33 _ _ rfl R u0 rfl rfl HRR.out Tryz.sizeU rfl (one_u64 _ _ _ _) ?_)
        intro w8 hx8 k8 _
        have HX8 := Lib.hid hx8; have HB8 := Lib.hid (HB.out.trans (k8.below (B := w.heap.size) (fun y hy e => by have := HRW.out; omega) HB.out.size))
        clear hx8 k8
        go_wp2_with fail
        rw [Exit.noGoto_ret]
        exact bodyPost_ret (res_row_val rfl _ _ R _ u0 _ _ rfl HX8.out Tryz.underlying33 rfl Tryz.sizeU _ rfl) rfl ⟨0, 0, 0, 0, 0, HK.out, UIs.zero, rfl, HB8.out⟩
      · have h1 : ((lo : Int) == 0) = false := by simp; omega
        have h2 : ¬ (lo : Int) = 0 := by omega
        go_wp2_with fail
        refine (hread_any (H.out.later HB.out) HF.out t (n := (lo : Int) - 1) HL.out HI.out (HR.out.later HB.out) (by omega)).mono ?_
        rintro e w4 ⟨a, b, c, d, hu, rfl, hb⟩
        have hfd := Tryz.ptField1 (ptB (valF f (keyF t (ids ++ [(lo : Int) - 1])))) a b c d
        have HU := Lib.hid hu; have HRR4 := Lib.hid (below_at' hb HRR.out); have HB4 := Lib.hid (HB.out.trans (hb.mono HB.out.size))
        clear hb hu HRR HB
        go_wp2_with (refine wpList_store_row_g (t := 33) (old := u0) rfl 33 _ _ rfl R #[.int .u64 a, .int .u64 b, .int .u64 c, .int .u64 d] rfl rfl HRR4.out Tryz.sizeU rfl (one_u64 _ _ _ _) ?_)
        intro w8 hx8 k8 _
        have HX8 := Lib.hid hx8; have HB8 := Lib.hid (HB4.out.trans (k8.below (B := w.heap.size) (fun y hy e => by have := HRW.out; omega) HB4.out.size))
        clear hx8 k8
        go_wp2_with fail
        rw [Exit.noGoto_ret]
        exact bodyPost_ret (res_row_val rfl _ _ R _ _ _ _ rfl HX8.out Tryz.underlying33 rfl Tryz.sizeU _ rfl) rfl ⟨lo, a, b, c, d, HK.out, by rw [if_neg h2]; exact HU.out, by rw [decide_eq_true h2]; rfl, HB8.out⟩

theorem box5 (w : World) (v0 v1 v2 v3 : Value) (cs : Array Value) (T0 T1 T2 T3 T4 : TypeId) (w1 : World) (hw : w1 = ((((w.alloc (.cells #[v0] T0)).alloc (.cells #[v1] T1)).alloc (.cells #[v2] T2)).alloc (.cells #[v3] T3)).alloc (.cells cs T4)) :
    w1.heap[w.heap.size]? = some (.cells #[v0] T0 (0, 0)) ∧ w1.heap[w.heap.size + 1]? = some (.cells #[v1] T1 (0, 0)) ∧ w1.heap[w.heap.size + 1 + 1]? = some (.cells #[v2] T2 (0, 0)) ∧ w1.heap[w.heap.size + 1 + 1 + 1]? = some (.cells #[v3] T3 (0, 0)) ∧ w1.heap[w.heap.size + 1 + 1 + 1 + 1]? = some (.cells cs T4 (0, 0)) ∧ Below w.heap.size w w1 := by
  obtain ⟨wa, ha⟩ : ∃ x, x = w.alloc (.cells #[v0] T0) := ⟨_, rfl⟩
  rw [← ha] at hw
  obtain ⟨wb, hb⟩ : ∃ x, x = wa.alloc (.cells #[v1] T1) := ⟨_, rfl⟩
  rw [← hb] at hw
  obtain ⟨wc, hc⟩ : ∃ x, x = wb.alloc (.cells #[v2] T2) := ⟨_, rfl⟩
  rw [← hc] at hw
  obtain ⟨wd, hd⟩ : ∃ x, x = wc.alloc (.cells #[v3] T3) := ⟨_, rfl⟩
  rw [← hd] at hw
  have sa : wa.heap.size = w.heap.size + 1 := by rw [ha, World.size_alloc]
  have sb : wb.heap.size = w.heap.size + 1 + 1 := by rw [hb, World.size_alloc, sa]
  have sc : wc.heap.size = w.heap.size + 1 + 1 + 1 := by rw [hc, World.size_alloc, sb]
  have sd : wd.heap.size = w.heap.size + 1 + 1 + 1 + 1 := by rw [hd, World.size_alloc, sc]
  have ba : Below w.heap.size w wa := by rw [ha]; exact below_new _ _
  have bb : Below wa.heap.size wa wb := by rw [hb]; exact below_new _ _
  have bc : Below wb.heap.size wb wc := by rw [hc]; exact below_new _ _
  have bd : Below wc.heap.size wc wd := by rw [hd]; exact below_new _ _
  have be : Below wd.heap.size wd w1 := by rw [hw]; exact below_new _ _
  have ea : wa.heap[w.heap.size]? = some (.cells #[v0] T0 (0, 0)) := by rw [ha]; exact heap_alloc_new _ _
  have eb : wb.heap[wa.heap.size]? = some (.cells #[v1] T1 (0, 0)) := by rw [hb]; exact heap_alloc_new _ _
  have ec : wc.heap[wb.heap.size]? = some (.cells #[v2] T2 (0, 0)) := by rw [hc]; exact heap_alloc_new _ _
  have ed : wd.heap[wc.heap.size]? = some (.cells #[v3] T3 (0, 0)) := by rw [hd]; exact heap_alloc_new _ _
  have ee : w1.heap[wd.heap.size]? = some (.cells cs T4 (0, 0)) := by rw [hw]; exact heap_alloc_new _ _
  rw [sa] at eb; rw [sb] at ec; rw [sc] at ed; rw [sd] at ee
  refine ⟨below_at' be (below_at' bd (below_at' bc (below_at' bb ea))), below_at' be (below_at' bd (below_at' bc eb)), below_at' be (below_at' bd ec), below_at' be ed, ee, ?_⟩
  exact (((ba.trans (bb.mono ba.size)).trans (bc.mono (by omega))).trans (bd.mono (by omega))).trans (be.mono (by omega))
/-- The variables of Push that its closure shares. -/
structure Bx (w : World) (p0 p1 p2 p3 p4 : Nat) (x : Option Addr) (t : Int) (vi : Value) (bk a b c d : Int) : Prop where
  h0 : w.heap[p0]? = some (.cells #[.pointer x] 24 (0, 0))
  h1 : w.heap[p1]? = some (.cells #[.int .i64 t] 3 (0, 0))
  h2 : w.heap[p2]? = some (.cells #[vi] 98 (0, 0))
  h3 : w.heap[p3]? = some (.cells #[.int .i64 bk] 3 (0, 0))
  h4 : w.heap[p4]? = some (.cells #[.int .u64 a, .int .u64 b, .int .u64 c, .int .u64 d] 33 (0, 0))
theorem Bx.oth {w w' : World} {p0 p1 p2 p3 p4 : Nat} {x : Option Addr} {t : Int} {vi : Value} {bk a b c d : Int} (h : Bx w p0 p1 p2 p3 p4 x t vi bk a b c d) (ho : Oth w w') : Bx w' p0 p1 p2 p3 p4 x t vi bk a b c d :=
  ⟨ho.2 _ _ h.h0 rfl rfl, ho.2 _ _ h.h1 rfl rfl, ho.2 _ _ h.h2 rfl rfl, ho.2 _ _ h.h3 rfl rfl, ho.2 _ _ h.h4 rfl rfl⟩
theorem Bx.later {w w' : World} {p0 p1 p2 p3 p4 : Nat} {x : Option Addr} {t : Int} {vi : Value} {bk a b c d : Int} (h : Bx w p0 p1 p2 p3 p4 x t vi bk a b c d) (hb : Below w.heap.size w w') : Bx w' p0 p1 p2 p3 p4 x t vi bk a b c d := h.oth (Oth.of_below hb)

set_option maxHeartbeats 8000000 in
set_option maxRecDepth 100000 in
theorem hput_any {w : World} {g : Nat} {s : PS} {F : List Nat} (h : St w g s F) (hz : s.sz < 1099511627776) (t : Int) {ids : List Int} {vi : Value} {n : Int} (hl : ids.length ≤ 1000000) (hi : I64s ids) (hrd : Rd w intE 1 vi ids) (hn : -9223372036854775808 ≤ n ∧ n < 9223372036854775808)
    {bk : Int} (hbk : 0 ≤ bk ∧ bk < 9223372036854775808) {a b c d : Int} {m : Nat} (hu : UIs a b c d m) {p0 p1 p2 p3 p4 : Nat} (hx : Bx w p0 p1 p2 p3 p4 (some ⟨g, 0, none⟩) t vi bk a b c d) :
    Calls Tryz.prog 132 #[.int .i64 n, .pointer (some ⟨p0, 0, none⟩), .pointer (some ⟨p1, 0, none⟩), .pointer (some ⟨p2, 0, none⟩), .pointer (some ⟨p3, 0, none⟩), .pointer (some ⟨p4, 0, none⟩)] w (StRet w g F (hputS s t ids bk m n) (.int .i64 0)) := by
  obtain ⟨adi, capi, rfl, _, _⟩ := hrd.shape
  have L := Lib.hid (Liv.start h); have HZ := Lib.hid hz; have HI := Lib.hid hi; have HR := Lib.hid hrd; have HL := Lib.hid hl; have HN := Lib.hid hn; have HBK := Lib.hid hbk; have HU := Lib.hid hu; have HX := Lib.hid hx
  have c0 : w.cell? ⟨p0, 0, none⟩ = some (.pointer (some ⟨g, 0, none⟩)) := Lib.cell_of_heap hx.h0 0
  have c1 : w.cell? ⟨p1, 0, none⟩ = some (.int .i64 t) := Lib.cell_of_heap hx.h1 0
  have c2 : w.cell? ⟨p2, 0, none⟩ = some (.slice adi ids.length capi) := Lib.cell_of_heap hx.h2 0
  have c3 : w.cell? ⟨p3, 0, none⟩ = some (.int .i64 bk) := Lib.cell_of_heap hx.h3 0
  clear h hz hl hi hrd hn hbk hu hx
  go_enter Tryz.func132, Tryz.ntmps132
  go_wp2_with (refine wpList_load_row rfl 33 _ rfl p4 rfl 33 _ _ _ HX.out.h4 Tryz.underlying33 rfl Tryz.sizeU ?_)
  refine (L.out.call fun F h => hwrite_any h HZ.out t HL.out HI.out HR.out HN.out HBK.out HU.out).mono ?_
  rintro e w1 ⟨rfl, L1, _⟩
  have L1 := Lib.hid L1
  clear c0 c1 c2 c3
  go_wp2_with fail
  go_ret
  exact L1.out.ret

set_option maxHeartbeats 8000000 in
set_option maxRecDepth 100000 in
theorem hpush_any {w : World} {g : Nat} {s : PS} {F : List Nat} (h : St w g s F) (hz : s.sz < 1000000000000) (hf : Fit s) (t : Int) {ids : List Int} {vi : Value} (hl : ids.length ≤ 1000000) (hi : I64s ids) {B0 : Nat} (hrd : Own w B0 3 intE 1 vi ids)
    {bk : Int} (hbk : -9223372036854775808 ≤ bk ∧ bk < 9223372036854775808) {a b c d : Int} {m : Nat} (hu : UIs a b c d m) (hc : getI (getP s.t) (keyF t ids) < 1000000000000) :
    Calls Tryz.prog 68 #[.pointer (some ⟨g, 0, none⟩), .int .i64 t, vi, .int .i64 bk, .agg #[.int .u64 a, .int .u64 b, .int .u64 c, .int .u64 d]] w (StRet w g F (hpushS s t ids bk m) (.int .i64 (hpushE (getP s.t) t ids bk))) := by
  obtain ⟨adi, capi, rfl, _, _⟩ := (own_rd hrd).shape
  have L := Lib.hid (Liv.start h); have HZ := Lib.hid hz; have HF := Lib.hid hf; have HI := Lib.hid hi; have HR := Lib.hid hrd; have HL := Lib.hid hl; have HBK := Lib.hid hbk; have HU := Lib.hid hu; have HC := Lib.hid hc
  clear h hz hf hl hi hrd hbk hu hc
  go_enter Tryz.func68, Tryz.ntmps68
  go_wp2_with fail
  obtain ⟨p0, hp0⟩ : ∃ p, p = w.heap.size := ⟨_, rfl⟩
  obtain ⟨p1, hp1⟩ : ∃ p, p = w.heap.size + 1 := ⟨_, rfl⟩
  obtain ⟨p2, hp2⟩ : ∃ p, p = w.heap.size + 1 + 1 := ⟨_, rfl⟩
  obtain ⟨p3, hp3⟩ : ∃ p, p = w.heap.size + 1 + 1 + 1 := ⟨_, rfl⟩
  obtain ⟨p4, hp4⟩ : ∃ p, p = w.heap.size + 1 + 1 + 1 + 1 := ⟨_, rfl⟩
  rw [← hp4, ← hp3, ← hp2, ← hp1, ← hp0]
  obtain ⟨w1, hw1⟩ : ∃ w1, w1 = ((((w.alloc (.cells #[.pointer (some ⟨g, 0, none⟩)] 24)).alloc (.cells #[.int .i64 t] 3)).alloc (.cells #[.slice adi ids.length capi] 98)).alloc (.cells #[.int .i64 bk] 3)).alloc (.cells #[.int .u64 a, .int .u64 b, .int .u64 c, .int .u64 d] 33) := ⟨_, rfl⟩
  rw [← hw1]
  have hx := box5 w (.pointer (some ⟨g, 0, none⟩)) (.int .i64 t) (.slice adi ids.length capi) (.int .i64 bk) #[.int .u64 a, .int .u64 b, .int .u64 c, .int .u64 d] 24 3 98 3 33 w1 hw1
  rw [← hp4, ← hp3, ← hp2, ← hp1, ← hp0] at hx
  have HX1 : Hid (Bx w1 p0 p1 p2 p3 p4 (some ⟨g, 0, none⟩) t (.slice adi ids.length capi) bk a b c d) := Lib.hid ⟨hx.1, hx.2.1, hx.2.2.1, hx.2.2.2.1, hx.2.2.2.2.1⟩
  have hb : Below w.heap.size w w1 := by rw [← hp0]; exact hx.2.2.2.2.2
  have L1 := Lib.hid (L.out.later hb); have HR1 := Lib.hid (HR.out.oth (Oth.of_below hb))
  clear hx hw1 hp0 hp1 hp2 hp3 hp4 hb L HR
  obtain ⟨k, hk⟩ : ∃ k, k = keyF t ids := ⟨_, rfl⟩
  have HK := Lib.hid hk
  refine (key_any t ids _ _ (by have := HL.out; omega) HI.out (own_rd HR1.out)).mono ?_
  rintro e w2 ⟨rfl, hb⟩
  rw [← HK.out]
  have L2 := Lib.hid (L1.out.later hb); have HR2 := Lib.hid (HR1.out.oth (Oth.of_below hb)); have HX2 := Lib.hid (HX1.out.later hb)
  clear hb L1 HR1 HX1 hk
  have c0 : w2.cell? ⟨p0, 0, none⟩ = some (.pointer (some ⟨g, 0, none⟩)) := Lib.cell_of_heap HX2.out.h0 0
  have c1 : w2.cell? ⟨p1, 0, none⟩ = some (.int .i64 t) := Lib.cell_of_heap HX2.out.h1 0
  have c2 : w2.cell? ⟨p2, 0, none⟩ = some (.slice adi ids.length capi) := Lib.cell_of_heap HX2.out.h2 0
  go_wp2_with fail
  clear c0 c1 c2
  obtain ⟨F2, q2, _⟩ := L2.out
  refine (hlen_any (Look.of_st q2) HF.out.f t HL.out HI.out (own_rd HR2.out)).mono ?_
  rintro e w3 ⟨rfl, hb⟩
  rw [← HK.out]
  obtain ⟨n, hn⟩ : ∃ n, n = getI (getP s.t) k := ⟨_, rfl⟩
  have HN := Lib.hid hn
  have hnb := getI_bound (getP s.t) k
  rw [← hn] at hnb ⊢
  have HNB : Hid (0 ≤ n ∧ n < 1000000000000) := Lib.hid ⟨hnb.1, by rw [hn, HK.out]; exact HC.out⟩
  have L3 := Lib.hid (L2.out.later hb); have HR3 := Lib.hid (HR2.out.oth (Oth.of_below hb)); have HX3 := Lib.hid (HX2.out.later hb)
  clear hb q2 L2 HR2 HX2 hn hnb HC
  have c0 : w3.cell? ⟨p0, 0, none⟩ = some (.pointer (some ⟨g, 0, none⟩)) := Lib.cell_of_heap HX3.out.h0 0
  have c1 : w3.cell? ⟨p1, 0, none⟩ = some (.int .i64 t) := Lib.cell_of_heap HX3.out.h1 0
  have c2 : w3.cell? ⟨p2, 0, none⟩ = some (.slice adi ids.length capi) := Lib.cell_of_heap HX3.out.h2 0
  have c3 : w3.cell? ⟨p3, 0, none⟩ = some (.int .i64 bk) := Lib.cell_of_heap HX3.out.h3 0
  go_wp2_with fail
  obtain ⟨F3, q3, _⟩ := L3.out
  refine (smade_any q3).mono ?_
  rintro e w4 ⟨rfl, rfl⟩
  clear q3
  -- the tests
  by_cases hbad : k = [] ∨ bk < 0 ∨ 1099511627776 < bk
  · have hE : hpushE (getP s.t) t ids bk = 2 := by unfold hpushE; rw [← HK.out, if_pos hbad]
    have hS : hpushS s t ids bk m = s := by unfold hpushS; rw [hE]; rfl
    have HES := Lib.hid (And.intro hE hS)
    clear hE hS
    have hbad2 : k = [] ∨ (k ≠ [] ∧ bk < 0) ∨ (k ≠ [] ∧ ¬ bk < 0 ∧ 1099511627776 < bk) := by
      by_cases e1 : k = []
      · exact .inl e1
      · by_cases e2 : bk < 0
        · exact .inr (.inl ⟨e1, e2⟩)
        · exact .inr (.inr ⟨e1, e2, (hbad.resolve_left e1).resolve_left e2⟩)
    clear hbad
    rcases hbad2 with e1 | ⟨e1, e2⟩ | ⟨e1, e2, e3⟩
    · have j1 : ((bs k).toList == []) = true := by rw [toList_bs, e1]; rfl
      have j2 : (bs k).toList = [] := by rw [toList_bs, e1]
      have j3 : (bs k).toList.isEmpty = true := by rw [toList_bs, e1]; rfl
      clear e1
      go_wp2_with fail
      go_ret
      rw [HES.out.1, HES.out.2]
      exact L3.out.ret
    · have j1 : ((bs k).toList == []) = false := by rw [toList_bs]; cases k <;> simp_all
      have j2 : (bs k).toList ≠ [] := by rw [toList_bs]; exact e1
      have j3 : (bs k).toList.isEmpty = false := by rw [toList_bs]; cases k <;> simp_all
      clear e1
      go_wp2_with fail
      go_ret
      rw [HES.out.1, HES.out.2]
      exact L3.out.ret
    · have j1 : ((bs k).toList == []) = false := by rw [toList_bs]; cases k <;> simp_all
      have j2 : (bs k).toList ≠ [] := by rw [toList_bs]; exact e1
      have j3 : (bs k).toList.isEmpty = false := by rw [toList_bs]; cases k <;> simp_all
      clear e1
      go_wp2_with fail
      go_ret
      rw [HES.out.1, HES.out.2]
      exact L3.out.ret
  have HBAD := Lib.hid hbad
  have e1 : k ≠ [] := fun e => hbad (.inl e)
  have e2 : ¬ bk < 0 := fun e => hbad (.inr (.inl e))
  have e3 : ¬ 1099511627776 < bk := fun e => hbad (.inr (.inr e))
  have j1 : ((bs k).toList == []) = false := by rw [toList_bs]; cases k <;> simp_all
  have j2 : (bs k).toList ≠ [] := by rw [toList_bs]; exact e1
  have j3 : (bs k).toList.isEmpty = false := by rw [toList_bs]; cases k <;> simp_all
  have HB0 : Hid (0 ≤ bk ∧ bk ≤ 1099511627776) := Lib.hid ⟨by omega, by omega⟩
  clear e1 hbad
  by_cases h0 : 0 < n
  · have h0' := h0
    have HN0 := Lib.hid h0
    have hb1 := HNB.out
    go_wp2_with fail
    clear e2 e3 j1 j2 j3
    obtain ⟨F3, q3, _⟩ := L3.out
    refine (hread_any (Look.of_st q3) HF.out.f t (n := n - 1) HL.out HI.out (own_rd HR3.out) (by omega)).mono ?_
    rintro e w4 ⟨a2, b2, c2', d2, hu2, rfl, hb⟩
    obtain ⟨lv, hlv⟩ : ∃ lv, lv = valF (getP s.t) (keyF t (ids ++ [n - 1])) := ⟨_, rfl⟩
    rw [← hlv] at hu2 ⊢
    obtain ⟨lb, hlb⟩ : ∃ lb, lb = ptB lv := ⟨_, rfl⟩
    rw [← hlb]
    have HLV := Lib.hid hlv; have HLB := Lib.hid hlb; have HU2 := Lib.hid hu2
    have L4 := Lib.hid (L3.out.later hb); have HR4 := Lib.hid (HR3.out.oth (Oth.of_below hb)); have HX4 := Lib.hid (HX3.out.later hb)
    clear hb q3 hlv hlb hu2 c0 c1 c2 c3 h0 h0' hb1 L3 HR3 HX3
    go_wp2_with (refine wpList_alloc_g rfl _ rfl _ _ Tryz.zeroPt rfl ?_)
    intro Y w5 h5
    go_wp2_with (refine wpList_store_row_g (t := 172) (old := #[.int .i64 0, .int .u64 0, .int .u64 0, .int .u64 0, .int .u64 0]) rfl 172 _ _ rfl Y #[.int .i64 lb, .int .u64 a2, .int .u64 b2, .int .u64 c2', .int .u64 d2] rfl rfl h5.out.cells Tryz.sizePt rfl (by simp [Value.oneCell']) ?_)
    intro w6 hx6 k6 _
    have hb46 : Below w4.heap.size w4 w6 := h5.out.below.trans (k6.below (B := w4.heap.size) (fun x hx e => by have := h5.out.eq; omega) h5.out.below.size)
    have L6 := Lib.hid (L4.out.later hb46); have HR6 := Lib.hid (HR4.out.oth (Oth.of_below hb46)); have HX6 := Lib.hid (HX4.out.later hb46); have HY6 := Lib.hid hx6
    clear h5 hx6 k6 hb46 L4 HR4 HX4
    have c0 : w6.cell? ⟨p0, 0, none⟩ = some (.pointer (some ⟨g, 0, none⟩)) := Lib.cell_of_heap HX6.out.h0 0
    have c3 : w6.cell? ⟨p3, 0, none⟩ = some (.int .i64 bk) := Lib.cell_of_heap HX6.out.h3 0
    have y0 : w6.cell? ⟨Y, 0, none⟩ = some (.int .i64 lb) := Lib.cell_of_heap HY6.out 0
    by_cases g1 : bk < lb
    · have hE : hpushE (getP s.t) t ids bk = 10 := by
        unfold hpushE
        rw [← HK.out, if_neg HBAD.out, ← HN.out, ← HLV.out, ← HLB.out, if_pos ⟨HN0.out, g1⟩]
      have hS : hpushS s t ids bk m = s := by unfold hpushS; rw [hE]; rfl
      have HES := Lib.hid (And.intro hE hS)
      clear hE hS
      go_wp2_with fail
      go_ret
      rw [HES.out.1, HES.out.2]
      exact L6.out.ret
    have hE : hpushE (getP s.t) t ids bk = 0 := by
      unfold hpushE
      rw [← HK.out, if_neg HBAD.out, ← HN.out, ← HLV.out, ← HLB.out, if_neg fun e => g1 e.2]
    have HE0 := Lib.hid hE
    have HPS : Hid (hpushS s t ids bk m = if bk = lb then hputS s t ids bk m (n - 1) else if m = ptN lv then s else hnewS s t ids bk m) := Lib.hid (by
      unfold hpushS
      rw [hE, if_pos rfl, ← HK.out, ← HN.out, ← HLV.out, ← HLB.out, if_pos HN0.out])
    clear hE
    by_cases g2 : bk = lb
    · have hps : hpushS s t ids bk m = hputS s t ids bk m (n - 1) := by rw [HPS.out, if_pos g2]
      have HQS := Lib.hid hps
      have g3 : (bk == lb) = true := by rw [g2]; simp
      have hb1 := HNB.out; have h0 := HN0.out
      subst g2
      clear hps HPS g3
      go_wp2_with fail
      refine (L6.out.call fun F h => hput_any h (by have := HZ.out; omega) t HL.out HI.out (own_rd HR6.out) (n := n - 1) (by omega) (by have := HB0.out; omega) HU.out HX6.out).mono ?_
      rintro e w7 ⟨rfl, L7, _⟩
      have L7 := Lib.hid L7
      go_wp2_with fail
      go_ret
      rw [HE0.out, HQS.out]
      exact L7.out.ret
    have g3 : (bk == lb) = false := by simpa using g2
    by_cases g4 : m = ptN lv
    · have hps : hpushS s t ids bk m = s := by rw [HPS.out, if_neg g2, if_pos g4]
      have HQS := Lib.hid hps
      have q := Tryz.eqUn HU.out HU2.out
      rw [decide_eq_true g4] at q
      clear hps HPS g4
      go_wp2_with (first
        | (refine wpList_load_row rfl 33 _ rfl p4 rfl 33 _ _ _ HX6.out.h4 Tryz.underlying33 rfl Tryz.sizeU ?_)
        | (refine wpList_load_mid rfl 33 _ rfl Y 1 rfl [.int .u64 a2, .int .u64 b2, .int .u64 c2', .int .u64 d2] _ (range_of_heap HY6.out 1 _ rfl) Tryz.underlying33 rfl Tryz.sizeU ?_))
      go_ret
      rw [HE0.out, HQS.out]
      exact L6.out.ret
    have hps : hpushS s t ids bk m = hnewS s t ids bk m := by rw [HPS.out, if_neg g2, if_neg g4]
    have hnw : hnewS s t ids bk m = hputS (s.setInt k (n + 1)) t ids bk m n := by unfold hnewS; rw [← HK.out, ← HN.out]
    have HQS := Lib.hid (hps.trans hnw)
    have q := Tryz.eqUn HU.out HU2.out
    rw [decide_eq_false g4] at q
    have hb1 := HNB.out; have h0 := HN0.out
    clear hps hnw HPS g4
    go_wp2_with (first
      | (refine wpList_load_row rfl 33 _ rfl p4 rfl 33 _ _ _ HX6.out.h4 Tryz.underlying33 rfl Tryz.sizeU ?_)
      | (refine wpList_load_mid rfl 33 _ rfl Y 1 rfl [.int .u64 a2, .int .u64 b2, .int .u64 c2', .int .u64 d2] _ (range_of_heap HY6.out 1 _ rfl) Tryz.underlying33 rfl Tryz.sizeU ?_))
    refine (L6.out.call fun F h => setInt_any h (by have := HZ.out; omega) k (n + 1) (by omega)).mono ?_
    rintro e w7 ⟨rfl, L7, ho⟩
    have L7 := Lib.hid L7; have HX7 := Lib.hid (HX6.out.oth ho); have HR7 := Lib.hid (HR6.out.oth ho)
    clear ho c0 c3 y0 L6 HX6 HR6 q
    go_wp2_with fail
    refine (L7.out.call fun F h => hput_any h (by have := HZ.out; have := sz_setInt s k (n + 1); omega) t HL.out HI.out (own_rd HR7.out) (n := n) (by omega) (by have := HB0.out; omega) HU.out HX7.out).mono ?_
    rintro e w8 ⟨rfl, L8, _⟩
    have L8 := Lib.hid L8
    go_wp2_with fail
    go_ret
    rw [HE0.out, HQS.out]
    exact L8.out.ret
  · have hE : hpushE (getP s.t) t ids bk = 0 := by
      unfold hpushE
      rw [← HK.out, if_neg HBAD.out, ← HN.out, if_neg fun e => h0 e.1]
    have hps : hpushS s t ids bk m = hputS (s.setInt k (n + 1)) t ids bk m n := by
      unfold hpushS
      rw [hE, if_pos rfl, ← HK.out, ← HN.out, if_neg h0]
      unfold hnewS; rw [← HK.out, ← HN.out]
    have HE0 := Lib.hid hE; have HQS := Lib.hid hps
    clear hE hps
    have hb1 := HNB.out
    go_wp2_with fail
    refine (L3.out.call fun F h => setInt_any h (by have := HZ.out; omega) k (n + 1) (by omega)).mono ?_
    rintro e w7 ⟨rfl, L7, ho⟩
    have L7 := Lib.hid L7; have HX7 := Lib.hid (HX3.out.oth ho); have HR7 := Lib.hid (HR3.out.oth ho)
    clear ho c0 c1 c2 c3 L3 HX3 HR3
    go_wp2_with fail
    refine (L7.out.call fun F h => hput_any h (by have := HZ.out; have := sz_setInt s k (n + 1); omega) t HL.out HI.out (own_rd HR7.out) (n := n) (by omega) (by have := HB0.out; omega) HU.out HX7.out).mono ?_
    rintro e w8 ⟨rfl, L8, _⟩
    have L8 := Lib.hid L8
    go_wp2_with fail
    go_ret
    rw [HE0.out, HQS.out]
    exact L8.out.ret
end Go.Proofs.YthnjakomkdlglaaGreat
