/- The reference's numbers: differences, bytes, and whether a number is an amount (code). No condition. -/
import Derived.Test.YthnjakomkdlglaaGreatAriJ
import Derived.Test.YthnjakomkdlglaaGreatUr
import Derived.Test.YthnjakomkdlglaaGreatLit
namespace Go.Proofs.YthnjakomkdlglaaGreat
open Go.RowKit

/-- What the digits up to i are worth together, and what is borrowed. -/
structure MinusI (l1 l2 : List Nat) (i : Nat) (o : List Nat) (b : Nat) : Prop where
  len : o.length = i
  d32 : D32 o
  b1 : b ≤ 1
  eq : dv o + dv (l2.take i) = dv (l1.take i) + 4294967296 ^ i * b
theorem MinusI.zero (l1 l2 : List Nat) : MinusI l1 l2 0 [] 0 := ⟨rfl, D32.nil, by omega, by simp [dv]⟩
theorem MinusI.next {l1 l2 : List Nat} {i : Nat} {o : List Nat} {b : Nat} (h : MinusI l1 l2 i o b) {x y z c : Nat} (hx : x = dig l1 i) (hy : y = b + dig l2 i) (hz : z + y = x + 4294967296 * c) (hc : c ≤ 1) (hzl : z < 4294967296) : MinusI l1 l2 (i + 1) (o ++ [z]) c := by
  refine ⟨by rw [List.length_append, h.len]; rfl, h.d32.app (D32.one hzl), hc, ?_⟩
  rw [dv_snoc, h.len, dv_take_dig, dv_take_dig, Nat.pow_succ, ← hx]
  have e := h.eq
  have e2 : 4294967296 ^ i * z + 4294967296 ^ i * b + 4294967296 ^ i * dig l2 i = 4294967296 ^ i * x + 4294967296 ^ i * 4294967296 * c := by
    rw [Nat.mul_assoc, ← Nat.mul_add, ← Nat.mul_add, ← Nat.mul_add]
    congr 1
    omega
  omega
theorem MinusI.done {l1 l2 : List Nat} {o : List Nat} {b : Nat} (h : MinusI l1 l2 l1.length o b) (d1 : D32 l1) (hle : dv l2 ≤ dv l1) : dv o = dv l1 - dv l2 := by
  have e := h.eq
  rw [List.take_of_length_le (Nat.le_refl l1.length)] at e
  have k1 := dv_lt d1
  have k2 := dv_lt h.d32
  rw [h.len] at k2
  have e2 : dv (l2.take l1.length) = dv l2 := by
    by_cases hl : l2.length ≤ l1.length
    · rw [List.take_of_length_le hl]
    · have f := congrArg dv (List.take_append_drop l1.length l2)
      rw [dv_app, List.length_take, Nat.min_eq_left (by omega)] at f
      rcases Nat.eq_zero_or_pos (dv (l2.drop l1.length)) with h0 | h0
      · rw [h0] at f; omega
      · have := Nat.mul_le_mul_left (4294967296 ^ l1.length) h0
        omega
  rw [e2] at e
  have hb := h.b1
  rcases Nat.eq_zero_or_pos b with h0 | h0
  · rw [h0] at e; omega
  · obtain rfl : b = 1 := by omega
    omega
/-- What Minus says: its digits are in a block of its own. -/
def MinRetO (w : World) (n m : Nat) (e : Ending) (w' : World) : Prop := ∃ v, e = .returned (.tuple #[v, .bool (decide (m ≤ n))]) ∧ Rd w' u32E 1 v (digs (if m ≤ n then n - m else 0)) ∧ (∀ k, v.ownBlock = some k → w.heap.size ≤ k) ∧ Below w.heap.size w w'
/-- What Minus says. -/
def MinRet (w : World) (n m : Nat) (e : Ending) (w' : World) : Prop := ∃ v, e = .returned (.tuple #[v, .bool (decide (m ≤ n))]) ∧ Rd w' u32E 1 v (digs (if m ≤ n then n - m else 0)) ∧ Below w.heap.size w w'

set_option maxHeartbeats 16000000 in
set_option maxRecDepth 100000 in
theorem minuso_any {w : World} {v1 v2 : Value} {l1 l2 : List Nat} {n m : Nat} (h1 : Rd w u32E 1 v1 l1) (h2 : Rd w u32E 1 v2 l2) (d1 : D32 l1) (d2 : D32 l2) (b1 : l1.length ≤ 1000000) (b2 : l2.length ≤ 1000000) (hn : dv l1 = n) (hm : dv l2 = m) :
    Calls Tryz.prog 136 #[v1, v2] w (MinRetO w n m) := by
  obtain ⟨ad1, cap1, rfl, c1, c1'⟩ := h1.shape
  obtain ⟨ad2, cap2, rfl, c2, c2'⟩ := h2.shape
  obtain ⟨n1, hn1⟩ : ∃ q, q = l1.length := ⟨_, rfl⟩
  obtain ⟨n2, hn2⟩ : ∃ q, q = l2.length := ⟨_, rfl⟩
  rw [← hn1] at h1 c1 b1 ⊢
  rw [← hn2] at h2 c2 b2 ⊢
  have H1 := Lib.hid h1; have H2 := Lib.hid h2; have HD1 := Lib.hid d1; have HD2 := Lib.hid d2; have HN := Lib.hid hn; have HM := Lib.hid hm; have HN1 := Lib.hid hn1; have HN2 := Lib.hid hn2
  clear h1 h2 d1 d2 hn hm hn1 hn2
  go_enter Tryz.func136, Tryz.ntmps136
  go_wp2_with fail
  refine (natCmp_any H1.out H2.out HD1.out HD2.out HN.out HM.out).mono ?_
  rintro e w0 ⟨rfl, hb0⟩
  obtain ⟨cv, hcv⟩ : ∃ cv, cv = cmpV n m := ⟨_, rfl⟩
  rw [← hcv]
  have HB0 := Lib.hid hb0
  clear hb0
  by_cases hlt0 : cv < 0
  · have hnm : Hid (¬ m ≤ n) := Lib.hid (by intro hle; rw [hcv] at hlt0; unfold cmpV at hlt0; rw [if_neg (by omega)] at hlt0; split at hlt0 <;> omega)
    clear hcv
    go_wp2_with fail
    go_ret2
    exact ⟨_, by rw [decide_eq_false hnm.out]; rfl, by rw [if_neg hnm.out, digs_zero]; exact Rd.nil _ _ _, fun k hk => (by cases hk), HB0.out⟩
  have hnm : Hid (m ≤ n) := Lib.hid (by apply Classical.byContradiction; intro hle; apply hlt0; rw [hcv]; unfold cmpV; rw [if_pos (by omega)]; decide)
  clear hcv
  go_wp2_with fail
  clear hlt0
  go_loopw [6, 7, 8] (fun vo vb vi wr => ∃ (i b : Nat) (o : List Nat), vi = .int .i64 i ∧ vb = .int .u64 b ∧ i ≤ n1 ∧ b ≤ 1 ∧ Hid (MinusI l1 l2 i o b) ∧ Hid (LO wr 186 u32E 1 vo o) ∧ Hid (∀ k, vo.ownBlock = some k → w.heap.size ≤ k) ∧ Hid (Below w.heap.size w wr)) (fun _ _ vi _ => n1 - (intOf vi).toNat)
  case atStart => exact ⟨0, 0, [], rfl, rfl, by omega, by omega, Lib.hid (MinusI.zero _ _), Lib.hid (LO.nil _ _ _ _), Lib.hid (fun k e => by cases e), HB0⟩
  case round =>
    clear HB0
    obtain ⟨i, b, o, rfl, rfl, hi, hbb, HP, HO, HK, HB⟩ := hrel
    have HB1 := Lib.hid (And.intro b1 b2)
    by_cases g1 : i < n1
    · obtain ⟨p1, o1, rfl, hp1, hc1⟩ := H1.out.at i (by rw [← HN1.out]; exact g1)
      have hc1' := (HB.out.cell (p := ⟨p1, o1 + i, none⟩) hp1).trans hc1
      obtain ⟨d, hd⟩ : ∃ q, q = dig l1 i := ⟨_, rfl⟩
      have hd1 : wr.cell? ⟨p1, o1 + i, none⟩ = some (.int .u32 (d : Int)) := by rw [hc1', hd]; unfold dig; rw [getD_at (by rw [← HN1.out]; exact g1)]; rfl
      have hdb : d < 4294967296 := by rw [hd]; exact getD_lt HD1.out i
      have HDD := Lib.hid hd; have HLT := Lib.hid g1; have HBB := Lib.hid hbb
      clear hc1 hc1' hd
      by_cases g2 : i < n2
      · obtain ⟨p2, o2, rfl, hp2, hc2⟩ := H2.out.at i (by rw [← HN2.out]; exact g2)
        have hc2' := (HB.out.cell (p := ⟨p2, o2 + i, none⟩) hp2).trans hc2
        obtain ⟨e, he⟩ : ∃ q, q = dig l2 i := ⟨_, rfl⟩
        have hd2 : wr.cell? ⟨p2, o2 + i, none⟩ = some (.int .u32 (e : Int)) := by rw [hc2', he]; unfold dig; rw [getD_at (by rw [← HN2.out]; exact g2)]; rfl
        have heb : e < 4294967296 := by rw [he]; exact getD_lt HD2.out i
        have HEE := Lib.hid he
        clear hc2 hc2' he
        obtain ⟨y, hy⟩ : ∃ q : Nat, q = b + e := ⟨_, rfl⟩
        have qy : IntKind.u64.wrap ((b : Int) + (e : Int)) = (y : Int) := by rw [IntKind.wrap_u64]; omega
        have hyb : y ≤ 4294967296 := by omega
        have HY : Hid (y = b + dig l2 i) := Lib.hid (by rw [← HEE.out]; exact hy)
        clear hy
        by_cases g3 : d < y
        · obtain ⟨z, hz⟩ : ∃ z : Nat, z + y = d + 4294967296 := ⟨d + 4294967296 - y, by omega⟩
          have hzl : z < 4294967296 := by omega
          have qs : (d : Int) + 4294967296 - (y : Int) = (z : Int) := by omega
          have qw : IntKind.u32.wrap (z : Int) = (z : Int) := by rw [IntKind.wrap_u32]; omega
          have HP2 : Hid (MinusI l1 l2 (i + 1) (o ++ [z]) 1) := Lib.hid (HP.out.next HDD.out HY.out (by omega) (by omega) hzl)
          have HLEN : Hid (o.length = i) := Lib.hid HP.out.len
          have HI9 : Hid (i ≤ 1000000) := Lib.hid (by have := HB1.out; have := HLT.out; omega)
          clear hz hi hbb HP
          go_wp2_with (at_builtin; refine lo_apps (l := o) (l2 := [z]) (enc := u32E) rfl _ _ 126 126 rfl Tryz.underlying126 Tryz.underlying126 Tryz.info32 rfl (by decide) u32E_len (fun x _ => u32E_one x) (HO.out.later (below_new _ _)) rfl _ rfl (lit1d (heap_alloc_new _ _)) (by have := HLEN.out; have := HI9.out; unfold maxLen; simp only [List.length_singleton]; omega) (by have := HLEN.out; have := HI9.out; simp only [List.length_singleton]; omega) ?_)
          intro va w5 la ka ma
          have HO5 := Lib.hid la
          have hbn := below_new wr (.cells #[.int .u32 ((z : Nat) : Int)] 186)
          have HK5 : Hid (∀ k, Value.ownBlock va = some k → w.heap.size ≤ k) := Lib.hid (fun k e => by
            rcases ma with m1 | ⟨g, m1, m2⟩
            · exact HK.out k (m1 ▸ e)
            · rw [e] at m1; cases m1; exact Nat.le_trans (Nat.le_trans HB.out.size hbn.size) m2)
          have HB5 := Lib.hid ((HB.out.trans (hbn.mono HB.out.size)).trans (ka.below (B := w.heap.size) (fun q hq e => by have := HK.out q e; omega) (Nat.le_trans HB.out.size hbn.size)))
          clear la ka ma hbn HO HB
          go_wp2_with fail
          go_roundw
          case rel => exact ⟨i + 1, 1, _, by go_num, by first | rfl | go_num, HLT.out, by omega, HP2, HO5, HK5, HB5⟩
          case measure => have := HLT.out; simp [intOf]; omega
        · obtain ⟨z, hz⟩ : ∃ z : Nat, z + y = d + 0 := ⟨d + 0 - y, by omega⟩
          have hzl : z < 4294967296 := by omega
          have qs : (d : Int) - (y : Int) = (z : Int) := by omega
          have qw : IntKind.u32.wrap (z : Int) = (z : Int) := by rw [IntKind.wrap_u32]; omega
          have HP2 : Hid (MinusI l1 l2 (i + 1) (o ++ [z]) 0) := Lib.hid (HP.out.next HDD.out HY.out (by omega) (by omega) hzl)
          have HLEN : Hid (o.length = i) := Lib.hid HP.out.len
          have HI9 : Hid (i ≤ 1000000) := Lib.hid (by have := HB1.out; have := HLT.out; omega)
          clear hz hi hbb HP
          go_wp2_with (at_builtin; refine lo_apps (l := o) (l2 := [z]) (enc := u32E) rfl _ _ 126 126 rfl Tryz.underlying126 Tryz.underlying126 Tryz.info32 rfl (by decide) u32E_len (fun x _ => u32E_one x) (HO.out.later (below_new _ _)) rfl _ rfl (lit1d (heap_alloc_new _ _)) (by have := HLEN.out; have := HI9.out; unfold maxLen; simp only [List.length_singleton]; omega) (by have := HLEN.out; have := HI9.out; simp only [List.length_singleton]; omega) ?_)
          intro va w5 la ka ma
          have HO5 := Lib.hid la
          have hbn := below_new wr (.cells #[.int .u32 ((z : Nat) : Int)] 186)
          have HK5 : Hid (∀ k, Value.ownBlock va = some k → w.heap.size ≤ k) := Lib.hid (fun k e => by
            rcases ma with m1 | ⟨g, m1, m2⟩
            · exact HK.out k (m1 ▸ e)
            · rw [e] at m1; cases m1; exact Nat.le_trans (Nat.le_trans HB.out.size hbn.size) m2)
          have HB5 := Lib.hid ((HB.out.trans (hbn.mono HB.out.size)).trans (ka.below (B := w.heap.size) (fun q hq e => by have := HK.out q e; omega) (Nat.le_trans HB.out.size hbn.size)))
          clear la ka ma hbn HO HB
          go_wp2_with fail
          go_roundw
          case rel => exact ⟨i + 1, 0, _, by go_num, by first | rfl | go_num, HLT.out, by omega, HP2, HO5, HK5, HB5⟩
          case measure => have := HLT.out; simp [intOf]; omega
      · have HEE : Hid (0 = dig l2 i) := Lib.hid (by unfold dig; rw [getD_zero (by rw [← HN2.out]; omega)])
        have HY : Hid (b = b + dig l2 i) := Lib.hid (by rw [← HEE.out]; rfl)
        by_cases g3 : d < b
        · obtain ⟨z, hz⟩ : ∃ z : Nat, z + b = d + 4294967296 := ⟨d + 4294967296 - b, by omega⟩
          have hzl : z < 4294967296 := by omega
          have qs : (d : Int) + 4294967296 - (b : Int) = (z : Int) := by omega
          have qw : IntKind.u32.wrap (z : Int) = (z : Int) := by rw [IntKind.wrap_u32]; omega
          have HP2 : Hid (MinusI l1 l2 (i + 1) (o ++ [z]) 1) := Lib.hid (HP.out.next HDD.out HY.out (by omega) (by omega) hzl)
          have HLEN : Hid (o.length = i) := Lib.hid HP.out.len
          have HI9 : Hid (i ≤ 1000000) := Lib.hid (by have := HB1.out; have := HLT.out; omega)
          clear hz hi hbb HP
          go_wp2_with (at_builtin; refine lo_apps (l := o) (l2 := [z]) (enc := u32E) rfl _ _ 126 126 rfl Tryz.underlying126 Tryz.underlying126 Tryz.info32 rfl (by decide) u32E_len (fun x _ => u32E_one x) (HO.out.later (below_new _ _)) rfl _ rfl (lit1d (heap_alloc_new _ _)) (by have := HLEN.out; have := HI9.out; unfold maxLen; simp only [List.length_singleton]; omega) (by have := HLEN.out; have := HI9.out; simp only [List.length_singleton]; omega) ?_)
          intro va w5 la ka ma
          have HO5 := Lib.hid la
          have hbn := below_new wr (.cells #[.int .u32 ((z : Nat) : Int)] 186)
          have HK5 : Hid (∀ k, Value.ownBlock va = some k → w.heap.size ≤ k) := Lib.hid (fun k e => by
            rcases ma with m1 | ⟨g, m1, m2⟩
            · exact HK.out k (m1 ▸ e)
            · rw [e] at m1; cases m1; exact Nat.le_trans (Nat.le_trans HB.out.size hbn.size) m2)
          have HB5 := Lib.hid ((HB.out.trans (hbn.mono HB.out.size)).trans (ka.below (B := w.heap.size) (fun q hq e => by have := HK.out q e; omega) (Nat.le_trans HB.out.size hbn.size)))
          clear la ka ma hbn HO HB
          go_wp2_with fail
          go_roundw
          case rel => exact ⟨i + 1, 1, _, by go_num, by first | rfl | go_num, HLT.out, by omega, HP2, HO5, HK5, HB5⟩
          case measure => have := HLT.out; simp [intOf]; omega
        · obtain ⟨z, hz⟩ : ∃ z : Nat, z + b = d + 0 := ⟨d + 0 - b, by omega⟩
          have hzl : z < 4294967296 := by omega
          have qs : (d : Int) - (b : Int) = (z : Int) := by omega
          have qw : IntKind.u32.wrap (z : Int) = (z : Int) := by rw [IntKind.wrap_u32]; omega
          have HP2 : Hid (MinusI l1 l2 (i + 1) (o ++ [z]) 0) := Lib.hid (HP.out.next HDD.out HY.out (by omega) (by omega) hzl)
          have HLEN : Hid (o.length = i) := Lib.hid HP.out.len
          have HI9 : Hid (i ≤ 1000000) := Lib.hid (by have := HB1.out; have := HLT.out; omega)
          clear hz hi hbb HP
          go_wp2_with (at_builtin; refine lo_apps (l := o) (l2 := [z]) (enc := u32E) rfl _ _ 126 126 rfl Tryz.underlying126 Tryz.underlying126 Tryz.info32 rfl (by decide) u32E_len (fun x _ => u32E_one x) (HO.out.later (below_new _ _)) rfl _ rfl (lit1d (heap_alloc_new _ _)) (by have := HLEN.out; have := HI9.out; unfold maxLen; simp only [List.length_singleton]; omega) (by have := HLEN.out; have := HI9.out; simp only [List.length_singleton]; omega) ?_)
          intro va w5 la ka ma
          have HO5 := Lib.hid la
          have hbn := below_new wr (.cells #[.int .u32 ((z : Nat) : Int)] 186)
          have HK5 : Hid (∀ k, Value.ownBlock va = some k → w.heap.size ≤ k) := Lib.hid (fun k e => by
            rcases ma with m1 | ⟨g, m1, m2⟩
            · exact HK.out k (m1 ▸ e)
            · rw [e] at m1; cases m1; exact Nat.le_trans (Nat.le_trans HB.out.size hbn.size) m2)
          have HB5 := Lib.hid ((HB.out.trans (hbn.mono HB.out.size)).trans (ka.below (B := w.heap.size) (fun q hq e => by have := HK.out q e; omega) (Nat.le_trans HB.out.size hbn.size)))
          clear la ka ma hbn HO HB
          go_wp2_with fail
          go_roundw
          case rel => exact ⟨i + 1, 0, _, by go_num, by first | rfl | go_num, HLT.out, by omega, HP2, HO5, HK5, HB5⟩
          case measure => have := HLT.out; simp [intOf]; omega
    · obtain rfl : i = n1 := by omega
      have HDV : Hid (dv o = if m ≤ n then n - m else 0) := Lib.hid (by
        have h := HP.out
        rw [HN1.out] at h
        rw [if_pos hnm.out, h.done HD1.out (by rw [HN.out, HM.out]; exact hnm.out), HN.out, HM.out])
      have HOD : Hid (D32 o) := Lib.hid HP.out.d32
      have HRO := Lib.hid (HO.out.rd u32E_len)
      clear HP HO
      go_wp2_with fail
      refine (trimo_any HRO.out HOD.out).mono ?_
      rintro e w9 ⟨v', rfl, h9, ho9, rfl⟩
      rw [HDV.out] at h9
      have H9 := Lib.hid h9; have HB9 := HB; have HO9 : Hid (∀ k, v'.ownBlock = some k → w.heap.size ≤ k) := Lib.hid (fun k hk => HK.out k (ho9 k hk))
      clear h9 ho9
      go_wp2_with fail
      go_ret2
      exact ⟨_, by rw [decide_eq_true hnm.out]; rfl, H9.out, HO9.out, HB9.out⟩
theorem minus_any {w : World} {v1 v2 : Value} {l1 l2 : List Nat} {n m : Nat} (h1 : Rd w u32E 1 v1 l1) (h2 : Rd w u32E 1 v2 l2) (d1 : D32 l1) (d2 : D32 l2) (b1 : l1.length ≤ 1000000) (b2 : l2.length ≤ 1000000) (hn : dv l1 = n) (hm : dv l2 = m) :
    Calls Tryz.prog 136 #[v1, v2] w (MinRet w n m) := (minuso_any h1 h2 d1 d2 b1 b2 hn hm).mono fun _ _ ⟨v, e1, e2, _, e3⟩ => ⟨v, e1, e2, e3⟩

set_option maxHeartbeats 4000000 in
set_option maxRecDepth 100000 in
theorem rsub_any {a b c d a' b' c' d' : Int} {n m : Nat} (h : UIs a b c d n) (h' : UIs a' b' c' d' m) (w : World) :
    Calls Tryz.prog 69 #[.agg #[.int .u64 a, .int .u64 b, .int .u64 c, .int .u64 d], .agg #[.int .u64 a', .int .u64 b', .int .u64 c', .int .u64 d']] w (UOk w (n - m) (decide (m ≤ n))) := by
  have HU := Lib.hid h; have HU2 := Lib.hid h'
  clear h h'
  go_enter Tryz.func69, Tryz.ntmps69
  go_wp2_with (refine wpList_alloc_g rfl _ rfl _ _ Tryz.zeroUz rfl ?_)
  obtain ⟨w1, hw1⟩ : ∃ w1, w1 = (w.alloc (.cells #[.int .u64 a, .int .u64 b, .int .u64 c, .int .u64 d] 33)).alloc (.cells #[.int .u64 a', .int .u64 b', .int .u64 c', .int .u64 d'] 33) := ⟨_, rfl⟩
  obtain ⟨X, hX⟩ : ∃ X, X = w.heap.size := ⟨_, rfl⟩
  obtain ⟨Y, hY⟩ : ∃ Y, Y = w.heap.size + 1 := ⟨_, rfl⟩
  rw [← hw1, ← hY, ← hX]
  have hbx := box2 w _ _ _ _ w1 hw1
  rw [← hY, ← hX] at hbx
  have HX := Lib.hid hbx.1; have HY := Lib.hid hbx.2.1
  have HB : Hid (Below w.heap.size w w1) := Lib.hid (by rw [← hX]; exact hbx.2.2.1)
  have NXY : Hid (X ≠ Y) := Lib.hid (by omega)
  clear hbx hw1 hX hY
  intro R a1 hR
  have WR : Hid (w.heap.size ≤ R) := Lib.hid (by rw [hR.out.eq]; exact HB.out.size)
  have NXR : Hid (X ≠ R) := Lib.hid (by have := hR.out.eq; have := heap_lt HX.out; omega)
  have NYR : Hid (Y ≠ R) := Lib.hid (by have := hR.out.eq; have := heap_lt HY.out; omega)
  have HRz := Lib.hid hR.out.cells; have hbR := hR.out.below
  clear hR
  have HBm := Lib.hid (HB.out.trans (hbR.mono HB.out.size))
  have HXm := Lib.hid (below_at' hbR HX.out)
  have HYm := Lib.hid (below_at' hbR HY.out)
  clear hbR HB HX HY
  have HB := HBm
  have HX := HXm
  have HY := HYm
  clear HBm HXm HYm
  have HR := HRz
  clear HRz
  go_wp2_with fail
  obtain ⟨a2, hwz⟩ : ∃ wz, wz = a1.drew := ⟨_, rfl⟩
  have hbz : Below a1.heap.size a1 a2 := by rw [hwz]; exact (Below.refl _ _).drew
  have HBm := Lib.hid (HB.out.trans (hbz.mono HB.out.size))
  have HXm := Lib.hid (below_at' hbz HX.out)
  have HYm := Lib.hid (below_at' hbz HY.out)
  have HRm := Lib.hid (below_at' hbz HR.out)
  clear hbz HB HX HY HR
  have HB := HBm
  have HX := HXm
  have HY := HYm
  have HR := HRm
  clear HBm HXm HYm HRm
  have hS : a2.heap[X]? = some (.cells #[.int .u64 a, .int .u64 b, .int .u64 c, .int .u64 d] 33 (0, 0)) ∧ a2.heap[Y]? = some (.cells #[.int .u64 a', .int .u64 b', .int .u64 c', .int .u64 d'] 33 (0, 0)) := ⟨HX.out, HY.out⟩
  refine wp_region_till (fun w' => w'.heap[X]? = some (.cells #[.int .u64 a, .int .u64 b, .int .u64 c, .int .u64 d] 33 (0, 0)) ∧ w'.heap[Y]? = some (.cells #[.int .u64 a', .int .u64 b', .int .u64 c', .int .u64 d'] 33 (0, 0))) 10 10 (by kernel_rfl) rfl ?_
  rw [← hwz]
  clear hwz
  refine till_take 0 (some 9) rfl rfl (by kernel_rfl) (by kernel_rfl) (by kernel_rfl) (by kernel_rfl) (by kernel_rfl) (by kernel_rfl) (fun _ _ _ h => h) (yields_load (by rfl) 33 _ rfl (.pointer (some ⟨X, 0, none⟩)) rfl (.agg #[.int .u64 a, .int .u64 b, .int .u64 c, .int .u64 d]) (fun w' hS' => load_heap (hS'.1) Tryz.underlying33 rfl Tryz.sizeU)) hS ?_
  go_frame
  refine till_take 2 (some 11) rfl rfl (by kernel_rfl) (by kernel_rfl) (by kernel_rfl) (by kernel_rfl) (by kernel_rfl) (by kernel_rfl) (fun _ _ _ h => h) (yields_load (by rfl) 33 _ rfl (.pointer (some ⟨Y, 0, none⟩)) rfl (.agg #[.int .u64 a', .int .u64 b', .int .u64 c', .int .u64 d']) (fun w' hS' => load_heap (hS'.2) Tryz.underlying33 rfl Tryz.sizeU)) hS ?_
  go_frame
  refine till_one 1 rfl (by kernel_rfl) fun K hK => ?_
  simp only [List.getElem_toArray, List.getElem_cons_succ, List.getElem_cons_zero]
  rw [if_pos (by rfl)]
  go_simp
  refine (of_any HU.out _).mono ?_
  rintro e a3 ⟨v1, rfl, r, hb⟩
  have V1 := Lib.hid r
  clear r
  have HBm := Lib.hid (HB.out.trans (hb.mono HB.out.size))
  have HXm := Lib.hid (below_at' hb HX.out)
  have HYm := Lib.hid (below_at' hb HY.out)
  have HRm := Lib.hid (below_at' hb HR.out)
  clear hb HB HX HY HR
  have HB := HBm
  have HX := HXm
  have HY := HYm
  have HR := HRm
  clear HBm HXm HYm HRm
  have hS2 : a3.heap[X]? = some (.cells #[.int .u64 a, .int .u64 b, .int .u64 c, .int .u64 d] 33 (0, 0)) ∧ a3.heap[Y]? = some (.cells #[.int .u64 a', .int .u64 b', .int .u64 c', .int .u64 d'] 33 (0, 0)) := ⟨HX.out, HY.out⟩
  refine hK _ _ (fun _ _ => hS2) ?_
  clear hK hS
  have hS := hS2
  clear hS2
  refine till_one 3 rfl (by kernel_rfl) fun K hK => ?_
  simp only [List.getElem_toArray, List.getElem_cons_succ, List.getElem_cons_zero]
  rw [if_pos (by rfl)]
  go_simp
  refine (of_any HU2.out _).mono ?_
  rintro e a4 ⟨v2, rfl, r, hb⟩
  have V2 := Lib.hid r
  clear r
  have HBm := Lib.hid (HB.out.trans (hb.mono HB.out.size))
  have HXm := Lib.hid (below_at' hb HX.out)
  have HYm := Lib.hid (below_at' hb HY.out)
  have HRm := Lib.hid (below_at' hb HR.out)
  have V1m := Lib.hid (V1.out.later hb)
  clear hb HB HX HY HR V1
  have HB := HBm
  have HX := HXm
  have HY := HYm
  have HR := HRm
  have V1 := V1m
  clear HBm HXm HYm HRm V1m
  have hS2 : a4.heap[X]? = some (.cells #[.int .u64 a, .int .u64 b, .int .u64 c, .int .u64 d] 33 (0, 0)) ∧ a4.heap[Y]? = some (.cells #[.int .u64 a', .int .u64 b', .int .u64 c', .int .u64 d'] 33 (0, 0)) := ⟨HX.out, HY.out⟩
  refine hK _ _ (fun _ _ => hS2) ?_
  clear hK hS
  have hS := hS2
  clear hS2
  refine till_one 4 rfl (by kernel_rfl) fun K hK => ?_
  simp only [List.getElem_toArray, List.getElem_cons_succ, List.getElem_cons_zero]
  rw [if_pos (by rfl)]
  go_simp
  refine (minus_any (n := n) (m := m) V1.out V2.out (digs_d32 _) (digs_d32 _) (dg_len HU.out.lt) (dg_len HU2.out.lt) (dv_digs _) (dv_digs _)).mono ?_
  obtain ⟨q, hq⟩ : ∃ q, q = decide (m ≤ n) := ⟨_, rfl⟩
  obtain ⟨r3, hr3⟩ : ∃ r3, r3 = if m ≤ n then n - m else 0 := ⟨_, rfl⟩
  rintro e a5 ⟨v3, rfl, r, hb⟩
  rw [← hr3] at r
  have V3 := Lib.hid r; have HQ := Lib.hid hq; have HR3 := Lib.hid hr3
  clear r hr3
  rw [← hq]
  clear hq
  have HBm := Lib.hid (HB.out.trans (hb.mono HB.out.size))
  have HXm := Lib.hid (below_at' hb HX.out)
  have HYm := Lib.hid (below_at' hb HY.out)
  have HRm := Lib.hid (below_at' hb HR.out)
  have V1m := Lib.hid (V1.out.later hb)
  have V2m := Lib.hid (V2.out.later hb)
  clear hb HB HX HY HR V1 V2
  have HB := HBm
  have HX := HXm
  have HY := HYm
  have HR := HRm
  have V1 := V1m
  have V2 := V2m
  clear HBm HXm HYm HRm V1m V2m
  have hS2 : a5.heap[X]? = some (.cells #[.int .u64 a, .int .u64 b, .int .u64 c, .int .u64 d] 33 (0, 0)) ∧ a5.heap[Y]? = some (.cells #[.int .u64 a', .int .u64 b', .int .u64 c', .int .u64 d'] 33 (0, 0)) := ⟨HX.out, HY.out⟩
  refine hK _ _ (fun _ _ => hS2) ?_
  clear hK hS
  have hS := hS2
  clear hS2
  refine till_take 5 (some 8) rfl rfl (by kernel_rfl) (by kernel_rfl) (by kernel_rfl) (by kernel_rfl) (by kernel_rfl) (by kernel_rfl) (fun _ _ _ h => h) (.inl ⟨by rfl, fun w' _ => (by go_simp; rfl)⟩) hS ?_
  go_frame
  refine till_take 6 (some 14) rfl rfl (by kernel_rfl) (by kernel_rfl) (by kernel_rfl) (by kernel_rfl) (by kernel_rfl) (by kernel_rfl) (fun _ _ _ h => h) (.inl ⟨by rfl, fun w' _ => (by go_simp; rfl)⟩) hS ?_
  go_frame
  refine till_take 7 (some 15) rfl rfl (by kernel_rfl) (by kernel_rfl) (by kernel_rfl) (by kernel_rfl) (by kernel_rfl) (by kernel_rfl) (fun _ _ _ h => h) (.inl ⟨by rfl, fun w' _ => (by go_simp; rfl)⟩) hS ?_
  go_frame
  refine till_take 8 (some 6) rfl rfl (by kernel_rfl) (by kernel_rfl) (by kernel_rfl) (by kernel_rfl) (by kernel_rfl) (by kernel_rfl) (fun _ _ _ h => h) (.inl ⟨by rfl, fun w' _ => (by go_simp; rfl)⟩) hS ?_
  go_frame
  refine till_take 9 (some 7) rfl rfl (by kernel_rfl) (by kernel_rfl) (by kernel_rfl) (by kernel_rfl) (by kernel_rfl) (by kernel_rfl) (fun _ _ _ h => h) (.inl ⟨by rfl, fun w' _ => (by go_simp; rfl)⟩) hS ?_
  go_frame
  refine till_done (by kernel_rfl) ?_ _
  clear hS
  cases q with
  | false =>
    have hno : Hid (¬ m ≤ n) := Lib.hid (of_decide_eq_false HQ.out.symm)
    clear HQ
    go_wp2_with (refine wpList_store_row_g (t := 33) (old := u0) rfl 33 _ _ rfl R u0 rfl rfl HR.out Tryz.sizeU rfl (one_u64 _ _ _ _) ?_)
    intro a6 hxR kR zR
    clear zR
    have HBm := Lib.hid (HB.out.trans (kR.below (B := w.heap.size) (fun y hy e => by have := WR.out; omega) HB.out.size))
    have HRm := Lib.hid hxR
    clear hxR kR HB HR
    have HB := HBm
    have HR := HRm
    clear HBm HRm
    go_wp2_with fail
    exact bodyPost_ret (res_row_val rfl _ _ R _ u0 _ _ rfl HR.out Tryz.underlying33 rfl Tryz.sizeU _ rfl) rfl ⟨0, 0, 0, 0, by rw [decide_eq_false hno.out]; exact UIs.zero, by rw [decide_eq_false hno.out]; rfl, HB.out⟩
  | true =>
    have hok : Hid (m ≤ n) := Lib.hid (of_decide_eq_true HQ.out.symm)
    have HV : Hid (r3 = n - m) := Lib.hid (by rw [HR3.out, if_pos hok.out])
    have hlt3 : Hid (r3 < uMax) := Lib.hid (by have := HU.out.lt; rw [HV.out]; omega)
    clear HQ
    go_wp2_with fail
    refine (told_any (n := r3) V3.out (digs_d32 _) (dv_digs _)).mono ?_
    rw [decide_eq_true hlt3.out]
    rintro e a6 ⟨sa, sb, sc, sd, hu, rfl, hb⟩
    have HSU := Lib.hid hu
    clear hu
    have HBm := Lib.hid (HB.out.trans (hb.mono HB.out.size))
    have HRm := Lib.hid (below_at' hb HR.out)
    clear hb HB HR
    have HB := HBm
    have HR := HRm
    clear HBm HRm
    go_wp2_with (refine wpList_store_row_g (t := 33) (old := u0) rfl 33 _ _ rfl R #[.int .u64 sa, .int .u64 sb, .int .u64 sc, .int .u64 sd] rfl rfl HR.out Tryz.sizeU rfl (one_u64 _ _ _ _) ?_)
    intro a7 hxR kR zR
    clear zR
    have HBm := Lib.hid (HB.out.trans (kR.below (B := w.heap.size) (fun y hy e => by have := WR.out; omega) HB.out.size))
    have HRm := Lib.hid hxR
    clear hxR kR HB HR
    have HB := HBm
    have HR := HRm
    clear HBm HRm
    go_wp2_with fail
    exact bodyPost_ret (res_row_val rfl _ _ R _ _ _ _ rfl HR.out Tryz.underlying33 rfl Tryz.sizeU _ rfl) rfl ⟨_, _, _, _, by rw [decide_eq_true hok.out, if_pos rfl, ← HV.out]; exact HSU.out, by rw [decide_eq_true hok.out]; rfl, HB.out⟩

set_option maxHeartbeats 4000000 in
set_option maxRecDepth 100000 in
theorem rmost_any (w : World) : Calls Tryz.prog 166 #[] w (URet w 340282366920938463463374607431768211455) := by
  go_enter Tryz.func166, Tryz.ntmps166
  go_wp2_with (refine wpList_alloc_g rfl _ rfl _ _ Tryz.zeroUz rfl ?_)
  intro R w1 h1
  go_wp2_with (refine wpList_store_row_g (t := 33) (old := u0) rfl 33 _ _ rfl R #[.int .u64 18446744073709551615, .int .u64 18446744073709551615, .int .u64 0, .int .u64 0] rfl rfl h1.out.cells Tryz.sizeU rfl (one_u64 _ _ _ _) ?_)
  intro w2 h2 k2 z2
  clear z2
  have HB : Hid (Below w.heap.size w w2) := Lib.hid (h1.out.below.trans (k2.below (B := w.heap.size) (fun x hx e => by have := h1.out.eq; omega) h1.out.below.size))
  have HR := Lib.hid h2
  clear h1 h2 k2
  go_wp2_with fail
  exact bodyPost_ret (results_cell_row rfl _ _ _ _ _ _ _ rfl HR.out Tryz.underlying33 rfl Tryz.sizeU) rfl ⟨_, _, _, _, by unfold UIs; omega, rfl, HB.out⟩
theorem cmp_most (n : Nat) : decide (cmpV n 340282366920938463463374607431768211455 ≤ 0) = decide (n < uHalf) := by
  unfold cmpV
  by_cases h : n < 340282366920938463463374607431768211455
  · rw [if_pos h, decide_eq_true (by decide), decide_eq_true (by unfold uHalf; omega)]
  · rw [if_neg h]
    by_cases h2 : n = 340282366920938463463374607431768211455
    · rw [if_pos h2, decide_eq_true (by decide), decide_eq_true (by unfold uHalf; omega)]
    · rw [if_neg h2, decide_eq_false (by decide), decide_eq_false (by unfold uHalf; omega)]

set_option maxHeartbeats 4000000 in
set_option maxRecDepth 100000 in
theorem rmAmount_any {a b c d : Int} {n : Nat} (h : UIs a b c d n) (w : World) : Calls Tryz.prog 112 #[.agg #[.int .u64 a, .int .u64 b, .int .u64 c, .int .u64 d]] w (Ret w (.bool (decide (n < uHalf)))) := by
  have HU := Lib.hid h
  clear h
  go_enter Tryz.func112, Tryz.ntmps112
  go_wp2_with fail
  obtain ⟨w1, hw1⟩ : ∃ w1, w1 = w.alloc (.cells #[.int .u64 a, .int .u64 b, .int .u64 c, .int .u64 d] 33) := ⟨_, rfl⟩
  obtain ⟨X, hX⟩ : ∃ X, X = w.heap.size := ⟨_, rfl⟩
  rw [← hw1, ← hX]
  have HX : Hid (w1.heap[X]? = some (.cells #[.int .u64 a, .int .u64 b, .int .u64 c, .int .u64 d] 33 (0, 0))) := Lib.hid (by rw [hw1, hX]; exact heap_alloc_new _ _)
  have HB : Hid (Below w.heap.size w w1) := Lib.hid (by rw [hw1]; exact below_new _ _)
  clear hw1 hX
  obtain ⟨a1, hwz⟩ : ∃ wz, wz = w1.drew := ⟨_, rfl⟩
  have hbz : Below w1.heap.size w1 a1 := by rw [hwz]; exact (Below.refl _ _).drew
  have HBm := Lib.hid (HB.out.trans (hbz.mono HB.out.size))
  have HXm := Lib.hid (below_at' hbz HX.out)
  clear hbz HB HX
  have HB := HBm
  have HX := HXm
  clear HBm HXm
  have hS : a1.heap[X]? = some (.cells #[.int .u64 a, .int .u64 b, .int .u64 c, .int .u64 d] 33 (0, 0)) := HX.out
  refine wp_region_till (fun w' => w'.heap[X]? = some (.cells #[.int .u64 a, .int .u64 b, .int .u64 c, .int .u64 d] 33 (0, 0))) 5 5 (by kernel_rfl) rfl ?_
  rw [← hwz]
  clear hwz
  refine till_take 0 (some 3) rfl rfl (by kernel_rfl) (by kernel_rfl) (by kernel_rfl) (by kernel_rfl) (by kernel_rfl) (by kernel_rfl) (fun _ _ _ h => h) (yields_load (by rfl) 33 _ rfl (.pointer (some ⟨X, 0, none⟩)) rfl (.agg #[.int .u64 a, .int .u64 b, .int .u64 c, .int .u64 d]) (fun w' hS' => load_heap (hS') Tryz.underlying33 rfl Tryz.sizeU)) hS ?_
  go_frame
  refine till_one 1 rfl (by kernel_rfl) fun K hK => ?_
  simp only [List.getElem_toArray, List.getElem_cons_succ, List.getElem_cons_zero]
  rw [if_pos (by rfl)]
  go_simp
  refine (rmost_any _).mono ?_
  rintro e a2 ⟨ma, mb, mc, md, hu, rfl, hb⟩
  have HM := Lib.hid hu
  clear hu
  have HBm := Lib.hid (HB.out.trans (hb.mono HB.out.size))
  have HXm := Lib.hid (below_at' hb HX.out)
  clear hb HB HX
  have HB := HBm
  have HX := HXm
  clear HBm HXm
  have hS2 : a2.heap[X]? = some (.cells #[.int .u64 a, .int .u64 b, .int .u64 c, .int .u64 d] 33 (0, 0)) := HX.out
  refine hK _ _ (fun _ _ => hS2) ?_
  clear hK hS
  have hS := hS2
  clear hS2
  refine till_one 2 rfl (by kernel_rfl) fun K hK => ?_
  simp only [List.getElem_toArray, List.getElem_cons_succ, List.getElem_cons_zero]
  rw [if_pos (by rfl)]
  go_simp
  refine (ucmp_any HU.out HM.out _).mono ?_
  obtain ⟨cv, hcv⟩ : ∃ cv, cv = cmpV n 340282366920938463463374607431768211455 := ⟨_, rfl⟩
  rw [← hcv]
  have hle := cmp_most n
  rw [← hcv] at hle
  have HLE := Lib.hid hle
  clear hcv hle
  rintro e a3 ⟨rfl, hb⟩
  have HBm := Lib.hid (HB.out.trans (hb.mono HB.out.size))
  have HXm := Lib.hid (below_at' hb HX.out)
  clear hb HB HX
  have HB := HBm
  have HX := HXm
  clear HBm HXm
  have hS2 : a3.heap[X]? = some (.cells #[.int .u64 a, .int .u64 b, .int .u64 c, .int .u64 d] 33 (0, 0)) := HX.out
  refine hK _ _ (fun _ _ => hS2) ?_
  clear hK hS
  have hS := hS2
  clear hS2
  refine till_take 3 (some 6) rfl rfl (by kernel_rfl) (by kernel_rfl) (by kernel_rfl) (by kernel_rfl) (by kernel_rfl) (by kernel_rfl) (fun _ _ _ h => h) (.inl ⟨by rfl, fun w' _ => (by go_simp; rfl)⟩) hS ?_
  go_frame
  refine till_take 4 (some 2) rfl rfl (by kernel_rfl) (by kernel_rfl) (by kernel_rfl) (by kernel_rfl) (by kernel_rfl) (by kernel_rfl) (fun _ _ _ h => h) (.inl ⟨by rfl, fun w' _ => (by go_simp; rfl)⟩) hS ?_
  go_frame
  refine till_done (by kernel_rfl) ?_ _
  clear hS
  have HV : Hid (Value.bool (decide (cv ≤ 0)) = .bool (decide (n < uHalf))) := Lib.hid (by rw [HLE.out])
  go_wp2_with fail
  go_ret
  exact ⟨by rw [← HLE.out]; rfl, HB.out⟩

theorem lit1b {w : World} {A : Nat} {x : Int} {c : UInt8} (hx : byteV c = .int .u8 x) (h : w.heap[A]? = some (.cells #[.int .u8 x] 5 (0, 0))) : Rd w u8E 1 (.slice (some ⟨A, 0, none⟩) 1 1) [c] := by
  refine ⟨_, 1, rfl, Nat.le_refl _, (by unfold maxLen; decide), fun _ => ⟨_, 0, rfl, heap_lt h, fun i hi j hj => ?_⟩⟩
  simp only [List.length_singleton] at hi
  obtain rfl : i = 0 := by omega
  obtain rfl : j = 0 := by omega
  simp only [List.getElem_cons_zero, u8E, hx]
  exact Lib.cell_of_heap h 0
theorem u8E_len (c : UInt8) : (u8E c).length = 1 := rfl
theorem u8E_one (c : UInt8) : ∀ u ∈ u8E c, u.oneCell' = true := fun u hu => by rw [List.mem_singleton.1 hu]; rfl
theorem ubytes_take (a : Nat → Int) {n : Nat} (h : n < 32) : (ubytes a).take (n + 1) = (ubytes a).take n ++ [ub a n] := by
  rw [List.take_succ_eq_append_getElem (by rw [ubytes_length]; exact h)]
  congr 1
  simp [ubytes]

set_option maxHeartbeats 16000000 in
set_option maxRecDepth 100000 in
theorem rbytes_any {a0 a1 a2 a3 : Int} {m : Nat} (h : UIs a0 a1 a2 a3 m) (w : World) :
    Calls Tryz.prog 197 #[.agg #[.int .u64 a0, .int .u64 a1, .int .u64 a2, .int .u64 a3]] w fun e w' => ∃ v, e = .returned v ∧ Rd w' u8E 1 v (amtB m) ∧ Below w.heap.size w w' := by
  have HM : Hid (ubytes (w4 a0 a1 a2 a3) = amtB m) := Lib.hid (ubytes_is h)
  obtain ⟨⟨p0, p0'⟩, ⟨p1, p1'⟩, ⟨p2, p2'⟩, ⟨p3, p3'⟩, _⟩ := h
  go_enter Tryz.func197, Tryz.ntmps197
  go_wp2_with fail
  obtain ⟨w1, hw1⟩ : ∃ w1, w1 = w.alloc (.cells #[.int .u64 a0, .int .u64 a1, .int .u64 a2, .int .u64 a3] 33) := ⟨_, rfl⟩
  obtain ⟨X, hX⟩ : ∃ X, X = w.heap.size := ⟨_, rfl⟩
  rw [← hw1, ← hX]
  have HX1 : Hid (w1.heap[X]? = some (.cells #[.int .u64 a0, .int .u64 a1, .int .u64 a2, .int .u64 a3] 33 (0, 0))) := Lib.hid (by rw [hw1, hX]; exact heap_alloc_new _ _)
  have HB1 : Hid (Below w.heap.size w w1) := Lib.hid (by rw [hw1]; exact below_new _ _)
  have WX : Hid (w.heap.size ≤ X) := Lib.hid (by omega)
  clear hw1 hX
  go_loopw [3, 4] (fun vo vi wr => ∃ n : Nat, n ≤ 32 ∧ vi = .int .i64 (31 - (n : Int)) ∧ Hid (LO wr 5 u8E 1 vo ((ubytes (w4 a0 a1 a2 a3)).take n)) ∧ Hid (∀ k, vo.ownBlock = some k → w.heap.size ≤ k) ∧ Hid (wr.heap[X]? = some (.cells #[.int .u64 a0, .int .u64 a1, .int .u64 a2, .int .u64 a3] 33 (0, 0))) ∧ Hid (Below w.heap.size w wr)) (fun _ vi _ => (intOf vi + 1).toNat)
  case atStart => exact ⟨0, by omega, rfl, Lib.hid (LO.nil _ _ _ _), Lib.hid (fun k e => by cases e), HX1, HB1⟩
  case round =>
    clear HX1 HB1
    obtain ⟨n, hn, rfl, HO, HK, HX, HB⟩ := hrel
    by_cases hlt : n < 32
    · have HLT := Lib.hid hlt
      have HTK : Hid ((ubytes (w4 a0 a1 a2 a3)).take (n + 1) = (ubytes (w4 a0 a1 a2 a3)).take n ++ [ub (w4 a0 a1 a2 a3) n]) := Lib.hid (ubytes_take _ hlt)
      have HLEN : Hid (((ubytes (w4 a0 a1 a2 a3)).take n).length = n) := Lib.hid (by rw [List.length_take, ubytes_length]; omega)
      obtain ⟨o, ho⟩ : ∃ o, o = (ubytes (w4 a0 a1 a2 a3)).take n := ⟨_, rfl⟩
      rw [← ho] at HO HTK HLEN
      clear ho
      rcases (show n < 8 ∨ (8 ≤ n ∧ n < 16) ∨ (16 ≤ n ∧ n < 24) ∨ 24 ≤ n by omega) with hc | hc | hc | hc
      · have e1 : (31 - (n : Int)) / 8 = 3 := by omega
        have e2 : (31 - (n : Int)) % 8 = 7 - n := by omega
        have k1 : wr.cell? ⟨X, 3, none⟩ = some (.int .u64 a3) := Lib.cell_of_heap HX.out 3
        have j0 : ¬ (31 - (n : Int)) < 0 := by omega
        have HV := Lib.hid (ub_val (w4 a0 a1 a2 a3) n 0 3 (by omega) (by omega) rfl)
        go_wp2_with (at_builtin; refine lo_apps (l := o) (l2 := [ub (w4 a0 a1 a2 a3) n]) (enc := u8E) rfl _ _ 154 154 rfl Tryz.underlying154 Tryz.underlying154 Tryz.infoU8 rfl (by decide) u8E_len (fun x _ => u8E_one x) (HO.out.later (below_new _ _)) rfl _ rfl (lit1b HV.out (heap_alloc_new _ _)) (by have := HLEN.out; have := HLT.out; unfold maxLen; simp only [List.length_singleton]; omega) (by have := HLEN.out; have := HLT.out; simp only [List.length_singleton]; omega) ?_)
        intro va w5 la ka ma
        have HO5 := Lib.hid la
        have hbn := below_new wr (.cells #[.int .u8 (w4 a0 a1 a2 a3 3 / 2 ^ (8 * (7 + 8 * 0 - n)) % 256)] 5)
        have HK5 : Hid (∀ k, Value.ownBlock va = some k → w.heap.size ≤ k) := Lib.hid (fun k e => by
          rcases ma with m1 | ⟨g, m1, m2⟩
          · exact HK.out k (m1 ▸ e)
          · rw [e] at m1; cases m1; exact Nat.le_trans (Nat.le_trans HB.out.size hbn.size) m2)
        have HX5 : Hid (w5.heap[X]? = some (.cells #[.int .u64 a0, .int .u64 a1, .int .u64 a2, .int .u64 a3] 33 (0, 0))) := Lib.hid (ka.at (below_at' hbn HX.out) (fun e => by
          obtain ⟨cs, hk⟩ := HO.out.kind e
          rw [HX.out] at hk; cases hk))
        have HB5 := Lib.hid ((HB.out.trans (hbn.mono HB.out.size)).trans (ka.below (B := w.heap.size) (fun q hq e => by have := HK.out q e; omega) (Nat.le_trans HB.out.size hbn.size)))
        clear la ka ma hbn HO HB HX k1
        go_wp2_with fail
        go_roundw
        case rel => exact ⟨n + 1, HLT.out, by go_num, by rw [HTK.out]; exact HO5, HK5, HX5, HB5⟩
        case measure => have := HLT.out; simp [intOf]; omega
      · have e1 : (31 - (n : Int)) / 8 = 2 := by omega
        have e2 : (31 - (n : Int)) % 8 = 15 - n := by omega
        have k1 : wr.cell? ⟨X, 2, none⟩ = some (.int .u64 a2) := Lib.cell_of_heap HX.out 2
        have j0 : ¬ (31 - (n : Int)) < 0 := by omega
        have HV := Lib.hid (ub_val (w4 a0 a1 a2 a3) n 1 2 (by omega) (by omega) rfl)
        go_wp2_with (at_builtin; refine lo_apps (l := o) (l2 := [ub (w4 a0 a1 a2 a3) n]) (enc := u8E) rfl _ _ 154 154 rfl Tryz.underlying154 Tryz.underlying154 Tryz.infoU8 rfl (by decide) u8E_len (fun x _ => u8E_one x) (HO.out.later (below_new _ _)) rfl _ rfl (lit1b HV.out (heap_alloc_new _ _)) (by have := HLEN.out; have := HLT.out; unfold maxLen; simp only [List.length_singleton]; omega) (by have := HLEN.out; have := HLT.out; simp only [List.length_singleton]; omega) ?_)
        intro va w5 la ka ma
        have HO5 := Lib.hid la
        have hbn := below_new wr (.cells #[.int .u8 (w4 a0 a1 a2 a3 2 / 2 ^ (8 * (7 + 8 * 1 - n)) % 256)] 5)
        have HK5 : Hid (∀ k, Value.ownBlock va = some k → w.heap.size ≤ k) := Lib.hid (fun k e => by
          rcases ma with m1 | ⟨g, m1, m2⟩
          · exact HK.out k (m1 ▸ e)
          · rw [e] at m1; cases m1; exact Nat.le_trans (Nat.le_trans HB.out.size hbn.size) m2)
        have HX5 : Hid (w5.heap[X]? = some (.cells #[.int .u64 a0, .int .u64 a1, .int .u64 a2, .int .u64 a3] 33 (0, 0))) := Lib.hid (ka.at (below_at' hbn HX.out) (fun e => by
          obtain ⟨cs, hk⟩ := HO.out.kind e
          rw [HX.out] at hk; cases hk))
        have HB5 := Lib.hid ((HB.out.trans (hbn.mono HB.out.size)).trans (ka.below (B := w.heap.size) (fun q hq e => by have := HK.out q e; omega) (Nat.le_trans HB.out.size hbn.size)))
        clear la ka ma hbn HO HB HX k1
        go_wp2_with fail
        go_roundw
        case rel => exact ⟨n + 1, HLT.out, by go_num, by rw [HTK.out]; exact HO5, HK5, HX5, HB5⟩
        case measure => have := HLT.out; simp [intOf]; omega
      · have e1 : (31 - (n : Int)) / 8 = 1 := by omega
        have e2 : (31 - (n : Int)) % 8 = 23 - n := by omega
        have k1 : wr.cell? ⟨X, 1, none⟩ = some (.int .u64 a1) := Lib.cell_of_heap HX.out 1
        have j0 : ¬ (31 - (n : Int)) < 0 := by omega
        have HV := Lib.hid (ub_val (w4 a0 a1 a2 a3) n 2 1 (by omega) (by omega) rfl)
        go_wp2_with (at_builtin; refine lo_apps (l := o) (l2 := [ub (w4 a0 a1 a2 a3) n]) (enc := u8E) rfl _ _ 154 154 rfl Tryz.underlying154 Tryz.underlying154 Tryz.infoU8 rfl (by decide) u8E_len (fun x _ => u8E_one x) (HO.out.later (below_new _ _)) rfl _ rfl (lit1b HV.out (heap_alloc_new _ _)) (by have := HLEN.out; have := HLT.out; unfold maxLen; simp only [List.length_singleton]; omega) (by have := HLEN.out; have := HLT.out; simp only [List.length_singleton]; omega) ?_)
        intro va w5 la ka ma
        have HO5 := Lib.hid la
        have hbn := below_new wr (.cells #[.int .u8 (w4 a0 a1 a2 a3 1 / 2 ^ (8 * (7 + 8 * 2 - n)) % 256)] 5)
        have HK5 : Hid (∀ k, Value.ownBlock va = some k → w.heap.size ≤ k) := Lib.hid (fun k e => by
          rcases ma with m1 | ⟨g, m1, m2⟩
          · exact HK.out k (m1 ▸ e)
          · rw [e] at m1; cases m1; exact Nat.le_trans (Nat.le_trans HB.out.size hbn.size) m2)
        have HX5 : Hid (w5.heap[X]? = some (.cells #[.int .u64 a0, .int .u64 a1, .int .u64 a2, .int .u64 a3] 33 (0, 0))) := Lib.hid (ka.at (below_at' hbn HX.out) (fun e => by
          obtain ⟨cs, hk⟩ := HO.out.kind e
          rw [HX.out] at hk; cases hk))
        have HB5 := Lib.hid ((HB.out.trans (hbn.mono HB.out.size)).trans (ka.below (B := w.heap.size) (fun q hq e => by have := HK.out q e; omega) (Nat.le_trans HB.out.size hbn.size)))
        clear la ka ma hbn HO HB HX k1
        go_wp2_with fail
        go_roundw
        case rel => exact ⟨n + 1, HLT.out, by go_num, by rw [HTK.out]; exact HO5, HK5, HX5, HB5⟩
        case measure => have := HLT.out; simp [intOf]; omega
      · have e1 : (31 - (n : Int)) / 8 = 0 := by omega
        have e2 : (31 - (n : Int)) % 8 = 31 - n := by omega
        have k1 : wr.cell? ⟨X, 0, none⟩ = some (.int .u64 a0) := Lib.cell_of_heap HX.out 0
        have j0 : ¬ (31 - (n : Int)) < 0 := by omega
        have HV := Lib.hid (ub_val (w4 a0 a1 a2 a3) n 3 0 (by omega) (by omega) rfl)
        go_wp2_with (at_builtin; refine lo_apps (l := o) (l2 := [ub (w4 a0 a1 a2 a3) n]) (enc := u8E) rfl _ _ 154 154 rfl Tryz.underlying154 Tryz.underlying154 Tryz.infoU8 rfl (by decide) u8E_len (fun x _ => u8E_one x) (HO.out.later (below_new _ _)) rfl _ rfl (lit1b HV.out (heap_alloc_new _ _)) (by have := HLEN.out; have := HLT.out; unfold maxLen; simp only [List.length_singleton]; omega) (by have := HLEN.out; have := HLT.out; simp only [List.length_singleton]; omega) ?_)
        intro va w5 la ka ma
        have HO5 := Lib.hid la
        have hbn := below_new wr (.cells #[.int .u8 (w4 a0 a1 a2 a3 0 / 2 ^ (8 * (7 + 8 * 3 - n)) % 256)] 5)
        have HK5 : Hid (∀ k, Value.ownBlock va = some k → w.heap.size ≤ k) := Lib.hid (fun k e => by
          rcases ma with m1 | ⟨g, m1, m2⟩
          · exact HK.out k (m1 ▸ e)
          · rw [e] at m1; cases m1; exact Nat.le_trans (Nat.le_trans HB.out.size hbn.size) m2)
        have HX5 : Hid (w5.heap[X]? = some (.cells #[.int .u64 a0, .int .u64 a1, .int .u64 a2, .int .u64 a3] 33 (0, 0))) := Lib.hid (ka.at (below_at' hbn HX.out) (fun e => by
          obtain ⟨cs, hk⟩ := HO.out.kind e
          rw [HX.out] at hk; cases hk))
        have HB5 := Lib.hid ((HB.out.trans (hbn.mono HB.out.size)).trans (ka.below (B := w.heap.size) (fun q hq e => by have := HK.out q e; omega) (Nat.le_trans HB.out.size hbn.size)))
        clear la ka ma hbn HO HB HX k1
        go_wp2_with fail
        go_roundw
        case rel => exact ⟨n + 1, HLT.out, by go_num, by rw [HTK.out]; exact HO5, HK5, HX5, HB5⟩
        case measure => have := HLT.out; simp [intOf]; omega
    · obtain rfl : n = 32 := by omega
      have HRO := Lib.hid (HO.out.rd u8E_len)
      clear HO
      go_wp2_with fail
      go_ret
      exact ⟨_, rfl, by have h8 := HRO.out; rw [List.take_of_length_le (by rw [ubytes_length]; exact Nat.le_refl _), HM.out] at h8; exact h8, HB.out⟩

set_option maxHeartbeats 4000000 in
set_option maxRecDepth 100000 in
theorem ramt_any {a b c d : Int} {n : Nat} (h : UIs a b c d n) (w : World) : Calls Tryz.prog 185 #[.agg #[.int .u64 a, .int .u64 b, .int .u64 c, .int .u64 d]] w (Ret w (.string (bs (amtB n)))) := by
  have HU := Lib.hid h
  clear h
  go_enter Tryz.func185, Tryz.ntmps185
  go_wp2_with (refine wpList_load_row rfl 33 _ rfl w.heap.size rfl 33 _ _ _ (heap_alloc_new w _) Tryz.underlying33 rfl Tryz.sizeU ?_)
  refine (rbytes_any HU.out _).mono ?_
  rintro e w2 ⟨v, rfl, r, hb⟩
  have HB := Lib.hid ((below_new w _).trans (hb.mono (below_new w _).size))
  have hcv := rd_conv (P := Tryz.prog) Tryz.underlying154 Tryz.underlying5 Tryz.underlying9 r
  obtain ⟨ad, cap, rfl, _, _⟩ := r.shape
  clear r hb
  go_wp2_with fail
  go_ret
  exact ⟨rfl, HB.out⟩
end Go.Proofs.YthnjakomkdlglaaGreat
