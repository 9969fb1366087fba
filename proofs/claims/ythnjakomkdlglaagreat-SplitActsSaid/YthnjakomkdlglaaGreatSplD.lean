/- Services and operators, and the part set (code, and the reference's). No condition. -/
import Derived.Test.YthnjakomkdlglaaGreatSplN
namespace Go.Proofs.YthnjakomkdlglaaGreat
open Go.RowKit

/-- A number that a slice of numbers may hold. -/
def I64 (n : Int) : Prop := -9223372036854775808 ≤ n ∧ n < 9223372036854775808
def goodB (t n : Int) : Bool := decide ((1 ≤ t ∧ t ≤ 1000) ∧ (1 ≤ n ∧ n ≤ 4294967295))
theorem goodB_of {t n : Int} (h : ¬ (goodB t n = false)) : (1 ≤ t ∧ t ≤ 1000) ∧ (1 ≤ n ∧ n ≤ 4294967295) := by
  have : goodB t n = true := by cases hb : goodB t n; exact absurd hb h; rfl
  exact of_decide_eq_true this
set_option maxHeartbeats 4000000 in
theorem within_any (n m : Int) (w : World) : Calls Tryz.prog 56 #[.int .i64 n, .int .i64 m] w fun e w' => e = .returned (.bool (decide (1 ≤ n ∧ n ≤ m))) ∧ w = w' := by
  obtain ⟨q, hq⟩ : ∃ q, q = decide (1 ≤ n ∧ n ≤ m) := ⟨_, rfl⟩
  have HQ := Lib.hid hq
  rw [← hq]
  clear hq
  by_cases h1 : 1 ≤ n
  · have hd : Hid (decide (n ≤ m) = q) := Lib.hid (by rw [HQ.out]; simp only [h1, true_and])
    go_enter Tryz.func56, Tryz.ntmps56
    go_wp2_with fail
    go_ret
    exact ⟨by rw [← hd.out]; rfl, rfl⟩
  · have hd : Hid (q = false) := Lib.hid (by rw [HQ.out]; exact decide_eq_false fun e => h1 e.1)
    have h3 : n < 1 := by omega
    clear h1
    go_enter Tryz.func56, Tryz.ntmps56
    go_wp2_with fail
    go_ret
    exact ⟨by rw [hd.out]; rfl, rfl⟩
set_option maxHeartbeats 4000000 in
theorem bgood_any (t n : Int) (w : World) : Calls Tryz.prog 16 #[.int .i64 t, .int .i64 n] w fun e w' => e = .returned (.bool (goodB t n)) ∧ w = w' := by
  obtain ⟨g1, hg1⟩ : ∃ g, g = decide (1 ≤ t ∧ t ≤ 1000) := ⟨_, rfl⟩
  obtain ⟨g2, hg2⟩ : ∃ g, g = decide (1 ≤ n ∧ n ≤ 4294967295) := ⟨_, rfl⟩
  have HG : Hid (goodB t n = (g1 && g2)) := Lib.hid (by rw [hg1, hg2]; unfold goodB; rw [Bool.decide_and])
  have G1 := Lib.hid hg1; have G2 := Lib.hid hg2
  clear hg1 hg2
  go_enter Tryz.func16, Tryz.ntmps16
  go_wp2_with fail
  refine (within_any t 1000 _).mono ?_
  rw [← G1.out]
  rintro e w1 ⟨rfl, rfl⟩
  cases g1 with
  | false =>
    go_wp2_with fail
    go_ret
    exact ⟨by rw [HG.out]; rfl, rfl⟩
  | true =>
    go_wp2_with fail
    refine (within_any n 4294967295 _).mono ?_
    rw [← G2.out]
    rintro e w1 ⟨rfl, rfl⟩
    go_wp2_with fail
    go_ret
    exact ⟨by rw [HG.out]; rfl, rfl⟩
set_option maxHeartbeats 4000000 in
theorem ris_any (n : Int) (w : World) : Calls Tryz.prog 64 #[.int .i64 n] w fun e w' => e = .returned (.bool (decide (1 ≤ n ∧ n ≤ 4294967295))) ∧ w = w' := by
  obtain ⟨q, hq⟩ : ∃ q, q = decide (1 ≤ n ∧ n ≤ 4294967295) := ⟨_, rfl⟩
  have HQ := Lib.hid hq
  rw [← hq]
  clear hq
  by_cases h1 : 1 ≤ n
  · have hd : Hid (decide (n ≤ 4294967295) = q) := Lib.hid (by rw [HQ.out]; simp only [h1, true_and])
    go_enter Tryz.func64, Tryz.ntmps64
    go_wp2_with fail
    go_ret
    exact ⟨by rw [← hd.out]; rfl, rfl⟩
  · have hd : Hid (q = false) := Lib.hid (by rw [HQ.out]; exact decide_eq_false fun e => h1 e.1)
    have h3 : n < 1 := by omega
    clear h1
    go_enter Tryz.func64, Tryz.ntmps64
    go_wp2_with fail
    go_ret
    exact ⟨by rw [hd.out]; rfl, rfl⟩
/-- Is number 1 laid at a of table t? -/
def isK (f : Txt → Option Txt) (t a : Int) : Bool := getI f (keyF t [a]) == 1
def regE (s : PS) (a : Int) : Int := if goodB 1 a = false then 2 else if isK (getP s.t) 21 a then 9 else 0
def PS.reg (s : PS) (a : Int) : PS := if regE s a = 0 then s.setInt (keyF 21 [a]) 1 else s
theorem reg_sz (s : PS) (a : Int) : (s.reg a).sz ≤ s.sz + 2 := by
  unfold PS.reg; split
  · exact sz_setInt _ _ _
  · omega
theorem reg_fit {s : PS} (hf : Fit s) (a : Int) : Fit (s.reg a) := by
  unfold PS.reg; split
  · exact hf.setInt _ _
  · exact hf

set_option maxHeartbeats 4000000 in
set_option maxRecDepth 100000 in
theorem sis_any {w : World} {x : Option Addr} {m : Bool} {f : Txt → Option Txt} (h : Look w x m f) (hf : FitF f) {a : Int} (ha : I64 a) : Calls Tryz.prog 80 #[.pointer x, .int .i64 a] w (Ret w (.bool (isK f 21 a))) := by
  have H := Lib.hid h; have HF := Lib.hid hf; have HA := Lib.hid ha
  obtain ⟨q, hq⟩ : ∃ q, q = getI f (keyF 21 [a]) := ⟨_, rfl⟩
  have HQ := Lib.hid hq
  clear h hf ha hq
  have HB : Hid (Below w.heap.size w w) := Lib.hid (Below.refl _ _)
  go_enter Tryz.func80, Tryz.ntmps80
  go_wp2_with fail
  obtain ⟨a1, hwl⟩ : ∃ wl, wl = World.alloc w (.cells #[.int .i64 a] 3) := ⟨_, rfl⟩
  obtain ⟨gl, hgl⟩ : ∃ gl, gl = (World.heap w).size := ⟨_, rfl⟩
  rw [← hwl, ← hgl]
  have HOIz : Hid (Own a1 0 3 intE 1 (.slice (some ⟨gl, 0, none⟩) 1 1) [a]) := Lib.hid (own_lit (l := [a]) (by rw [hwl, hgl]; exact heap_alloc_new _ _) (Nat.zero_le _) (by unfold maxLen; simp))
  have hb : Below (World.heap w).size w a1 := by rw [hwl]; exact below_new _ _
  clear hwl hgl
  have HBm := Lib.hid (HB.out.trans (hb.mono HB.out.size))
  clear hb HB
  have HB := HBm
  clear HBm
  have HOI := HOIz
  clear HOIz
  refine (key_any 21 [a] _ _ (by simp) (I64s.one HA.out) (HOI.out.rd fun _ => rfl)).mono ?_
  rintro e a2 ⟨rfl, hb⟩
  have HBm := Lib.hid (HB.out.trans (hb.mono HB.out.size))
  have HOIm := Lib.hid (HOI.out.later hb)
  clear hb HB HOI
  have HB := HBm
  have HOI := HOIm
  clear HBm HOIm
  clear HOI
  go_wp2_with fail
  refine (int_any (H.out.later HB.out) HF.out (keyF 21 [a])).mono ?_
  rw [← HQ.out]
  rintro e a3 ⟨rfl, hb⟩
  have HBm := Lib.hid (HB.out.trans (hb.mono HB.out.size))
  clear hb HB
  have HB := HBm
  clear HBm
  go_wp2_with fail
  go_ret
  exact ⟨by unfold isK; rw [← HQ.out]; rfl, HB.out⟩

set_option maxHeartbeats 4000000 in
set_option maxRecDepth 100000 in
theorem ris26_any {w : World} {g : Nat} {s : PS} {F : List Nat} (h : RS w g s F) (hz : s.sz < 100000000) (hf : Fit s) {a : Int} (ha : I64 a) : Calls Tryz.prog 99 #[.pointer (some ⟨g, 0, none⟩), .int .i64 a] w (Ret w (.bool (isK (getP s.t) 21 a))) := by
  have H := Lib.hid h; have HF := Lib.hid hf; have HA := Lib.hid ha; have HZ := Lib.hid hz
  obtain ⟨q, hq⟩ : ∃ q, q = getI (getP s.t) (keyF 21 [a]) := ⟨_, rfl⟩
  have HQ := Lib.hid hq
  clear h hf ha hq hz
  have HB : Hid (Below w.heap.size w w) := Lib.hid (Below.refl _ _)
  go_enter Tryz.func99, Tryz.ntmps99
  go_wp2_with fail
  obtain ⟨a1, hwl⟩ : ∃ wl, wl = World.alloc w (.cells #[.int .i64 a] 3) := ⟨_, rfl⟩
  obtain ⟨gl, hgl⟩ : ∃ gl, gl = (World.heap w).size := ⟨_, rfl⟩
  rw [← hwl, ← hgl]
  have HOIz : Hid (Own a1 0 3 intE 1 (.slice (some ⟨gl, 0, none⟩) 1 1) [a]) := Lib.hid (own_lit (l := [a]) (by rw [hwl, hgl]; exact heap_alloc_new _ _) (Nat.zero_le _) (by unfold maxLen; simp))
  have hb : Below (World.heap w).size w a1 := by rw [hwl]; exact below_new _ _
  clear hwl hgl
  have HBm := Lib.hid (HB.out.trans (hb.mono HB.out.size))
  clear hb HB
  have HB := HBm
  clear HBm
  have HOI := HOIz
  clear HOIz
  refine (refKey_any 21 [a] _ _ (by simp) (I64s.one HA.out) (HOI.out.rd fun _ => rfl)).mono ?_
  rintro e a2 ⟨rfl, hb⟩
  have HBm := Lib.hid (HB.out.trans (hb.mono HB.out.size))
  have HOIm := Lib.hid (HOI.out.later hb)
  clear hb HB HOI
  have HB := HBm
  have HOI := HOIm
  clear HBm HOIm
  clear HOI
  go_wp2_with fail
  refine (rint_any (H.out.later HB.out) (by have := HZ.out; omega) HF.out (keyF 21 [a])).mono ?_
  rw [← HQ.out]
  rintro e a3 ⟨rfl, hb⟩
  have HBm := Lib.hid (HB.out.trans (hb.mono HB.out.size))
  clear hb HB
  have HB := HBm
  clear HBm
  go_wp2_with fail
  go_ret
  exact ⟨by unfold isK; rw [← HQ.out]; rfl, HB.out⟩

set_option maxHeartbeats 4000000 in
set_option maxRecDepth 100000 in
theorem sreg_any {w : World} {g : Nat} {s : PS} {F : List Nat} (h : St w g s F) (hz : s.sz < 10000000) (hf : Fit s) {a : Int} (ha : I64 a) :
    Calls Tryz.prog 83 #[.pointer (some ⟨g, 0, none⟩), .int .i64 a] w (StRet w g F (s.reg a) (.int .i64 (regE s a))) := by
  have L := Lib.hid (Liv.start h); have HZ := Lib.hid hz; have HF := Lib.hid hf; have HA := Lib.hid ha
  obtain ⟨gq, hgq⟩ : ∃ q, q = goodB 1 a := ⟨_, rfl⟩
  obtain ⟨iq, hiq⟩ : ∃ q, q = isK (getP s.t) 21 a := ⟨_, rfl⟩
  have HE : Hid (regE s a = if gq = false then 2 else if iq = true then 9 else 0) := Lib.hid (by unfold regE; rw [← hgq, ← hiq])
  have HS : Hid (s.reg a = if regE s a = 0 then s.setInt (keyF 21 [a]) 1 else s) := Lib.hid rfl
  have HG := Lib.hid hgq; have HI := Lib.hid hiq
  clear h hz hf ha hgq hiq
  go_enter Tryz.func83, Tryz.ntmps83
  go_wp2_with fail
  obtain ⟨F9, h9⟩ : ∃ F9, St w g s F9 := by obtain ⟨F9, h9, _⟩ := L.out; exact ⟨F9, h9⟩
  refine (smade_any h9).mono ?_
  rintro e _ ⟨rfl, rfl⟩
  clear h9
  go_wp2_with fail
  refine (bgood_any 1 a _).mono ?_
  rw [← HG.out]
  rintro e _ ⟨rfl, rfl⟩
  cases gq with
  | false =>
    have HV : Hid (regE s a = 2) := Lib.hid (by rw [HE.out, if_pos rfl])
    have HW : Hid (s.reg a = s) := Lib.hid (by rw [HS.out, HV.out, if_neg (by decide)])
    go_wp2_with fail
    go_ret
    rw [HV.out, HW.out]; exact L.out.ret
  | true =>
    go_wp2_with fail
    obtain ⟨F9, h9⟩ : ∃ F9, St w g s F9 := by obtain ⟨F9, h9, _⟩ := L.out; exact ⟨F9, h9⟩
    refine (sis_any (Look.of_st h9) HF.out.f HA.out).mono ?_
    rw [← HI.out]
    rintro e a1 ⟨rfl, hb⟩
    clear h9
    have Lm := Lib.hid (L.out.later hb)
    clear hb L
    have L := Lm
    clear Lm
    cases iq with
    | true =>
      have HV : Hid (regE s a = 9) := Lib.hid (by rw [HE.out, if_neg (by decide), if_pos rfl])
      have HW : Hid (s.reg a = s) := Lib.hid (by rw [HS.out, HV.out, if_neg (by decide)])
      go_wp2_with fail
      go_ret
      rw [HV.out, HW.out]; exact L.out.ret
    | false =>
      have HV : Hid (regE s a = 0) := Lib.hid (by rw [HE.out, if_neg (by decide), if_neg (by decide)])
      have HW : Hid (s.reg a = s.setInt (keyF 21 [a]) 1) := Lib.hid (by rw [HS.out, HV.out, if_pos rfl])
      go_wp2_with fail
      obtain ⟨a2, hwl⟩ : ∃ wl, wl = World.alloc a1 (.cells #[.int .i64 a] 3) := ⟨_, rfl⟩
      obtain ⟨gl, hgl⟩ : ∃ gl, gl = (World.heap a1).size := ⟨_, rfl⟩
      rw [← hwl, ← hgl]
      have HOIz : Hid (Own a2 0 3 intE 1 (.slice (some ⟨gl, 0, none⟩) 1 1) [a]) := Lib.hid (own_lit (l := [a]) (by rw [hwl, hgl]; exact heap_alloc_new _ _) (Nat.zero_le _) (by unfold maxLen; simp))
      have hb : Below (World.heap a1).size a1 a2 := by rw [hwl]; exact below_new _ _
      clear hwl hgl
      have Lm := Lib.hid (L.out.later hb)
      clear hb L
      have L := Lm
      clear Lm
      have HOI := HOIz
      clear HOIz
      refine (key_any 21 [a] _ _ (by simp) (I64s.one HA.out) (HOI.out.rd fun _ => rfl)).mono ?_
      rintro e a3 ⟨rfl, hb⟩
      have Lm := Lib.hid (L.out.later hb)
      have HOIm := Lib.hid (HOI.out.later hb)
      clear hb L HOI
      have L := Lm
      have HOI := HOIm
      clear Lm HOIm
      clear HOI
      go_wp2_with fail
      refine (L.out.call fun F hs => setInt_any hs (by have := HZ.out; omega) (keyF 21 [a]) 1 (by decide)).mono ?_
      rintro e a4 ⟨rfl, o, hoth⟩
      have Lm := Lib.hid o
      clear o hoth L
      have L := Lm
      clear Lm
      go_wp2_with fail
      go_ret
      rw [HV.out, HW.out]; exact L.out.ret

set_option maxHeartbeats 4000000 in
set_option maxRecDepth 100000 in
theorem rreg26_any {w : World} {g : Nat} {s : PS} {F : List Nat} (h : RS w g s F) (hz : s.sz < 10000000) (hf : Fit s) {a : Int} (ha : I64 a) :
    Calls Tryz.prog 84 #[.pointer (some ⟨g, 0, none⟩), .int .i64 a] w (RRet w g F (s.reg a) (.int .i64 (regE s a))) := by
  have L := Lib.hid (RLiv.start h); have HZ := Lib.hid hz; have HF := Lib.hid hf; have HA := Lib.hid ha
  obtain ⟨gq, hgq⟩ : ∃ q, q = goodB 1 a := ⟨_, rfl⟩
  obtain ⟨iq, hiq⟩ : ∃ q, q = isK (getP s.t) 21 a := ⟨_, rfl⟩
  have HE : Hid (regE s a = if gq = false then 2 else if iq = true then 9 else 0) := Lib.hid (by unfold regE; rw [← hgq, ← hiq])
  have HS : Hid (s.reg a = if regE s a = 0 then s.setInt (keyF 21 [a]) 1 else s) := Lib.hid rfl
  have HG := Lib.hid hgq; have HI := Lib.hid hiq
  clear h hz hf ha hgq hiq
  go_enter Tryz.func84, Tryz.ntmps84
  go_wp2_with fail
  refine (ris_any a _).mono ?_
  rw [show decide (1 ≤ a ∧ a ≤ 4294967295) = gq from (by rw [HG.out]; unfold goodB; simp)]
  rintro e _ ⟨rfl, rfl⟩
  cases gq with
  | false =>
    have HV : Hid (regE s a = 2) := Lib.hid (by rw [HE.out, if_pos rfl])
    have HW : Hid (s.reg a = s) := Lib.hid (by rw [HS.out, HV.out, if_neg (by decide)])
    go_wp2_with fail
    go_ret
    rw [HV.out, HW.out]; exact L.out.ret
  | true =>
    go_wp2_with fail
    obtain ⟨F9, h9⟩ : ∃ F9, RS w g s F9 := by obtain ⟨F9, h9, _⟩ := L.out; exact ⟨F9, h9⟩
    refine (ris26_any h9 (by have := HZ.out; omega) HF.out HA.out).mono ?_
    rw [← HI.out]
    rintro e a1 ⟨rfl, hb⟩
    clear h9
    have Lm := Lib.hid (L.out.later hb)
    clear hb L
    have L := Lm
    clear Lm
    cases iq with
    | true =>
      have HV : Hid (regE s a = 9) := Lib.hid (by rw [HE.out, if_neg (by decide), if_pos rfl])
      have HW : Hid (s.reg a = s) := Lib.hid (by rw [HS.out, HV.out, if_neg (by decide)])
      go_wp2_with fail
      go_ret
      rw [HV.out, HW.out]; exact L.out.ret
    | false =>
      have HV : Hid (regE s a = 0) := Lib.hid (by rw [HE.out, if_neg (by decide), if_neg (by decide)])
      have HW : Hid (s.reg a = s.setInt (keyF 21 [a]) 1) := Lib.hid (by rw [HS.out, HV.out, if_pos rfl])
      go_wp2_with fail
      obtain ⟨a2, hwl⟩ : ∃ wl, wl = World.alloc a1 (.cells #[.int .i64 a] 3) := ⟨_, rfl⟩
      obtain ⟨gl, hgl⟩ : ∃ gl, gl = (World.heap a1).size := ⟨_, rfl⟩
      rw [← hwl, ← hgl]
      have HOIz : Hid (Own a2 0 3 intE 1 (.slice (some ⟨gl, 0, none⟩) 1 1) [a]) := Lib.hid (own_lit (l := [a]) (by rw [hwl, hgl]; exact heap_alloc_new _ _) (Nat.zero_le _) (by unfold maxLen; simp))
      have hb : Below (World.heap a1).size a1 a2 := by rw [hwl]; exact below_new _ _
      clear hwl hgl
      have Lm := Lib.hid (L.out.later hb)
      clear hb L
      have L := Lm
      clear Lm
      have HOI := HOIz
      clear HOIz
      refine (refKey_any 21 [a] _ _ (by simp) (I64s.one HA.out) (HOI.out.rd fun _ => rfl)).mono ?_
      rintro e a3 ⟨rfl, hb⟩
      have Lm := Lib.hid (L.out.later hb)
      have HOIm := Lib.hid (HOI.out.later hb)
      clear hb L HOI
      have L := Lm
      have HOI := HOIm
      clear Lm HOIm
      clear HOI
      go_wp2_with fail
      refine (L.out.call fun F hs => rsetInt_any hs (by have := HZ.out; omega) (keyF 21 [a]) 1 (by decide)).mono ?_
      rintro e a4 ⟨rfl, o, hoth⟩
      have Lm := Lib.hid o
      clear o hoth L
      have L := Lm
      clear Lm
      go_wp2_with fail
      go_ret
      rw [HV.out, HW.out]; exact L.out.ret

set_option maxHeartbeats 4000000 in
set_option maxRecDepth 100000 in
theorem rois_any {w : World} {x : Option Addr} {m : Bool} {f : Txt → Option Txt} (h : Look w x m f) (hf : FitF f) {a : Int} (ha : I64 a) : Calls Tryz.prog 95 #[.pointer x, .int .i64 a] w (Ret w (.bool (isK f 8 a))) := by
  have H := Lib.hid h; have HF := Lib.hid hf; have HA := Lib.hid ha
  obtain ⟨q, hq⟩ : ∃ q, q = getI f (keyF 8 [a]) := ⟨_, rfl⟩
  have HQ := Lib.hid hq
  clear h hf ha hq
  have HB : Hid (Below w.heap.size w w) := Lib.hid (Below.refl _ _)
  go_enter Tryz.func95, Tryz.ntmps95
  go_wp2_with fail
  obtain ⟨a1, hwl⟩ : ∃ wl, wl = World.alloc w (.cells #[.int .i64 a] 3) := ⟨_, rfl⟩
  obtain ⟨gl, hgl⟩ : ∃ gl, gl = (World.heap w).size := ⟨_, rfl⟩
  rw [← hwl, ← hgl]
  have HOIz : Hid (Own a1 0 3 intE 1 (.slice (some ⟨gl, 0, none⟩) 1 1) [a]) := Lib.hid (own_lit (l := [a]) (by rw [hwl, hgl]; exact heap_alloc_new _ _) (Nat.zero_le _) (by unfold maxLen; simp))
  have hb : Below (World.heap w).size w a1 := by rw [hwl]; exact below_new _ _
  clear hwl hgl
  have HBm := Lib.hid (HB.out.trans (hb.mono HB.out.size))
  clear hb HB
  have HB := HBm
  clear HBm
  have HOI := HOIz
  clear HOIz
  refine (key_any 8 [a] _ _ (by simp) (I64s.one HA.out) (HOI.out.rd fun _ => rfl)).mono ?_
  rintro e a2 ⟨rfl, hb⟩
  have HBm := Lib.hid (HB.out.trans (hb.mono HB.out.size))
  have HOIm := Lib.hid (HOI.out.later hb)
  clear hb HB HOI
  have HB := HBm
  have HOI := HOIm
  clear HBm HOIm
  clear HOI
  go_wp2_with fail
  refine (int_any (H.out.later HB.out) HF.out (keyF 8 [a])).mono ?_
  rw [← HQ.out]
  rintro e a3 ⟨rfl, hb⟩
  have HBm := Lib.hid (HB.out.trans (hb.mono HB.out.size))
  clear hb HB
  have HB := HBm
  clear HBm
  go_wp2_with fail
  go_ret
  exact ⟨by unfold isK; rw [← HQ.out]; rfl, HB.out⟩

set_option maxHeartbeats 4000000 in
set_option maxRecDepth 100000 in
theorem rois21_any {w : World} {g : Nat} {s : PS} {F : List Nat} (h : RS w g s F) (hz : s.sz < 100000000) (hf : Fit s) {a : Int} (ha : I64 a) : Calls Tryz.prog 98 #[.pointer (some ⟨g, 0, none⟩), .int .i64 a] w (Ret w (.bool (isK (getP s.t) 8 a))) := by
  have H := Lib.hid h; have HF := Lib.hid hf; have HA := Lib.hid ha; have HZ := Lib.hid hz
  obtain ⟨q, hq⟩ : ∃ q, q = getI (getP s.t) (keyF 8 [a]) := ⟨_, rfl⟩
  have HQ := Lib.hid hq
  clear h hf ha hq hz
  have HB : Hid (Below w.heap.size w w) := Lib.hid (Below.refl _ _)
  go_enter Tryz.func98, Tryz.ntmps98
  go_wp2_with fail
  obtain ⟨a1, hwl⟩ : ∃ wl, wl = World.alloc w (.cells #[.int .i64 a] 3) := ⟨_, rfl⟩
  obtain ⟨gl, hgl⟩ : ∃ gl, gl = (World.heap w).size := ⟨_, rfl⟩
  rw [← hwl, ← hgl]
  have HOIz : Hid (Own a1 0 3 intE 1 (.slice (some ⟨gl, 0, none⟩) 1 1) [a]) := Lib.hid (own_lit (l := [a]) (by rw [hwl, hgl]; exact heap_alloc_new _ _) (Nat.zero_le _) (by unfold maxLen; simp))
  have hb : Below (World.heap w).size w a1 := by rw [hwl]; exact below_new _ _
  clear hwl hgl
  have HBm := Lib.hid (HB.out.trans (hb.mono HB.out.size))
  clear hb HB
  have HB := HBm
  clear HBm
  have HOI := HOIz
  clear HOIz
  refine (refKey_any 8 [a] _ _ (by simp) (I64s.one HA.out) (HOI.out.rd fun _ => rfl)).mono ?_
  rintro e a2 ⟨rfl, hb⟩
  have HBm := Lib.hid (HB.out.trans (hb.mono HB.out.size))
  have HOIm := Lib.hid (HOI.out.later hb)
  clear hb HB HOI
  have HB := HBm
  have HOI := HOIm
  clear HBm HOIm
  clear HOI
  go_wp2_with fail
  refine (rint_any (H.out.later HB.out) (by have := HZ.out; omega) HF.out (keyF 8 [a])).mono ?_
  rw [← HQ.out]
  rintro e a3 ⟨rfl, hb⟩
  have HBm := Lib.hid (HB.out.trans (hb.mono HB.out.size))
  clear hb HB
  have HB := HBm
  clear HBm
  go_wp2_with fail
  go_ret
  exact ⟨by unfold isK; rw [← HQ.out]; rfl, HB.out⟩

set_option maxHeartbeats 4000000 in
set_option maxRecDepth 100000 in
theorem roof_any {w : World} {x : Option Addr} {m : Bool} {f : Txt → Option Txt} (h : Look w x m f) (hf : FitF f) {a : Int} (ha : I64 a) : Calls Tryz.prog 150 #[.pointer x, .int .i64 a] w (Ret w (.int .i64 (getI f (keyF 9 [a])))) := by
  have H := Lib.hid h; have HF := Lib.hid hf; have HA := Lib.hid ha
  obtain ⟨q, hq⟩ : ∃ q, q = getI f (keyF 9 [a]) := ⟨_, rfl⟩
  have HQ := Lib.hid hq
  clear h hf ha hq
  have HB : Hid (Below w.heap.size w w) := Lib.hid (Below.refl _ _)
  go_enter Tryz.func150, Tryz.ntmps150
  go_wp2_with fail
  obtain ⟨a1, hwl⟩ : ∃ wl, wl = World.alloc w (.cells #[.int .i64 a] 3) := ⟨_, rfl⟩
  obtain ⟨gl, hgl⟩ : ∃ gl, gl = (World.heap w).size := ⟨_, rfl⟩
  rw [← hwl, ← hgl]
  have HOIz : Hid (Own a1 0 3 intE 1 (.slice (some ⟨gl, 0, none⟩) 1 1) [a]) := Lib.hid (own_lit (l := [a]) (by rw [hwl, hgl]; exact heap_alloc_new _ _) (Nat.zero_le _) (by unfold maxLen; simp))
  have hb : Below (World.heap w).size w a1 := by rw [hwl]; exact below_new _ _
  clear hwl hgl
  have HBm := Lib.hid (HB.out.trans (hb.mono HB.out.size))
  clear hb HB
  have HB := HBm
  clear HBm
  have HOI := HOIz
  clear HOIz
  refine (key_any 9 [a] _ _ (by simp) (I64s.one HA.out) (HOI.out.rd fun _ => rfl)).mono ?_
  rintro e a2 ⟨rfl, hb⟩
  have HBm := Lib.hid (HB.out.trans (hb.mono HB.out.size))
  have HOIm := Lib.hid (HOI.out.later hb)
  clear hb HB HOI
  have HB := HBm
  have HOI := HOIm
  clear HBm HOIm
  clear HOI
  go_wp2_with fail
  refine (int_any (H.out.later HB.out) HF.out (keyF 9 [a])).mono ?_
  rw [← HQ.out]
  rintro e a3 ⟨rfl, hb⟩
  have HBm := Lib.hid (HB.out.trans (hb.mono HB.out.size))
  clear hb HB
  have HB := HBm
  clear HBm
  go_wp2_with fail
  go_ret
  exact ⟨by rw [← HQ.out]; rfl, HB.out⟩

set_option maxHeartbeats 4000000 in
set_option maxRecDepth 100000 in
theorem roof21_any {w : World} {g : Nat} {s : PS} {F : List Nat} (h : RS w g s F) (hz : s.sz < 100000000) (hf : Fit s) {a : Int} (ha : I64 a) : Calls Tryz.prog 151 #[.pointer (some ⟨g, 0, none⟩), .int .i64 a] w (Ret w (.int .i64 (getI (getP s.t) (keyF 9 [a])))) := by
  have H := Lib.hid h; have HF := Lib.hid hf; have HA := Lib.hid ha; have HZ := Lib.hid hz
  obtain ⟨q, hq⟩ : ∃ q, q = getI (getP s.t) (keyF 9 [a]) := ⟨_, rfl⟩
  have HQ := Lib.hid hq
  clear h hf ha hq hz
  have HB : Hid (Below w.heap.size w w) := Lib.hid (Below.refl _ _)
  go_enter Tryz.func151, Tryz.ntmps151
  go_wp2_with fail
  obtain ⟨a1, hwl⟩ : ∃ wl, wl = World.alloc w (.cells #[.int .i64 a] 3) := ⟨_, rfl⟩
  obtain ⟨gl, hgl⟩ : ∃ gl, gl = (World.heap w).size := ⟨_, rfl⟩
  rw [← hwl, ← hgl]
  have HOIz : Hid (Own a1 0 3 intE 1 (.slice (some ⟨gl, 0, none⟩) 1 1) [a]) := Lib.hid (own_lit (l := [a]) (by rw [hwl, hgl]; exact heap_alloc_new _ _) (Nat.zero_le _) (by unfold maxLen; simp))
  have hb : Below (World.heap w).size w a1 := by rw [hwl]; exact below_new _ _
  clear hwl hgl
  have HBm := Lib.hid (HB.out.trans (hb.mono HB.out.size))
  clear hb HB
  have HB := HBm
  clear HBm
  have HOI := HOIz
  clear HOIz
  refine (refKey_any 9 [a] _ _ (by simp) (I64s.one HA.out) (HOI.out.rd fun _ => rfl)).mono ?_
  rintro e a2 ⟨rfl, hb⟩
  have HBm := Lib.hid (HB.out.trans (hb.mono HB.out.size))
  have HOIm := Lib.hid (HOI.out.later hb)
  clear hb HB HOI
  have HB := HBm
  have HOI := HOIm
  clear HBm HOIm
  clear HOI
  go_wp2_with fail
  refine (rint_any (H.out.later HB.out) (by have := HZ.out; omega) HF.out (keyF 9 [a])).mono ?_
  rw [← HQ.out]
  rintro e a3 ⟨rfl, hb⟩
  have HBm := Lib.hid (HB.out.trans (hb.mono HB.out.size))
  clear hb HB
  have HB := HBm
  clear HBm
  go_wp2_with fail
  go_ret
  exact ⟨by rw [← HQ.out]; rfl, HB.out⟩

theorem roacc_any (n : Int) (w : World) : Calls Tryz.prog 149 #[.int .i64 n] w fun e w' => e = .returned (.bool (goodB 1 n)) ∧ w = w' := by
  go_enter Tryz.func149, Tryz.ntmps149
  go_wp2_with fail
  refine (bgood_any 1 n _).mono ?_
  rintro e _ ⟨rfl, rfl⟩
  go_wp2_with fail
  go_ret
  exact ⟨rfl, rfl⟩
def rosE (s : PS) (a : Int) : Int := if goodB 1 a = false then 2 else if isK (getP s.t) 8 a then 9 else if getI (getP s.t) (keyF 9 [a]) = 0 then 0 else 10
def PS.ros (s : PS) (a : Int) : PS := if rosE s a = 0 then (s.setInt (keyF 8 [a]) 1).setInt (keyF 9 [a]) a else s
theorem ros_sz (s : PS) (a : Int) : (s.ros a).sz ≤ s.sz + 4 := by
  unfold PS.ros; split
  · have h1 := sz_setInt s (keyF 8 [a]) 1
    have h2 := sz_setInt (s.setInt (keyF 8 [a]) 1) (keyF 9 [a]) a
    omega
  · omega
theorem ros_fit {s : PS} (hf : Fit s) (a : Int) : Fit (s.ros a) := by
  unfold PS.ros; split
  · exact (hf.setInt _ _).setInt _ _
  · exact hf

set_option maxHeartbeats 4000000 in
set_option maxRecDepth 100000 in
theorem ros_any {w : World} {g : Nat} {s : PS} {F : List Nat} (h : St w g s F) (hz : s.sz < 10000000) (hf : Fit s) {a : Int} (ha : I64 a) :
    Calls Tryz.prog 93 #[.pointer (some ⟨g, 0, none⟩), .int .i64 a] w (StRet w g F (s.ros a) (.int .i64 (rosE s a))) := by
  have L := Lib.hid (Liv.start h); have HZ := Lib.hid hz; have HF := Lib.hid hf; have HA := Lib.hid ha
  obtain ⟨gq, hgq⟩ : ∃ q, q = goodB 1 a := ⟨_, rfl⟩
  obtain ⟨iq, hiq⟩ : ∃ q, q = isK (getP s.t) 8 a := ⟨_, rfl⟩
  obtain ⟨oq, hoq⟩ : ∃ q, q = getI (getP s.t) (keyF 9 [a]) := ⟨_, rfl⟩
  have HE : Hid (rosE s a = if gq = false then 2 else if iq = true then 9 else if oq = 0 then 0 else 10) := Lib.hid (by unfold rosE; rw [← hgq, ← hiq, ← hoq])
  have HS : Hid (s.ros a = if rosE s a = 0 then (s.setInt (keyF 8 [a]) 1).setInt (keyF 9 [a]) a else s) := Lib.hid rfl
  have HG := Lib.hid hgq; have HI := Lib.hid hiq; have HO := Lib.hid hoq
  clear h hz hf ha hgq hiq hoq
  go_enter Tryz.func93, Tryz.ntmps93
  go_wp2_with fail
  obtain ⟨F9, h9⟩ : ∃ F9, St w g s F9 := by obtain ⟨F9, h9, _⟩ := L.out; exact ⟨F9, h9⟩
  refine (smade_any h9).mono ?_
  rintro e _ ⟨rfl, rfl⟩
  clear h9
  go_wp2_with fail
  refine (roacc_any a _).mono ?_
  rw [← HG.out]
  rintro e _ ⟨rfl, rfl⟩
  cases gq with
  | false =>
    have HV : Hid (rosE s a = 2) := Lib.hid (by rw [HE.out, if_pos rfl])
    have HW : Hid (s.ros a = s) := Lib.hid (by rw [HS.out, HV.out, if_neg (by decide)])
    go_wp2_with fail
    go_ret
    rw [HV.out, HW.out]; exact L.out.ret
  | true =>
    go_wp2_with fail
    obtain ⟨F9, h9⟩ : ∃ F9, St w g s F9 := by obtain ⟨F9, h9, _⟩ := L.out; exact ⟨F9, h9⟩
    refine (rois_any (Look.of_st h9) HF.out.f HA.out).mono ?_
    rw [← HI.out]
    rintro e a1 ⟨rfl, hb⟩
    clear h9
    have Lm := Lib.hid (L.out.later hb)
    clear hb L
    have L := Lm
    clear Lm
    cases iq with
    | true =>
      have HV : Hid (rosE s a = 9) := Lib.hid (by rw [HE.out, if_neg (by decide), if_pos rfl])
      have HW : Hid (s.ros a = s) := Lib.hid (by rw [HS.out, HV.out, if_neg (by decide)])
      go_wp2_with fail
      go_ret
      rw [HV.out, HW.out]; exact L.out.ret
    | false =>
      go_wp2_with fail
      obtain ⟨F9, h9⟩ : ∃ F9, St a1 g s F9 := by obtain ⟨F9, h9, _⟩ := L.out; exact ⟨F9, h9⟩
      refine (roof_any (Look.of_st h9) HF.out.f HA.out).mono ?_
      rw [← HO.out]
      rintro e a2 ⟨rfl, hb⟩
      clear h9
      have Lm := Lib.hid (L.out.later hb)
      clear hb L
      have L := Lm
      clear Lm
      by_cases hz0 : oq = 0
      · subst hz0
        have HV : Hid (rosE s a = 0) := Lib.hid (by rw [HE.out, if_neg (by decide), if_neg (by decide), if_pos rfl])
        have HW : Hid (s.ros a = (s.setInt (keyF 8 [a]) 1).setInt (keyF 9 [a]) a) := Lib.hid (by rw [HS.out, HV.out, if_pos rfl])
        have HAG : Hid (a < 9223372036854775808) := Lib.hid (by have := goodB_of (t := 1) (n := a) (by rw [← HG.out]; decide); omega)
        obtain ⟨s1, hs1⟩ : ∃ z, z = s.setInt (keyF 8 [a]) 1 := ⟨_, rfl⟩
        rw [← hs1] at HW
        have HZ1 : Hid (s1.sz < 20000000) := Lib.hid (by have h8 := sz_setInt s (keyF 8 [a]) 1; have h9 := HZ.out; rw [hs1]; omega)
        have HS1 := Lib.hid hs1
        clear hs1
        go_wp2_with fail
        obtain ⟨a3, hwl⟩ : ∃ wl, wl = World.alloc a2 (.cells #[.int .i64 a] 3) := ⟨_, rfl⟩
        obtain ⟨gl, hgl⟩ : ∃ gl, gl = (World.heap a2).size := ⟨_, rfl⟩
        rw [← hwl, ← hgl]
        have HOIz : Hid (Own a3 0 3 intE 1 (.slice (some ⟨gl, 0, none⟩) 1 1) [a]) := Lib.hid (own_lit (l := [a]) (by rw [hwl, hgl]; exact heap_alloc_new _ _) (Nat.zero_le _) (by unfold maxLen; simp))
        have hb : Below (World.heap a2).size a2 a3 := by rw [hwl]; exact below_new _ _
        clear hwl hgl
        have Lm := Lib.hid (L.out.later hb)
        clear hb L
        have L := Lm
        clear Lm
        have HOI := HOIz
        clear HOIz
        refine (key_any 8 [a] _ _ (by simp) (I64s.one HA.out) (HOI.out.rd fun _ => rfl)).mono ?_
        rintro e a4 ⟨rfl, hb⟩
        have Lm := Lib.hid (L.out.later hb)
        have HOIm := Lib.hid (HOI.out.later hb)
        clear hb L HOI
        have L := Lm
        have HOI := HOIm
        clear Lm HOIm
        clear HOI
        go_wp2_with fail
        refine (L.out.call fun F hs => setInt_any hs (by have := HZ.out; omega) (keyF 8 [a]) 1 (by decide)).mono ?_
        rw [← HS1.out]
        rintro e a5 ⟨rfl, o, hoth⟩
        have Lm := Lib.hid o
        clear o hoth L
        have L := Lm
        clear Lm
        go_wp2_with fail
        obtain ⟨a6, hwl⟩ : ∃ wl, wl = World.alloc a5 (.cells #[.int .i64 a] 3) := ⟨_, rfl⟩
        obtain ⟨gl, hgl⟩ : ∃ gl, gl = (World.heap a5).size := ⟨_, rfl⟩
        rw [← hwl, ← hgl]
        have HOIz : Hid (Own a6 0 3 intE 1 (.slice (some ⟨gl, 0, none⟩) 1 1) [a]) := Lib.hid (own_lit (l := [a]) (by rw [hwl, hgl]; exact heap_alloc_new _ _) (Nat.zero_le _) (by unfold maxLen; simp))
        have hb : Below (World.heap a5).size a5 a6 := by rw [hwl]; exact below_new _ _
        clear hwl hgl
        have Lm := Lib.hid (L.out.later hb)
        clear hb L
        have L := Lm
        clear Lm
        have HOI := HOIz
        clear HOIz
        refine (key_any 9 [a] _ _ (by simp) (I64s.one HA.out) (HOI.out.rd fun _ => rfl)).mono ?_
        rintro e a7 ⟨rfl, hb⟩
        have Lm := Lib.hid (L.out.later hb)
        have HOIm := Lib.hid (HOI.out.later hb)
        clear hb L HOI
        have L := Lm
        have HOI := HOIm
        clear Lm HOIm
        clear HOI
        go_wp2_with fail
        refine (L.out.call fun F hs => setInt_any hs (by have := HZ1.out; omega) (keyF 9 [a]) a HAG.out).mono ?_
        rintro e a8 ⟨rfl, o, hoth⟩
        have Lm := Lib.hid o
        clear o hoth L
        have L := Lm
        clear Lm
        go_wp2_with fail
        go_ret
        rw [HV.out, HW.out]; exact L.out.ret
      · have hn0 : (oq == 0) = false := beq_eq_false_iff_ne.2 hz0
        have hn1 : (oq != 0) = true := by rw [bne, hn0]; rfl
        have HZ0 := Lib.hid hz0
        clear hz0
        have HV : Hid (rosE s a = 10) := Lib.hid (by rw [HE.out, if_neg (by decide), if_neg (by decide), if_neg HZ0.out])
        have HW : Hid (s.ros a = s) := Lib.hid (by rw [HS.out, HV.out, if_neg (by decide)])
        go_wp2_with fail
        go_ret
        rw [HV.out, HW.out]; exact L.out.ret

set_option maxHeartbeats 4000000 in
set_option maxRecDepth 100000 in
theorem rros_any {w : World} {g : Nat} {s : PS} {F : List Nat} (h : RS w g s F) (hz : s.sz < 10000000) (hf : Fit s) {a : Int} (ha : I64 a) :
    Calls Tryz.prog 94 #[.pointer (some ⟨g, 0, none⟩), .int .i64 a] w (RRet w g F (s.ros a) (.int .i64 (rosE s a))) := by
  have L := Lib.hid (RLiv.start h); have HZ := Lib.hid hz; have HF := Lib.hid hf; have HA := Lib.hid ha
  obtain ⟨gq, hgq⟩ : ∃ q, q = goodB 1 a := ⟨_, rfl⟩
  obtain ⟨iq, hiq⟩ : ∃ q, q = isK (getP s.t) 8 a := ⟨_, rfl⟩
  obtain ⟨oq, hoq⟩ : ∃ q, q = getI (getP s.t) (keyF 9 [a]) := ⟨_, rfl⟩
  have HE : Hid (rosE s a = if gq = false then 2 else if iq = true then 9 else if oq = 0 then 0 else 10) := Lib.hid (by unfold rosE; rw [← hgq, ← hiq, ← hoq])
  have HS : Hid (s.ros a = if rosE s a = 0 then (s.setInt (keyF 8 [a]) 1).setInt (keyF 9 [a]) a else s) := Lib.hid rfl
  have HG := Lib.hid hgq; have HI := Lib.hid hiq; have HO := Lib.hid hoq
  clear h hz hf ha hgq hiq hoq
  go_enter Tryz.func94, Tryz.ntmps94
  go_wp2_with fail
  refine (ris_any a _).mono ?_
  rw [show decide (1 ≤ a ∧ a ≤ 4294967295) = gq from (by rw [HG.out]; unfold goodB; simp)]
  rintro e _ ⟨rfl, rfl⟩
  cases gq with
  | false =>
    have HV : Hid (rosE s a = 2) := Lib.hid (by rw [HE.out, if_pos rfl])
    have HW : Hid (s.ros a = s) := Lib.hid (by rw [HS.out, HV.out, if_neg (by decide)])
    go_wp2_with fail
    go_ret
    rw [HV.out, HW.out]; exact L.out.ret
  | true =>
    go_wp2_with fail
    obtain ⟨F9, h9⟩ : ∃ F9, RS w g s F9 := by obtain ⟨F9, h9, _⟩ := L.out; exact ⟨F9, h9⟩
    refine (rois21_any h9 (by have := HZ.out; omega) HF.out HA.out).mono ?_
    rw [← HI.out]
    rintro e a1 ⟨rfl, hb⟩
    clear h9
    have Lm := Lib.hid (L.out.later hb)
    clear hb L
    have L := Lm
    clear Lm
    cases iq with
    | true =>
      have HV : Hid (rosE s a = 9) := Lib.hid (by rw [HE.out, if_neg (by decide), if_pos rfl])
      have HW : Hid (s.ros a = s) := Lib.hid (by rw [HS.out, HV.out, if_neg (by decide)])
      go_wp2_with fail
      go_ret
      rw [HV.out, HW.out]; exact L.out.ret
    | false =>
      go_wp2_with fail
      obtain ⟨F9, h9⟩ : ∃ F9, RS a1 g s F9 := by obtain ⟨F9, h9, _⟩ := L.out; exact ⟨F9, h9⟩
      refine (roof21_any h9 (by have := HZ.out; omega) HF.out HA.out).mono ?_
      rw [← HO.out]
      rintro e a2 ⟨rfl, hb⟩
      clear h9
      have Lm := Lib.hid (L.out.later hb)
      clear hb L
      have L := Lm
      clear Lm
      by_cases hz0 : oq = 0
      · subst hz0
        have HV : Hid (rosE s a = 0) := Lib.hid (by rw [HE.out, if_neg (by decide), if_neg (by decide), if_pos rfl])
        have HW : Hid (s.ros a = (s.setInt (keyF 8 [a]) 1).setInt (keyF 9 [a]) a) := Lib.hid (by rw [HS.out, HV.out, if_pos rfl])
        have HAG : Hid (a < 9223372036854775808) := Lib.hid (by have := goodB_of (t := 1) (n := a) (by rw [← HG.out]; decide); omega)
        obtain ⟨s1, hs1⟩ : ∃ z, z = s.setInt (keyF 8 [a]) 1 := ⟨_, rfl⟩
        rw [← hs1] at HW
        have HZ1 : Hid (s1.sz < 20000000) := Lib.hid (by have h8 := sz_setInt s (keyF 8 [a]) 1; have h9 := HZ.out; rw [hs1]; omega)
        have HS1 := Lib.hid hs1
        clear hs1
        go_wp2_with fail
        obtain ⟨a3, hwl⟩ : ∃ wl, wl = World.alloc a2 (.cells #[.int .i64 a] 3) := ⟨_, rfl⟩
        obtain ⟨gl, hgl⟩ : ∃ gl, gl = (World.heap a2).size := ⟨_, rfl⟩
        rw [← hwl, ← hgl]
        have HOIz : Hid (Own a3 0 3 intE 1 (.slice (some ⟨gl, 0, none⟩) 1 1) [a]) := Lib.hid (own_lit (l := [a]) (by rw [hwl, hgl]; exact heap_alloc_new _ _) (Nat.zero_le _) (by unfold maxLen; simp))
        have hb : Below (World.heap a2).size a2 a3 := by rw [hwl]; exact below_new _ _
        clear hwl hgl
        have Lm := Lib.hid (L.out.later hb)
        clear hb L
        have L := Lm
        clear Lm
        have HOI := HOIz
        clear HOIz
        refine (refKey_any 8 [a] _ _ (by simp) (I64s.one HA.out) (HOI.out.rd fun _ => rfl)).mono ?_
        rintro e a4 ⟨rfl, hb⟩
        have Lm := Lib.hid (L.out.later hb)
        have HOIm := Lib.hid (HOI.out.later hb)
        clear hb L HOI
        have L := Lm
        have HOI := HOIm
        clear Lm HOIm
        clear HOI
        go_wp2_with fail
        refine (L.out.call fun F hs => rsetInt_any hs (by have := HZ.out; omega) (keyF 8 [a]) 1 (by decide)).mono ?_
        rw [← HS1.out]
        rintro e a5 ⟨rfl, o, hoth⟩
        have Lm := Lib.hid o
        clear o hoth L
        have L := Lm
        clear Lm
        go_wp2_with fail
        obtain ⟨a6, hwl⟩ : ∃ wl, wl = World.alloc a5 (.cells #[.int .i64 a] 3) := ⟨_, rfl⟩
        obtain ⟨gl, hgl⟩ : ∃ gl, gl = (World.heap a5).size := ⟨_, rfl⟩
        rw [← hwl, ← hgl]
        have HOIz : Hid (Own a6 0 3 intE 1 (.slice (some ⟨gl, 0, none⟩) 1 1) [a]) := Lib.hid (own_lit (l := [a]) (by rw [hwl, hgl]; exact heap_alloc_new _ _) (Nat.zero_le _) (by unfold maxLen; simp))
        have hb : Below (World.heap a5).size a5 a6 := by rw [hwl]; exact below_new _ _
        clear hwl hgl
        have Lm := Lib.hid (L.out.later hb)
        clear hb L
        have L := Lm
        clear Lm
        have HOI := HOIz
        clear HOIz
        refine (refKey_any 9 [a] _ _ (by simp) (I64s.one HA.out) (HOI.out.rd fun _ => rfl)).mono ?_
        rintro e a7 ⟨rfl, hb⟩
        have Lm := Lib.hid (L.out.later hb)
        have HOIm := Lib.hid (HOI.out.later hb)
        clear hb L HOI
        have L := Lm
        have HOI := HOIm
        clear Lm HOIm
        clear HOI
        go_wp2_with fail
        refine (L.out.call fun F hs => rsetInt_any hs (by have := HZ1.out; omega) (keyF 9 [a]) a HAG.out).mono ?_
        rintro e a8 ⟨rfl, o, hoth⟩
        have Lm := Lib.hid o
        clear o hoth L
        have L := Lm
        clear Lm
        go_wp2_with fail
        go_ret
        rw [HV.out, HW.out]; exact L.out.ret
      · have hn0 : (oq == 0) = false := beq_eq_false_iff_ne.2 hz0
        have hn1 : (oq != 0) = true := by rw [bne, hn0]; rfl
        have HZ0 := Lib.hid hz0
        clear hz0
        have HV : Hid (rosE s a = 10) := Lib.hid (by rw [HE.out, if_neg (by decide), if_neg (by decide), if_neg HZ0.out])
        have HW : Hid (s.ros a = s) := Lib.hid (by rw [HS.out, HV.out, if_neg (by decide)])
        go_wp2_with fail
        go_ret
        rw [HV.out, HW.out]; exact L.out.ret

theorem spgood_any (n : Int) (w : World) : Calls Tryz.prog 96 #[.int .i64 n] w fun e w' => e = .returned (.bool (decide (0 ≤ n ∧ n ≤ 10000))) ∧ w = w' := by
  by_cases h1 : 0 ≤ n
  · have hd : decide (0 ≤ n ∧ n ≤ 10000) = decide (n ≤ 10000) := by simp only [h1, true_and]
    rw [hd]
    go_enter Tryz.func96, Tryz.ntmps96
    go_wp2_with fail
    go_ret
    exact ⟨rfl, rfl⟩
  · have hd : decide (0 ≤ n ∧ n ≤ 10000) = false := decide_eq_false fun e => h1 e.1
    rw [hd]
    have h3 : n < 0 := by omega
    clear h1
    go_enter Tryz.func96, Tryz.ntmps96
    go_wp2_with fail
    go_ret
    exact ⟨rfl, rfl⟩
def splB (s : PS) (a b c : Int) : Int := if isK (getP s.t) 8 a = false then 8 else if isK (getP s.t) 21 b = false then 8 else if decide (0 ≤ c ∧ c ≤ 10000) = false then 5 else 0
def splE (s : PS) (a b c d e : Int) : Int := if splB s a b c = 0 then putDE 41 [a, b] c d e else splB s a b c
def PS.spl (s : PS) (a b c d e : Int) : PS := if splB s a b c = 0 then putD s 41 [a, b] c d e else s
theorem spl_sz (s : PS) (a b c d e : Int) : (s.spl a b c d e).sz ≤ s.sz + 2 := by
  unfold PS.spl; split
  · exact sz_putD _ _ _ _ _ _
  · omega
theorem spl_fit {s : PS} (hf : Fit s) (a b c d e : Int) : Fit (s.spl a b c d e) := by
  unfold PS.spl; split
  · exact hf.putD _ _ _ _ _
  · exact hf

set_option maxHeartbeats 4000000 in
set_option maxRecDepth 100000 in
theorem splset_any {w : World} {g : Nat} {s : PS} {F : List Nat} (h : St w g s F) (hz : s.sz < 10000000) (hf : Fit s) {a b : Int} (c d e : Int) (ha : I64 a) (hb : I64 b) :
    Calls Tryz.prog 44 #[.pointer (some ⟨g, 0, none⟩), .int .i64 a, .int .i64 b, .int .i64 c, .int .i64 d, .int .i64 e] w (StRet w g F (s.spl a b c d e) (.int .i64 (splE s a b c d e))) := by
  have L := Lib.hid (Liv.start h); have HZ := Lib.hid hz; have HF := Lib.hid hf; have HA := Lib.hid (And.intro ha hb)
  obtain ⟨iq, hiq⟩ : ∃ q, q = isK (getP s.t) 8 a := ⟨_, rfl⟩
  obtain ⟨jq, hjq⟩ : ∃ q, q = isK (getP s.t) 21 b := ⟨_, rfl⟩
  have HE : Hid (splB s a b c = if iq = false then 8 else if jq = false then 8 else if decide (0 ≤ c ∧ c ≤ 10000) = false then 5 else 0) := Lib.hid (by unfold splB; rw [← hiq, ← hjq])
  have HS1 : Hid (splE s a b c d e = if splB s a b c = 0 then putDE 41 [a, b] c d e else splB s a b c) := Lib.hid rfl
  have HS2 : Hid (s.spl a b c d e = if splB s a b c = 0 then putD s 41 [a, b] c d e else s) := Lib.hid rfl
  have HI := Lib.hid hiq; have HJ := Lib.hid hjq
  clear h hz hf ha hb hiq hjq
  go_enter Tryz.func44, Tryz.ntmps44
  go_wp2_with fail
  obtain ⟨F9, h9⟩ : ∃ F9, St w g s F9 := by obtain ⟨F9, h9, _⟩ := L.out; exact ⟨F9, h9⟩
  refine (smade_any h9).mono ?_
  rintro e _ ⟨rfl, rfl⟩
  clear h9
  go_wp2_with fail
  obtain ⟨F9, h9⟩ : ∃ F9, St w g s F9 := by obtain ⟨F9, h9, _⟩ := L.out; exact ⟨F9, h9⟩
  refine (rois_any (Look.of_st h9) HF.out.f HA.out.1).mono ?_
  rw [← HI.out]
  rintro e a1 ⟨rfl, hb⟩
  clear h9
  have Lm := Lib.hid (L.out.later hb)
  clear hb L
  have L := Lm
  clear Lm
  cases iq with
  | false =>
    have HV : Hid (splB s a b c = 8) := Lib.hid (by rw [HE.out, if_pos rfl])
    have HW : Hid (splE s a b c d e = 8 ∧ s.spl a b c d e = s) := Lib.hid ⟨by rw [HS1.out, HV.out, if_neg (by decide)], by rw [HS2.out, HV.out, if_neg (by decide)]⟩
    go_wp2_with fail
    go_ret
    rw [HW.out.1, HW.out.2]; exact L.out.ret
  | true =>
    go_wp2_with fail
    obtain ⟨F9, h9⟩ : ∃ F9, St a1 g s F9 := by obtain ⟨F9, h9, _⟩ := L.out; exact ⟨F9, h9⟩
    refine (sis_any (Look.of_st h9) HF.out.f HA.out.2).mono ?_
    rw [← HJ.out]
    rintro e a2 ⟨rfl, hb⟩
    clear h9
    have Lm := Lib.hid (L.out.later hb)
    clear hb L
    have L := Lm
    clear Lm
    cases jq with
    | false =>
      have HV : Hid (splB s a b c = 8) := Lib.hid (by rw [HE.out, if_neg (by decide), if_pos rfl])
      have HW : Hid (splE s a b c d e = 8 ∧ s.spl a b c d e = s) := Lib.hid ⟨by rw [HS1.out, HV.out, if_neg (by decide)], by rw [HS2.out, HV.out, if_neg (by decide)]⟩
      go_wp2_with fail
      go_ret
      rw [HW.out.1, HW.out.2]; exact L.out.ret
    | true =>
      go_wp2_with fail
      refine (spgood_any c _).mono ?_
      rintro e _ ⟨rfl, rfl⟩
      by_cases hc : 0 ≤ c ∧ c ≤ 10000
      · rw [decide_eq_true hc]
        have HV : Hid (splB s a b c = 0) := Lib.hid (by rw [HE.out, if_neg (by decide), if_neg (by decide), if_neg (by rw [decide_eq_true hc]; decide)])
        have HW : Hid (splE s a b c d e = putDE 41 [a, b] c d e ∧ s.spl a b c d e = putD s 41 [a, b] c d e) := Lib.hid ⟨by rw [HS1.out, HV.out, if_pos rfl], by rw [HS2.out, HV.out, if_pos rfl]⟩
        clear hc
        go_wp2_with fail
        obtain ⟨a3, hwl⟩ : ∃ wl, wl = World.alloc a2 (.cells #[.int .i64 a, .int .i64 b] 3) := ⟨_, rfl⟩
        obtain ⟨gl, hgl⟩ : ∃ gl, gl = (World.heap a2).size := ⟨_, rfl⟩
        rw [← hwl, ← hgl]
        have HOIz : Hid (Own a3 0 3 intE 1 (.slice (some ⟨gl, 0, none⟩) 2 2) [a, b]) := Lib.hid (own_lit (l := [a, b]) (by rw [hwl, hgl]; exact heap_alloc_new _ _) (Nat.zero_le _) (by unfold maxLen; simp))
        have hb : Below (World.heap a2).size a2 a3 := by rw [hwl]; exact below_new _ _
        clear hwl hgl
        have Lm := Lib.hid (L.out.later hb)
        clear hb L
        have L := Lm
        clear Lm
        have HOI := HOIz
        clear HOIz
        obtain ⟨F9, h9⟩ : ∃ F9, St a3 g s F9 := by obtain ⟨F9, h9, _⟩ := L.out; exact ⟨F9, h9⟩
        clear h9
        refine (L.out.call fun F hs => dset_any hs (by have := HZ.out; omega) HF.out 41 (ids := [a, b]) (by simp) (I64s.two HA.out.1 HA.out.2) (HOI.out.rd fun _ => rfl) c d e).mono ?_
        rintro e a4 ⟨rfl, o, hoth⟩
        have Lm := Lib.hid o
        clear o hoth L
        have L := Lm
        clear Lm
        go_wp2_with fail
        go_ret
        rw [HW.out.1, HW.out.2]; exact L.out.ret
      · have hd := decide_eq_false hc
        have HD := Lib.hid hd
        rw [hd]
        clear hc hd
        have HV : Hid (splB s a b c = 5) := Lib.hid (by rw [HE.out, if_neg (by decide), if_neg (by decide), if_pos HD.out])
        have HW : Hid (splE s a b c d e = 5 ∧ s.spl a b c d e = s) := Lib.hid ⟨by rw [HS1.out, HV.out, if_neg (by decide)], by rw [HS2.out, HV.out, if_neg (by decide)]⟩
        go_wp2_with fail
        go_ret
        rw [HW.out.1, HW.out.2]; exact L.out.ret

set_option maxHeartbeats 4000000 in
set_option maxRecDepth 100000 in
theorem rsplset_any {w : World} {g : Nat} {s : PS} {F : List Nat} (h : RS w g s F) (hz : s.sz < 10000000) (hf : Fit s) {a b : Int} (c d e : Int) (ha : I64 a) (hb : I64 b) :
    Calls Tryz.prog 45 #[.pointer (some ⟨g, 0, none⟩), .int .i64 a, .int .i64 b, .int .i64 c, .int .i64 d, .int .i64 e] w (RRet w g F (s.spl a b c d e) (.int .i64 (splE s a b c d e))) := by
  have L := Lib.hid (RLiv.start h); have HZ := Lib.hid hz; have HF := Lib.hid hf; have HA := Lib.hid (And.intro ha hb)
  obtain ⟨iq, hiq⟩ : ∃ q, q = isK (getP s.t) 8 a := ⟨_, rfl⟩
  obtain ⟨jq, hjq⟩ : ∃ q, q = isK (getP s.t) 21 b := ⟨_, rfl⟩
  have HE : Hid (splB s a b c = if iq = false then 8 else if jq = false then 8 else if decide (0 ≤ c ∧ c ≤ 10000) = false then 5 else 0) := Lib.hid (by unfold splB; rw [← hiq, ← hjq])
  have HS1 : Hid (splE s a b c d e = if splB s a b c = 0 then putDE 41 [a, b] c d e else splB s a b c) := Lib.hid rfl
  have HS2 : Hid (s.spl a b c d e = if splB s a b c = 0 then putD s 41 [a, b] c d e else s) := Lib.hid rfl
  have HI := Lib.hid hiq; have HJ := Lib.hid hjq
  clear h hz hf ha hb hiq hjq
  go_enter Tryz.func45, Tryz.ntmps45
  go_wp2_with fail
  obtain ⟨F9, h9⟩ : ∃ F9, RS w g s F9 := by obtain ⟨F9, h9, _⟩ := L.out; exact ⟨F9, h9⟩
  refine (rois21_any h9 (by have := HZ.out; omega) HF.out HA.out.1).mono ?_
  rw [← HI.out]
  rintro e a1 ⟨rfl, hb⟩
  clear h9
  have Lm := Lib.hid (L.out.later hb)
  clear hb L
  have L := Lm
  clear Lm
  cases iq with
  | false =>
    have HV : Hid (splB s a b c = 8) := Lib.hid (by rw [HE.out, if_pos rfl])
    have HW : Hid (splE s a b c d e = 8 ∧ s.spl a b c d e = s) := Lib.hid ⟨by rw [HS1.out, HV.out, if_neg (by decide)], by rw [HS2.out, HV.out, if_neg (by decide)]⟩
    go_wp2_with fail
    go_ret
    rw [HW.out.1, HW.out.2]; exact L.out.ret
  | true =>
    go_wp2_with fail
    obtain ⟨F9, h9⟩ : ∃ F9, RS a1 g s F9 := by obtain ⟨F9, h9, _⟩ := L.out; exact ⟨F9, h9⟩
    refine (ris26_any h9 (by have := HZ.out; omega) HF.out HA.out.2).mono ?_
    rw [← HJ.out]
    rintro e a2 ⟨rfl, hb⟩
    clear h9
    have Lm := Lib.hid (L.out.later hb)
    clear hb L
    have L := Lm
    clear Lm
    cases jq with
    | false =>
      have HV : Hid (splB s a b c = 8) := Lib.hid (by rw [HE.out, if_neg (by decide), if_pos rfl])
      have HW : Hid (splE s a b c d e = 8 ∧ s.spl a b c d e = s) := Lib.hid ⟨by rw [HS1.out, HV.out, if_neg (by decide)], by rw [HS2.out, HV.out, if_neg (by decide)]⟩
      go_wp2_with fail
      go_ret
      rw [HW.out.1, HW.out.2]; exact L.out.ret
    | true =>
      by_cases hc : 0 ≤ c ∧ c ≤ 10000
      · have hc1 : ¬ c < 0 := by omega
        have hc2 : ¬ 10000 < c := by omega
        have HV : Hid (splB s a b c = 0) := Lib.hid (by rw [HE.out, if_neg (by decide), if_neg (by decide), if_neg (by rw [decide_eq_true hc]; decide)])
        have HW : Hid (splE s a b c d e = putDE 41 [a, b] c d e ∧ s.spl a b c d e = putD s 41 [a, b] c d e) := Lib.hid ⟨by rw [HS1.out, HV.out, if_pos rfl], by rw [HS2.out, HV.out, if_pos rfl]⟩
        clear hc
        go_wp2_with fail
        obtain ⟨a3, hwl⟩ : ∃ wl, wl = World.alloc a2 (.cells #[.int .i64 a, .int .i64 b] 3) := ⟨_, rfl⟩
        obtain ⟨gl, hgl⟩ : ∃ gl, gl = (World.heap a2).size := ⟨_, rfl⟩
        rw [← hwl, ← hgl]
        have HOIz : Hid (Own a3 0 3 intE 1 (.slice (some ⟨gl, 0, none⟩) 2 2) [a, b]) := Lib.hid (own_lit (l := [a, b]) (by rw [hwl, hgl]; exact heap_alloc_new _ _) (Nat.zero_le _) (by unfold maxLen; simp))
        have hb : Below (World.heap a2).size a2 a3 := by rw [hwl]; exact below_new _ _
        clear hwl hgl
        have Lm := Lib.hid (L.out.later hb)
        clear hb L
        have L := Lm
        clear Lm
        have HOI := HOIz
        clear HOIz
        obtain ⟨F9, h9⟩ : ∃ F9, RS a3 g s F9 := by obtain ⟨F9, h9, _⟩ := L.out; exact ⟨F9, h9⟩
        clear h9
        refine (L.out.call fun F hs => rset28_any hs (by have := HZ.out; omega) HF.out 41 (ids := [a, b]) (by simp) (I64s.two HA.out.1 HA.out.2) (HOI.out.rd fun _ => rfl) c d e).mono ?_
        rintro e a4 ⟨rfl, o, hoth⟩
        have Lm := Lib.hid o
        clear o hoth L
        have L := Lm
        clear Lm
        go_wp2_with fail
        go_ret
        rw [HW.out.1, HW.out.2]; exact L.out.ret
      · have hcd := hc
        rcases (show c < 0 ∨ (¬ c < 0 ∧ 10000 < c) by omega) with hc1 | ⟨hc1, hc2⟩
        · have HD : Hid (decide (0 ≤ c ∧ c ≤ 10000) = false) := Lib.hid (decide_eq_false hcd)
          clear hcd hc
          have HV : Hid (splB s a b c = 5) := Lib.hid (by rw [HE.out, if_neg (by decide), if_neg (by decide), if_pos HD.out])
          have HW : Hid (splE s a b c d e = 5 ∧ s.spl a b c d e = s) := Lib.hid ⟨by rw [HS1.out, HV.out, if_neg (by decide)], by rw [HS2.out, HV.out, if_neg (by decide)]⟩
          go_wp2_with fail
          go_ret
          rw [HW.out.1, HW.out.2]; exact L.out.ret
        · have HD : Hid (decide (0 ≤ c ∧ c ≤ 10000) = false) := Lib.hid (decide_eq_false hcd)
          clear hcd hc
          have HV : Hid (splB s a b c = 5) := Lib.hid (by rw [HE.out, if_neg (by decide), if_neg (by decide), if_pos HD.out])
          have HW : Hid (splE s a b c d e = 5 ∧ s.spl a b c d e = s) := Lib.hid ⟨by rw [HS1.out, HV.out, if_neg (by decide)], by rw [HS2.out, HV.out, if_neg (by decide)]⟩
          go_wp2_with fail
          go_ret
          rw [HW.out.1, HW.out.2]; exact L.out.ret

set_option maxHeartbeats 4000000 in
set_option maxRecDepth 100000 in
theorem rsplget_any {w : World} {g : Nat} {s : PS} {F : List Nat} (h : RS w g s F) (hz : s.sz < 100000000) (hf : Fit s) {a b q : Int} (ha : I64 a) (hb : I64 b) : Calls Tryz.prog 47 #[.pointer (some ⟨g, 0, none⟩), .int .i64 a, .int .i64 b, .int .i64 q] w (Ret w (.int .i64 (getSp (getP s.t) a b q))) := by
  have H := Lib.hid h; have HF := Lib.hid hf; have HA := Lib.hid (And.intro ha hb); have HZ := Lib.hid hz
  obtain ⟨v, hv⟩ : ∃ v, v = getD (getP s.t) 41 [a, b] := ⟨_, rfl⟩
  obtain ⟨u, hu⟩ : ∃ u, u = settleD v q := ⟨_, rfl⟩
  have HG : Hid (getSp (getP s.t) a b q = if u.has then u.now else 1000) := Lib.hid (by unfold getSp; rw [← hv, ← hu])
  have HV := Lib.hid hv; have HU := Lib.hid hu
  clear h hf ha hb hv hu hz
  have HB : Hid (Below w.heap.size w w) := Lib.hid (Below.refl _ _)
  go_enter Tryz.func47, Tryz.ntmps47
  go_wp2_with fail
  obtain ⟨a1, hwl⟩ : ∃ wl, wl = World.alloc w (.cells #[.int .i64 a, .int .i64 b] 3) := ⟨_, rfl⟩
  obtain ⟨gl, hgl⟩ : ∃ gl, gl = (World.heap w).size := ⟨_, rfl⟩
  rw [← hwl, ← hgl]
  have HOIz : Hid (Own a1 0 3 intE 1 (.slice (some ⟨gl, 0, none⟩) 2 2) [a, b]) := Lib.hid (own_lit (l := [a, b]) (by rw [hwl, hgl]; exact heap_alloc_new _ _) (Nat.zero_le _) (by unfold maxLen; simp))
  have hb : Below (World.heap w).size w a1 := by rw [hwl]; exact below_new _ _
  clear hwl hgl
  have HBm := Lib.hid (HB.out.trans (hb.mono HB.out.size))
  clear hb HB
  have HB := HBm
  clear HBm
  have HOI := HOIz
  clear HOIz
  refine (rget28_any (H.out.later HB.out) (by have := HZ.out; omega) HF.out 41 (ids := [a, b]) (by simp) (I64s.two HA.out.1 HA.out.2) (HOI.out.rd fun _ => rfl)).mono ?_
  rw [← HV.out]
  rintro e a2 ⟨rfl, hb⟩
  have HBm := Lib.hid (HB.out.trans (hb.mono HB.out.size))
  have HOIm := Lib.hid (HOI.out.later hb)
  clear hb HB HOI
  have HB := HBm
  have HOI := HOIm
  clear HBm HOIm
  clear HOI
  rw [show dvC v = #[.bool v.has, .int .i64 v.now, .int .i64 v.next, .int .i64 v.at_, .bool v.more] from rfl]
  go_wp2_with fail
  refine (rof_any v q _).mono ?_
  rw [← HU.out]
  rintro e a3 ⟨rfl, hb⟩
  have HBm := Lib.hid (HB.out.trans (hb.mono HB.out.size))
  clear hb HB
  have HB := HBm
  clear HBm
  clear HU
  obtain ⟨uh, un, u3, u4, u5⟩ := u
  cases uh with
  | false =>
    go_wp2_with fail
    go_ret
    exact ⟨by rw [HG.out]; rfl, HB.out⟩
  | true =>
    go_wp2_with fail
    go_ret
    exact ⟨by rw [HG.out]; rfl, HB.out⟩
end Go.Proofs.YthnjakomkdlglaaGreat
