/- Services: is one, and is registered (code, and the reference's). No condition. Pools, the program's and the document's (code). No condition. Law 31: the world, the example, acts on both stores. No condition. -/
import Derived.Test.YthnjakomkdlglaaGreatBnkF
import Derived.Deep.Cut
namespace Go.Proofs.YthnjakomkdlglaaGreat
section
open Go.RowKit

/-- Is number 1 laid at a of table t? -/
def isK (f : Txt → Option Txt) (t a : Int) : Bool := getI f (keyF t [a]) == 1
def regE (s : PS) (a : Int) : Int := if goodB 1 a = false then 2 else if isK (getP s.t) 21 a then 9 else 0
def PS.reg (s : PS) (a : Int) : PS := if regE s a = 0 then s.setInt (keyF 21 [a]) 1 else s
theorem reg_sz (s : PS) (a : Int) : (s.reg a).sz ≤ s.sz + 2 := by
  unfold PS.reg; split
  · exact sz_setInt _ _ _
  · omega
theorem reg_fit {s : PS} (hf : Fit s) (a : Int) : Fit (s.reg a) := by
  unfold PS.reg; split
  · exact hf.setInt _ _
  · exact hf

set_option maxHeartbeats 4000000 in
set_option maxRecDepth 100000 in
theorem sis_any {w : World} {x : Option Addr} {m : Bool} {f : Txt → Option Txt} (h : Look w x m f) (hf : FitF f) {a : Int} (ha : I64 a) : Calls Tryz.prog 80 #[.pointer x, .int .i64 a] w (Ret w (.bool (isK f 21 a))) := by
  have H := Lib.hid h; have HF := Lib.hid hf; have HA := Lib.hid ha
  obtain ⟨q, hq⟩ : ∃ q, q = getI f (keyF 21 [a]) := ⟨_, rfl⟩
  have HQ := Lib.hid hq
  clear h hf ha hq
  have HB : Hid (Below w.heap.size w w) := Lib.hid (Below.refl _ _)
  go_enter Tryz.func80, Tryz.ntmps80
  go_wp2_with fail
  obtain ⟨a1, hwl⟩ : ∃ wl, wl = World.alloc w (.cells #[.int .i64 a] 3) := ⟨_, rfl⟩
  obtain ⟨gl, hgl⟩ : ∃ gl, gl = (World.heap w).size := ⟨_, rfl⟩
  rw [← hwl, ← hgl]
  have HOIz : Hid (Own a1 0 3 intE 1 (.slice (some ⟨gl, 0, none⟩) 1 1) [a]) := Lib.hid (own_lit (l := [a]) (by rw [hwl, hgl]; exact heap_alloc_new _ _) (Nat.zero_le _) (by unfold maxLen; simp))
  have hb : Below (World.heap w).size w a1 := by rw [hwl]; exact below_new _ _
  clear hwl hgl
  have HBm := Lib.hid (HB.out.trans (hb.mono HB.out.size))
  clear hb HB
  have HB := HBm
  clear HBm
  have HOI := HOIz
  clear HOIz
  refine (key_any 21 [a] _ _ (by simp) (I64s.one HA.out) (HOI.out.rd fun _ => rfl)).mono ?_
  rintro e a2 ⟨rfl, hb⟩
  have HBm := Lib.hid (HB.out.trans (hb.mono HB.out.size))
  clear hb HB
  have HB := HBm
  clear HBm
  clear HOI
  go_wp2_with fail
  refine (int_any (H.out.later HB.out) HF.out (keyF 21 [a])).mono ?_
  rw [← HQ.out]
  rintro e a3 ⟨rfl, hb⟩
  have HBm := Lib.hid (HB.out.trans (hb.mono HB.out.size))
  clear hb HB
  have HB := HBm
  clear HBm
  go_wp2_with fail
  go_ret
  exact ⟨by unfold isK; rw [← HQ.out]; rfl, HB.out⟩

set_option maxHeartbeats 4000000 in
set_option maxRecDepth 100000 in
theorem ris26_any {w : World} {g : Nat} {s : PS} {F : List Nat} (h : RS w g s F) (hz : s.sz < 100000000) (hf : Fit s) {a : Int} (ha : I64 a) : Calls Tryz.prog 99 #[.pointer (some ⟨g, 0, none⟩), .int .i64 a] w (Ret w (.bool (isK (getP s.t) 21 a))) := by
  have H := Lib.hid h; have HF := Lib.hid hf; have HA := Lib.hid ha; have HZ := Lib.hid hz
  obtain ⟨q, hq⟩ : ∃ q, q = getI (getP s.t) (keyF 21 [a]) := ⟨_, rfl⟩
  have HQ := Lib.hid hq
  clear h hf ha hq hz
  have HB : Hid (Below w.heap.size w w) := Lib.hid (Below.refl _ _)
  go_enter Tryz.func99, Tryz.ntmps99
  go_wp2_with fail
  obtain ⟨a1, hwl⟩ : ∃ wl, wl = World.alloc w (.cells #[.int .i64 a] 3) := ⟨_, rfl⟩
  obtain ⟨gl, hgl⟩ : ∃ gl, gl = (World.heap w).size := ⟨_, rfl⟩
  rw [← hwl, ← hgl]
  have HOIz : Hid (Own a1 0 3 intE 1 (.slice (some ⟨gl, 0, none⟩) 1 1) [a]) := Lib.hid (own_lit (l := [a]) (by rw [hwl, hgl]; exact heap_alloc_new _ _) (Nat.zero_le _) (by unfold maxLen; simp))
  have hb : Below (World.heap w).size w a1 := by rw [hwl]; exact below_new _ _
  clear hwl hgl
  have HBm := Lib.hid (HB.out.trans (hb.mono HB.out.size))
  clear hb HB
  have HB := HBm
  clear HBm
  have HOI := HOIz
  clear HOIz
  refine (refKey_any 21 [a] _ _ (by simp) (I64s.one HA.out) (HOI.out.rd fun _ => rfl)).mono ?_
  rintro e a2 ⟨rfl, hb⟩
  have HBm := Lib.hid (HB.out.trans (hb.mono HB.out.size))
  clear hb HB
  have HB := HBm
  clear HBm
  clear HOI
  go_wp2_with fail
  refine (rint_any (H.out.later HB.out) (by have := HZ.out; omega) HF.out (keyF 21 [a])).mono ?_
  rw [← HQ.out]
  rintro e a3 ⟨rfl, hb⟩
  have HBm := Lib.hid (HB.out.trans (hb.mono HB.out.size))
  clear hb HB
  have HB := HBm
  clear HBm
  go_wp2_with fail
  go_ret
  exact ⟨by unfold isK; rw [← HQ.out]; rfl, HB.out⟩

set_option maxHeartbeats 4000000 in
set_option maxRecDepth 100000 in
theorem sreg_any {w : World} {g : Nat} {s : PS} {F : List Nat} (h : St w g s F) (hz : s.sz < 10000000) (hf : Fit s) {a : Int} (ha : I64 a) :
    Calls Tryz.prog 83 #[.pointer (some ⟨g, 0, none⟩), .int .i64 a] w (StRet w g F (s.reg a) (.int .i64 (regE s a))) := by
  have L := Lib.hid (Liv.start h); have HZ := Lib.hid hz; have HF := Lib.hid hf; have HA := Lib.hid ha
  obtain ⟨gq, hgq⟩ : ∃ q, q = goodB 1 a := ⟨_, rfl⟩
  obtain ⟨iq, hiq⟩ : ∃ q, q = isK (getP s.t) 21 a := ⟨_, rfl⟩
  have HE : Hid (regE s a = if gq = false then 2 else if iq = true then 9 else 0) := Lib.hid (by unfold regE; rw [← hgq, ← hiq])
  have HS : Hid (s.reg a = if regE s a = 0 then s.setInt (keyF 21 [a]) 1 else s) := Lib.hid rfl
  have HG := Lib.hid hgq; have HI := Lib.hid hiq
  clear h hz hf ha hgq hiq
  go_enter Tryz.func83, Tryz.ntmps83
  go_wp2_with fail
  obtain ⟨F9, h9⟩ : ∃ F9, St w g s F9 := by obtain ⟨F9, h9, _⟩ := L.out; exact ⟨F9, h9⟩
  refine (smade_any h9).mono ?_
  rintro e _ ⟨rfl, rfl⟩
  clear h9
  go_wp2_with fail
  refine (bgood_any 1 a _).mono ?_
  rw [← HG.out]
  rintro e _ ⟨rfl, rfl⟩
  cases gq with
  | false =>
    have HV : Hid (regE s a = 2) := Lib.hid (by rw [HE.out, if_pos rfl])
    have HW : Hid (s.reg a = s) := Lib.hid (by rw [HS.out, HV.out, if_neg (by decide)])
    go_wp2_with fail
    go_ret
    rw [HV.out, HW.out]; exact L.out.ret
  | true =>
    go_wp2_with fail
    obtain ⟨F9, h9⟩ : ∃ F9, St w g s F9 := by obtain ⟨F9, h9, _⟩ := L.out; exact ⟨F9, h9⟩
    refine (sis_any (Look.of_st h9) HF.out.f HA.out).mono ?_
    rw [← HI.out]
    rintro e a1 ⟨rfl, hb⟩
    clear h9
    have Lm := Lib.hid (L.out.later hb)
    clear hb L
    have L := Lm
    clear Lm
    cases iq with
    | true =>
      have HV : Hid (regE s a = 9) := Lib.hid (by rw [HE.out, if_neg (by decide), if_pos rfl])
      have HW : Hid (s.reg a = s) := Lib.hid (by rw [HS.out, HV.out, if_neg (by decide)])
      go_wp2_with fail
      go_ret
      rw [HV.out, HW.out]; exact L.out.ret
    | false =>
      have HV : Hid (regE s a = 0) := Lib.hid (by rw [HE.out, if_neg (by decide), if_neg (by decide)])
      have HW : Hid (s.reg a = s.setInt (keyF 21 [a]) 1) := Lib.hid (by rw [HS.out, HV.out, if_pos rfl])
      go_wp2_with fail
      obtain ⟨a2, hwl⟩ : ∃ wl, wl = World.alloc a1 (.cells #[.int .i64 a] 3) := ⟨_, rfl⟩
      obtain ⟨gl, hgl⟩ : ∃ gl, gl = (World.heap a1).size := ⟨_, rfl⟩
      rw [← hwl, ← hgl]
      have HOIz : Hid (Own a2 0 3 intE 1 (.slice (some ⟨gl, 0, none⟩) 1 1) [a]) := Lib.hid (own_lit (l := [a]) (by rw [hwl, hgl]; exact heap_alloc_new _ _) (Nat.zero_le _) (by unfold maxLen; simp))
      have hb : Below (World.heap a1).size a1 a2 := by rw [hwl]; exact below_new _ _
      clear hwl hgl
      have Lm := Lib.hid (L.out.later hb)
      clear hb L
      have L := Lm
      clear Lm
      have HOI := HOIz
      clear HOIz
      refine (key_any 21 [a] _ _ (by simp) (I64s.one HA.out) (HOI.out.rd fun _ => rfl)).mono ?_
      rintro e a3 ⟨rfl, hb⟩
      have Lm := Lib.hid (L.out.later hb)
      clear hb L
      have L := Lm
      clear Lm
      clear HOI
      go_wp2_with fail
      refine (L.out.call fun F hs => setInt_any hs (by have := HZ.out; omega) (keyF 21 [a]) 1 (by decide)).mono ?_
      rintro e a4 ⟨rfl, o, hoth⟩
      have Lm := Lib.hid o
      clear o hoth L
      have L := Lm
      clear Lm
      go_wp2_with fail
      go_ret
      rw [HV.out, HW.out]; exact L.out.ret

set_option maxHeartbeats 4000000 in
set_option maxRecDepth 100000 in
theorem rreg26_any {w : World} {g : Nat} {s : PS} {F : List Nat} (h : RS w g s F) (hz : s.sz < 10000000) (hf : Fit s) {a : Int} (ha : I64 a) :
    Calls Tryz.prog 84 #[.pointer (some ⟨g, 0, none⟩), .int .i64 a] w (RRet w g F (s.reg a) (.int .i64 (regE s a))) := by
  have L := Lib.hid (RLiv.start h); have HZ := Lib.hid hz; have HF := Lib.hid hf; have HA := Lib.hid ha
  obtain ⟨gq, hgq⟩ : ∃ q, q = goodB 1 a := ⟨_, rfl⟩
  obtain ⟨iq, hiq⟩ : ∃ q, q = isK (getP s.t) 21 a := ⟨_, rfl⟩
  have HE : Hid (regE s a = if gq = false then 2 else if iq = true then 9 else 0) := Lib.hid (by unfold regE; rw [← hgq, ← hiq])
  have HS : Hid (s.reg a = if regE s a = 0 then s.setInt (keyF 21 [a]) 1 else s) := Lib.hid rfl
  have HG := Lib.hid hgq; have HI := Lib.hid hiq
  clear h hz hf ha hgq hiq
  go_enter Tryz.func84, Tryz.ntmps84
  go_wp2_with fail
  refine (ris_any a _).mono ?_
  rw [show decide (1 ≤ a ∧ a ≤ 4294967295) = gq from (by rw [HG.out]; unfold goodB; simp)]
  rintro e _ ⟨rfl, rfl⟩
  cases gq with
  | false =>
    have HV : Hid (regE s a = 2) := Lib.hid (by rw [HE.out, if_pos rfl])
    have HW : Hid (s.reg a = s) := Lib.hid (by rw [HS.out, HV.out, if_neg (by decide)])
    go_wp2_with fail
    go_ret
    rw [HV.out, HW.out]; exact L.out.ret
  | true =>
    go_wp2_with fail
    obtain ⟨F9, h9⟩ : ∃ F9, RS w g s F9 := by obtain ⟨F9, h9, _⟩ := L.out; exact ⟨F9, h9⟩
    refine (ris26_any h9 (by have := HZ.out; omega) HF.out HA.out).mono ?_
    rw [← HI.out]
    rintro e a1 ⟨rfl, hb⟩
    clear h9
    have Lm := Lib.hid (L.out.later hb)
    clear hb L
    have L := Lm
    clear Lm
    cases iq with
    | true =>
      have HV : Hid (regE s a = 9) := Lib.hid (by rw [HE.out, if_neg (by decide), if_pos rfl])
      have HW : Hid (s.reg a = s) := Lib.hid (by rw [HS.out, HV.out, if_neg (by decide)])
      go_wp2_with fail
      go_ret
      rw [HV.out, HW.out]; exact L.out.ret
    | false =>
      have HV : Hid (regE s a = 0) := Lib.hid (by rw [HE.out, if_neg (by decide), if_neg (by decide)])
      have HW : Hid (s.reg a = s.setInt (keyF 21 [a]) 1) := Lib.hid (by rw [HS.out, HV.out, if_pos rfl])
      go_wp2_with fail
      obtain ⟨a2, hwl⟩ : ∃ wl, wl = World.alloc a1 (.cells #[.int .i64 a] 3) := ⟨_, rfl⟩
      obtain ⟨gl, hgl⟩ : ∃ gl, gl = (World.heap a1).size := ⟨_, rfl⟩
      rw [← hwl, ← hgl]
      have HOIz : Hid (Own a2 0 3 intE 1 (.slice (some ⟨gl, 0, none⟩) 1 1) [a]) := Lib.hid (own_lit (l := [a]) (by rw [hwl, hgl]; exact heap_alloc_new _ _) (Nat.zero_le _) (by unfold maxLen; simp))
      have hb : Below (World.heap a1).size a1 a2 := by rw [hwl]; exact below_new _ _
      clear hwl hgl
      have Lm := Lib.hid (L.out.later hb)
      clear hb L
      have L := Lm
      clear Lm
      have HOI := HOIz
      clear HOIz
      refine (refKey_any 21 [a] _ _ (by simp) (I64s.one HA.out) (HOI.out.rd fun _ => rfl)).mono ?_
      rintro e a3 ⟨rfl, hb⟩
      have Lm := Lib.hid (L.out.later hb)
      clear hb L
      have L := Lm
      clear Lm
      clear HOI
      go_wp2_with fail
      refine (L.out.call fun F hs => rsetInt_any hs (by have := HZ.out; omega) (keyF 21 [a]) 1 (by decide)).mono ?_
      rintro e a4 ⟨rfl, o, hoth⟩
      have Lm := Lib.hid o
      clear o hoth L
      have L := Lm
      clear Lm
      go_wp2_with fail
      go_ret
      rw [HV.out, HW.out]; exact L.out.ret
end
section
open Go.RowKit

def goodP (t n : Int) (m : Nat) : Bool := goodB t n && (!decide (m = 0)) && decide (m < uHalf)
/-- A way: from, to, and where it is counted. -/
def sendE (s : PS) (x y z : Txt) (m : Nat) : Int := if moveE (getP s.t) x y m ≠ 0 then moveE (getP s.t) x y m else addE (getP (s.moveA x y m).t) z m
def PS.send (s : PS) (x y z : Txt) (m : Nat) : PS := if sendE s x y z m = 0 then (s.moveA x y m).addA z m else s
def kPool (t : Int) : Txt := keyF 4 [t]
def psubE (s : PS) (v t : Int) (m : Nat) : Int := if isK (getP s.t) 21 v = false then 8 else if goodP t 1 m = false then 2 else sendE s (kAcc t v) (kPool t) (keyF 34 [t]) m
def PS.psub (s : PS) (v t : Int) (m : Nat) : PS := if isK (getP s.t) 21 v = false then s else if goodP t 1 m = false then s else s.send (kAcc t v) (kPool t) (keyF 34 [t]) m
def pyE (s : PS) (t n : Int) (m : Nat) : Int := if goodP t n m = false then 2 else sendE s (kPool t) (kAcc t n) (keyF 35 [t]) m
def PS.py (s : PS) (t n : Int) (m : Nat) : PS := if goodP t n m = false then s else s.send (kPool t) (kAcc t n) (keyF 35 [t]) m
theorem send_sz (s : PS) (x y z : Txt) (m : Nat) : (s.send x y z m).sz ≤ s.sz + 6 := by
  unfold PS.send; split
  · have h1 := sz_moveA s x y m
    have h2 := sz_addA (s.moveA x y m) z m
    omega
  · omega
theorem send_fit {s : PS} (hf : Fit s) (x y z : Txt) (m : Nat) : Fit (s.send x y z m) := by
  unfold PS.send; split
  · exact (hf.moveA _ _ _).addA _ _
  · exact hf
theorem psub_sz (s : PS) (v t : Int) (m : Nat) : (s.psub v t m).sz ≤ s.sz + 6 := by
  unfold PS.psub; split
  · omega
  · split
    · omega
    · exact send_sz _ _ _ _ _
theorem psub_fit {s : PS} (hf : Fit s) (v t : Int) (m : Nat) : Fit (s.psub v t m) := by
  unfold PS.psub; split
  · exact hf
  · split
    · exact hf
    · exact send_fit hf _ _ _ _
theorem py_sz (s : PS) (t n : Int) (m : Nat) : (s.py t n m).sz ≤ s.sz + 6 := by
  unfold PS.py; split
  · omega
  · exact send_sz _ _ _ _ _
theorem py_fit {s : PS} (hf : Fit s) (t n : Int) (m : Nat) : Fit (s.py t n m) := by
  unfold PS.py; split
  · exact hf
  · exact send_fit hf _ _ _ _
/-- What is undone behind an error. -/
theorem send_undo {s : PS} (hu : Up s.t) (x y z : Txt) (m : Nat) : (s.moveA x y m).undo s.past.length = s ∧ ((s.moveA x y m).addA z m).undo s.past.length = s :=
  ⟨((Ext.refl hu).moveA _ _ _).undo.1, (((Ext.refl hu).moveA _ _ _).addA _ _).undo.1⟩

set_option maxHeartbeats 4000000 in
set_option maxRecDepth 100000 in
theorem psub_any {w : World} {x : Option Addr} {q : Bool} {f : Txt → Option Txt} (h : Look w x q f) (hf : FitF f) {t : Int} (ht : I64 t) : Calls Tryz.prog 31 #[.pointer x, .int .i64 t] w (URet w (amtV f (keyF 34 [t]))) := by
  have H := Lib.hid h; have HF := Lib.hid hf; have HT := Lib.hid ht
  obtain ⟨v, hv⟩ : ∃ v, v = amtV f (keyF 34 [t]) := ⟨_, rfl⟩
  rw [← hv]
  have HV := Lib.hid hv
  clear h hf ht hv
  have HB : Hid (Below w.heap.size w w) := Lib.hid (Below.refl _ _)
  go_enter Tryz.func31, Tryz.ntmps31
  go_wp2_with (refine wpList_alloc_g rfl _ rfl _ _ Tryz.zeroUz rfl ?_)
  intro R a1 hR
  have WR : Hid (w.heap.size ≤ R) := Lib.hid (by rw [hR.out.eq]; exact (HB.out).size)
  have HRz := Lib.hid hR.out.cells; have hbR := hR.out.below
  clear hR
  have HBm := Lib.hid (HB.out.trans (hbR.mono HB.out.size))
  clear hbR HB
  have HB := HBm
  clear HBm
  have HR := HRz
  clear HRz
  go_wp2_with fail
  obtain ⟨a2, hwl⟩ : ∃ wl, wl = World.alloc a1 (.cells #[.int .i64 t] 3) := ⟨_, rfl⟩
  obtain ⟨gl, hgl⟩ : ∃ gl, gl = (World.heap a1).size := ⟨_, rfl⟩
  rw [← hwl, ← hgl]
  have HOIz : Hid (Own a2 0 3 intE 1 (.slice (some ⟨gl, 0, none⟩) 1 1) [t]) := Lib.hid (own_lit (l := [t]) (by rw [hwl, hgl]; exact heap_alloc_new _ _) (Nat.zero_le _) (by unfold maxLen; simp))
  have hb : Below (World.heap a1).size a1 a2 := by rw [hwl]; exact below_new _ _
  clear hwl hgl
  have HBm := Lib.hid (HB.out.trans (hb.mono HB.out.size))
  have HRm := Lib.hid (below_at' hb HR.out)
  clear hb HB HR
  have HB := HBm
  have HR := HRm
  clear HBm HRm
  have HOI := HOIz
  clear HOIz
  refine (key_any 34 [t] _ _ (by simp) (I64s.one HT.out) (HOI.out.rd fun _ => rfl)).mono ?_
  rintro e a3 ⟨rfl, hb⟩
  have HBm := Lib.hid (HB.out.trans (hb.mono HB.out.size))
  have HRm := Lib.hid (below_at' hb HR.out)
  have HOIm := Lib.hid (HOI.out.later hb)
  clear hb HB HR HOI
  have HB := HBm
  have HR := HRm
  have HOI := HOIm
  clear HBm HRm HOIm
  clear HOI
  go_wp2_with fail
  refine (camount_any (H.out.later HB.out) HF.out (keyF 34 [t])).mono ?_
  rw [← HV.out]
  rintro e a4 ⟨ya, yb, yc, yd, hu1, rfl, hb⟩
  have HYU := Lib.hid hu1
  clear hu1
  have HBm := Lib.hid (HB.out.trans (hb.mono HB.out.size))
  have HRm := Lib.hid (below_at' hb HR.out)
  clear hb HB HR
  have HB := HBm
  have HR := HRm
  clear HBm HRm
  go_wp2_with (refine wpList_store_row_g (t := 33) (old := u0) rfl 33 _ _ rfl R #[.int .u64 ya, .int .u64 yb, .int .u64 yc, .int .u64 yd] rfl rfl HR.out Tryz.sizeU rfl (one_u64 _ _ _ _) ?_)
  intro a5 hxR kR zR
  clear zR
  have HBm := Lib.hid (HB.out.trans (kR.below (B := w.heap.size) (fun y hy e => by have := WR.out; omega) HB.out.size))
  have HRm := Lib.hid hxR
  clear hxR kR HB HR
  have HB := HBm
  have HR := HRm
  clear HBm HRm
  go_wp2_with fail
  exact bodyPost_ret (results_cell_row rfl _ _ _ _ _ _ _ rfl HR.out Tryz.underlying33 rfl Tryz.sizeU) rfl ⟨_, _, _, _, HYU.out, rfl, HB.out⟩

set_option maxHeartbeats 4000000 in
set_option maxRecDepth 100000 in
theorem ppaid_any {w : World} {x : Option Addr} {q : Bool} {f : Txt → Option Txt} (h : Look w x q f) (hf : FitF f) {t : Int} (ht : I64 t) : Calls Tryz.prog 32 #[.pointer x, .int .i64 t] w (URet w (amtV f (keyF 35 [t]))) := by
  have H := Lib.hid h; have HF := Lib.hid hf; have HT := Lib.hid ht
  obtain ⟨v, hv⟩ : ∃ v, v = amtV f (keyF 35 [t]) := ⟨_, rfl⟩
  rw [← hv]
  have HV := Lib.hid hv
  clear h hf ht hv
  have HB : Hid (Below w.heap.size w w) := Lib.hid (Below.refl _ _)
  go_enter Tryz.func32, Tryz.ntmps32
  go_wp2_with (refine wpList_alloc_g rfl _ rfl _ _ Tryz.zeroUz rfl ?_)
  intro R a1 hR
  have WR : Hid (w.heap.size ≤ R) := Lib.hid (by rw [hR.out.eq]; exact (HB.out).size)
  have HRz := Lib.hid hR.out.cells; have hbR := hR.out.below
  clear hR
  have HBm := Lib.hid (HB.out.trans (hbR.mono HB.out.size))
  clear hbR HB
  have HB := HBm
  clear HBm
  have HR := HRz
  clear HRz
  go_wp2_with fail
  obtain ⟨a2, hwl⟩ : ∃ wl, wl = World.alloc a1 (.cells #[.int .i64 t] 3) := ⟨_, rfl⟩
  obtain ⟨gl, hgl⟩ : ∃ gl, gl = (World.heap a1).size := ⟨_, rfl⟩
  rw [← hwl, ← hgl]
  have HOIz : Hid (Own a2 0 3 intE 1 (.slice (some ⟨gl, 0, none⟩) 1 1) [t]) := Lib.hid (own_lit (l := [t]) (by rw [hwl, hgl]; exact heap_alloc_new _ _) (Nat.zero_le _) (by unfold maxLen; simp))
  have hb : Below (World.heap a1).size a1 a2 := by rw [hwl]; exact below_new _ _
  clear hwl hgl
  have HBm := Lib.hid (HB.out.trans (hb.mono HB.out.size))
  have HRm := Lib.hid (below_at' hb HR.out)
  clear hb HB HR
  have HB := HBm
  have HR := HRm
  clear HBm HRm
  have HOI := HOIz
  clear HOIz
  refine (key_any 35 [t] _ _ (by simp) (I64s.one HT.out) (HOI.out.rd fun _ => rfl)).mono ?_
  rintro e a3 ⟨rfl, hb⟩
  have HBm := Lib.hid (HB.out.trans (hb.mono HB.out.size))
  have HRm := Lib.hid (below_at' hb HR.out)
  have HOIm := Lib.hid (HOI.out.later hb)
  clear hb HB HR HOI
  have HB := HBm
  have HR := HRm
  have HOI := HOIm
  clear HBm HRm HOIm
  clear HOI
  go_wp2_with fail
  refine (camount_any (H.out.later HB.out) HF.out (keyF 35 [t])).mono ?_
  rw [← HV.out]
  rintro e a4 ⟨ya, yb, yc, yd, hu1, rfl, hb⟩
  have HYU := Lib.hid hu1
  clear hu1
  have HBm := Lib.hid (HB.out.trans (hb.mono HB.out.size))
  have HRm := Lib.hid (below_at' hb HR.out)
  clear hb HB HR
  have HB := HBm
  have HR := HRm
  clear HBm HRm
  go_wp2_with (refine wpList_store_row_g (t := 33) (old := u0) rfl 33 _ _ rfl R #[.int .u64 ya, .int .u64 yb, .int .u64 yc, .int .u64 yd] rfl rfl HR.out Tryz.sizeU rfl (one_u64 _ _ _ _) ?_)
  intro a5 hxR kR zR
  clear zR
  have HBm := Lib.hid (HB.out.trans (kR.below (B := w.heap.size) (fun y hy e => by have := WR.out; omega) HB.out.size))
  have HRm := Lib.hid hxR
  clear hxR kR HB HR
  have HB := HBm
  have HR := HRm
  clear HBm HRm
  go_wp2_with fail
  exact bodyPost_ret (results_cell_row rfl _ _ _ _ _ _ _ rfl HR.out Tryz.underlying33 rfl Tryz.sizeU) rfl ⟨_, _, _, _, HYU.out, rfl, HB.out⟩

set_option maxHeartbeats 4000000 in
set_option maxRecDepth 100000 in
theorem pleft_any {w : World} {x : Option Addr} {q : Bool} {f : Txt → Option Txt} (h : Look w x q f) (hf : FitF f) {t : Int} (ht : I64 t) : Calls Tryz.prog 33 #[.pointer x, .int .i64 t] w (URet w (amtV f (keyF 4 [t]))) := by
  have H := Lib.hid h; have HF := Lib.hid hf; have HT := Lib.hid ht
  obtain ⟨v, hv⟩ : ∃ v, v = amtV f (keyF 4 [t]) := ⟨_, rfl⟩
  rw [← hv]
  have HV := Lib.hid hv
  clear h hf ht hv
  have HB : Hid (Below w.heap.size w w) := Lib.hid (Below.refl _ _)
  go_enter Tryz.func33, Tryz.ntmps33
  go_wp2_with (refine wpList_alloc_g rfl _ rfl _ _ Tryz.zeroUz rfl ?_)
  intro R a1 hR
  have WR : Hid (w.heap.size ≤ R) := Lib.hid (by rw [hR.out.eq]; exact (HB.out).size)
  have HRz := Lib.hid hR.out.cells; have hbR := hR.out.below
  clear hR
  have HBm := Lib.hid (HB.out.trans (hbR.mono HB.out.size))
  clear hbR HB
  have HB := HBm
  clear HBm
  have HR := HRz
  clear HRz
  go_wp2_with fail
  refine (bPool_any HT.out _).mono ?_
  rintro e a2 ⟨rfl, hb⟩
  have HBm := Lib.hid (HB.out.trans (hb.mono HB.out.size))
  have HRm := Lib.hid (below_at' hb HR.out)
  clear hb HB HR
  have HB := HBm
  have HR := HRm
  clear HBm HRm
  go_wp2_with fail
  refine (camount_any (H.out.later HB.out) HF.out (keyF 4 [t])).mono ?_
  rw [← HV.out]
  rintro e a3 ⟨ya, yb, yc, yd, hu1, rfl, hb⟩
  have HYU := Lib.hid hu1
  clear hu1
  have HBm := Lib.hid (HB.out.trans (hb.mono HB.out.size))
  have HRm := Lib.hid (below_at' hb HR.out)
  clear hb HB HR
  have HB := HBm
  have HR := HRm
  clear HBm HRm
  go_wp2_with (refine wpList_store_row_g (t := 33) (old := u0) rfl 33 _ _ rfl R #[.int .u64 ya, .int .u64 yb, .int .u64 yc, .int .u64 yd] rfl rfl HR.out Tryz.sizeU rfl (one_u64 _ _ _ _) ?_)
  intro a4 hxR kR zR
  clear zR
  have HBm := Lib.hid (HB.out.trans (kR.below (B := w.heap.size) (fun y hy e => by have := WR.out; omega) HB.out.size))
  have HRm := Lib.hid hxR
  clear hxR kR HB HR
  have HB := HBm
  have HR := HRm
  clear HBm HRm
  go_wp2_with fail
  exact bodyPost_ret (results_cell_row rfl _ _ _ _ _ _ _ rfl HR.out Tryz.underlying33 rfl Tryz.sizeU) rfl ⟨_, _, _, _, HYU.out, rfl, HB.out⟩

set_option maxHeartbeats 4000000 in
set_option maxRecDepth 100000 in
theorem pgood_any {t n : Int} {a b c d : Int} {m : Nat} (hu : UIs a b c d m) (w : World) : Calls Tryz.prog 81 #[.int .i64 t, .int .i64 n, .agg #[.int .u64 a, .int .u64 b, .int .u64 c, .int .u64 d]] w (Ret w (.bool (goodP t n m))) := by
  have HU := Lib.hid hu
  obtain ⟨gq, hgq⟩ : ∃ q, q = goodB t n := ⟨_, rfl⟩
  obtain ⟨zq, hzq⟩ : ∃ q, q = decide (m = 0) := ⟨_, rfl⟩
  obtain ⟨mq, hmq⟩ : ∃ q, q = decide (m < uHalf) := ⟨_, rfl⟩
  have HP : Hid (goodP t n m = (gq && (!zq) && mq)) := Lib.hid (by unfold goodP; rw [← hgq, ← hzq, ← hmq])
  have HG := Lib.hid hgq; have HZQ := Lib.hid hzq; have HMQ := Lib.hid hmq
  clear hu hgq hzq hmq
  have HB : Hid (Below w.heap.size w w) := Lib.hid (Below.refl _ _)
  go_enter Tryz.func81, Tryz.ntmps81
  go_upto_region 1 with fail
  obtain ⟨w1, hw1⟩ : ∃ w1, w1 = w.alloc (.cells #[.int .u64 a, .int .u64 b, .int .u64 c, .int .u64 d] 33) := ⟨_, rfl⟩
  obtain ⟨X, hX⟩ : ∃ x, x = w.heap.size := ⟨_, rfl⟩
  rw [← hw1, ← hX]
  have HX : Hid (w1.heap[X]? = some (.cells #[.int .u64 a, .int .u64 b, .int .u64 c, .int .u64 d] 33 (0, 0))) := Lib.hid (by rw [hw1, hX]; exact heap_alloc_new _ _)
  have hb : Below w.heap.size w w1 := by rw [hw1]; exact below_new _ _
  clear hw1 hX
  have HBm := Lib.hid (HB.out.trans (hb.mono HB.out.size))
  clear hb HB
  have HB := HBm
  clear HBm
  go_wp2_with fail
  refine (bgood_any t n _).mono ?_
  rw [← HG.out]
  rintro e _ ⟨rfl, rfl⟩
  cases gq with
  | false =>
    go_wp2_with fail
    go_ret
    exact ⟨by rw [HP.out]; rfl, HB.out⟩
  | true =>
    have e7 := Tryz.eqUn HU.out UIs.zero
    rw [← HZQ.out] at e7
    have cX0 : w1.cell? ⟨X, 0, none⟩ = some (.int .u64 a) := Lib.cell_of_heap HX.out 0
    have cX1 : w1.cell? ⟨X, 1, none⟩ = some (.int .u64 b) := Lib.cell_of_heap HX.out 1
    have cX2 : w1.cell? ⟨X, 2, none⟩ = some (.int .u64 c) := Lib.cell_of_heap HX.out 2
    have cX3 : w1.cell? ⟨X, 3, none⟩ = some (.int .u64 d) := Lib.cell_of_heap HX.out 3
    cases zq with
    | true =>
      go_wp2_with fail
      go_ret
      exact ⟨by rw [HP.out]; rfl, HB.out⟩
    | false =>
      go_wp2_with fail
      clear e7
      clear cX0 cX1 cX2 cX3
      refine (wamount_any HU.out _).mono ?_
      rw [← HMQ.out]
      rintro e a1 ⟨rfl, hb⟩
      have HBm := Lib.hid (HB.out.trans (hb.mono HB.out.size))
      have HXm := Lib.hid (below_at' hb HX.out)
      clear hb HB HX
      have HB := HBm
      have HX := HXm
      clear HBm HXm
      go_wp2_with fail
      go_ret
      exact ⟨by rw [HP.out]; rfl, HB.out⟩

set_option maxHeartbeats 8000000 in
set_option maxRecDepth 100000 in
theorem send_any {w : World} {g : Nat} {s : PS} {F : List Nat} (h : St w g s F) (hz : s.sz < 10000000) (hf : Fit s) (kx ky kz : Txt) {W : Nat} (hW : w.heap[W]? = some (.cells #[.string (bs kx), .string (bs ky), .string (bs kz)] 121 (0, 0))) {a b c d : Int} {m : Nat} (hu : UIs a b c d m) :
    Calls Tryz.prog 82 #[.pointer (some ⟨W, 0, none⟩), .pointer (some ⟨g, 0, none⟩), .agg #[.int .u64 a, .int .u64 b, .int .u64 c, .int .u64 d]] w (StRet w g F (s.send kx ky kz m) (.int .i64 (sendE s kx ky kz m))) := by
  have HUP := Lib.hid h.up
  have L := Lib.hid (Liv.start h); have HZ := Lib.hid hz; have HF := Lib.hid hf; have HU := Lib.hid hu; have HW := Lib.hid hW
  obtain ⟨s1, hs1⟩ : ∃ q, q = s.moveA kx ky m := ⟨_, rfl⟩
  obtain ⟨e1, he1⟩ : ∃ q, q = moveE (getP s.t) kx ky m := ⟨_, rfl⟩
  obtain ⟨s2, hs2⟩ : ∃ q, q = s1.addA kz m := ⟨_, rfl⟩
  obtain ⟨e2, he2⟩ : ∃ q, q = addE (getP s1.t) kz m := ⟨_, rfl⟩
  obtain ⟨np, hnp⟩ : ∃ q, q = s.past.length := ⟨_, rfl⟩
  have HE : Hid (sendE s kx ky kz m = if e1 ≠ 0 then e1 else e2) := Lib.hid (by unfold sendE; rw [← he1, ← hs1, ← he2])
  have HS : Hid (s.send kx ky kz m = if sendE s kx ky kz m = 0 then s2 else s) := Lib.hid (by unfold PS.send; rw [← hs1, ← hs2])
  have HUN : Hid (s1.undo np = s ∧ s2.undo np = s) := Lib.hid (by rw [hnp, hs2, hs1]; exact send_undo h.up kx ky kz m)
  have HF1 : Hid (Fit s1 ∧ s1.sz ≤ s.sz + 4 ∧ s2.sz ≤ s.sz + 6) := Lib.hid (by
    have a1 := sz_moveA s kx ky m
    have a2 := sz_addA s1 kz m
    rw [← hs1] at a1
    rw [← hs2] at a2
    exact ⟨by rw [hs1]; exact hf.moveA _ _ _, by omega, by omega⟩)
  have HS1 := Lib.hid hs1; have HE1 := Lib.hid he1; have HS2 := Lib.hid hs2; have HE2 := Lib.hid he2; have HNP := Lib.hid hnp
  clear h hz hf hu hs1 he1 hs2 he2 hnp hW
  go_enter Tryz.func82, Tryz.ntmps82
  go_upto_region 1 with fail
  obtain ⟨w1, hw1⟩ : ∃ w1, w1 = w.alloc (.cells #[.int .u64 a, .int .u64 b, .int .u64 c, .int .u64 d] 33) := ⟨_, rfl⟩
  obtain ⟨X, hX⟩ : ∃ x, x = w.heap.size := ⟨_, rfl⟩
  rw [← hw1, ← hX]
  have HX : Hid (w1.heap[X]? = some (.cells #[.int .u64 a, .int .u64 b, .int .u64 c, .int .u64 d] 33 (0, 0))) := Lib.hid (by rw [hw1, hX]; exact heap_alloc_new _ _)
  have hb : Below w.heap.size w w1 := by rw [hw1]; exact below_new _ _
  clear hw1 hX
  have Lm := Lib.hid (L.out.later hb)
  have HWm := Lib.hid (below_at' hb HW.out)
  clear hb L HW
  have L := Lm
  have HW := HWm
  clear Lm HWm
  obtain ⟨F9, h9⟩ : ∃ F9, St w1 g s F9 := by obtain ⟨F9, h9, _⟩ := L.out; exact ⟨F9, h9⟩
  go_wp2_with fail
  refine (smark_any h9).mono ?_
  rintro e _ ⟨rfl, rfl⟩
  rw [← HNP.out]
  clear h9
  go_wp2_with fail
  obtain ⟨a1, hwz⟩ : ∃ wz, wz = w1.drew := ⟨_, rfl⟩
  have hbz : Below w1.heap.size w1 a1 := by rw [hwz]; exact (Below.refl _ _).drew
  have Lm := Lib.hid (L.out.later hbz)
  have HWm := Lib.hid (below_at' hbz HW.out)
  have HXm := Lib.hid (below_at' hbz HX.out)
  clear hbz L HW HX
  have L := Lm
  have HW := HWm
  have HX := HXm
  clear Lm HWm HXm
  have hS : a1.heap[X]? = some (.cells #[.int .u64 a, .int .u64 b, .int .u64 c, .int .u64 d] 33 (0, 0)) ∧ a1.heap[W]? = some (.cells #[.string (bs kx), .string (bs ky), .string (bs kz)] 121 (0, 0)) := ⟨HX.out, HW.out⟩
  refine wp_region_till (fun w' => w'.heap[X]? = some (.cells #[.int .u64 a, .int .u64 b, .int .u64 c, .int .u64 d] 33 (0, 0)) ∧ w'.heap[W]? = some (.cells #[.string (bs kx), .string (bs ky), .string (bs kz)] 121 (0, 0))) 12 12 (by kernel_rfl) rfl ?_
  rw [← hwz]
  clear hwz
  refine till_take 0 (some 11) rfl rfl (by kernel_rfl) (by kernel_rfl) (by kernel_rfl) (by kernel_rfl) (by kernel_rfl) (by kernel_rfl) (fun _ _ _ h => h) (.inl ⟨by rfl, fun w' _ => (by go_simp; rfl)⟩) hS ?_
  go_frame
  refine till_take 1 (some 12) rfl rfl (by kernel_rfl) (by kernel_rfl) (by kernel_rfl) (by kernel_rfl) (by kernel_rfl) (by kernel_rfl) (fun _ _ _ h => h) (.inl ⟨by rfl, fun w' _ => (by go_simp; rfl)⟩) hS ?_
  go_frame
  refine till_take 2 (some 13) rfl rfl (by kernel_rfl) (by kernel_rfl) (by kernel_rfl) (by kernel_rfl) (by kernel_rfl) (by kernel_rfl) (fun _ _ _ h => h) (.inl ⟨by rfl, fun w' _ => (by go_simp; rfl)⟩) hS ?_
  go_frame
  refine till_take 3 (some 14) rfl rfl (by kernel_rfl) (by kernel_rfl) (by kernel_rfl) (by kernel_rfl) (by kernel_rfl) (by kernel_rfl) (fun _ _ _ h => h) (.inl ⟨by rfl, fun w' _ => (by go_simp; rfl)⟩) hS ?_
  go_frame
  refine till_take 4 (some 15) rfl rfl (by kernel_rfl) (by kernel_rfl) (by kernel_rfl) (by kernel_rfl) (by kernel_rfl) (by kernel_rfl) (fun _ _ _ h => h) (.inl ⟨by rfl, fun w' hS' => (by have hc : w'.cell? ⟨W, 0, none⟩ = some (.string (bs kx)) := Lib.cell_of_heap (hS'.2) 0; go_simp; rfl)⟩) hS ?_
  go_frame
  refine till_take 5 (some 16) rfl rfl (by kernel_rfl) (by kernel_rfl) (by kernel_rfl) (by kernel_rfl) (by kernel_rfl) (by kernel_rfl) (fun _ _ _ h => h) (.inl ⟨by rfl, fun w' _ => (by go_simp; rfl)⟩) hS ?_
  go_frame
  refine till_take 6 (some 17) rfl rfl (by kernel_rfl) (by kernel_rfl) (by kernel_rfl) (by kernel_rfl) (by kernel_rfl) (by kernel_rfl) (fun _ _ _ h => h) (.inl ⟨by rfl, fun w' _ => (by go_simp; rfl)⟩) hS ?_
  go_frame
  refine till_take 7 (some 18) rfl rfl (by kernel_rfl) (by kernel_rfl) (by kernel_rfl) (by kernel_rfl) (by kernel_rfl) (by kernel_rfl) (fun _ _ _ h => h) (.inl ⟨by rfl, fun w' _ => (by go_simp; rfl)⟩) hS ?_
  go_frame
  refine till_take 8 (some 19) rfl rfl (by kernel_rfl) (by kernel_rfl) (by kernel_rfl) (by kernel_rfl) (by kernel_rfl) (by kernel_rfl) (fun _ _ _ h => h) (.inl ⟨by rfl, fun w' hS' => (by have hc : w'.cell? ⟨W, 1, none⟩ = some (.string (bs ky)) := Lib.cell_of_heap (hS'.2) 1; go_simp; rfl)⟩) hS ?_
  go_frame
  refine till_take 9 (some 20) rfl rfl (by kernel_rfl) (by kernel_rfl) (by kernel_rfl) (by kernel_rfl) (by kernel_rfl) (by kernel_rfl) (fun _ _ _ h => h) (yields_load (by rfl) 33 _ rfl (.pointer (some ⟨X, 0, none⟩)) rfl (.agg #[.int .u64 a, .int .u64 b, .int .u64 c, .int .u64 d]) (fun w' hS' => load_heap (hS'.1) Tryz.underlying33 rfl Tryz.sizeU)) hS ?_
  go_frame
  refine till_one 10 rfl (by kernel_rfl) fun K hK => ?_
  simp only [List.getElem_toArray, List.getElem_cons_succ, List.getElem_cons_zero]
  rw [if_pos (by rfl)]
  go_simp
  refine (L.out.call fun F hs => cmove_any hs (by have := HZ.out; omega) HF.out kx ky HU.out).mono ?_
  rw [← HE1.out, ← HS1.out]
  rintro e a2 ⟨rfl, o, hoth⟩
  have Lm := Lib.hid o
  have HWm := Lib.hid (hoth.2 W _ HW.out rfl rfl)
  have HXm := Lib.hid (hoth.2 X _ HX.out rfl rfl)
  clear o hoth L HW HX
  have L := Lm
  have HW := HWm
  have HX := HXm
  clear Lm HWm HXm
  have hS2 : a2.heap[X]? = some (.cells #[.int .u64 a, .int .u64 b, .int .u64 c, .int .u64 d] 33 (0, 0)) ∧ a2.heap[W]? = some (.cells #[.string (bs kx), .string (bs ky), .string (bs kz)] 121 (0, 0)) := ⟨HX.out, HW.out⟩
  refine hK _ _ (fun _ _ => hS2) ?_
  clear hK hS
  have hS := hS2
  clear hS2
  refine till_take 11 (some 8) rfl rfl (by kernel_rfl) (by kernel_rfl) (by kernel_rfl) (by kernel_rfl) (by kernel_rfl) (by kernel_rfl) (fun _ _ _ h => h) (.inl ⟨by rfl, fun w' _ => (by go_simp; rfl)⟩) hS ?_
  go_frame
  refine till_done (by kernel_rfl) ?_ _
  clear hS
  by_cases hz1 : e1 = 0
  · have hne : (e1 != 0) = false := by simpa using hz1
    have HEV : Hid (sendE s kx ky kz m = e2) := Lib.hid (by rw [HE.out, if_neg (fun e => e hz1)])
    subst hz1
    clear HE
    go_wp2_with fail
    clear hne
    obtain ⟨a3, hwz⟩ : ∃ wz, wz = a2.drew := ⟨_, rfl⟩
    have hbz : Below a2.heap.size a2 a3 := by rw [hwz]; exact (Below.refl _ _).drew
    have Lm := Lib.hid (L.out.later hbz)
    have HWm := Lib.hid (below_at' hbz HW.out)
    have HXm := Lib.hid (below_at' hbz HX.out)
    clear hbz L HW HX
    have L := Lm
    have HW := HWm
    have HX := HXm
    clear Lm HWm HXm
    have hS : a3.heap[X]? = some (.cells #[.int .u64 a, .int .u64 b, .int .u64 c, .int .u64 d] 33 (0, 0)) ∧ a3.heap[W]? = some (.cells #[.string (bs kx), .string (bs ky), .string (bs kz)] 121 (0, 0)) := ⟨HX.out, HW.out⟩
    refine wp_region_till (fun w' => w'.heap[X]? = some (.cells #[.int .u64 a, .int .u64 b, .int .u64 c, .int .u64 d] 33 (0, 0)) ∧ w'.heap[W]? = some (.cells #[.string (bs kx), .string (bs ky), .string (bs kz)] 121 (0, 0))) 8 8 (by kernel_rfl) rfl ?_
    rw [← hwz]
    clear hwz
    refine till_take 0 (some 24) rfl rfl (by kernel_rfl) (by kernel_rfl) (by kernel_rfl) (by kernel_rfl) (by kernel_rfl) (by kernel_rfl) (fun _ _ _ h => h) (.inl ⟨by rfl, fun w' _ => (by go_simp; rfl)⟩) hS ?_
    go_frame
    refine till_take 1 (some 25) rfl rfl (by kernel_rfl) (by kernel_rfl) (by kernel_rfl) (by kernel_rfl) (by kernel_rfl) (by kernel_rfl) (fun _ _ _ h => h) (.inl ⟨by rfl, fun w' _ => (by go_simp; rfl)⟩) hS ?_
    go_frame
    refine till_take 2 (some 26) rfl rfl (by kernel_rfl) (by kernel_rfl) (by kernel_rfl) (by kernel_rfl) (by kernel_rfl) (by kernel_rfl) (fun _ _ _ h => h) (.inl ⟨by rfl, fun w' _ => (by go_simp; rfl)⟩) hS ?_
    go_frame
    refine till_take 3 (some 27) rfl rfl (by kernel_rfl) (by kernel_rfl) (by kernel_rfl) (by kernel_rfl) (by kernel_rfl) (by kernel_rfl) (fun _ _ _ h => h) (.inl ⟨by rfl, fun w' _ => (by go_simp; rfl)⟩) hS ?_
    go_frame
    refine till_take 4 (some 28) rfl rfl (by kernel_rfl) (by kernel_rfl) (by kernel_rfl) (by kernel_rfl) (by kernel_rfl) (by kernel_rfl) (fun _ _ _ h => h) (.inl ⟨by rfl, fun w' hS' => (by have hc : w'.cell? ⟨W, 2, none⟩ = some (.string (bs kz)) := Lib.cell_of_heap (hS'.2) 2; go_simp; rfl)⟩) hS ?_
    go_frame
    refine till_take 5 (some 29) rfl rfl (by kernel_rfl) (by kernel_rfl) (by kernel_rfl) (by kernel_rfl) (by kernel_rfl) (by kernel_rfl) (fun _ _ _ h => h) (yields_load (by rfl) 33 _ rfl (.pointer (some ⟨X, 0, none⟩)) rfl (.agg #[.int .u64 a, .int .u64 b, .int .u64 c, .int .u64 d]) (fun w' hS' => load_heap (hS'.1) Tryz.underlying33 rfl Tryz.sizeU)) hS ?_
    go_frame
    refine till_one 6 rfl (by kernel_rfl) fun K hK => ?_
    simp only [List.getElem_toArray, List.getElem_cons_succ, List.getElem_cons_zero]
    rw [if_pos (by rfl)]
    go_simp
    refine (L.out.call fun F hs => cadd_any hs (by have := HZ.out; have := HF1.out.2.1; omega) HF1.out.1 kz HU.out).mono ?_
    rw [← HE2.out, ← HS2.out]
    rintro e a4 ⟨rfl, o, hoth⟩
    have Lm := Lib.hid o
    have HWm := Lib.hid (hoth.2 W _ HW.out rfl rfl)
    have HXm := Lib.hid (hoth.2 X _ HX.out rfl rfl)
    clear o hoth L HW HX
    have L := Lm
    have HW := HWm
    have HX := HXm
    clear Lm HWm HXm
    have hS2 : a4.heap[X]? = some (.cells #[.int .u64 a, .int .u64 b, .int .u64 c, .int .u64 d] 33 (0, 0)) ∧ a4.heap[W]? = some (.cells #[.string (bs kx), .string (bs ky), .string (bs kz)] 121 (0, 0)) := ⟨HX.out, HW.out⟩
    refine hK _ _ (fun _ _ => hS2) ?_
    clear hK hS
    have hS := hS2
    clear hS2
    refine till_take 7 (some 8) rfl rfl (by kernel_rfl) (by kernel_rfl) (by kernel_rfl) (by kernel_rfl) (by kernel_rfl) (by kernel_rfl) (fun _ _ _ h => h) (.inl ⟨by rfl, fun w' _ => (by go_simp; rfl)⟩) hS ?_
    go_frame
    refine till_done (by kernel_rfl) ?_ _
    clear hS
    by_cases hz2 : e2 = 0
    · have hne : (e2 != 0) = false := by simpa using hz2
      have HEW : Hid (sendE s kx ky kz m = 0) := Lib.hid (by rw [HEV.out, hz2])
      have HSW : Hid (s.send kx ky kz m = s2) := Lib.hid (by rw [HS.out, HEW.out, if_pos rfl])
      subst hz2
      go_wp2_with fail
      go_ret
      rw [HEW.out, HSW.out]; exact L.out.ret
    · have hne : (e2 != 0) = true := by simpa using hz2
      have hne' : (e2 == 0) = false := by simpa using hz2
      have HSW : Hid (s.send kx ky kz m = s2.undo np) := Lib.hid (by rw [HS.out, HEV.out, if_neg hz2, HUN.out.2])
      clear hz2
      go_wp2_with fail
      refine (L.out.call fun F hs => sundo_any hs (by have := HZ.out; have h7 := HF1.out.2.2; unfold PS.sz at h7 this; omega) (np : Int)).mono ?_
      rintro e a5 ⟨rfl, o, hoth⟩
      have Lm := Lib.hid o
      have HWm := Lib.hid (hoth.2 W _ HW.out rfl rfl)
      have HXm := Lib.hid (hoth.2 X _ HX.out rfl rfl)
      clear o hoth L HW HX
      have L := Lm
      have HW := HWm
      have HX := HXm
      clear Lm HWm HXm
      go_wp2_with fail
      go_ret
      rw [HEV.out, HSW.out]; exact L.out.ret
  · have hne : (e1 != 0) = true := by simpa using hz1
    have hne' : (e1 == 0) = false := by simpa using hz1
    have HEV : Hid (sendE s kx ky kz m = e1) := Lib.hid (by rw [HE.out, if_pos hz1])
    have HSV : Hid (s.send kx ky kz m = s1.undo np) := Lib.hid (by rw [HS.out, HEV.out, if_neg hz1, HUN.out.1])
    clear hz1
    go_wp2_with fail
    refine (L.out.call fun F hs => sundo_any hs (by have := HZ.out; have h7 := HF1.out.2.1; unfold PS.sz at h7 this; omega) (np : Int)).mono ?_
    rintro e a3 ⟨rfl, o, hoth⟩
    have Lm := Lib.hid o
    have HWm := Lib.hid (hoth.2 W _ HW.out rfl rfl)
    have HXm := Lib.hid (hoth.2 X _ HX.out rfl rfl)
    clear o hoth L HW HX
    have L := Lm
    have HW := HWm
    have HX := HXm
    clear Lm HWm HXm
    go_wp2_with fail
    go_ret
    rw [HEV.out, HSV.out]; exact L.out.ret

set_option maxHeartbeats 8000000 in
set_option maxRecDepth 100000 in
theorem both_any {w : World} {g : Nat} {s : PS} {F : List Nat} (h : RS w g s F) (hz : s.sz < 10000000) (hf : Fit s) (kx ky kz : Txt) {a b c d : Int} {m : Nat} (hu : UIs a b c d m) :
    Calls Tryz.prog 144 #[.pointer (some ⟨g, 0, none⟩), .string (bs kx), .string (bs ky), .string (bs kz), .agg #[.int .u64 a, .int .u64 b, .int .u64 c, .int .u64 d]] w (RRet w g F (s.send kx ky kz m) (.int .i64 (sendE s kx ky kz m))) := by
  have HUP := Lib.hid h.up
  have L := Lib.hid (RLiv.start h); have HZ := Lib.hid hz; have HF := Lib.hid hf; have HU := Lib.hid hu
  obtain ⟨s1, hs1⟩ : ∃ q, q = s.moveA kx ky m := ⟨_, rfl⟩
  obtain ⟨e1, he1⟩ : ∃ q, q = moveE (getP s.t) kx ky m := ⟨_, rfl⟩
  obtain ⟨s2, hs2⟩ : ∃ q, q = s1.addA kz m := ⟨_, rfl⟩
  obtain ⟨e2, he2⟩ : ∃ q, q = addE (getP s1.t) kz m := ⟨_, rfl⟩
  obtain ⟨np, hnp⟩ : ∃ q, q = s.past.length := ⟨_, rfl⟩
  have HE : Hid (sendE s kx ky kz m = if e1 ≠ 0 then e1 else e2) := Lib.hid (by unfold sendE; rw [← he1, ← hs1, ← he2])
  have HS : Hid (s.send kx ky kz m = if sendE s kx ky kz m = 0 then s2 else s) := Lib.hid (by unfold PS.send; rw [← hs1, ← hs2])
  have HUN : Hid (s1.undo np = s ∧ s2.undo np = s) := Lib.hid (by rw [hnp, hs2, hs1]; exact send_undo h.up kx ky kz m)
  have HF1 : Hid (Fit s1 ∧ s1.sz ≤ s.sz + 4 ∧ s2.sz ≤ s.sz + 6) := Lib.hid (by
    have a1 := sz_moveA s kx ky m
    have a2 := sz_addA s1 kz m
    rw [← hs1] at a1
    rw [← hs2] at a2
    exact ⟨by rw [hs1]; exact hf.moveA _ _ _, by omega, by omega⟩)
  have HS1 := Lib.hid hs1; have HE1 := Lib.hid he1; have HS2 := Lib.hid hs2; have HE2 := Lib.hid he2; have HNP := Lib.hid hnp
  clear h hz hf hu hs1 he1 hs2 he2 hnp
  go_enter Tryz.func144, Tryz.ntmps144
  go_upto_region 1 with fail
  obtain ⟨w1, hw1⟩ : ∃ w1, w1 = w.alloc (.cells #[.int .u64 a, .int .u64 b, .int .u64 c, .int .u64 d] 33) := ⟨_, rfl⟩
  obtain ⟨X, hX⟩ : ∃ x, x = w.heap.size := ⟨_, rfl⟩
  rw [← hw1, ← hX]
  have HX : Hid (w1.heap[X]? = some (.cells #[.int .u64 a, .int .u64 b, .int .u64 c, .int .u64 d] 33 (0, 0))) := Lib.hid (by rw [hw1, hX]; exact heap_alloc_new _ _)
  have hb : Below w.heap.size w w1 := by rw [hw1]; exact below_new _ _
  clear hw1 hX
  have Lm := Lib.hid (L.out.later hb)
  clear hb L
  have L := Lm
  clear Lm
  obtain ⟨F9, h9⟩ : ∃ F9, RS w1 g s F9 := by obtain ⟨F9, h9, _⟩ := L.out; exact ⟨F9, h9⟩
  obtain ⟨vL, vP, h8, _⟩ := h9
  obtain ⟨ad, cap, hvp, _, _⟩ := h8.past.shape
  rw [← HNP.out] at hvp
  subst hvp
  have c9 : w1.cell? ⟨g, 1, none⟩ = some (.slice ad np cap) := Lib.cell_of_heap h8.head 1
  clear h8
  go_wp2_with (refine wpList_load_row rfl 33 _ rfl X rfl 33 _ _ _ HX.out Tryz.underlying33 rfl Tryz.sizeU ?_)
  clear c9
  refine (L.out.call fun F hs => rmove10_any hs (by have := HZ.out; omega) HF.out kx ky HU.out).mono ?_
  rw [← HE1.out, ← HS1.out]
  rintro e a1 ⟨rfl, o, hoth⟩
  have Lm := Lib.hid o
  have HXm := Lib.hid (hoth.2 X _ HX.out rfl rfl)
  clear o hoth L HX
  have L := Lm
  have HX := HXm
  clear Lm HXm
  by_cases hz1 : e1 = 0
  · have hne : (e1 != 0) = false := by simpa using hz1
    have HEV : Hid (sendE s kx ky kz m = e2) := Lib.hid (by rw [HE.out, if_neg (fun e => e hz1)])
    subst hz1
    clear HE
    go_wp2_with (refine wpList_load_row rfl 33 _ rfl X rfl 33 _ _ _ HX.out Tryz.underlying33 rfl Tryz.sizeU ?_)
    clear hne
    refine (L.out.call fun F hs => radd10_any hs (by have := HZ.out; have := HF1.out.2.1; omega) HF1.out.1 kz HU.out).mono ?_
    rw [← HE2.out, ← HS2.out]
    rintro e a2 ⟨rfl, o, hoth⟩
    have Lm := Lib.hid o
    have HXm := Lib.hid (hoth.2 X _ HX.out rfl rfl)
    clear o hoth L HX
    have L := Lm
    have HX := HXm
    clear Lm HXm
    by_cases hz2 : e2 = 0
    · have hne : (e2 != 0) = false := by simpa using hz2
      have HEW : Hid (sendE s kx ky kz m = 0) := Lib.hid (by rw [HEV.out, hz2])
      have HSW : Hid (s.send kx ky kz m = s2) := Lib.hid (by rw [HS.out, HEW.out, if_pos rfl])
      subst hz2
      go_wp2_with fail
      go_ret
      rw [HEW.out, HSW.out]; exact L.out.ret
    · have hne : (e2 != 0) = true := by simpa using hz2
      have hne' : (e2 == 0) = false := by simpa using hz2
      have HSW : Hid (s.send kx ky kz m = s2.undo np) := Lib.hid (by rw [HS.out, HEV.out, if_neg hz2, HUN.out.2])
      clear hz2
      go_wp2_with fail
      refine (L.out.call fun F hs => rundo_any hs (by have := HZ.out; have h7 := HF1.out.2.2; unfold PS.sz at h7 this; omega) (np : Int)).mono ?_
      rintro e a3 ⟨rfl, o, hoth⟩
      have Lm := Lib.hid o
      have HXm := Lib.hid (hoth.2 X _ HX.out rfl rfl)
      clear o hoth L HX
      have L := Lm
      have HX := HXm
      clear Lm HXm
      go_wp2_with fail
      go_ret
      rw [HEV.out, HSW.out]; exact L.out.ret
  · have hne : (e1 != 0) = true := by simpa using hz1
    have hne' : (e1 == 0) = false := by simpa using hz1
    have HEV : Hid (sendE s kx ky kz m = e1) := Lib.hid (by rw [HE.out, if_pos hz1])
    have HSV : Hid (s.send kx ky kz m = s1.undo np) := Lib.hid (by rw [HS.out, HEV.out, if_neg hz1, HUN.out.1])
    clear hz1
    go_wp2_with fail
    refine (L.out.call fun F hs => rundo_any hs (by have := HZ.out; have h7 := HF1.out.2.1; unfold PS.sz at h7 this; omega) (np : Int)).mono ?_
    rintro e a2 ⟨rfl, o, hoth⟩
    have Lm := Lib.hid o
    have HXm := Lib.hid (hoth.2 X _ HX.out rfl rfl)
    clear o hoth L HX
    have L := Lm
    have HX := HXm
    clear Lm HXm
    go_wp2_with fail
    go_ret
    rw [HEV.out, HSV.out]; exact L.out.ret

theorem one_str3 (a b c : Txt) : (#[Value.string (bs a), .string (bs b), .string (bs c)].all (·.oneCell')) = true := by simp [Value.oneCell']
theorem Tryz.zeroWay (w : World) : (zeroValue 121).run Tryz.prog w = .ok (.agg #[.string (bs []), .string (bs []), .string (bs [])]) w := by kernel_rfl
theorem Tryz.sizeWay : (Tryz.prog.info? 121).map (·.size) = some 3 := by kernel_rfl

set_option maxHeartbeats 16000000 in
set_option maxRecDepth 100000 in
theorem psubmit_any {w : World} {g : Nat} {s : PS} {F : List Nat} (h : St w g s F) (hz : s.sz < 1000000) (hf : Fit s) {v t : Int} (h1 : I64 v) (h2 : I64 t) {a b c d : Int} {m : Nat} (hu : UIs a b c d m) :
    Calls Tryz.prog 29 #[.pointer (some ⟨g, 0, none⟩), .int .i64 v, .int .i64 t, .agg #[.int .u64 a, .int .u64 b, .int .u64 c, .int .u64 d]] w (StRet w g F (s.psub v t m) (.int .i64 (psubE s v t m))) := by
  have L := Lib.hid (Liv.start h); have HZ := Lib.hid hz; have HF := Lib.hid hf; have HA1 := Lib.hid h1; have HA2 := Lib.hid h2; have HU := Lib.hid hu
  obtain ⟨gq, hgq⟩ : ∃ q, q = goodP t 1 m := ⟨_, rfl⟩
  have HG := Lib.hid hgq
  clear h hz hf h1 h2 hu hgq
  go_enter Tryz.func29, Tryz.ntmps29
  go_upto_region 1 with fail
  obtain ⟨w1, hw1⟩ : ∃ w1, w1 = w.alloc (.cells #[.int .u64 a, .int .u64 b, .int .u64 c, .int .u64 d] 33) := ⟨_, rfl⟩
  obtain ⟨X, hX⟩ : ∃ x, x = w.heap.size := ⟨_, rfl⟩
  rw [← hw1, ← hX]
  have HX : Hid (w1.heap[X]? = some (.cells #[.int .u64 a, .int .u64 b, .int .u64 c, .int .u64 d] 33 (0, 0))) := Lib.hid (by rw [hw1, hX]; exact heap_alloc_new _ _)
  have hb : Below w.heap.size w w1 := by rw [hw1]; exact below_new _ _
  clear hw1 hX
  have Lm := Lib.hid (L.out.later hb)
  clear hb L
  have L := Lm
  clear Lm
  go_wp2_with fail
  obtain ⟨F9, h9⟩ : ∃ F9, St w1 g s F9 := by obtain ⟨F9, h9, _⟩ := L.out; exact ⟨F9, h9⟩
  refine (smade_any h9).mono ?_
  rintro e _ ⟨rfl, rfl⟩
  clear h9
  obtain ⟨iq, hiq⟩ : ∃ q, q = isK (getP s.t) 21 v := ⟨_, rfl⟩
  have HI := Lib.hid hiq
  clear hiq
  go_wp2_with fail
  obtain ⟨F9, h9⟩ : ∃ F9, St w1 g s F9 := by obtain ⟨F9, h9, _⟩ := L.out; exact ⟨F9, h9⟩
  refine (sis_any (Look.of_st h9) HF.out.f HA1.out).mono ?_
  rw [← HI.out]
  rintro e a1 ⟨rfl, hb⟩
  clear h9
  have Lm := Lib.hid (L.out.later hb)
  have HXm := Lib.hid (below_at' hb HX.out)
  clear hb L HX
  have L := Lm
  have HX := HXm
  clear Lm HXm
  cases iq with
  | false =>
    have HIK : Hid (isK (getP s.t) 21 v = false) := Lib.hid HI.out.symm
    have HEV : Hid (psubE s v t m = 8) := Lib.hid (by unfold psubE; rw [if_pos HIK.out])
    have HSV : Hid (s.psub v t m = s) := Lib.hid (by unfold PS.psub; rw [if_pos HIK.out])
    go_wp2_with fail
    go_ret
    rw [HEV.out, HSV.out]; exact L.out.ret
  | true =>
    have HIK : Hid (isK (getP s.t) 21 v = true) := Lib.hid HI.out.symm
    go_wp2_with (refine wpList_load_row rfl 33 _ rfl X rfl 33 _ _ _ HX.out Tryz.underlying33 rfl Tryz.sizeU ?_)
    refine (pgood_any (t := t) (n := 1) HU.out _).mono ?_
    rw [← HG.out]
    rintro e a2 ⟨rfl, hb⟩
    have Lm := Lib.hid (L.out.later hb)
    have HXm := Lib.hid (below_at' hb HX.out)
    clear hb L HX
    have L := Lm
    have HX := HXm
    clear Lm HXm
    cases gq with
    | false =>
      have HGF : Hid (goodP t 1 m = false) := Lib.hid HG.out.symm
      have HEV : Hid (psubE s v t m = 2) := Lib.hid (by unfold psubE; rw [if_neg (by rw [HIK.out]; decide), if_pos HGF.out])
      have HSV : Hid (s.psub v t m = s) := Lib.hid (by unfold PS.psub; rw [if_neg (by rw [HIK.out]; decide), if_pos HGF.out])
      go_wp2_with fail
      go_ret
      rw [HEV.out, HSV.out]; exact L.out.ret
    | true =>
      have HGT : Hid (goodP t 1 m = true) := Lib.hid HG.out.symm
      have HEV : Hid (psubE s v t m = sendE s (kAcc t v) (kPool t) (keyF 34 [t]) m) := Lib.hid (by unfold psubE; rw [if_neg (by rw [HIK.out]; decide), if_neg (by rw [HGT.out]; decide)])
      have HSV : Hid (s.psub v t m = s.send (kAcc t v) (kPool t) (keyF 34 [t]) m) := Lib.hid (by unfold PS.psub; rw [if_neg (by rw [HIK.out]; decide), if_neg (by rw [HGT.out]; decide)])
      go_wp2_with fail
      obtain ⟨a3, hwz⟩ : ∃ wz, wz = a2.drew := ⟨_, rfl⟩
      have hbz : Below a2.heap.size a2 a3 := by rw [hwz]; exact (Below.refl _ _).drew
      have Lm := Lib.hid (L.out.later hbz)
      have HXm := Lib.hid (below_at' hbz HX.out)
      clear hbz L HX
      have L := Lm
      have HX := HXm
      clear Lm HXm
      have hS : a3.heap[X]? = some (.cells #[.int .u64 a, .int .u64 b, .int .u64 c, .int .u64 d] 33 (0, 0)) := HX.out
      refine wp_region_till (fun w' => w'.heap[X]? = some (.cells #[.int .u64 a, .int .u64 b, .int .u64 c, .int .u64 d] 33 (0, 0))) 15 15 (by kernel_rfl) rfl ?_
      rw [← hwz]
      clear hwz
      refine till_take 0 (some 24) rfl rfl (by kernel_rfl) (by kernel_rfl) (by kernel_rfl) (by kernel_rfl) (by kernel_rfl) (by kernel_rfl) (fun _ _ _ h => h) (.inl ⟨by rfl, fun w' _ => (by go_simp; rfl)⟩) hS ?_
      go_frame
      refine till_take 1 (some 25) rfl rfl (by kernel_rfl) (by kernel_rfl) (by kernel_rfl) (by kernel_rfl) (by kernel_rfl) (by kernel_rfl) (fun _ _ _ h => h) (.inl ⟨by rfl, fun w' _ => (by go_simp; rfl)⟩) hS ?_
      go_frame
      refine till_take 2 (some 26) rfl rfl (by kernel_rfl) (by kernel_rfl) (by kernel_rfl) (by kernel_rfl) (by kernel_rfl) (by kernel_rfl) (fun _ _ _ h => h) (.inl ⟨by rfl, fun w' _ => (by go_simp; rfl)⟩) hS ?_
      go_frame
      refine till_take 4 (some 28) rfl rfl (by kernel_rfl) (by kernel_rfl) (by kernel_rfl) (by kernel_rfl) (by kernel_rfl) (by kernel_rfl) (fun _ _ _ h => h) (.inl ⟨by rfl, fun w' _ => (by go_simp; rfl)⟩) hS ?_
      go_frame
      refine till_take 6 (some 30) rfl rfl (by kernel_rfl) (by kernel_rfl) (by kernel_rfl) (by kernel_rfl) (by kernel_rfl) (by kernel_rfl) (fun _ _ _ h => h) (.inl ⟨by rfl, fun w' _ => (by go_simp; rfl)⟩) hS ?_
      go_frame
      refine till_take 11 (some 35) rfl rfl (by kernel_rfl) (by kernel_rfl) (by kernel_rfl) (by kernel_rfl) (by kernel_rfl) (by kernel_rfl) (fun _ _ _ h => h) (.inl ⟨by rfl, fun w' _ => (by go_simp; rfl)⟩) hS ?_
      go_frame
      refine till_take 12 (some 36) rfl rfl (by kernel_rfl) (by kernel_rfl) (by kernel_rfl) (by kernel_rfl) (by kernel_rfl) (by kernel_rfl) (fun _ _ _ h => h) (yields_load (by rfl) 33 _ rfl (.pointer (some ⟨X, 0, none⟩)) rfl (.agg #[.int .u64 a, .int .u64 b, .int .u64 c, .int .u64 d]) (fun w' hS' => load_heap (hS') Tryz.underlying33 rfl Tryz.sizeU)) hS ?_
      go_frame
      refine till_two 3 7 rfl rfl (by kernel_rfl) (fun K hK => ?_) (fun K hK => ?_)
      · simp only [List.getElem_toArray, List.getElem_cons_succ, List.getElem_cons_zero]
        rw [if_pos (by rfl)]
        go_simp
        refine (bAcc_any HA2.out HA1.out _).mono ?_
        rintro e a4 ⟨rfl, hb⟩
        have Lm := Lib.hid (L.out.later hb)
        have HXm := Lib.hid (below_at' hb HX.out)
        clear hb L HX
        have L := Lm
        have HX := HXm
        clear Lm HXm
        have hS2 : a4.heap[X]? = some (.cells #[.int .u64 a, .int .u64 b, .int .u64 c, .int .u64 d] 33 (0, 0)) := HX.out
        refine hK _ _ (fun _ _ => hS2) ?_
        clear hK hS
        have hS := hS2
        clear hS2
        refine till_two 5 7 rfl rfl (by kernel_rfl) (fun K hK => ?_) (fun K hK => ?_)
        · simp only [List.getElem_toArray, List.getElem_cons_succ, List.getElem_cons_zero]
          rw [if_pos (by rfl)]
          go_simp
          refine (bPool_any HA2.out _).mono ?_
          rintro e a5 ⟨rfl, hb⟩
          have Lm := Lib.hid (L.out.later hb)
          have HXm := Lib.hid (below_at' hb HX.out)
          clear hb L HX
          have L := Lm
          have HX := HXm
          clear Lm HXm
          have hS2 : a5.heap[X]? = some (.cells #[.int .u64 a, .int .u64 b, .int .u64 c, .int .u64 d] 33 (0, 0)) := HX.out
          refine hK _ _ (fun _ _ => hS2) ?_
          clear hK hS
          have hS := hS2
          clear hS2
          refine till_one 7 rfl (by kernel_rfl) fun K hK => ?_
          simp only [List.getElem_toArray, List.getElem_cons_succ, List.getElem_cons_zero]
          rw [if_pos (by rfl)]
          go_simp
          obtain ⟨a6, hwl⟩ : ∃ wl, wl = World.alloc a5 (.cells #[.int .i64 t] 3) := ⟨_, rfl⟩
          obtain ⟨gl, hgl⟩ : ∃ gl, gl = (World.heap a5).size := ⟨_, rfl⟩
          rw [← hwl, ← hgl]
          have HOIz : Hid (Own a6 0 3 intE 1 (.slice (some ⟨gl, 0, none⟩) 1 1) [t]) := Lib.hid (own_lit (l := [t]) (by rw [hwl, hgl]; exact heap_alloc_new _ _) (Nat.zero_le _) (by unfold maxLen; simp))
          have hb : Below (World.heap a5).size a5 a6 := by rw [hwl]; exact below_new _ _
          clear hwl hgl
          have Lm := Lib.hid (L.out.later hb)
          have HXm := Lib.hid (below_at' hb HX.out)
          clear hb L HX
          have L := Lm
          have HX := HXm
          clear Lm HXm
          have HOI := HOIz
          clear HOIz
          have hS2 : a6.heap[X]? = some (.cells #[.int .u64 a, .int .u64 b, .int .u64 c, .int .u64 d] 33 (0, 0)) := HX.out
          refine hK _ _ (fun _ _ => hS2) ?_
          clear hK hS
          have hS := hS2
          clear hS2
          refine till_one 8 rfl (by kernel_rfl) fun K hK => ?_
          simp only [List.getElem_toArray, List.getElem_cons_succ, List.getElem_cons_zero]
          rw [if_pos (by rfl)]
          go_simp
          refine (key_any 34 [t] _ _ (by simp) (I64s.one HA2.out) (HOI.out.rd fun _ => rfl)).mono ?_
          rintro e a7 ⟨rfl, hb⟩
          have Lm := Lib.hid (L.out.later hb)
          have HXm := Lib.hid (below_at' hb HX.out)
          have HOIm := Lib.hid (HOI.out.later hb)
          clear hb L HX HOI
          have L := Lm
          have HX := HXm
          have HOI := HOIm
          clear Lm HXm HOIm
          clear HOI
          have hS2 : a7.heap[X]? = some (.cells #[.int .u64 a, .int .u64 b, .int .u64 c, .int .u64 d] 33 (0, 0)) := HX.out
          refine hK _ _ (fun _ _ => hS2) ?_
          clear hK hS
          have hS := hS2
          clear hS2
          refine till_take 9 (some 33) rfl rfl (by kernel_rfl) (by kernel_rfl) (by kernel_rfl) (by kernel_rfl) (by kernel_rfl) (by kernel_rfl) (fun _ _ _ h => h) (.inl ⟨by rfl, fun w' _ => (by go_simp; rfl)⟩) hS ?_
          go_frame
          refine till_one 10 rfl (by kernel_rfl) fun K hK => ?_
          simp only [List.getElem_toArray, List.getElem_cons_succ, List.getElem_cons_zero]
          rw [if_pos (by rfl)]
          go_simp
          obtain ⟨a8, hwl⟩ : ∃ wl, wl = World.alloc a7 (.cells #[.string (bs (keyF 1 [t, v])), .string (bs (keyF 4 [t])), .string (bs (keyF 34 [t]))] 121) := ⟨_, rfl⟩
          obtain ⟨W, hgl⟩ : ∃ gl, gl = (World.heap a7).size := ⟨_, rfl⟩
          rw [← hwl, ← hgl]
          have HWz : Hid ((World.heap a8)[W]? = some (.cells #[.string (bs (keyF 1 [t, v])), .string (bs (keyF 4 [t])), .string (bs (keyF 34 [t]))] 121 (0, 0))) := Lib.hid (by rw [hwl, hgl]; exact heap_alloc_new _ _)
          have hb : Below (World.heap a7).size a7 a8 := by rw [hwl]; exact below_new _ _
          clear hwl hgl
          have Lm := Lib.hid (L.out.later hb)
          have HXm := Lib.hid (below_at' hb HX.out)
          clear hb L HX
          have L := Lm
          have HX := HXm
          clear Lm HXm
          have HW := HWz
          clear HWz
          have hS2 : a8.heap[X]? = some (.cells #[.int .u64 a, .int .u64 b, .int .u64 c, .int .u64 d] 33 (0, 0)) := HX.out
          refine hK _ _ (fun _ _ => hS2) ?_
          clear hK hS
          have hS := hS2
          clear hS2
          refine till_one 13 rfl (by kernel_rfl) fun K hK => ?_
          simp only [List.getElem_toArray, List.getElem_cons_succ, List.getElem_cons_zero]
          rw [if_pos (by rfl)]
          go_simp
          refine (L.out.call fun F hs => send_any hs (by have := HZ.out; omega) HF.out (kAcc t v) (kPool t) (keyF 34 [t]) HW.out HU.out).mono ?_
          rintro e a9 ⟨rfl, o, hoth⟩
          have Lm := Lib.hid o
          have HXm := Lib.hid (hoth.2 X _ HX.out rfl rfl)
          have HWm := Lib.hid (hoth.2 W _ HW.out rfl rfl)
          clear o hoth L HX HW
          have L := Lm
          have HX := HXm
          have HW := HWm
          clear Lm HXm HWm
          have hS2 : a9.heap[X]? = some (.cells #[.int .u64 a, .int .u64 b, .int .u64 c, .int .u64 d] 33 (0, 0)) := HX.out
          refine hK _ _ (fun _ _ => hS2) ?_
          clear hK hS
          have hS := hS2
          clear hS2
          refine till_take 14 (some 8) rfl rfl (by kernel_rfl) (by kernel_rfl) (by kernel_rfl) (by kernel_rfl) (by kernel_rfl) (by kernel_rfl) (fun _ _ _ h => h) (.inl ⟨by rfl, fun w' _ => (by go_simp; rfl)⟩) hS ?_
          go_frame
          refine till_done (by kernel_rfl) ?_ _
          clear hS
          go_wp2_with fail
          go_ret
          rw [HEV.out, HSV.out]; exact L.out.ret
        · simp only [List.getElem_toArray, List.getElem_cons_succ, List.getElem_cons_zero]
          rw [if_pos (by rfl)]
          go_simp
          obtain ⟨a5, hwl⟩ : ∃ wl, wl = World.alloc a4 (.cells #[.int .i64 t] 3) := ⟨_, rfl⟩
          obtain ⟨gl, hgl⟩ : ∃ gl, gl = (World.heap a4).size := ⟨_, rfl⟩
          rw [← hwl, ← hgl]
          have HOIz : Hid (Own a5 0 3 intE 1 (.slice (some ⟨gl, 0, none⟩) 1 1) [t]) := Lib.hid (own_lit (l := [t]) (by rw [hwl, hgl]; exact heap_alloc_new _ _) (Nat.zero_le _) (by unfold maxLen; simp))
          have hb : Below (World.heap a4).size a4 a5 := by rw [hwl]; exact below_new _ _
          clear hwl hgl
          have Lm := Lib.hid (L.out.later hb)
          have HXm := Lib.hid (below_at' hb HX.out)
          clear hb L HX
          have L := Lm
          have HX := HXm
          clear Lm HXm
          have HOI := HOIz
          clear HOIz
          have hS2 : a5.heap[X]? = some (.cells #[.int .u64 a, .int .u64 b, .int .u64 c, .int .u64 d] 33 (0, 0)) := HX.out
          refine hK _ _ (fun _ _ => hS2) ?_
          clear hK hS
          have hS := hS2
          clear hS2
          refine till_one 5 rfl (by kernel_rfl) fun K hK => ?_
          simp only [List.getElem_toArray, List.getElem_cons_succ, List.getElem_cons_zero]
          rw [if_pos (by rfl)]
          go_simp
          refine (bPool_any HA2.out _).mono ?_
          rintro e a6 ⟨rfl, hb⟩
          have Lm := Lib.hid (L.out.later hb)
          have HXm := Lib.hid (below_at' hb HX.out)
          have HOIm := Lib.hid (HOI.out.later hb)
          clear hb L HX HOI
          have L := Lm
          have HX := HXm
          have HOI := HOIm
          clear Lm HXm HOIm
          have hS2 : a6.heap[X]? = some (.cells #[.int .u64 a, .int .u64 b, .int .u64 c, .int .u64 d] 33 (0, 0)) := HX.out
          refine hK _ _ (fun _ _ => hS2) ?_
          clear hK hS
          have hS := hS2
          clear hS2
          refine till_one 8 rfl (by kernel_rfl) fun K hK => ?_
          simp only [List.getElem_toArray, List.getElem_cons_succ, List.getElem_cons_zero]
          rw [if_pos (by rfl)]
          go_simp
          refine (key_any 34 [t] _ _ (by simp) (I64s.one HA2.out) (HOI.out.rd fun _ => rfl)).mono ?_
          rintro e a7 ⟨rfl, hb⟩
          have Lm := Lib.hid (L.out.later hb)
          have HXm := Lib.hid (below_at' hb HX.out)
          have HOIm := Lib.hid (HOI.out.later hb)
          clear hb L HX HOI
          have L := Lm
          have HX := HXm
          have HOI := HOIm
          clear Lm HXm HOIm
          clear HOI
          have hS2 : a7.heap[X]? = some (.cells #[.int .u64 a, .int .u64 b, .int .u64 c, .int .u64 d] 33 (0, 0)) := HX.out
          refine hK _ _ (fun _ _ => hS2) ?_
          clear hK hS
          have hS := hS2
          clear hS2
          refine till_take 9 (some 33) rfl rfl (by kernel_rfl) (by kernel_rfl) (by kernel_rfl) (by kernel_rfl) (by kernel_rfl) (by kernel_rfl) (fun _ _ _ h => h) (.inl ⟨by rfl, fun w' _ => (by go_simp; rfl)⟩) hS ?_
          go_frame
          refine till_one 10 rfl (by kernel_rfl) fun K hK => ?_
          simp only [List.getElem_toArray, List.getElem_cons_succ, List.getElem_cons_zero]
          rw [if_pos (by rfl)]
          go_simp
          obtain ⟨a8, hwl⟩ : ∃ wl, wl = World.alloc a7 (.cells #[.string (bs (keyF 1 [t, v])), .string (bs (keyF 4 [t])), .string (bs (keyF 34 [t]))] 121) := ⟨_, rfl⟩
          obtain ⟨W, hgl⟩ : ∃ gl, gl = (World.heap a7).size := ⟨_, rfl⟩
          rw [← hwl, ← hgl]
          have HWz : Hid ((World.heap a8)[W]? = some (.cells #[.string (bs (keyF 1 [t, v])), .string (bs (keyF 4 [t])), .string (bs (keyF 34 [t]))] 121 (0, 0))) := Lib.hid (by rw [hwl, hgl]; exact heap_alloc_new _ _)
          have hb : Below (World.heap a7).size a7 a8 := by rw [hwl]; exact below_new _ _
          clear hwl hgl
          have Lm := Lib.hid (L.out.later hb)
          have HXm := Lib.hid (below_at' hb HX.out)
          clear hb L HX
          have L := Lm
          have HX := HXm
          clear Lm HXm
          have HW := HWz
          clear HWz
          have hS2 : a8.heap[X]? = some (.cells #[.int .u64 a, .int .u64 b, .int .u64 c, .int .u64 d] 33 (0, 0)) := HX.out
          refine hK _ _ (fun _ _ => hS2) ?_
          clear hK hS
          have hS := hS2
          clear hS2
          refine till_one 13 rfl (by kernel_rfl) fun K hK => ?_
          simp only [List.getElem_toArray, List.getElem_cons_succ, List.getElem_cons_zero]
          rw [if_pos (by rfl)]
          go_simp
          refine (L.out.call fun F hs => send_any hs (by have := HZ.out; omega) HF.out (kAcc t v) (kPool t) (keyF 34 [t]) HW.out HU.out).mono ?_
          rintro e a9 ⟨rfl, o, hoth⟩
          have Lm := Lib.hid o
          have HXm := Lib.hid (hoth.2 X _ HX.out rfl rfl)
          have HWm := Lib.hid (hoth.2 W _ HW.out rfl rfl)
          clear o hoth L HX HW
          have L := Lm
          have HX := HXm
          have HW := HWm
          clear Lm HXm HWm
          have hS2 : a9.heap[X]? = some (.cells #[.int .u64 a, .int .u64 b, .int .u64 c, .int .u64 d] 33 (0, 0)) := HX.out
          refine hK _ _ (fun _ _ => hS2) ?_
          clear hK hS
          have hS := hS2
          clear hS2
          refine till_take 14 (some 8) rfl rfl (by kernel_rfl) (by kernel_rfl) (by kernel_rfl) (by kernel_rfl) (by kernel_rfl) (by kernel_rfl) (fun _ _ _ h => h) (.inl ⟨by rfl, fun w' _ => (by go_simp; rfl)⟩) hS ?_
          go_frame
          refine till_done (by kernel_rfl) ?_ _
          clear hS
          go_wp2_with fail
          go_ret
          rw [HEV.out, HSV.out]; exact L.out.ret
      · simp only [List.getElem_toArray, List.getElem_cons_succ, List.getElem_cons_zero]
        rw [if_pos (by rfl)]
        go_simp
        obtain ⟨a4, hwl⟩ : ∃ wl, wl = World.alloc a3 (.cells #[.int .i64 t] 3) := ⟨_, rfl⟩
        obtain ⟨gl, hgl⟩ : ∃ gl, gl = (World.heap a3).size := ⟨_, rfl⟩
        rw [← hwl, ← hgl]
        have HOIz : Hid (Own a4 0 3 intE 1 (.slice (some ⟨gl, 0, none⟩) 1 1) [t]) := Lib.hid (own_lit (l := [t]) (by rw [hwl, hgl]; exact heap_alloc_new _ _) (Nat.zero_le _) (by unfold maxLen; simp))
        have hb : Below (World.heap a3).size a3 a4 := by rw [hwl]; exact below_new _ _
        clear hwl hgl
        have Lm := Lib.hid (L.out.later hb)
        have HXm := Lib.hid (below_at' hb HX.out)
        clear hb L HX
        have L := Lm
        have HX := HXm
        clear Lm HXm
        have HOI := HOIz
        clear HOIz
        have hS2 : a4.heap[X]? = some (.cells #[.int .u64 a, .int .u64 b, .int .u64 c, .int .u64 d] 33 (0, 0)) := HX.out
        refine hK _ _ (fun _ _ => hS2) ?_
        clear hK hS
        have hS := hS2
        clear hS2
        refine till_one 3 rfl (by kernel_rfl) fun K hK => ?_
        simp only [List.getElem_toArray, List.getElem_cons_succ, List.getElem_cons_zero]
        rw [if_pos (by rfl)]
        go_simp
        refine (bAcc_any HA2.out HA1.out _).mono ?_
        rintro e a5 ⟨rfl, hb⟩
        have Lm := Lib.hid (L.out.later hb)
        have HXm := Lib.hid (below_at' hb HX.out)
        have HOIm := Lib.hid (HOI.out.later hb)
        clear hb L HX HOI
        have L := Lm
        have HX := HXm
        have HOI := HOIm
        clear Lm HXm HOIm
        have hS2 : a5.heap[X]? = some (.cells #[.int .u64 a, .int .u64 b, .int .u64 c, .int .u64 d] 33 (0, 0)) := HX.out
        refine hK _ _ (fun _ _ => hS2) ?_
        clear hK hS
        have hS := hS2
        clear hS2
        refine till_one 5 rfl (by kernel_rfl) fun K hK => ?_
        simp only [List.getElem_toArray, List.getElem_cons_succ, List.getElem_cons_zero]
        rw [if_pos (by rfl)]
        go_simp
        refine (bPool_any HA2.out _).mono ?_
        rintro e a6 ⟨rfl, hb⟩
        have Lm := Lib.hid (L.out.later hb)
        have HXm := Lib.hid (below_at' hb HX.out)
        have HOIm := Lib.hid (HOI.out.later hb)
        clear hb L HX HOI
        have L := Lm
        have HX := HXm
        have HOI := HOIm
        clear Lm HXm HOIm
        have hS2 : a6.heap[X]? = some (.cells #[.int .u64 a, .int .u64 b, .int .u64 c, .int .u64 d] 33 (0, 0)) := HX.out
        refine hK _ _ (fun _ _ => hS2) ?_
        clear hK hS
        have hS := hS2
        clear hS2
        refine till_one 8 rfl (by kernel_rfl) fun K hK => ?_
        simp only [List.getElem_toArray, List.getElem_cons_succ, List.getElem_cons_zero]
        rw [if_pos (by rfl)]
        go_simp
        refine (key_any 34 [t] _ _ (by simp) (I64s.one HA2.out) (HOI.out.rd fun _ => rfl)).mono ?_
        rintro e a7 ⟨rfl, hb⟩
        have Lm := Lib.hid (L.out.later hb)
        have HXm := Lib.hid (below_at' hb HX.out)
        have HOIm := Lib.hid (HOI.out.later hb)
        clear hb L HX HOI
        have L := Lm
        have HX := HXm
        have HOI := HOIm
        clear Lm HXm HOIm
        clear HOI
        have hS2 : a7.heap[X]? = some (.cells #[.int .u64 a, .int .u64 b, .int .u64 c, .int .u64 d] 33 (0, 0)) := HX.out
        refine hK _ _ (fun _ _ => hS2) ?_
        clear hK hS
        have hS := hS2
        clear hS2
        refine till_take 9 (some 33) rfl rfl (by kernel_rfl) (by kernel_rfl) (by kernel_rfl) (by kernel_rfl) (by kernel_rfl) (by kernel_rfl) (fun _ _ _ h => h) (.inl ⟨by rfl, fun w' _ => (by go_simp; rfl)⟩) hS ?_
        go_frame
        refine till_one 10 rfl (by kernel_rfl) fun K hK => ?_
        simp only [List.getElem_toArray, List.getElem_cons_succ, List.getElem_cons_zero]
        rw [if_pos (by rfl)]
        go_simp
        obtain ⟨a8, hwl⟩ : ∃ wl, wl = World.alloc a7 (.cells #[.string (bs (keyF 1 [t, v])), .string (bs (keyF 4 [t])), .string (bs (keyF 34 [t]))] 121) := ⟨_, rfl⟩
        obtain ⟨W, hgl⟩ : ∃ gl, gl = (World.heap a7).size := ⟨_, rfl⟩
        rw [← hwl, ← hgl]
        have HWz : Hid ((World.heap a8)[W]? = some (.cells #[.string (bs (keyF 1 [t, v])), .string (bs (keyF 4 [t])), .string (bs (keyF 34 [t]))] 121 (0, 0))) := Lib.hid (by rw [hwl, hgl]; exact heap_alloc_new _ _)
        have hb : Below (World.heap a7).size a7 a8 := by rw [hwl]; exact below_new _ _
        clear hwl hgl
        have Lm := Lib.hid (L.out.later hb)
        have HXm := Lib.hid (below_at' hb HX.out)
        clear hb L HX
        have L := Lm
        have HX := HXm
        clear Lm HXm
        have HW := HWz
        clear HWz
        have hS2 : a8.heap[X]? = some (.cells #[.int .u64 a, .int .u64 b, .int .u64 c, .int .u64 d] 33 (0, 0)) := HX.out
        refine hK _ _ (fun _ _ => hS2) ?_
        clear hK hS
        have hS := hS2
        clear hS2
        refine till_one 13 rfl (by kernel_rfl) fun K hK => ?_
        simp only [List.getElem_toArray, List.getElem_cons_succ, List.getElem_cons_zero]
        rw [if_pos (by rfl)]
        go_simp
        refine (L.out.call fun F hs => send_any hs (by have := HZ.out; omega) HF.out (kAcc t v) (kPool t) (keyF 34 [t]) HW.out HU.out).mono ?_
        rintro e a9 ⟨rfl, o, hoth⟩
        have Lm := Lib.hid o
        have HXm := Lib.hid (hoth.2 X _ HX.out rfl rfl)
        have HWm := Lib.hid (hoth.2 W _ HW.out rfl rfl)
        clear o hoth L HX HW
        have L := Lm
        have HX := HXm
        have HW := HWm
        clear Lm HXm HWm
        have hS2 : a9.heap[X]? = some (.cells #[.int .u64 a, .int .u64 b, .int .u64 c, .int .u64 d] 33 (0, 0)) := HX.out
        refine hK _ _ (fun _ _ => hS2) ?_
        clear hK hS
        have hS := hS2
        clear hS2
        refine till_take 14 (some 8) rfl rfl (by kernel_rfl) (by kernel_rfl) (by kernel_rfl) (by kernel_rfl) (by kernel_rfl) (by kernel_rfl) (fun _ _ _ h => h) (.inl ⟨by rfl, fun w' _ => (by go_simp; rfl)⟩) hS ?_
        go_frame
        refine till_done (by kernel_rfl) ?_ _
        clear hS
        go_wp2_with fail
        go_ret
        rw [HEV.out, HSV.out]; exact L.out.ret

set_option maxHeartbeats 16000000 in
set_option maxRecDepth 100000 in
theorem ppay_any {w : World} {g : Nat} {s : PS} {F : List Nat} (h : St w g s F) (hz : s.sz < 1000000) (hf : Fit s) {t n : Int} (h1 : I64 t) (h2 : I64 n) {a b c d : Int} {m : Nat} (hu : UIs a b c d m) :
    Calls Tryz.prog 30 #[.pointer (some ⟨g, 0, none⟩), .int .i64 t, .int .i64 n, .agg #[.int .u64 a, .int .u64 b, .int .u64 c, .int .u64 d]] w (StRet w g F (s.py t n m) (.int .i64 (pyE s t n m))) := by
  have L := Lib.hid (Liv.start h); have HZ := Lib.hid hz; have HF := Lib.hid hf; have HA1 := Lib.hid h1; have HA2 := Lib.hid h2; have HU := Lib.hid hu
  obtain ⟨gq, hgq⟩ : ∃ q, q = goodP t n m := ⟨_, rfl⟩
  have HG := Lib.hid hgq
  clear h hz hf h1 h2 hu hgq
  go_enter Tryz.func30, Tryz.ntmps30
  go_upto_region 1 with fail
  obtain ⟨w1, hw1⟩ : ∃ w1, w1 = w.alloc (.cells #[.int .u64 a, .int .u64 b, .int .u64 c, .int .u64 d] 33) := ⟨_, rfl⟩
  obtain ⟨X, hX⟩ : ∃ x, x = w.heap.size := ⟨_, rfl⟩
  rw [← hw1, ← hX]
  have HX : Hid (w1.heap[X]? = some (.cells #[.int .u64 a, .int .u64 b, .int .u64 c, .int .u64 d] 33 (0, 0))) := Lib.hid (by rw [hw1, hX]; exact heap_alloc_new _ _)
  have hb : Below w.heap.size w w1 := by rw [hw1]; exact below_new _ _
  clear hw1 hX
  have Lm := Lib.hid (L.out.later hb)
  clear hb L
  have L := Lm
  clear Lm
  go_wp2_with fail
  obtain ⟨F9, h9⟩ : ∃ F9, St w1 g s F9 := by obtain ⟨F9, h9, _⟩ := L.out; exact ⟨F9, h9⟩
  refine (smade_any h9).mono ?_
  rintro e _ ⟨rfl, rfl⟩
  clear h9
  go_wp2_with (refine wpList_load_row rfl 33 _ rfl X rfl 33 _ _ _ HX.out Tryz.underlying33 rfl Tryz.sizeU ?_)
  refine (pgood_any (t := t) (n := n) HU.out _).mono ?_
  rw [← HG.out]
  rintro e a1 ⟨rfl, hb⟩
  have Lm := Lib.hid (L.out.later hb)
  have HXm := Lib.hid (below_at' hb HX.out)
  clear hb L HX
  have L := Lm
  have HX := HXm
  clear Lm HXm
  cases gq with
  | false =>
    have HGF : Hid (goodP t n m = false) := Lib.hid HG.out.symm
    have HEV : Hid (pyE s t n m = 2) := Lib.hid (by unfold pyE; rw [if_pos HGF.out])
    have HSV : Hid (s.py t n m = s) := Lib.hid (by unfold PS.py; rw [if_pos HGF.out])
    go_wp2_with fail
    go_ret
    rw [HEV.out, HSV.out]; exact L.out.ret
  | true =>
    have HGT : Hid (goodP t n m = true) := Lib.hid HG.out.symm
    have HEV : Hid (pyE s t n m = sendE s (kPool t) (kAcc t n) (keyF 35 [t]) m) := Lib.hid (by unfold pyE; rw [if_neg (by rw [HGT.out]; decide)])
    have HSV : Hid (s.py t n m = s.send (kPool t) (kAcc t n) (keyF 35 [t]) m) := Lib.hid (by unfold PS.py; rw [if_neg (by rw [HGT.out]; decide)])
    go_wp2_with fail
    refine (bPool_any HA1.out _).mono ?_
    rintro e a2 ⟨rfl, hb⟩
    have Lm := Lib.hid (L.out.later hb)
    have HXm := Lib.hid (below_at' hb HX.out)
    clear hb L HX
    have L := Lm
    have HX := HXm
    clear Lm HXm
    go_wp2_with fail
    refine (bAcc_any HA1.out HA2.out _).mono ?_
    rintro e a3 ⟨rfl, hb⟩
    have Lm := Lib.hid (L.out.later hb)
    have HXm := Lib.hid (below_at' hb HX.out)
    clear hb L HX
    have L := Lm
    have HX := HXm
    clear Lm HXm
    go_wp2_with fail
    obtain ⟨a4, hwl⟩ : ∃ wl, wl = World.alloc a3 (.cells #[.int .i64 t] 3) := ⟨_, rfl⟩
    obtain ⟨gl, hgl⟩ : ∃ gl, gl = (World.heap a3).size := ⟨_, rfl⟩
    rw [← hwl, ← hgl]
    have HOIz : Hid (Own a4 0 3 intE 1 (.slice (some ⟨gl, 0, none⟩) 1 1) [t]) := Lib.hid (own_lit (l := [t]) (by rw [hwl, hgl]; exact heap_alloc_new _ _) (Nat.zero_le _) (by unfold maxLen; simp))
    have hb : Below (World.heap a3).size a3 a4 := by rw [hwl]; exact below_new _ _
    clear hwl hgl
    have Lm := Lib.hid (L.out.later hb)
    have HXm := Lib.hid (below_at' hb HX.out)
    clear hb L HX
    have L := Lm
    have HX := HXm
    clear Lm HXm
    have HOI := HOIz
    clear HOIz
    refine (key_any 35 [t] _ _ (by simp) (I64s.one HA1.out) (HOI.out.rd fun _ => rfl)).mono ?_
    rintro e a5 ⟨rfl, hb⟩
    have Lm := Lib.hid (L.out.later hb)
    have HXm := Lib.hid (below_at' hb HX.out)
    have HOIm := Lib.hid (HOI.out.later hb)
    clear hb L HX HOI
    have L := Lm
    have HX := HXm
    have HOI := HOIm
    clear Lm HXm HOIm
    clear HOI
    go_wp2_with (refine wpList_alloc_g rfl _ rfl _ _ Tryz.zeroWay rfl ?_)
    intro W a6 hW
    go_wp2_with (refine wpList_store_row_g (t := 121) (old := #[.string (bs []), .string (bs []), .string (bs [])]) rfl 121 _ _ rfl W #[.string (bs (keyF 4 [t])), .string (bs (keyF 1 [t, n])), .string (bs (keyF 35 [t]))] rfl rfl hW.out.cells Tryz.sizeWay rfl (one_str3 _ _ _) ?_)
    intro a7 hxW kW zW
    clear zW
    have hbW : Below a5.heap.size a5 a7 := hW.out.below.trans (kW.below (B := a5.heap.size) (fun x hx e => by have := hW.out.eq; omega) hW.out.below.size)
    have WW : Hid (w.heap.size ≤ W) := Lib.hid (by rw [hW.out.eq]; exact (L.out.keep).size)
    have NXW : Hid (X ≠ W) := Lib.hid (by have := hW.out.eq; have := heap_lt HX.out; omega)
    have HWz := Lib.hid hxW
    clear hW hxW kW
    have Lm := Lib.hid (L.out.later hbW)
    have HXm := Lib.hid (below_at' hbW HX.out)
    clear hbW L HX
    have L := Lm
    have HX := HXm
    clear Lm HXm
    have HW := HWz
    clear HWz
    go_wp2_with (refine wpList_load_row rfl 33 _ rfl X rfl 33 _ _ _ HX.out Tryz.underlying33 rfl Tryz.sizeU ?_)
    refine (L.out.call fun F hs => send_any hs (by have := HZ.out; omega) HF.out (kPool t) (kAcc t n) (keyF 35 [t]) HW.out HU.out).mono ?_
    rintro e a8 ⟨rfl, o, hoth⟩
    have Lm := Lib.hid o
    have HXm := Lib.hid (hoth.2 X _ HX.out rfl rfl)
    have HWm := Lib.hid (hoth.2 W _ HW.out rfl rfl)
    clear o hoth L HX HW
    have L := Lm
    have HX := HXm
    have HW := HWm
    clear Lm HXm HWm
    go_wp2_with fail
    go_ret
    rw [HEV.out, HSV.out]; exact L.out.ret

set_option maxHeartbeats 16000000 in
set_option maxRecDepth 100000 in
theorem rpsubmit_any {w : World} {g : Nat} {s : PS} {F : List Nat} (h : RS w g s F) (hz : s.sz < 1000000) (hf : Fit s) {v t : Int} (h1 : I64 v) (h2 : I64 t) {a b c d : Int} {m : Nat} (hu : UIs a b c d m) :
    Calls Tryz.prog 86 #[.pointer (some ⟨g, 0, none⟩), .int .i64 v, .int .i64 t, .agg #[.int .u64 a, .int .u64 b, .int .u64 c, .int .u64 d]] w (RRet w g F (s.psub v t m) (.int .i64 (psubE s v t m))) := by
  have L := Lib.hid (RLiv.start h); have HZ := Lib.hid hz; have HF := Lib.hid hf; have HA1 := Lib.hid h1; have HA2 := Lib.hid h2; have HU := Lib.hid hu
  obtain ⟨gq, hgq⟩ : ∃ q, q = goodP t 1 m := ⟨_, rfl⟩
  have HG := Lib.hid hgq
  clear h hz hf h1 h2 hu hgq
  go_enter Tryz.func86, Tryz.ntmps86
  go_upto_region 1 with fail
  obtain ⟨w1, hw1⟩ : ∃ w1, w1 = w.alloc (.cells #[.int .u64 a, .int .u64 b, .int .u64 c, .int .u64 d] 33) := ⟨_, rfl⟩
  obtain ⟨X, hX⟩ : ∃ x, x = w.heap.size := ⟨_, rfl⟩
  rw [← hw1, ← hX]
  have HX : Hid (w1.heap[X]? = some (.cells #[.int .u64 a, .int .u64 b, .int .u64 c, .int .u64 d] 33 (0, 0))) := Lib.hid (by rw [hw1, hX]; exact heap_alloc_new _ _)
  have hb : Below w.heap.size w w1 := by rw [hw1]; exact below_new _ _
  clear hw1 hX
  have Lm := Lib.hid (L.out.later hb)
  clear hb L
  have L := Lm
  clear Lm
  obtain ⟨iq, hiq⟩ : ∃ q, q = isK (getP s.t) 21 v := ⟨_, rfl⟩
  have HI := Lib.hid hiq
  clear hiq
  go_wp2_with fail
  obtain ⟨F9, h9⟩ : ∃ F9, RS w1 g s F9 := by obtain ⟨F9, h9, _⟩ := L.out; exact ⟨F9, h9⟩
  refine (ris26_any h9 (by have := HZ.out; omega) HF.out HA1.out).mono ?_
  rw [← HI.out]
  rintro e a1 ⟨rfl, hb⟩
  clear h9
  have Lm := Lib.hid (L.out.later hb)
  have HXm := Lib.hid (below_at' hb HX.out)
  clear hb L HX
  have L := Lm
  have HX := HXm
  clear Lm HXm
  cases iq with
  | false =>
    have HIK : Hid (isK (getP s.t) 21 v = false) := Lib.hid HI.out.symm
    have HEV : Hid (psubE s v t m = 8) := Lib.hid (by unfold psubE; rw [if_pos HIK.out])
    have HSV : Hid (s.psub v t m = s) := Lib.hid (by unfold PS.psub; rw [if_pos HIK.out])
    go_wp2_with fail
    go_ret
    rw [HEV.out, HSV.out]; exact L.out.ret
  | true =>
    have HIK : Hid (isK (getP s.t) 21 v = true) := Lib.hid HI.out.symm
    go_wp2_with fail
    obtain ⟨bq, hbq⟩ : ∃ q, q = goodB t 1 := ⟨_, rfl⟩
    obtain ⟨zq, hzq⟩ : ∃ q, q = decide (m = 0) := ⟨_, rfl⟩
    obtain ⟨mq, hmq⟩ : ∃ q, q = decide (m < uHalf) := ⟨_, rfl⟩
    have HP : Hid (goodP t 1 m = (bq && (!zq) && mq)) := Lib.hid (by unfold goodP; rw [← hbq, ← hzq, ← hmq])
    have HBQ := Lib.hid hbq; have HZQ := Lib.hid hzq; have HMQ := Lib.hid hmq
    clear hbq hzq hmq HG
    refine (rgood_any t 1 _).mono ?_
    rw [← HBQ.out]
    rintro e _ ⟨rfl, rfl⟩
    cases bq with
    | false =>
      have HGF : Hid (goodP t 1 m = false) := Lib.hid (by rw [HP.out]; rfl)
      have HEV : Hid (psubE s v t m = 2) := Lib.hid (by unfold psubE; rw [if_neg (by rw [HIK.out]; decide), if_pos HGF.out])
      have HSV : Hid (s.psub v t m = s) := Lib.hid (by unfold PS.psub; rw [if_neg (by rw [HIK.out]; decide), if_pos HGF.out])
      go_wp2_with fail
      go_ret
      rw [HEV.out, HSV.out]; exact L.out.ret
    | true =>
      have e7 := Tryz.eqUn HU.out UIs.zero
      rw [← HZQ.out] at e7
      have cX0 : a1.cell? ⟨X, 0, none⟩ = some (.int .u64 a) := Lib.cell_of_heap HX.out 0
      have cX1 : a1.cell? ⟨X, 1, none⟩ = some (.int .u64 b) := Lib.cell_of_heap HX.out 1
      have cX2 : a1.cell? ⟨X, 2, none⟩ = some (.int .u64 c) := Lib.cell_of_heap HX.out 2
      have cX3 : a1.cell? ⟨X, 3, none⟩ = some (.int .u64 d) := Lib.cell_of_heap HX.out 3
      cases zq with
      | true =>
        have HGF : Hid (goodP t 1 m = false) := Lib.hid (by rw [HP.out]; rfl)
        have HEV : Hid (psubE s v t m = 2) := Lib.hid (by unfold psubE; rw [if_neg (by rw [HIK.out]; decide), if_pos HGF.out])
        have HSV : Hid (s.psub v t m = s) := Lib.hid (by unfold PS.psub; rw [if_neg (by rw [HIK.out]; decide), if_pos HGF.out])
        go_wp2_with fail
        go_ret
        rw [HEV.out, HSV.out]; exact L.out.ret
      | false =>
        go_wp2_with fail
        clear e7
        clear cX0 cX1 cX2 cX3
        refine (rmAmount_any HU.out _).mono ?_
        rw [← HMQ.out]
        rintro e a2 ⟨rfl, hb⟩
        have Lm := Lib.hid (L.out.later hb)
        have HXm := Lib.hid (below_at' hb HX.out)
        clear hb L HX
        have L := Lm
        have HX := HXm
        clear Lm HXm
        cases mq with
        | false =>
          have HGF : Hid (goodP t 1 m = false) := Lib.hid (by rw [HP.out]; rfl)
          have HEV : Hid (psubE s v t m = 2) := Lib.hid (by unfold psubE; rw [if_neg (by rw [HIK.out]; decide), if_pos HGF.out])
          have HSV : Hid (s.psub v t m = s) := Lib.hid (by unfold PS.psub; rw [if_neg (by rw [HIK.out]; decide), if_pos HGF.out])
          go_wp2_with fail
          go_ret
          rw [HEV.out, HSV.out]; exact L.out.ret
        | true =>
          have HGT : Hid (goodP t 1 m = true) := Lib.hid (by rw [HP.out]; rfl)
          have HEV : Hid (psubE s v t m = sendE s (kAcc t v) (kPool t) (keyF 34 [t]) m) := Lib.hid (by unfold psubE; rw [if_neg (by rw [HIK.out]; decide), if_neg (by rw [HGT.out]; decide)])
          have HSV : Hid (s.psub v t m = s.send (kAcc t v) (kPool t) (keyF 34 [t]) m) := Lib.hid (by unfold PS.psub; rw [if_neg (by rw [HIK.out]; decide), if_neg (by rw [HGT.out]; decide)])
          go_wp2_with fail
          obtain ⟨a3, hwz⟩ : ∃ wz, wz = a2.drew := ⟨_, rfl⟩
          have hbz : Below a2.heap.size a2 a3 := by rw [hwz]; exact (Below.refl _ _).drew
          have Lm := Lib.hid (L.out.later hbz)
          have HXm := Lib.hid (below_at' hbz HX.out)
          clear hbz L HX
          have L := Lm
          have HX := HXm
          clear Lm HXm
          have hS : a3.heap[X]? = some (.cells #[.int .u64 a, .int .u64 b, .int .u64 c, .int .u64 d] 33 (0, 0)) := HX.out
          refine wp_region_till (fun w' => w'.heap[X]? = some (.cells #[.int .u64 a, .int .u64 b, .int .u64 c, .int .u64 d] 33 (0, 0))) 12 12 (by kernel_rfl) rfl ?_
          rw [← hwz]
          clear hwz
          refine till_take 0 (some 28) rfl rfl (by kernel_rfl) (by kernel_rfl) (by kernel_rfl) (by kernel_rfl) (by kernel_rfl) (by kernel_rfl) (fun _ _ _ h => h) (.inl ⟨by rfl, fun w' _ => (by go_simp; rfl)⟩) hS ?_
          go_frame
          refine till_take 1 (some 29) rfl rfl (by kernel_rfl) (by kernel_rfl) (by kernel_rfl) (by kernel_rfl) (by kernel_rfl) (by kernel_rfl) (fun _ _ _ h => h) (.inl ⟨by rfl, fun w' _ => (by go_simp; rfl)⟩) hS ?_
          go_frame
          refine till_take 2 (some 30) rfl rfl (by kernel_rfl) (by kernel_rfl) (by kernel_rfl) (by kernel_rfl) (by kernel_rfl) (by kernel_rfl) (fun _ _ _ h => h) (.inl ⟨by rfl, fun w' _ => (by go_simp; rfl)⟩) hS ?_
          go_frame
          refine till_take 4 (some 32) rfl rfl (by kernel_rfl) (by kernel_rfl) (by kernel_rfl) (by kernel_rfl) (by kernel_rfl) (by kernel_rfl) (fun _ _ _ h => h) (.inl ⟨by rfl, fun w' _ => (by go_simp; rfl)⟩) hS ?_
          go_frame
          refine till_take 6 (some 34) rfl rfl (by kernel_rfl) (by kernel_rfl) (by kernel_rfl) (by kernel_rfl) (by kernel_rfl) (by kernel_rfl) (fun _ _ _ h => h) (.inl ⟨by rfl, fun w' _ => (by go_simp; rfl)⟩) hS ?_
          go_frame
          refine till_take 9 (some 37) rfl rfl (by kernel_rfl) (by kernel_rfl) (by kernel_rfl) (by kernel_rfl) (by kernel_rfl) (by kernel_rfl) (fun _ _ _ h => h) (yields_load (by rfl) 33 _ rfl (.pointer (some ⟨X, 0, none⟩)) rfl (.agg #[.int .u64 a, .int .u64 b, .int .u64 c, .int .u64 d]) (fun w' hS' => load_heap (hS') Tryz.underlying33 rfl Tryz.sizeU)) hS ?_
          go_frame
          refine till_two 3 7 rfl rfl (by kernel_rfl) (fun K hK => ?_) (fun K hK => ?_)
          · simp only [List.getElem_toArray, List.getElem_cons_succ, List.getElem_cons_zero]
            rw [if_pos (by rfl)]
            go_simp
            refine (rbAcc_any HA2.out HA1.out _).mono ?_
            rintro e a4 ⟨rfl, hb⟩
            have Lm := Lib.hid (L.out.later hb)
            have HXm := Lib.hid (below_at' hb HX.out)
            clear hb L HX
            have L := Lm
            have HX := HXm
            clear Lm HXm
            have hS2 : a4.heap[X]? = some (.cells #[.int .u64 a, .int .u64 b, .int .u64 c, .int .u64 d] 33 (0, 0)) := HX.out
            refine hK _ _ (fun _ _ => hS2) ?_
            clear hK hS
            have hS := hS2
            clear hS2
            refine till_two 5 7 rfl rfl (by kernel_rfl) (fun K hK => ?_) (fun K hK => ?_)
            · simp only [List.getElem_toArray, List.getElem_cons_succ, List.getElem_cons_zero]
              rw [if_pos (by rfl)]
              go_simp
              refine (rbPool_any HA2.out _).mono ?_
              rintro e a5 ⟨rfl, hb⟩
              have Lm := Lib.hid (L.out.later hb)
              have HXm := Lib.hid (below_at' hb HX.out)
              clear hb L HX
              have L := Lm
              have HX := HXm
              clear Lm HXm
              have hS2 : a5.heap[X]? = some (.cells #[.int .u64 a, .int .u64 b, .int .u64 c, .int .u64 d] 33 (0, 0)) := HX.out
              refine hK _ _ (fun _ _ => hS2) ?_
              clear hK hS
              have hS := hS2
              clear hS2
              refine till_one 7 rfl (by kernel_rfl) fun K hK => ?_
              simp only [List.getElem_toArray, List.getElem_cons_succ, List.getElem_cons_zero]
              rw [if_pos (by rfl)]
              go_simp
              obtain ⟨a6, hwl⟩ : ∃ wl, wl = World.alloc a5 (.cells #[.int .i64 t] 3) := ⟨_, rfl⟩
              obtain ⟨gl, hgl⟩ : ∃ gl, gl = (World.heap a5).size := ⟨_, rfl⟩
              rw [← hwl, ← hgl]
              have HOIz : Hid (Own a6 0 3 intE 1 (.slice (some ⟨gl, 0, none⟩) 1 1) [t]) := Lib.hid (own_lit (l := [t]) (by rw [hwl, hgl]; exact heap_alloc_new _ _) (Nat.zero_le _) (by unfold maxLen; simp))
              have hb : Below (World.heap a5).size a5 a6 := by rw [hwl]; exact below_new _ _
              clear hwl hgl
              have Lm := Lib.hid (L.out.later hb)
              have HXm := Lib.hid (below_at' hb HX.out)
              clear hb L HX
              have L := Lm
              have HX := HXm
              clear Lm HXm
              have HOI := HOIz
              clear HOIz
              have hS2 : a6.heap[X]? = some (.cells #[.int .u64 a, .int .u64 b, .int .u64 c, .int .u64 d] 33 (0, 0)) := HX.out
              refine hK _ _ (fun _ _ => hS2) ?_
              clear hK hS
              have hS := hS2
              clear hS2
              refine till_one 8 rfl (by kernel_rfl) fun K hK => ?_
              simp only [List.getElem_toArray, List.getElem_cons_succ, List.getElem_cons_zero]
              rw [if_pos (by rfl)]
              go_simp
              refine (refKey_any 34 [t] _ _ (by simp) (I64s.one HA2.out) (HOI.out.rd fun _ => rfl)).mono ?_
              rintro e a7 ⟨rfl, hb⟩
              have Lm := Lib.hid (L.out.later hb)
              have HXm := Lib.hid (below_at' hb HX.out)
              have HOIm := Lib.hid (HOI.out.later hb)
              clear hb L HX HOI
              have L := Lm
              have HX := HXm
              have HOI := HOIm
              clear Lm HXm HOIm
              clear HOI
              have hS2 : a7.heap[X]? = some (.cells #[.int .u64 a, .int .u64 b, .int .u64 c, .int .u64 d] 33 (0, 0)) := HX.out
              refine hK _ _ (fun _ _ => hS2) ?_
              clear hK hS
              have hS := hS2
              clear hS2
              refine till_one 10 rfl (by kernel_rfl) fun K hK => ?_
              simp only [List.getElem_toArray, List.getElem_cons_succ, List.getElem_cons_zero]
              rw [if_pos (by rfl)]
              go_simp
              refine (L.out.call fun F hs => both_any hs (by have := HZ.out; omega) HF.out (kAcc t v) (kPool t) (keyF 34 [t]) HU.out).mono ?_
              rintro e a8 ⟨rfl, o, hoth⟩
              have Lm := Lib.hid o
              have HXm := Lib.hid (hoth.2 X _ HX.out rfl rfl)
              clear o hoth L HX
              have L := Lm
              have HX := HXm
              clear Lm HXm
              have hS2 : a8.heap[X]? = some (.cells #[.int .u64 a, .int .u64 b, .int .u64 c, .int .u64 d] 33 (0, 0)) := HX.out
              refine hK _ _ (fun _ _ => hS2) ?_
              clear hK hS
              have hS := hS2
              clear hS2
              refine till_take 11 (some 8) rfl rfl (by kernel_rfl) (by kernel_rfl) (by kernel_rfl) (by kernel_rfl) (by kernel_rfl) (by kernel_rfl) (fun _ _ _ h => h) (.inl ⟨by rfl, fun w' _ => (by go_simp; rfl)⟩) hS ?_
              go_frame
              refine till_done (by kernel_rfl) ?_ _
              clear hS
              go_wp2_with fail
              go_ret
              rw [HEV.out, HSV.out]; exact L.out.ret
            · simp only [List.getElem_toArray, List.getElem_cons_succ, List.getElem_cons_zero]
              rw [if_pos (by rfl)]
              go_simp
              obtain ⟨a5, hwl⟩ : ∃ wl, wl = World.alloc a4 (.cells #[.int .i64 t] 3) := ⟨_, rfl⟩
              obtain ⟨gl, hgl⟩ : ∃ gl, gl = (World.heap a4).size := ⟨_, rfl⟩
              rw [← hwl, ← hgl]
              have HOIz : Hid (Own a5 0 3 intE 1 (.slice (some ⟨gl, 0, none⟩) 1 1) [t]) := Lib.hid (own_lit (l := [t]) (by rw [hwl, hgl]; exact heap_alloc_new _ _) (Nat.zero_le _) (by unfold maxLen; simp))
              have hb : Below (World.heap a4).size a4 a5 := by rw [hwl]; exact below_new _ _
              clear hwl hgl
              have Lm := Lib.hid (L.out.later hb)
              have HXm := Lib.hid (below_at' hb HX.out)
              clear hb L HX
              have L := Lm
              have HX := HXm
              clear Lm HXm
              have HOI := HOIz
              clear HOIz
              have hS2 : a5.heap[X]? = some (.cells #[.int .u64 a, .int .u64 b, .int .u64 c, .int .u64 d] 33 (0, 0)) := HX.out
              refine hK _ _ (fun _ _ => hS2) ?_
              clear hK hS
              have hS := hS2
              clear hS2
              refine till_one 5 rfl (by kernel_rfl) fun K hK => ?_
              simp only [List.getElem_toArray, List.getElem_cons_succ, List.getElem_cons_zero]
              rw [if_pos (by rfl)]
              go_simp
              refine (rbPool_any HA2.out _).mono ?_
              rintro e a6 ⟨rfl, hb⟩
              have Lm := Lib.hid (L.out.later hb)
              have HXm := Lib.hid (below_at' hb HX.out)
              have HOIm := Lib.hid (HOI.out.later hb)
              clear hb L HX HOI
              have L := Lm
              have HX := HXm
              have HOI := HOIm
              clear Lm HXm HOIm
              have hS2 : a6.heap[X]? = some (.cells #[.int .u64 a, .int .u64 b, .int .u64 c, .int .u64 d] 33 (0, 0)) := HX.out
              refine hK _ _ (fun _ _ => hS2) ?_
              clear hK hS
              have hS := hS2
              clear hS2
              refine till_one 8 rfl (by kernel_rfl) fun K hK => ?_
              simp only [List.getElem_toArray, List.getElem_cons_succ, List.getElem_cons_zero]
              rw [if_pos (by rfl)]
              go_simp
              refine (refKey_any 34 [t] _ _ (by simp) (I64s.one HA2.out) (HOI.out.rd fun _ => rfl)).mono ?_
              rintro e a7 ⟨rfl, hb⟩
              have Lm := Lib.hid (L.out.later hb)
              have HXm := Lib.hid (below_at' hb HX.out)
              have HOIm := Lib.hid (HOI.out.later hb)
              clear hb L HX HOI
              have L := Lm
              have HX := HXm
              have HOI := HOIm
              clear Lm HXm HOIm
              clear HOI
              have hS2 : a7.heap[X]? = some (.cells #[.int .u64 a, .int .u64 b, .int .u64 c, .int .u64 d] 33 (0, 0)) := HX.out
              refine hK _ _ (fun _ _ => hS2) ?_
              clear hK hS
              have hS := hS2
              clear hS2
              refine till_one 10 rfl (by kernel_rfl) fun K hK => ?_
              simp only [List.getElem_toArray, List.getElem_cons_succ, List.getElem_cons_zero]
              rw [if_pos (by rfl)]
              go_simp
              refine (L.out.call fun F hs => both_any hs (by have := HZ.out; omega) HF.out (kAcc t v) (kPool t) (keyF 34 [t]) HU.out).mono ?_
              rintro e a8 ⟨rfl, o, hoth⟩
              have Lm := Lib.hid o
              have HXm := Lib.hid (hoth.2 X _ HX.out rfl rfl)
              clear o hoth L HX
              have L := Lm
              have HX := HXm
              clear Lm HXm
              have hS2 : a8.heap[X]? = some (.cells #[.int .u64 a, .int .u64 b, .int .u64 c, .int .u64 d] 33 (0, 0)) := HX.out
              refine hK _ _ (fun _ _ => hS2) ?_
              clear hK hS
              have hS := hS2
              clear hS2
              refine till_take 11 (some 8) rfl rfl (by kernel_rfl) (by kernel_rfl) (by kernel_rfl) (by kernel_rfl) (by kernel_rfl) (by kernel_rfl) (fun _ _ _ h => h) (.inl ⟨by rfl, fun w' _ => (by go_simp; rfl)⟩) hS ?_
              go_frame
              refine till_done (by kernel_rfl) ?_ _
              clear hS
              go_wp2_with fail
              go_ret
              rw [HEV.out, HSV.out]; exact L.out.ret
          · simp only [List.getElem_toArray, List.getElem_cons_succ, List.getElem_cons_zero]
            rw [if_pos (by rfl)]
            go_simp
            obtain ⟨a4, hwl⟩ : ∃ wl, wl = World.alloc a3 (.cells #[.int .i64 t] 3) := ⟨_, rfl⟩
            obtain ⟨gl, hgl⟩ : ∃ gl, gl = (World.heap a3).size := ⟨_, rfl⟩
            rw [← hwl, ← hgl]
            have HOIz : Hid (Own a4 0 3 intE 1 (.slice (some ⟨gl, 0, none⟩) 1 1) [t]) := Lib.hid (own_lit (l := [t]) (by rw [hwl, hgl]; exact heap_alloc_new _ _) (Nat.zero_le _) (by unfold maxLen; simp))
            have hb : Below (World.heap a3).size a3 a4 := by rw [hwl]; exact below_new _ _
            clear hwl hgl
            have Lm := Lib.hid (L.out.later hb)
            have HXm := Lib.hid (below_at' hb HX.out)
            clear hb L HX
            have L := Lm
            have HX := HXm
            clear Lm HXm
            have HOI := HOIz
            clear HOIz
            have hS2 : a4.heap[X]? = some (.cells #[.int .u64 a, .int .u64 b, .int .u64 c, .int .u64 d] 33 (0, 0)) := HX.out
            refine hK _ _ (fun _ _ => hS2) ?_
            clear hK hS
            have hS := hS2
            clear hS2
            refine till_one 3 rfl (by kernel_rfl) fun K hK => ?_
            simp only [List.getElem_toArray, List.getElem_cons_succ, List.getElem_cons_zero]
            rw [if_pos (by rfl)]
            go_simp
            refine (rbAcc_any HA2.out HA1.out _).mono ?_
            rintro e a5 ⟨rfl, hb⟩
            have Lm := Lib.hid (L.out.later hb)
            have HXm := Lib.hid (below_at' hb HX.out)
            have HOIm := Lib.hid (HOI.out.later hb)
            clear hb L HX HOI
            have L := Lm
            have HX := HXm
            have HOI := HOIm
            clear Lm HXm HOIm
            have hS2 : a5.heap[X]? = some (.cells #[.int .u64 a, .int .u64 b, .int .u64 c, .int .u64 d] 33 (0, 0)) := HX.out
            refine hK _ _ (fun _ _ => hS2) ?_
            clear hK hS
            have hS := hS2
            clear hS2
            refine till_one 5 rfl (by kernel_rfl) fun K hK => ?_
            simp only [List.getElem_toArray, List.getElem_cons_succ, List.getElem_cons_zero]
            rw [if_pos (by rfl)]
            go_simp
            refine (rbPool_any HA2.out _).mono ?_
            rintro e a6 ⟨rfl, hb⟩
            have Lm := Lib.hid (L.out.later hb)
            have HXm := Lib.hid (below_at' hb HX.out)
            have HOIm := Lib.hid (HOI.out.later hb)
            clear hb L HX HOI
            have L := Lm
            have HX := HXm
            have HOI := HOIm
            clear Lm HXm HOIm
            have hS2 : a6.heap[X]? = some (.cells #[.int .u64 a, .int .u64 b, .int .u64 c, .int .u64 d] 33 (0, 0)) := HX.out
            refine hK _ _ (fun _ _ => hS2) ?_
            clear hK hS
            have hS := hS2
            clear hS2
            refine till_one 8 rfl (by kernel_rfl) fun K hK => ?_
            simp only [List.getElem_toArray, List.getElem_cons_succ, List.getElem_cons_zero]
            rw [if_pos (by rfl)]
            go_simp
            refine (refKey_any 34 [t] _ _ (by simp) (I64s.one HA2.out) (HOI.out.rd fun _ => rfl)).mono ?_
            rintro e a7 ⟨rfl, hb⟩
            have Lm := Lib.hid (L.out.later hb)
            have HXm := Lib.hid (below_at' hb HX.out)
            have HOIm := Lib.hid (HOI.out.later hb)
            clear hb L HX HOI
            have L := Lm
            have HX := HXm
            have HOI := HOIm
            clear Lm HXm HOIm
            clear HOI
            have hS2 : a7.heap[X]? = some (.cells #[.int .u64 a, .int .u64 b, .int .u64 c, .int .u64 d] 33 (0, 0)) := HX.out
            refine hK _ _ (fun _ _ => hS2) ?_
            clear hK hS
            have hS := hS2
            clear hS2
            refine till_one 10 rfl (by kernel_rfl) fun K hK => ?_
            simp only [List.getElem_toArray, List.getElem_cons_succ, List.getElem_cons_zero]
            rw [if_pos (by rfl)]
            go_simp
            refine (L.out.call fun F hs => both_any hs (by have := HZ.out; omega) HF.out (kAcc t v) (kPool t) (keyF 34 [t]) HU.out).mono ?_
            rintro e a8 ⟨rfl, o, hoth⟩
            have Lm := Lib.hid o
            have HXm := Lib.hid (hoth.2 X _ HX.out rfl rfl)
            clear o hoth L HX
            have L := Lm
            have HX := HXm
            clear Lm HXm
            have hS2 : a8.heap[X]? = some (.cells #[.int .u64 a, .int .u64 b, .int .u64 c, .int .u64 d] 33 (0, 0)) := HX.out
            refine hK _ _ (fun _ _ => hS2) ?_
            clear hK hS
            have hS := hS2
            clear hS2
            refine till_take 11 (some 8) rfl rfl (by kernel_rfl) (by kernel_rfl) (by kernel_rfl) (by kernel_rfl) (by kernel_rfl) (by kernel_rfl) (fun _ _ _ h => h) (.inl ⟨by rfl, fun w' _ => (by go_simp; rfl)⟩) hS ?_
            go_frame
            refine till_done (by kernel_rfl) ?_ _
            clear hS
            go_wp2_with fail
            go_ret
            rw [HEV.out, HSV.out]; exact L.out.ret

set_option maxHeartbeats 16000000 in
set_option maxRecDepth 100000 in
theorem rppay_any {w : World} {g : Nat} {s : PS} {F : List Nat} (h : RS w g s F) (hz : s.sz < 1000000) (hf : Fit s) {t n : Int} (h1 : I64 t) (h2 : I64 n) {a b c d : Int} {m : Nat} (hu : UIs a b c d m) :
    Calls Tryz.prog 85 #[.pointer (some ⟨g, 0, none⟩), .int .i64 t, .int .i64 n, .agg #[.int .u64 a, .int .u64 b, .int .u64 c, .int .u64 d]] w (RRet w g F (s.py t n m) (.int .i64 (pyE s t n m))) := by
  have L := Lib.hid (RLiv.start h); have HZ := Lib.hid hz; have HF := Lib.hid hf; have HA1 := Lib.hid h1; have HA2 := Lib.hid h2; have HU := Lib.hid hu
  obtain ⟨gq, hgq⟩ : ∃ q, q = goodP t n m := ⟨_, rfl⟩
  have HG := Lib.hid hgq
  clear h hz hf h1 h2 hu hgq
  go_enter Tryz.func85, Tryz.ntmps85
  go_upto_region 1 with fail
  obtain ⟨w1, hw1⟩ : ∃ w1, w1 = w.alloc (.cells #[.int .u64 a, .int .u64 b, .int .u64 c, .int .u64 d] 33) := ⟨_, rfl⟩
  obtain ⟨X, hX⟩ : ∃ x, x = w.heap.size := ⟨_, rfl⟩
  rw [← hw1, ← hX]
  have HX : Hid (w1.heap[X]? = some (.cells #[.int .u64 a, .int .u64 b, .int .u64 c, .int .u64 d] 33 (0, 0))) := Lib.hid (by rw [hw1, hX]; exact heap_alloc_new _ _)
  have hb : Below w.heap.size w w1 := by rw [hw1]; exact below_new _ _
  clear hw1 hX
  have Lm := Lib.hid (L.out.later hb)
  clear hb L
  have L := Lm
  clear Lm
  go_wp2_with fail
  obtain ⟨bq, hbq⟩ : ∃ q, q = goodB t n := ⟨_, rfl⟩
  obtain ⟨zq, hzq⟩ : ∃ q, q = decide (m = 0) := ⟨_, rfl⟩
  obtain ⟨mq, hmq⟩ : ∃ q, q = decide (m < uHalf) := ⟨_, rfl⟩
  have HP : Hid (goodP t n m = (bq && (!zq) && mq)) := Lib.hid (by unfold goodP; rw [← hbq, ← hzq, ← hmq])
  have HBQ := Lib.hid hbq; have HZQ := Lib.hid hzq; have HMQ := Lib.hid hmq
  clear hbq hzq hmq HG
  refine (rgood_any t n _).mono ?_
  rw [← HBQ.out]
  rintro e _ ⟨rfl, rfl⟩
  cases bq with
  | false =>
    have HGF : Hid (goodP t n m = false) := Lib.hid (by rw [HP.out]; rfl)
    have HEV : Hid (pyE s t n m = 2) := Lib.hid (by unfold pyE; rw [if_pos HGF.out])
    have HSV : Hid (s.py t n m = s) := Lib.hid (by unfold PS.py; rw [if_pos HGF.out])
    go_wp2_with fail
    go_ret
    rw [HEV.out, HSV.out]; exact L.out.ret
  | true =>
    have e7 := Tryz.eqUn HU.out UIs.zero
    rw [← HZQ.out] at e7
    have cX0 : w1.cell? ⟨X, 0, none⟩ = some (.int .u64 a) := Lib.cell_of_heap HX.out 0
    have cX1 : w1.cell? ⟨X, 1, none⟩ = some (.int .u64 b) := Lib.cell_of_heap HX.out 1
    have cX2 : w1.cell? ⟨X, 2, none⟩ = some (.int .u64 c) := Lib.cell_of_heap HX.out 2
    have cX3 : w1.cell? ⟨X, 3, none⟩ = some (.int .u64 d) := Lib.cell_of_heap HX.out 3
    cases zq with
    | true =>
      have HGF : Hid (goodP t n m = false) := Lib.hid (by rw [HP.out]; rfl)
      have HEV : Hid (pyE s t n m = 2) := Lib.hid (by unfold pyE; rw [if_pos HGF.out])
      have HSV : Hid (s.py t n m = s) := Lib.hid (by unfold PS.py; rw [if_pos HGF.out])
      go_wp2_with fail
      go_ret
      rw [HEV.out, HSV.out]; exact L.out.ret
    | false =>
      go_wp2_with fail
      clear e7
      clear cX0 cX1 cX2 cX3
      refine (rmAmount_any HU.out _).mono ?_
      rw [← HMQ.out]
      rintro e a1 ⟨rfl, hb⟩
      have Lm := Lib.hid (L.out.later hb)
      have HXm := Lib.hid (below_at' hb HX.out)
      clear hb L HX
      have L := Lm
      have HX := HXm
      clear Lm HXm
      cases mq with
      | false =>
        have HGF : Hid (goodP t n m = false) := Lib.hid (by rw [HP.out]; rfl)
        have HEV : Hid (pyE s t n m = 2) := Lib.hid (by unfold pyE; rw [if_pos HGF.out])
        have HSV : Hid (s.py t n m = s) := Lib.hid (by unfold PS.py; rw [if_pos HGF.out])
        go_wp2_with fail
        go_ret
        rw [HEV.out, HSV.out]; exact L.out.ret
      | true =>
        have HGT : Hid (goodP t n m = true) := Lib.hid (by rw [HP.out]; rfl)
        have HEV : Hid (pyE s t n m = sendE s (kPool t) (kAcc t n) (keyF 35 [t]) m) := Lib.hid (by unfold pyE; rw [if_neg (by rw [HGT.out]; decide)])
        have HSV : Hid (s.py t n m = s.send (kPool t) (kAcc t n) (keyF 35 [t]) m) := Lib.hid (by unfold PS.py; rw [if_neg (by rw [HGT.out]; decide)])
        go_wp2_with fail
        obtain ⟨a2, hwz⟩ : ∃ wz, wz = a1.drew := ⟨_, rfl⟩
        have hbz : Below a1.heap.size a1 a2 := by rw [hwz]; exact (Below.refl _ _).drew
        have Lm := Lib.hid (L.out.later hbz)
        have HXm := Lib.hid (below_at' hbz HX.out)
        clear hbz L HX
        have L := Lm
        have HX := HXm
        clear Lm HXm
        have hS : a2.heap[X]? = some (.cells #[.int .u64 a, .int .u64 b, .int .u64 c, .int .u64 d] 33 (0, 0)) := HX.out
        refine wp_region_till (fun w' => w'.heap[X]? = some (.cells #[.int .u64 a, .int .u64 b, .int .u64 c, .int .u64 d] 33 (0, 0))) 12 12 (by kernel_rfl) rfl ?_
        rw [← hwz]
        clear hwz
        refine till_take 0 (some 23) rfl rfl (by kernel_rfl) (by kernel_rfl) (by kernel_rfl) (by kernel_rfl) (by kernel_rfl) (by kernel_rfl) (fun _ _ _ h => h) (.inl ⟨by rfl, fun w' _ => (by go_simp; rfl)⟩) hS ?_
        go_frame
        refine till_take 1 (some 24) rfl rfl (by kernel_rfl) (by kernel_rfl) (by kernel_rfl) (by kernel_rfl) (by kernel_rfl) (by kernel_rfl) (fun _ _ _ h => h) (.inl ⟨by rfl, fun w' _ => (by go_simp; rfl)⟩) hS ?_
        go_frame
        refine till_take 3 (some 26) rfl rfl (by kernel_rfl) (by kernel_rfl) (by kernel_rfl) (by kernel_rfl) (by kernel_rfl) (by kernel_rfl) (fun _ _ _ h => h) (.inl ⟨by rfl, fun w' _ => (by go_simp; rfl)⟩) hS ?_
        go_frame
        refine till_take 4 (some 27) rfl rfl (by kernel_rfl) (by kernel_rfl) (by kernel_rfl) (by kernel_rfl) (by kernel_rfl) (by kernel_rfl) (fun _ _ _ h => h) (.inl ⟨by rfl, fun w' _ => (by go_simp; rfl)⟩) hS ?_
        go_frame
        refine till_take 6 (some 29) rfl rfl (by kernel_rfl) (by kernel_rfl) (by kernel_rfl) (by kernel_rfl) (by kernel_rfl) (by kernel_rfl) (fun _ _ _ h => h) (.inl ⟨by rfl, fun w' _ => (by go_simp; rfl)⟩) hS ?_
        go_frame
        refine till_take 9 (some 32) rfl rfl (by kernel_rfl) (by kernel_rfl) (by kernel_rfl) (by kernel_rfl) (by kernel_rfl) (by kernel_rfl) (fun _ _ _ h => h) (yields_load (by rfl) 33 _ rfl (.pointer (some ⟨X, 0, none⟩)) rfl (.agg #[.int .u64 a, .int .u64 b, .int .u64 c, .int .u64 d]) (fun w' hS' => load_heap (hS') Tryz.underlying33 rfl Tryz.sizeU)) hS ?_
        go_frame
        refine till_two 2 7 rfl rfl (by kernel_rfl) (fun K hK => ?_) (fun K hK => ?_)
        · simp only [List.getElem_toArray, List.getElem_cons_succ, List.getElem_cons_zero]
          rw [if_pos (by rfl)]
          go_simp
          refine (rbPool_any HA1.out _).mono ?_
          rintro e a3 ⟨rfl, hb⟩
          have Lm := Lib.hid (L.out.later hb)
          have HXm := Lib.hid (below_at' hb HX.out)
          clear hb L HX
          have L := Lm
          have HX := HXm
          clear Lm HXm
          have hS2 : a3.heap[X]? = some (.cells #[.int .u64 a, .int .u64 b, .int .u64 c, .int .u64 d] 33 (0, 0)) := HX.out
          refine hK _ _ (fun _ _ => hS2) ?_
          clear hK hS
          have hS := hS2
          clear hS2
          refine till_two 5 7 rfl rfl (by kernel_rfl) (fun K hK => ?_) (fun K hK => ?_)
          · simp only [List.getElem_toArray, List.getElem_cons_succ, List.getElem_cons_zero]
            rw [if_pos (by rfl)]
            go_simp
            refine (rbAcc_any HA1.out HA2.out _).mono ?_
            rintro e a4 ⟨rfl, hb⟩
            have Lm := Lib.hid (L.out.later hb)
            have HXm := Lib.hid (below_at' hb HX.out)
            clear hb L HX
            have L := Lm
            have HX := HXm
            clear Lm HXm
            have hS2 : a4.heap[X]? = some (.cells #[.int .u64 a, .int .u64 b, .int .u64 c, .int .u64 d] 33 (0, 0)) := HX.out
            refine hK _ _ (fun _ _ => hS2) ?_
            clear hK hS
            have hS := hS2
            clear hS2
            refine till_one 7 rfl (by kernel_rfl) fun K hK => ?_
            simp only [List.getElem_toArray, List.getElem_cons_succ, List.getElem_cons_zero]
            rw [if_pos (by rfl)]
            go_simp
            obtain ⟨a5, hwl⟩ : ∃ wl, wl = World.alloc a4 (.cells #[.int .i64 t] 3) := ⟨_, rfl⟩
            obtain ⟨gl, hgl⟩ : ∃ gl, gl = (World.heap a4).size := ⟨_, rfl⟩
            rw [← hwl, ← hgl]
            have HOIz : Hid (Own a5 0 3 intE 1 (.slice (some ⟨gl, 0, none⟩) 1 1) [t]) := Lib.hid (own_lit (l := [t]) (by rw [hwl, hgl]; exact heap_alloc_new _ _) (Nat.zero_le _) (by unfold maxLen; simp))
            have hb : Below (World.heap a4).size a4 a5 := by rw [hwl]; exact below_new _ _
            clear hwl hgl
            have Lm := Lib.hid (L.out.later hb)
            have HXm := Lib.hid (below_at' hb HX.out)
            clear hb L HX
            have L := Lm
            have HX := HXm
            clear Lm HXm
            have HOI := HOIz
            clear HOIz
            have hS2 : a5.heap[X]? = some (.cells #[.int .u64 a, .int .u64 b, .int .u64 c, .int .u64 d] 33 (0, 0)) := HX.out
            refine hK _ _ (fun _ _ => hS2) ?_
            clear hK hS
            have hS := hS2
            clear hS2
            refine till_one 8 rfl (by kernel_rfl) fun K hK => ?_
            simp only [List.getElem_toArray, List.getElem_cons_succ, List.getElem_cons_zero]
            rw [if_pos (by rfl)]
            go_simp
            refine (refKey_any 35 [t] _ _ (by simp) (I64s.one HA1.out) (HOI.out.rd fun _ => rfl)).mono ?_
            rintro e a6 ⟨rfl, hb⟩
            have Lm := Lib.hid (L.out.later hb)
            have HXm := Lib.hid (below_at' hb HX.out)
            have HOIm := Lib.hid (HOI.out.later hb)
            clear hb L HX HOI
            have L := Lm
            have HX := HXm
            have HOI := HOIm
            clear Lm HXm HOIm
            clear HOI
            have hS2 : a6.heap[X]? = some (.cells #[.int .u64 a, .int .u64 b, .int .u64 c, .int .u64 d] 33 (0, 0)) := HX.out
            refine hK _ _ (fun _ _ => hS2) ?_
            clear hK hS
            have hS := hS2
            clear hS2
            refine till_one 10 rfl (by kernel_rfl) fun K hK => ?_
            simp only [List.getElem_toArray, List.getElem_cons_succ, List.getElem_cons_zero]
            rw [if_pos (by rfl)]
            go_simp
            refine (L.out.call fun F hs => both_any hs (by have := HZ.out; omega) HF.out (kPool t) (kAcc t n) (keyF 35 [t]) HU.out).mono ?_
            rintro e a7 ⟨rfl, o, hoth⟩
            have Lm := Lib.hid o
            have HXm := Lib.hid (hoth.2 X _ HX.out rfl rfl)
            clear o hoth L HX
            have L := Lm
            have HX := HXm
            clear Lm HXm
            have hS2 : a7.heap[X]? = some (.cells #[.int .u64 a, .int .u64 b, .int .u64 c, .int .u64 d] 33 (0, 0)) := HX.out
            refine hK _ _ (fun _ _ => hS2) ?_
            clear hK hS
            have hS := hS2
            clear hS2
            refine till_take 11 (some 8) rfl rfl (by kernel_rfl) (by kernel_rfl) (by kernel_rfl) (by kernel_rfl) (by kernel_rfl) (by kernel_rfl) (fun _ _ _ h => h) (.inl ⟨by rfl, fun w' _ => (by go_simp; rfl)⟩) hS ?_
            go_frame
            refine till_done (by kernel_rfl) ?_ _
            clear hS
            go_wp2_with fail
            go_ret
            rw [HEV.out, HSV.out]; exact L.out.ret
          · simp only [List.getElem_toArray, List.getElem_cons_succ, List.getElem_cons_zero]
            rw [if_pos (by rfl)]
            go_simp
            obtain ⟨a4, hwl⟩ : ∃ wl, wl = World.alloc a3 (.cells #[.int .i64 t] 3) := ⟨_, rfl⟩
            obtain ⟨gl, hgl⟩ : ∃ gl, gl = (World.heap a3).size := ⟨_, rfl⟩
            rw [← hwl, ← hgl]
            have HOIz : Hid (Own a4 0 3 intE 1 (.slice (some ⟨gl, 0, none⟩) 1 1) [t]) := Lib.hid (own_lit (l := [t]) (by rw [hwl, hgl]; exact heap_alloc_new _ _) (Nat.zero_le _) (by unfold maxLen; simp))
            have hb : Below (World.heap a3).size a3 a4 := by rw [hwl]; exact below_new _ _
            clear hwl hgl
            have Lm := Lib.hid (L.out.later hb)
            have HXm := Lib.hid (below_at' hb HX.out)
            clear hb L HX
            have L := Lm
            have HX := HXm
            clear Lm HXm
            have HOI := HOIz
            clear HOIz
            have hS2 : a4.heap[X]? = some (.cells #[.int .u64 a, .int .u64 b, .int .u64 c, .int .u64 d] 33 (0, 0)) := HX.out
            refine hK _ _ (fun _ _ => hS2) ?_
            clear hK hS
            have hS := hS2
            clear hS2
            refine till_one 5 rfl (by kernel_rfl) fun K hK => ?_
            simp only [List.getElem_toArray, List.getElem_cons_succ, List.getElem_cons_zero]
            rw [if_pos (by rfl)]
            go_simp
            refine (rbAcc_any HA1.out HA2.out _).mono ?_
            rintro e a5 ⟨rfl, hb⟩
            have Lm := Lib.hid (L.out.later hb)
            have HXm := Lib.hid (below_at' hb HX.out)
            have HOIm := Lib.hid (HOI.out.later hb)
            clear hb L HX HOI
            have L := Lm
            have HX := HXm
            have HOI := HOIm
            clear Lm HXm HOIm
            have hS2 : a5.heap[X]? = some (.cells #[.int .u64 a, .int .u64 b, .int .u64 c, .int .u64 d] 33 (0, 0)) := HX.out
            refine hK _ _ (fun _ _ => hS2) ?_
            clear hK hS
            have hS := hS2
            clear hS2
            refine till_one 8 rfl (by kernel_rfl) fun K hK => ?_
            simp only [List.getElem_toArray, List.getElem_cons_succ, List.getElem_cons_zero]
            rw [if_pos (by rfl)]
            go_simp
            refine (refKey_any 35 [t] _ _ (by simp) (I64s.one HA1.out) (HOI.out.rd fun _ => rfl)).mono ?_
            rintro e a6 ⟨rfl, hb⟩
            have Lm := Lib.hid (L.out.later hb)
            have HXm := Lib.hid (below_at' hb HX.out)
            have HOIm := Lib.hid (HOI.out.later hb)
            clear hb L HX HOI
            have L := Lm
            have HX := HXm
            have HOI := HOIm
            clear Lm HXm HOIm
            clear HOI
            have hS2 : a6.heap[X]? = some (.cells #[.int .u64 a, .int .u64 b, .int .u64 c, .int .u64 d] 33 (0, 0)) := HX.out
            refine hK _ _ (fun _ _ => hS2) ?_
            clear hK hS
            have hS := hS2
            clear hS2
            refine till_one 10 rfl (by kernel_rfl) fun K hK => ?_
            simp only [List.getElem_toArray, List.getElem_cons_succ, List.getElem_cons_zero]
            rw [if_pos (by rfl)]
            go_simp
            refine (L.out.call fun F hs => both_any hs (by have := HZ.out; omega) HF.out (kPool t) (kAcc t n) (keyF 35 [t]) HU.out).mono ?_
            rintro e a7 ⟨rfl, o, hoth⟩
            have Lm := Lib.hid o
            have HXm := Lib.hid (hoth.2 X _ HX.out rfl rfl)
            clear o hoth L HX
            have L := Lm
            have HX := HXm
            clear Lm HXm
            have hS2 : a7.heap[X]? = some (.cells #[.int .u64 a, .int .u64 b, .int .u64 c, .int .u64 d] 33 (0, 0)) := HX.out
            refine hK _ _ (fun _ _ => hS2) ?_
            clear hK hS
            have hS := hS2
            clear hS2
            refine till_take 11 (some 8) rfl rfl (by kernel_rfl) (by kernel_rfl) (by kernel_rfl) (by kernel_rfl) (by kernel_rfl) (by kernel_rfl) (fun _ _ _ h => h) (.inl ⟨by rfl, fun w' _ => (by go_simp; rfl)⟩) hS ?_
            go_frame
            refine till_done (by kernel_rfl) ?_ _
            clear hS
            go_wp2_with fail
            go_ret
            rw [HEV.out, HSV.out]; exact L.out.ret
        · simp only [List.getElem_toArray, List.getElem_cons_succ, List.getElem_cons_zero]
          rw [if_pos (by rfl)]
          go_simp
          obtain ⟨a3, hwl⟩ : ∃ wl, wl = World.alloc a2 (.cells #[.int .i64 t] 3) := ⟨_, rfl⟩
          obtain ⟨gl, hgl⟩ : ∃ gl, gl = (World.heap a2).size := ⟨_, rfl⟩
          rw [← hwl, ← hgl]
          have HOIz : Hid (Own a3 0 3 intE 1 (.slice (some ⟨gl, 0, none⟩) 1 1) [t]) := Lib.hid (own_lit (l := [t]) (by rw [hwl, hgl]; exact heap_alloc_new _ _) (Nat.zero_le _) (by unfold maxLen; simp))
          have hb : Below (World.heap a2).size a2 a3 := by rw [hwl]; exact below_new _ _
          clear hwl hgl
          have Lm := Lib.hid (L.out.later hb)
          have HXm := Lib.hid (below_at' hb HX.out)
          clear hb L HX
          have L := Lm
          have HX := HXm
          clear Lm HXm
          have HOI := HOIz
          clear HOIz
          have hS2 : a3.heap[X]? = some (.cells #[.int .u64 a, .int .u64 b, .int .u64 c, .int .u64 d] 33 (0, 0)) := HX.out
          refine hK _ _ (fun _ _ => hS2) ?_
          clear hK hS
          have hS := hS2
          clear hS2
          refine till_one 2 rfl (by kernel_rfl) fun K hK => ?_
          simp only [List.getElem_toArray, List.getElem_cons_succ, List.getElem_cons_zero]
          rw [if_pos (by rfl)]
          go_simp
          refine (rbPool_any HA1.out _).mono ?_
          rintro e a4 ⟨rfl, hb⟩
          have Lm := Lib.hid (L.out.later hb)
          have HXm := Lib.hid (below_at' hb HX.out)
          have HOIm := Lib.hid (HOI.out.later hb)
          clear hb L HX HOI
          have L := Lm
          have HX := HXm
          have HOI := HOIm
          clear Lm HXm HOIm
          have hS2 : a4.heap[X]? = some (.cells #[.int .u64 a, .int .u64 b, .int .u64 c, .int .u64 d] 33 (0, 0)) := HX.out
          refine hK _ _ (fun _ _ => hS2) ?_
          clear hK hS
          have hS := hS2
          clear hS2
          refine till_one 5 rfl (by kernel_rfl) fun K hK => ?_
          simp only [List.getElem_toArray, List.getElem_cons_succ, List.getElem_cons_zero]
          rw [if_pos (by rfl)]
          go_simp
          refine (rbAcc_any HA1.out HA2.out _).mono ?_
          rintro e a5 ⟨rfl, hb⟩
          have Lm := Lib.hid (L.out.later hb)
          have HXm := Lib.hid (below_at' hb HX.out)
          have HOIm := Lib.hid (HOI.out.later hb)
          clear hb L HX HOI
          have L := Lm
          have HX := HXm
          have HOI := HOIm
          clear Lm HXm HOIm
          have hS2 : a5.heap[X]? = some (.cells #[.int .u64 a, .int .u64 b, .int .u64 c, .int .u64 d] 33 (0, 0)) := HX.out
          refine hK _ _ (fun _ _ => hS2) ?_
          clear hK hS
          have hS := hS2
          clear hS2
          refine till_one 8 rfl (by kernel_rfl) fun K hK => ?_
          simp only [List.getElem_toArray, List.getElem_cons_succ, List.getElem_cons_zero]
          rw [if_pos (by rfl)]
          go_simp
          refine (refKey_any 35 [t] _ _ (by simp) (I64s.one HA1.out) (HOI.out.rd fun _ => rfl)).mono ?_
          rintro e a6 ⟨rfl, hb⟩
          have Lm := Lib.hid (L.out.later hb)
          have HXm := Lib.hid (below_at' hb HX.out)
          have HOIm := Lib.hid (HOI.out.later hb)
          clear hb L HX HOI
          have L := Lm
          have HX := HXm
          have HOI := HOIm
          clear Lm HXm HOIm
          clear HOI
          have hS2 : a6.heap[X]? = some (.cells #[.int .u64 a, .int .u64 b, .int .u64 c, .int .u64 d] 33 (0, 0)) := HX.out
          refine hK _ _ (fun _ _ => hS2) ?_
          clear hK hS
          have hS := hS2
          clear hS2
          refine till_one 10 rfl (by kernel_rfl) fun K hK => ?_
          simp only [List.getElem_toArray, List.getElem_cons_succ, List.getElem_cons_zero]
          rw [if_pos (by rfl)]
          go_simp
          refine (L.out.call fun F hs => both_any hs (by have := HZ.out; omega) HF.out (kPool t) (kAcc t n) (keyF 35 [t]) HU.out).mono ?_
          rintro e a7 ⟨rfl, o, hoth⟩
          have Lm := Lib.hid o
          have HXm := Lib.hid (hoth.2 X _ HX.out rfl rfl)
          clear o hoth L HX
          have L := Lm
          have HX := HXm
          clear Lm HXm
          have hS2 : a7.heap[X]? = some (.cells #[.int .u64 a, .int .u64 b, .int .u64 c, .int .u64 d] 33 (0, 0)) := HX.out
          refine hK _ _ (fun _ _ => hS2) ?_
          clear hK hS
          have hS := hS2
          clear hS2
          refine till_take 11 (some 8) rfl rfl (by kernel_rfl) (by kernel_rfl) (by kernel_rfl) (by kernel_rfl) (by kernel_rfl) (by kernel_rfl) (fun _ _ _ h => h) (.inl ⟨by rfl, fun w' _ => (by go_simp; rfl)⟩) hS ?_
          go_frame
          refine till_done (by kernel_rfl) ?_ _
          clear hS
          go_wp2_with fail
          go_ret
          rw [HEV.out, HSV.out]; exact L.out.ret
end
section
open Go.RowKit

/-- tallagelaw31.Act, read. -/
structure Act31 where
  pay : Bool
  who : Int
  t : Int
  m : Nat
def act31E (a : Act31) : List Value := [.bool a.pay, .int .i64 a.who, .int .i64 a.t, .int .u64 (uw0 a.m), .int .u64 (uw1 a.m), .int .u64 (uw2 a.m), .int .u64 (uw3 a.m)]
theorem act31E_len (a : Act31) : (act31E a).length = 7 := rfl
structure Good31 (w : World) (a : Act31) : Prop where
  b_who : -9223372036854775808 ≤ a.who ∧ a.who < 9223372036854775808
  b_t : -9223372036854775808 ≤ a.t ∧ a.t < 9223372036854775808
  lt_m : a.m < uMax
theorem Good31.later {w w' : World} {a : Act31} (h : Good31 w a) (_hb : Below w.heap.size w w') : Good31 w' a := ⟨h.b_who, h.b_t, h.lt_m⟩
theorem Rd.act31 {w : World} {ad : Option Addr} {n cap : Nat} {t : List Act31} (h : Rd w act31E 7 (.slice ad n cap) t) (i : Nat) (hi : i < t.length) :
    ∃ g off, ad = some ⟨g, off, none⟩ ∧ g < w.heap.size ∧ w.cell? ⟨g, off + i * 7, none⟩ = some (.bool t[i].pay) ∧ w.cell? ⟨g, off + i * 7 + 1, none⟩ = some (.int .i64 t[i].who) ∧ w.cell? ⟨g, off + i * 7 + 2, none⟩ = some (.int .i64 t[i].t) ∧ w.cell? ⟨g, off + i * 7 + 3, none⟩ = some (.int .u64 (uw0 t[i].m)) ∧ w.cell? ⟨g, off + i * 7 + 4, none⟩ = some (.int .u64 (uw1 t[i].m)) ∧ w.cell? ⟨g, off + i * 7 + 5, none⟩ = some (.int .u64 (uw2 t[i].m)) ∧ w.cell? ⟨g, off + i * 7 + 6, none⟩ = some (.int .u64 (uw3 t[i].m)) := by
  have hne : t ≠ [] := by rintro rfl; simp at hi
  obtain ⟨ax, cx, e3, _, _, h3⟩ := h
  obtain ⟨b, off, e4, hb, h5⟩ := h3 hne
  exact ⟨b, off, (Value.slice.inj e3).1.trans e4, hb, h5 i hi 0 (by decide), h5 i hi 1 (by decide), h5 i hi 2 (by decide), h5 i hi 3 (by decide), h5 i hi 4 (by decide), h5 i hi 5 (by decide), h5 i hi 6 (by decide)⟩
theorem Tryz.zeroAct31 (w : World) : (zeroValue 60).run Tryz.prog w = .ok (.agg #[.bool false, .int .i64 0, .int .i64 0, .int .u64 0, .int .u64 0, .int .u64 0, .int .u64 0]) w := by kernel_rfl
theorem Tryz.sizeAct31 : (Tryz.prog.info? 60).map (·.size) = some 7 := by kernel_rfl
theorem Two.up {w0 w : World} {g h : Nat} {s1 s2 : PS} (t : Two w0 w g h s1 s2) : Up s1.t := by
  obtain ⟨F, G, h1, _⟩ := t; exact h1.up
theorem two_cells {w w' w0 : World} {g h : Nat} {s s2 : PS} {X : Nat} {cs : Array Value} {T : TypeId} (t : Two w0 w g h s s2) (hX : w.heap[X]? = some (.cells cs T (0, 0))) (hT : stoKind (.cells cs T (0, 0)) = false) (hR : rstKind (.cells cs T (0, 0)) = false) (hk : Keep (· = X) w w') (hw : w0.heap.size ≤ X) : Two w0 w' g h s s2 := by
  obtain ⟨F, G, h1, h2, h3, h4, h5⟩ := t
  refine ⟨F, G, h1.keep hk fun x hx e => ?_, h2.keep hk fun x hx e => ?_, h3, h4, h5.trans (hk.below (B := w0.heap.size) (fun y hy e => by omega) h5.size)⟩
  · obtain ⟨o, ho, hs⟩ := h1.kind x hx
    subst e
    rw [hX] at ho
    cases ho
    rw [hT] at hs
    cases hs
  · obtain ⟨o, ho, hs⟩ := h2.kind x hx
    subst e
    rw [hX] at ho
    cases ho
    rw [hR] at hs
    cases hs
/-- The world of law 31: services 8 and 9, and tokens. -/
def wS1 (s : PS) (who : Int) : PS := ((s.reg who).mint 1 who 100000).mint 2 who 100000
def wSq : Nat → PS
  | 0 => PS.new
  | i + 1 => wS1 (wSq i) (8 + (i : Int))

theorem wSq_succ (i : Nat) : wSq (i + 1) = wS1 (wSq i) (8 + (i : Int)) := rfl
theorem wS1_eq (s : PS) (who : Int) : wS1 s who = ((s.reg who).mint 1 who 100000).mint 2 who 100000 := rfl

set_option maxHeartbeats 8000000 in
set_option maxRecDepth 100000 in
theorem world31_any (w : World) : Calls Tryz.prog 35 #[] w (fun e w' => ∃ g h, e = .returned (.tuple #[.pointer (some ⟨g, 0, none⟩), .pointer (some ⟨h, 0, none⟩)]) ∧ Two w w' g h (wSq 2) (wSq 2)) := by
  have HB : Hid (Below w.heap.size w w) := Lib.hid (Below.refl _ _)
  go_enter Tryz.func35, Tryz.ntmps35
  go_wp2_with fail
  refine (snew_any _).mono ?_
  rintro e w3 ⟨g, F, rfl, q1, hb3, q3⟩
  have Q1 := Lib.hid q1; have HB3 := Lib.hid (HB.out.trans (hb3.mono HB.out.size)); have Q3 : Hid (∀ x ∈ F, w.heap.size ≤ x) := Lib.hid fun x hx => Nat.le_trans HB.out.size (q3 x hx)
  clear q1 hb3 q3
  go_wp2_with fail
  obtain ⟨w4, hw4⟩ : ∃ w4, w4 = w3.alloc (.cells #[.slice none 0 0, .slice none 0 0] 30) := ⟨_, rfl⟩
  obtain ⟨h, hh⟩ : ∃ h, h = w3.heap.size := ⟨_, rfl⟩
  rw [← hw4, ← hh]
  have TW : Hid (Two w w4 g h PS.new PS.new) := Lib.hid (by
    have hb4 : Below w3.heap.size w3 w4 := by rw [hw4]; exact (Below.refl _ _).alloc (Nat.le_refl _) _
    have hx4 : w4.heap[h]? = some (.cells #[.slice none 0 0, .slice none 0 0] 30 (0, 0)) := by rw [hw4, hh]; exact heap_alloc_new _ _
    have hrs : RS w4 h PS.new (rfoot h (.slice none 0 0) (.slice none 0 0)) := ⟨_, _, ⟨hx4, LO.nil _ _ _ _, LO.nil _ _ _ _, List.Pairwise.nil⟩, rfl⟩
    refine ⟨F, _, Q1.out.later hb4, hrs, Q3.out, fun x hx => ?_, HB3.out.trans (hb4.mono HB3.out.size)⟩
    rw [rfoot_eq] at hx
    rcases hx with e | e | e
    · rw [e, hh]; exact HB3.out.size
    · cases e
    · cases e)
  clear hw4 hh Q1 Q3 HB3
  go_wp2_with fail
  go_loopw [4] (fun vi wr => ∃ (i : Nat) (s : PS), vi = .int .i64 (8 + (i : Int)) ∧ i ≤ 2 ∧ Hid (s = wSq i) ∧ Hid (s.sz ≤ 20 * i) ∧ Hid (Fit s) ∧ Hid (Two w wr g h s s)) (fun vi _ => (10 - intOf vi).toNat)
  case atStart => exact ⟨0, _, rfl, by omega, Lib.hid rfl, Lib.hid (Nat.le_refl _), Lib.hid Fit.new, TW⟩
  case round =>
    clear TW
    obtain ⟨i, s, rfl, hi, HS, HZ, HF, TF⟩ := hrel
    obtain ⟨wh, hwh⟩ : ∃ x : Int, x = 8 + (i : Int) := ⟨_, rfl⟩
    rw [← hwh]
    by_cases hlt : i < 2
    · have hw9 : wh ≤ 9 := by omega
      have hw8 : 8 ≤ wh := by omega
      have HWI : Hid (I64 wh) := Lib.hid (by unfold I64; omega)
      have HWH := Lib.hid hwh
      have HI := Lib.hid hlt
      clear hwh hlt hi
      obtain ⟨s1, hs1⟩ : ∃ z, z = s.reg wh := ⟨_, rfl⟩
      have HS1 := Lib.hid hs1
      have HF1 : Hid (Fit s1 ∧ s1.sz ≤ 20 * i + 2) := Lib.hid ⟨by rw [hs1]; exact reg_fit HF.out _, by have h8 := reg_sz s wh; have h9 := HZ.out; rw [hs1]; omega⟩
      clear hs1
      go_wp2_with fail
      refine (TF.out.st fun F hs => sreg_any hs (by have := HZ.out; have := HI.out; omega) HF.out HWI.out).mono ?_
      rw [← HS1.out]
      rintro e a1 ⟨rfl, o, hoth⟩
      have TFm := Lib.hid o
      clear o hoth TF
      have TF := TFm
      clear TFm
      go_wp2_with fail
      refine (TF.out.rs fun F hs => rreg26_any hs (by have := HZ.out; have := HI.out; omega) HF.out HWI.out).mono ?_
      rw [← HS1.out]
      rintro e a2 ⟨rfl, o, hoth⟩
      have TFm := Lib.hid o
      clear o hoth TF
      have TF := TFm
      clear TFm
      go_wp2_with fail
      go_loopw [5] (fun vj wr => ∃ (j : Nat) (sj : PS), vj = .int .i64 (1 + (j : Int)) ∧ j ≤ 2 ∧ Hid (sj = if j = 0 then s1 else if j = 1 then s1.mint 1 wh 100000 else (s1.mint 1 wh 100000).mint 2 wh 100000) ∧ Hid (Fit sj ∧ sj.sz ≤ 20 * i + 2 + 4 * j) ∧ Hid (Two w wr g h sj sj)) (fun vj _ => (3 - intOf vj).toNat)
      case atStart => exact ⟨0, s1, rfl, by omega, Lib.hid rfl, HF1, TF⟩
      case round =>
        clear TF
        obtain ⟨j, sj, rfl, hj, HSJ, HFJ, TF⟩ := hrel
        obtain ⟨tk, htk⟩ : ∃ x : Int, x = 1 + (j : Int) := ⟨_, rfl⟩
        rw [← htk]
        by_cases hlt : j < 2
        · have ht2 : tk ≤ 2 := by omega
          have ht1 : 1 ≤ tk := by omega
          have HTI : Hid (I64 tk) := Lib.hid (by unfold I64; omega)
          have HUP := Lib.hid TF.out.up
          obtain ⟨s2, hs2⟩ : ∃ z, z = sj.mint tk wh 100000 := ⟨_, rfl⟩
          have HSN : Hid (s2 = if j + 1 = 0 then s1 else if j + 1 = 1 then s1.mint 1 wh 100000 else (s1.mint 1 wh 100000).mint 2 wh 100000) := Lib.hid (by
            rw [hs2, HSJ.out]
            rcases (show j = 0 ∨ j = 1 by omega) with rfl | rfl
            · obtain rfl : tk = 1 := by omega
              rw [if_pos rfl, if_neg (by decide), if_pos (by decide)]
            · obtain rfl : tk = 2 := by omega
              rw [if_neg (by decide), if_pos rfl, if_neg (by decide), if_neg (by decide)])
          have HFN : Hid (Fit s2 ∧ s2.sz ≤ 20 * i + 2 + 4 * (j + 1)) := Lib.hid ⟨by rw [hs2]; exact mint_fit HFJ.out.1 HUP.out _ _ _, by have h8 := mint_sz HUP.out tk wh 100000; have h9 := HFJ.out.2; rw [hs2]; omega⟩
          have HS2 := Lib.hid hs2; have HJ := Lib.hid hlt; have HTK := Lib.hid htk
          clear hs2 hlt hj htk
          go_wp2_with fail
          refine (TF.out.st fun F hs => mint_any hs (by have := HFJ.out.2; have := HI.out; have := HJ.out; omega) HFJ.out.1 HTI.out HWI.out (m := 100000) (by unfold UIs; omega)).mono ?_
          rw [← HS2.out]
          rintro e d1 ⟨rfl, o, hoth⟩
          have TFm := Lib.hid o
          clear o hoth TF
          have TF := TFm
          clear TFm
          go_wp2_with fail
          refine (TF.out.rs fun F hs => rmint_any hs (by have := HFJ.out.2; have := HI.out; have := HJ.out; omega) HFJ.out.1 HTI.out HWI.out (m := 100000) (by unfold UIs; omega)).mono ?_
          rw [← HS2.out]
          rintro e d2 ⟨rfl, o, hoth⟩
          have TFm := Lib.hid o
          clear o hoth TF
          have TF := TFm
          clear TFm
          go_wp2_with fail
          go_roundw
          case rel => exact ⟨j + 1, s2, by rw [HTK.out]; first | rfl | (congr 1; omega), HJ.out, HSN, HFN, TF⟩
          case measure => have := HTK.out; have := HJ.out; simp [intOf]; omega
        · obtain rfl : j = 2 := by omega
          obtain rfl : tk = 3 := by omega
          have HSN : Hid (sj = wSq (i + 1)) := Lib.hid (by
            have h9 := HSJ.out
            rw [if_neg (by decide), if_neg (by decide)] at h9
            rw [h9, HS1.out, HWH.out, HS.out, wSq_succ, wS1_eq])
          have HFN := HFJ
          clear hlt hj htk
          go_wp2_with fail
          go_roundw
          case rel => exact ⟨i + 1, sj, by rw [HWH.out]; first | rfl | (congr 1; omega), HI.out, HSN, Lib.hid (by have := HFN.out.2; omega), Lib.hid HFN.out.1, TF⟩
          case measure => have := HWH.out; have := HI.out; simp [intOf]; omega
    · obtain rfl : i = 2 := by omega
      obtain rfl : wh = 10 := by omega
      have HSF : Hid (wSq 2 = s) := Lib.hid HS.out.symm
      clear hlt hi hwh
      go_wp2_with fail
      go_ret2
      exact ⟨g, h, rfl, by rw [HSF.out]; exact TF.out⟩

set_option maxHeartbeats 8000000 in
set_option maxRecDepth 100000 in
theorem lives31_any (w : World) : Calls Tryz.prog 34 #[] w (Ret w (.bool true)) := by
  have a1 : psubE (wSq 2) 9 1 10 = 0 := by decide +kernel
  have a2 : pyE ((wSq 2).psub 9 1 10) 1 5 4 = 0 := by decide +kernel
  have a3 : amtV (getP (((wSq 2).psub 9 1 10).py 1 5 4).t) (keyF 4 [1]) = 6 := by decide +kernel
  have a4 : ∀ p ∈ (wSq 2).t, p.2.length ≤ 1000000 := by decide +kernel
  have a5 : (wSq 2).sz < 1000 := by decide +kernel
  obtain ⟨s0, hs0⟩ : ∃ s, s = wSq 2 := ⟨_, rfl⟩
  obtain ⟨s1, hs1⟩ : ∃ s, s = s0.psub 9 1 10 := ⟨_, rfl⟩
  obtain ⟨s2, hs2⟩ : ∃ s, s = s1.py 1 5 4 := ⟨_, rfl⟩
  rw [← hs0] at a1 a2 a3 a4 a5
  rw [← hs1] at a2 a3
  rw [← hs2] at a3
  have a6 : Fit s1 ∧ s1.sz < 2000 := ⟨by rw [hs1]; exact psub_fit a4 _ _ _, by have := psub_sz s0 9 1 10; rw [hs1]; omega⟩
  have a7 : Fit s2 := by rw [hs2]; exact py_fit a6.1 _ _ _
  have A1 := Lib.hid a1; have A2 := Lib.hid a2; have A3 := Lib.hid a3; have A4 := Lib.hid a4; have A5 := Lib.hid a5; have A6 := Lib.hid a6; have A7 := Lib.hid a7; have S0 := Lib.hid hs0; have S1 := Lib.hid hs1; have S2 := Lib.hid hs2
  clear a1 a2 a3 a4 a5 a6 a7 hs0 hs1 hs2
  go_enter Tryz.func34, Tryz.ntmps34
  go_wp2_with fail
  refine (world31_any _).mono ?_
  rw [← S0.out]
  rintro e w1 ⟨g, h, rfl, t1⟩
  have O : Hid (One w w1 g s0) := Lib.hid t1.one
  clear t1
  go_wp2_with fail
  refine (O.out.st fun F hs => psubmit_any hs (by have := A5.out; omega) A4.out (v := 9) (t := 1) (by unfold I64; omega) (by unfold I64; omega) (m := 10) (by unfold UIs; omega)).mono ?_
  rw [A1.out, ← S1.out]
  rintro e w2 ⟨rfl, o, _⟩
  have Om := Lib.hid o
  clear o O
  have O := Om
  clear Om
  go_wp2_with fail
  refine (O.out.st fun F hs => ppay_any hs (by have := A6.out.2; omega) A6.out.1 (t := 1) (n := 5) (by unfold I64; omega) (by unfold I64; omega) (m := 4) (by unfold UIs; omega)).mono ?_
  rw [A2.out, ← S2.out]
  rintro e w3 ⟨rfl, o, _⟩
  have Om := Lib.hid o
  clear o O
  have O := Om
  clear Om
  go_wp2_with fail
  obtain ⟨F3, h3⟩ := O.out.get
  refine (pleft_any (Look.of_st h3) A7.out.f (t := 1) (by unfold I64; omega)).mono ?_
  rw [A3.out]
  rintro e w4 ⟨ya, yb, yc, yd, hu, rfl, hb⟩
  have e7 := Tryz.eqUn hu (a' := 6) (b' := 0) (c' := 0) (d' := 0) (m := 6) (by unfold UIs; omega)
  rw [decide_eq_true rfl] at e7
  have Om := Lib.hid (O.out.later hb)
  clear hb O hu h3
  have O := Om
  clear Om
  go_wp2_with fail
  clear e7
  obtain ⟨F4, h4⟩ := O.out.get
  refine (smade_any h4).mono ?_
  rintro e _ ⟨rfl, rfl⟩
  clear h4
  go_wp2_with fail
  go_ret
  exact ⟨rfl, O.out.below⟩
/-- What an act does to a store. -/
def do31 (s : PS) (a : Act31) : PS := if a.pay then s.py a.t a.who a.m else s.psub a.who a.t a.m
theorem do31_sz (s : PS) (a : Act31) : (do31 s a).sz ≤ s.sz + 6 := by
  unfold do31; split
  · exact py_sz _ _ _ _
  · exact psub_sz _ _ _ _
theorem do31_fit {s : PS} (hf : Fit s) (a : Act31) : Fit (do31 s a) := by
  unfold do31; split
  · exact py_fit hf _ _ _
  · exact psub_fit hf _ _ _
theorem wSq_fit : Fit (wSq 2) := by
  have a4 : ∀ p ∈ (wSq 2).t, p.2.length ≤ 1000000 := by decide +kernel
  exact a4
theorem wSq_sz : (wSq 2).sz < 1000 := by decide +kernel
end
end Go.Proofs.YthnjakomkdlglaaGreat
