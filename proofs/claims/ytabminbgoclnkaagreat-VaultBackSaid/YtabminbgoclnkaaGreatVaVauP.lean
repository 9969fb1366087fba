/- Vaults: what their functions say and do, plain. No condition. -/
import Derived.Test.YtabminbgoclnkaaGreatVaBnkF
namespace Go.Proofs.YtabminbgoclnkaaGreat
open Go.RowKit

def kCnt:Txt:=keyF 5 []
def kInf (g:Int):Txt:=keyF 5 [g]
def kTot (g:Int):Txt:=keyF 7 [g]
def kStk (t g:Int):Txt:=keyF 6 [t,g]
def kSink (t:Int):Txt:=keyF 3 [t]
def infL:List Int→Option (Int × Bool)
 | [a,b]=>some (a,b == 1)
 | _=>none
def infF (f:Txt→Option Txt) (g:Int):Option (Int × Bool):=infL (rowF (valF f (kInf g)))
def infT (f:Txt→Option Txt) (g:Int):Int:=match infF f g with | some p=>p.1 | none=>0
def infO (f:Txt→Option Txt) (g:Int):Bool:=match infF f g with | some p=>p.2 | none=>false
def infK (f:Txt→Option Txt) (g:Int):Bool:=(infF f g).isSome
theorem h0A {l:List Int} (h:l.length≠2):infL l=none:=by
 match l,h with
 | [],_=>rfl
 | [_],_=>rfl
 | [_,_],h=>exact absurd rfl h
 | _ :: _ :: _ :: _,_=>rfl
theorem i0d {l:List Int} (h:l.length=2):∃ a b,l = [a,b]:=by
 match l,h with
 | [a,b],_=>exact ⟨a,b,rfl⟩
theorem a0z {f:Txt→Option Txt} {g t:Int} {on:Bool} (h:infF f g=some (t,on)):0≤t∧t < 9223372036854775808:=by
 unfold infF at h
 by_cases h2:(rowF (valF f (kInf g))).length=2
 ·obtain ⟨a,b,e⟩:=i0d h2;rw [e] at h
  cases h
  exact f0t (valF f (kInf g)) t (by rw [e];simp)
 ·rw [h0A h2] at h;cases h
theorem a0v {f:Txt→Option Txt} {g t:Int} {on:Bool} (h:infF f g=some (t,on)):infT f g=t∧infO f g=on∧infK f g=true:=by
 unfold infT infO infK;rw [h];exact ⟨rfl,rfl,rfl⟩
theorem a0s {f:Txt→Option Txt} {g:Int} (h:infF f g=none):infT f g=0∧infO f g=false∧infK f g=false:=by
 unfold infT infO infK;rw [h];exact ⟨rfl,rfl,rfl⟩
def shQ (st tot a:Nat):Nat:=a*(tot+1000) / (st+1000)
def shK (st tot a:Nat):Bool:=decide ((st < uHalf∧tot < uHalf)∧shQ st tot a < uMax)
def shF (st tot a:Nat):Nat:=if shK st tot a then shQ st tot a else 0
theorem m0F (st tot a:Nat):shF st tot a < uMax:=by
 unfold shF shK
 by_cases h:(st < uHalf∧tot < uHalf)∧shQ st tot a < uMax
 ·rw [decide_eq_true h,if_pos rfl];exact h.2
 ·rw [decide_eq_false h,if_neg (by decide)];decide
def vTo (f:Txt→Option Txt) (g:Int):Nat:=amtV f (kTot g)
def vSt (f:Txt→Option Txt) (t g:Int):Nat:=amtV f (kStk t g)
def totV (f:Txt→Option Txt) (g:Int):Nat:=match infF f g with | some _=>vTo f g | none=>0
def stkV (f:Txt→Option Txt) (g:Int):Nat:=match infF f g with | some p=>vSt f p.1 g | none=>0
def worV (f:Txt→Option Txt) (g:Int) (x:Nat):Nat:=match infF f g with | some p=>shF (vTo f g) (vSt f p.1 g) x | none=>0
def newE (s:PS) (t:Int):Int:=if goodB t 1=false then 2 else if 32≤getI (getP s.t) kCnt then 7 else 0
def newI (s:PS):Int:=nextI (getI (getP s.t) kCnt)
def newV (s:PS) (t:Int):Int:=if newE s t=0 then newI s else 0
def PS.newS (s:PS) (t:Int):PS:=if newE s t=0 then (s.setInt kCnt (newI s)).setRow (kInf (newI s)) [t,1] else s
def onI (on:Bool):Int:=if on then 1 else 0
def allE (s:PS) (g:Int):Int:=match infF (getP s.t) g with | some _=>0 | none=>8
def PS.allow (s:PS) (g:Int) (on:Bool):PS:=match infF (getP s.t) g with | some p=>s.setRow (kInf g) [p.1,onI on] | none=>s
def depX (s:PS) (t g:Int) (a:Nat):Nat:=shF (vSt (getP s.t) t g) (vTo (getP s.t) g) a
def depB (s:PS) (t g:Int) (on:Bool) (fr:Int) (a:Nat):Int:=if on=false then 10 else if goodB 1 fr=false then 2 else if ¬ a < uHalf then 2 else if depX s t g a=0 then 2 else 0
def mvE (s:PS) (t g fr:Int) (a:Nat):Int:=moveE (getP s.t) (kAcc t fr) (kStk t g) a
def PS.mv (s:PS) (t g fr:Int) (a:Nat):PS:=s.moveA (kAcc t fr) (kStk t g) a
def dep2E (s:PS) (t g fr:Int) (a:Nat):Int:=if mvE s t g fr a≠0 then mvE s t g fr a else addE (getP (s.mv t g fr a).t) (kTot g) (depX s t g a)
def PS.dep2 (s:PS) (t g fr:Int) (a:Nat):PS:=if dep2E s t g fr a=0 then (s.mv t g fr a).addA (kTot g) (depX s t g a) else s
def depE1 (s:PS) (t g:Int) (on:Bool) (fr:Int) (a:Nat):Int:=if depB s t g on fr a=0 then dep2E s t g fr a else depB s t g on fr a
def PS.dep1 (s:PS) (t g:Int) (on:Bool) (fr:Int) (a:Nat):PS:=if depB s t g on fr a=0 then s.dep2 t g fr a else s
def depE (s:PS) (g fr:Int) (a:Nat):Int:=match infF (getP s.t) g with | some p=>depE1 s p.1 g p.2 fr a | none=>8
def PS.dep (s:PS) (g fr:Int) (a:Nat):PS:=match infF (getP s.t) g with | some p=>s.dep1 p.1 g p.2 fr a | none=>s
def depV (s:PS) (g fr:Int) (a:Nat):Nat:=if depE s g fr a=0 then depX s (infT (getP s.t) g) g a else 0
def donE (s:PS) (g fr:Int) (a:Nat):Int:=match infF (getP s.t) g with | some p=>if goodB 1 fr=false then 2 else mvE s p.1 g fr a | none=>8
def PS.don (s:PS) (g fr:Int) (a:Nat):PS:=match infF (getP s.t) g with | some p=>if goodB 1 fr=false then s else s.mv p.1 g fr a | none=>s
def outX (s:PS) (t g:Int) (x:Nat):Nat:=shF (vTo (getP s.t) g) (vSt (getP s.t) t g) x
def outE (s:PS) (t g:Int) (to:Txt) (x:Nat):Int:=if vTo (getP s.t) g < x then 13 else moveE (getP s.t) (kStk t g) to (outX s t g x)
def PS.out (s:PS) (t g:Int) (to:Txt) (x:Nat):PS:=if outE s t g to x=0 then (s.moveA (kStk t g) to (outX s t g x)).subA (kTot g) x else s
def outV (s:PS) (t g:Int) (to:Txt) (x:Nat):Nat:=if outE s t g to x=0 then outX s t g x else 0
def redE (s:PS) (g n:Int) (x:Nat):Int:=match infF (getP s.t) g with | some p=>if goodB 1 n=false then 2 else outE s p.1 g (kAcc p.1 n) x | none=>8
def PS.red (s:PS) (g n:Int) (x:Nat):PS:=match infF (getP s.t) g with | some p=>if goodB 1 n=false then s else s.out p.1 g (kAcc p.1 n) x | none=>s
def redV (s:PS) (g n:Int) (x:Nat):Nat:=match infF (getP s.t) g with | some p=>if goodB 1 n=false then 0 else outV s p.1 g (kAcc p.1 n) x | none=>0
def burE (s:PS) (g:Int) (x:Nat):Int:=match infF (getP s.t) g with | some p=>outE s p.1 g (kSink p.1) x | none=>8
def PS.bur (s:PS) (g:Int) (x:Nat):PS:=match infF (getP s.t) g with | some p=>s.out p.1 g (kSink p.1) x | none=>s
def burV (s:PS) (g:Int) (x:Nat):Nat:=match infF (getP s.t) g with | some p=>outV s p.1 g (kSink p.1) x | none=>0
theorem k0u (s:PS) (t:Int):(s.newS t).sz≤s.sz+4:=by
 unfold PS.newS;split
 ·have h1:=e0m s kCnt (newI s);have h2:=g0w (s.setInt kCnt (newI s)) (kInf (newI s)) [t,1]
  omega
 ·omega
theorem i0M {s:PS} (hf:Fit s) (t:Int):Fit (s.newS t):=by
 unfold PS.newS;split
 ·exact (hf.setInt _ _).setRow _ (by simp)
 ·exact hf
theorem m0l (s:PS) (g:Int) (on:Bool):(s.allow g on).sz≤s.sz+2:=by
 unfold PS.allow;split
 ·exact g0w _ _ _
 ·omega
theorem k0M {s:PS} (hf:Fit s) (g:Int) (on:Bool):Fit (s.allow g on):=by
 unfold PS.allow;split
 ·exact hf.setRow _ (by simp)
 ·exact hf
theorem mv_sz (s:PS) (t g fr:Int) (a:Nat):(s.mv t g fr a).sz≤s.sz+4:=d0P _ _ _ _
theorem l0f {s:PS} (hf:Fit s) (t g fr:Int) (a:Nat):Fit (s.mv t g fr a):=hf.moveA _ _ _
theorem m0W (s:PS) (t g fr:Int) (a:Nat):(s.dep2 t g fr a).sz≤s.sz+6:=by
 unfold PS.dep2;split
 ·have h1:=mv_sz s t g fr a;have h2:=c0i (s.mv t g fr a) (kTot g) (depX s t g a)
  omega
 ·omega
theorem l0I {s:PS} (hf:Fit s) (t g fr:Int) (a:Nat):Fit (s.dep2 t g fr a):=by
 unfold PS.dep2;split
 ·exact (l0f hf _ _ _ _).addA _ _
 ·exact hf
theorem m0B (s:PS) (g fr:Int) (a:Nat):(s.dep g fr a).sz≤s.sz+6:=by
 unfold PS.dep PS.dep1;split
 ·split
  ·exact m0W _ _ _ _ _
  ·omega
 ·omega
theorem j0C {s:PS} (hf:Fit s) (g fr:Int) (a:Nat):Fit (s.dep g fr a):=by
 unfold PS.dep PS.dep1;split
 ·split
  ·exact l0I hf _ _ _ _
  ·exact hf
 ·exact hf
theorem n0v (s:PS) (g fr:Int) (a:Nat):(s.don g fr a).sz≤s.sz+4:=by
 unfold PS.don;split
 ·split
  ·omega
  ·exact mv_sz _ _ _ _ _
 ·omega
theorem k0x {s:PS} (hf:Fit s) (g fr:Int) (a:Nat):Fit (s.don g fr a):=by
 unfold PS.don;split
 ·split
  ·exact hf
  ·exact l0f hf _ _ _ _
 ·exact hf
theorem m0u (s:PS) (t g:Int) (to:Txt) (x:Nat):(s.out t g to x).sz≤s.sz+6:=by
 unfold PS.out;split
 ·have h1:=d0P s (kStk t g) to (outX s t g x);have h2:=n0m (s.moveA (kStk t g) to (outX s t g x)) (kTot g) x
  omega
 ·omega
theorem k0n {s:PS} (hf:Fit s) (t g:Int) (to:Txt) (x:Nat):Fit (s.out t g to x):=by
 unfold PS.out;split
 ·exact (hf.moveA _ _ _).subA _ _
 ·exact hf
theorem n0G (s:PS) (g n:Int) (x:Nat):(s.red g n x).sz≤s.sz+6:=by
 unfold PS.red;split
 ·split
  ·omega
  ·exact m0u _ _ _ _ _
 ·omega
theorem m0Q {s:PS} (hf:Fit s) (g n:Int) (x:Nat):Fit (s.red g n x):=by
 unfold PS.red;split
 ·split
  ·exact hf
  ·exact k0n hf _ _ _ _
 ·exact hf
theorem n0w (s:PS) (g:Int) (x:Nat):(s.bur g x).sz≤s.sz+6:=by
 unfold PS.bur;split
 ·exact m0u _ _ _ _ _
 ·omega
theorem n0o {s:PS} (hf:Fit s) (g:Int) (x:Nat):Fit (s.bur g x):=by
 unfold PS.bur;split
 ·exact k0n hf _ _ _ _
 ·exact hf
theorem h0g (s:PS) (t g:Int) (a:Nat):depX s t g a < uMax:=m0F _ _ _
theorem h0G (s:PS) (t g:Int) (x:Nat):outX s t g x < uMax:=m0F _ _ _
theorem n0e (s:PS) (g fr:Int) (a:Nat):depV s g fr a < uMax:=by
 unfold depV;split
 ·exact h0g _ _ _ _
 ·decide
theorem k0o (s:PS) (t g:Int) (to:Txt) (x:Nat):outV s t g to x < uMax:=by
 unfold outV;split
 ·exact h0G _ _ _ _
 ·decide
theorem m0R (s:PS) (g n:Int) (x:Nat):redV s g n x < uMax:=by
 unfold redV;split
 ·split
  ·decide
  ·exact k0o _ _ _ _ _
 ·decide
theorem m0K (s:PS) (g:Int) (x:Nat):burV s g x < uMax:=by
 unfold burV;split
 ·exact k0o _ _ _ _ _
 ·decide
theorem n0t {s:PS} (hu:Up s.t) (t g fr:Int) (a:Nat) (m:Nat):((s.mv t g fr a).addA (kTot g) m).undo s.past.length=s:=(((Ext.refl hu).moveA _ _ _).addA _ _).undo.1
theorem mv_no {s:PS} {t g fr:Int} {a:Nat} (h:mvE s t g fr a≠0):s.mv t g fr a=s:=d0q h
end Go.Proofs.YtabminbgoclnkaaGreat
