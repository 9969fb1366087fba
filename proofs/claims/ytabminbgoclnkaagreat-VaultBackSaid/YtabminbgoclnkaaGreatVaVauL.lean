/- Vaults: who deposits and redeems at once, plain. No condition. -/
import Derived.Test.YtabminbgoclnkaaGreatVaVauP
namespace Go.Proofs.YtabminbgoclnkaaGreat
open Go.RowKit

theorem n0O {s:PS} (h:getP s.t []=none) (k v:Txt):getP (s.set k v).t []=none:=by
 rw [l0K,if_neg fun e=>e.2 e.1];exact h
theorem n0N {s:PS} (h:getP s.t []=none) (k:Txt):getP (s.del k).t []=none:=by
 rw [k0e];split
 ·rfl
 ·exact h
theorem f0H {s:PS} (h:getP s.t []=none) (k:Txt) (n:Nat):getP (s.setAmt k n).t []=none:=by
 unfold PS.setAmt;split
 ·exact n0N h _
 ·exact n0O h _ _
theorem n0K {s:PS} (h:getP s.t []=none) (k:Txt) (n:Nat):getP (s.addA k n).t []=none:=by
 unfold PS.addA;split
 ·exact f0H h _ _
 ·exact h
theorem n0U {s:PS} (h:getP s.t []=none) (k:Txt) (n:Nat):getP (s.subA k n).t []=none:=by
 unfold PS.subA;split
 ·exact f0H h _ _
 ·exact h
theorem n0h {s:PS} (h:getP s.t []=none) (k l:Txt) (n:Nat):getP (s.moveA k l n).t []=none:=by
 unfold PS.moveA;split
 ·exact f0H (f0H h _ _) _ _
 ·exact h
theorem n0P {s:PS} (h:getP s.t []=none) (k:Txt) (n:Int):getP (s.setInt k n).t []=none:=by
 unfold PS.setInt;split
 ·exact n0N h _
 ·exact n0O h _ _
theorem n0J {s:PS} (h:getP s.t []=none) (k:Txt) (l:List Int):getP (s.setRow k l).t []=none:=by
 unfold PS.setRow PS.putv;split
 ·exact h
 ·split
  ·exact n0N h _
  ·exact n0O h _ _
theorem n0X {s:PS} (h:getP s.t []=none) (hu:Up s.t) (t n:Int) (m:Nat):getP (s.mint t n m).t []=none:=by
 unfold PS.mint;split
 ·exact h
 split
 ·exact h
 split
 ·rw [(((Ext.refl hu).addA _ _).addA _ _).undo.1];exact h
 ·exact n0K (n0K h _ _) _ _
theorem n0W {s:PS} (h:getP s.t []=none) (t:Int):getP (s.newS t).t []=none:=by
 unfold PS.newS;split
 ·exact n0J (n0P h _ _) _ _
 ·exact h
theorem n0R {s:PS} (h:getP s.t []=none) (g:Int) (on:Bool):getP (s.allow g on).t []=none:=by
 unfold PS.allow;split
 ·exact n0J h _ _
 ·exact h
theorem o0b {s:PS} (h:getP s.t []=none) (g fr:Int) (a:Nat):getP (s.dep g fr a).t []=none:=by
 unfold PS.dep PS.dep1 PS.dep2 PS.mv;split
 ·split
  ·split
   ·exact n0K (n0h h _ _ _) _ _
   ·exact h
  ·exact h
 ·exact h
theorem o0a {s:PS} (h:getP s.t []=none) (g fr:Int) (a:Nat):getP (s.don g fr a).t []=none:=by
 unfold PS.don PS.mv;split
 ·split
  ·exact h
  ·exact n0h h _ _ _
 ·exact h
theorem n0Q {s:PS} (h:getP s.t []=none) (t g:Int) (k:Txt) (x:Nat):getP (s.out t g k x).t []=none:=by
 unfold PS.out;split
 ·exact n0U (n0h h _ _ _) _ _
 ·exact h
theorem n0Y {s:PS} (h:getP s.t []=none) (g n:Int) (x:Nat):getP (s.red g n x).t []=none:=by
 unfold PS.red;split
 ·split
  ·exact h
  ·exact n0Q h _ _ _ _
 ·exact h
theorem n0Z {s:PS} (h:getP s.t []=none) (g:Int) (x:Nat):getP (s.bur g x).t []=none:=by
 unfold PS.bur;split
 ·exact n0Q h _ _ _ _
 ·exact h
theorem l_acc {t n:Int} (ht:0≤t) (hn:0≤n):kAcc t n≠[]:=e0w ht hn
theorem l_stk {t g:Int} (ht:0≤t) (hg:0≤g):kStk t g≠[]:=k0A (by decide) (by decide) fun x hx=>by
 simp only [List.mem_cons,List.not_mem_nil,or_false] at hx
 rcases hx with rfl | rfl
 ·exact ht
 ·exact hg
theorem l_tot {g:Int} (hg:0≤g):kTot g≠[]:=k0A (by decide) (by decide) fun x hx=>by rw [List.mem_singleton.1 hx];exact hg
theorem l_inf {g:Int} (hg:0≤g):kInf g≠[]:=k0A (by decide) (by decide) fun x hx=>by rw [List.mem_singleton.1 hx];exact hg
structure Bq (s:PS) (g t:Int) (on:Bool) (a:Nat):Prop where
 g0:0≤g
 t1:1≤t∧t≤1000
 half:a < uHalf
 inf:infF (getP s.t) g=some (t,on)
 bal:a≤amtV (getP s.t) (kAcc t 77)∧amtV (getP s.t) (kAcc t 77) < uHalf
theorem n0L {f f':Txt→Option Txt} {g:Int} (h:valF f' (kInf g)=valF f (kInf g)):infF f' g=infF f g:=by unfold infF;rw [h]
theorem o0d {s:PS} (hN:getP s.t []=none) {g t:Int} {on:Bool} (hi:infF (getP s.t) g=some (t,on)):0≤g:=by
 by_cases h0:0≤g
 ·exact h0
 ·have e:kInf g = []:=i0i 5 [g] 0 (Nat.zero_lt_one) (by show g < 0;omega)
  unfold infF at hi
  rw [e] at hi;have:valF (getP s.t) [] = []:=by unfold valF;rw [hN];rfl
  rw [this,n0V] at hi
  cases hi
theorem Bq.mint {s:PS} (hN:getP s.t []=none) {g t:Int} {on:Bool} {a:Nat} (hi:infF (getP s.t) g=some (t,on)) (hm:mintE s t 77 a=0):Bq (s.mint t 77 a) g t on a:=by
 have h0:=o0d hN hi
 unfold mintE at hm
 by_cases hg:goodB t 77=false∨¬ a < uHalf
 ·rw [if_pos hg] at hm;cases hm
 rw [if_neg hg] at hm
 by_cases he:addE (getP s.t) (kSup t) a≠0
 ·rw [if_pos he] at hm;exact absurd hm he
 rw [if_neg he] at hm;have hgd:=f0Z (t:=t) (n:=77) fun e=>hg (.inl e)
 have hS:s.mint t 77 a=(s.addA (kSup t) a).addA (kAcc t 77) a:=by
  unfold PS.mint
  rw [if_neg hg,if_neg he,if_neg fun e=>e hm]
 obtain ⟨l1,e1⟩:=h0Z (Classical.not_not.1 he);obtain ⟨l2,e2⟩:=h0Z hm;rw [hS,e2];have ka:=l_acc (t:=t) (n:=77) (by omega) (by decide);have ks:=g0U (t:=t) (by omega);refine ⟨h0,hgd.1,Classical.not_not.1 fun e=>hg (.inr e),?_,?_⟩
 ·rw [← hi];refine n0L ?_;rw [c0d _ _ _ ka,if_neg (show kAcc t 77≠kInf g from j0x (by decide) (by decide) (by decide) (by decide) (by decide) ka),e1,c0d _ _ _ ks,if_neg (show kSup t≠kInf g from j0x (by decide) (by decide) (by decide) (by decide) (by decide) ks)]
 ·rw [g0V _ _ _ ka (c0s l2),if_pos rfl]
  omega
theorem Bq.state {s:PS} {g t:Int} {on:Bool} {a:Nat} (h:Bq s g t on a):(depE s g 77 a == 10) = !on:=by
 have hE:depE s g 77 a=depE1 s t g on 77 a:=by unfold depE;rw [h.inf]
 rw [hE]
 unfold depE1
 cases on with
 | false=>rfl
 | true=>
  have hb:depB s t g true 77 a=if depX s t g a=0 then 2 else 0:=by
   unfold depB
   rw [if_neg (show ¬ (true=false) by decide),if_neg (show ¬ goodB 1 77=false by decide),if_neg (fun e=>e h.half)]
  rw [hb]
  by_cases hx:depX s t g a=0
  ·rw [if_pos hx];rfl
  ·rw [if_neg hx,if_pos rfl]
   unfold dep2E
   by_cases hm:mvE s t g 77 a=0
   ·rw [if_neg fun e=>e hm]
    unfold addE
    split<;>rfl
   ·rw [if_pos hm];have h3:mvE s t g 77 a=6∨mvE s t g 77 a=13:=by
     unfold mvE moveE at hm ⊢
     split at hm
     ·rename_i hc;rw [if_pos hc];exact .inr rfl
     ·rename_i hc;rw [if_neg hc]
      split at hm
      ·exact absurd rfl hm
      ·rename_i hd;rw [if_neg hd]
       split at hm
       ·exact absurd rfl hm
       ·rename_i hf;rw [if_neg hf];exact .inl rfl
    rcases h3 with e | e<;>rw [e]<;>rfl
theorem Bq.none {s:PS} {g t:Int} {on:Bool} {a:Nat} (h:Bq s g t on a) (he:depE s g 77 a≠0):s.dep g 77 a=s:=by
 have hE:depE s g 77 a=depE1 s t g on 77 a:=by unfold depE;rw [h.inf]
 have hS:s.dep g 77 a=s.dep1 t g on 77 a:=by unfold PS.dep;rw [h.inf]
 rw [hE] at he;rw [hS]
 unfold depE1 at he
 unfold PS.dep1
 by_cases hb:depB s t g on 77 a=0
 ·rw [if_pos hb] at he ⊢
  unfold PS.dep2
  rw [if_neg he]
 ·rw [if_neg hb]
structure Dq (s s2:PS) (g t:Int) (on:Bool) (a x:Nat):Prop where
 g0:0≤g
 t1:1≤t∧t≤1000
 inf:infF (getP s2.t) g=some (t,on)
 tot:vTo (getP s2.t) g=vTo (getP s.t) g+x
 stk:vSt (getP s2.t) t g=vSt (getP s.t) t g+a
 bal:amtV (getP s2.t) (kAcc t 77)+a=amtV (getP s.t) (kAcc t 77)
 lt:amtV (getP s.t) (kAcc t 77) < uHalf
 le:x*(vSt (getP s.t) t g+1000)≤a*(vTo (getP s.t) g+1000)
theorem Bq.dep {s:PS} {g t:Int} {on:Bool} {a:Nat} (h:Bq s g t on a) (he:depE s g 77 a=0):on=true∧Dq s (s.dep g 77 a) g t true a (depV s g 77 a):=by
 have hE:depE s g 77 a=depE1 s t g on 77 a:=by unfold depE;rw [h.inf]
 have hS:s.dep g 77 a=s.dep1 t g on 77 a:=by unfold PS.dep;rw [h.inf]
 have hV:depV s g 77 a=depX s t g a:=by unfold depV;rw [if_pos he,(a0v h.inf).1]
 rw [hE] at he;rw [hS,hV]
 unfold depE1 at he
 unfold PS.dep1
 by_cases hb:depB s t g on 77 a=0
 ·rw [if_pos hb] at he ⊢
  unfold PS.dep2
  rw [if_pos he]
  unfold depB at hb
  by_cases b1:on=false
  ·rw [if_pos b1] at hb;cases hb
  have hon:on=true:=by cases on;exact absurd rfl b1;rfl
  refine ⟨hon,?_⟩
  unfold dep2E at he
  by_cases b3:mvE s t g 77 a=0
  ·rw [if_neg fun e=>e b3] at he;obtain ⟨hlt,hadd⟩:=h0Z he;have ka:=l_acc (t:=t) (n:=77) (by have:=h.t1;omega) (by decide);have ks:=l_stk (t:=t) (g:=g) (by have:=h.t1;omega) h.g0;have kt:=l_tot h.g0;have nas:kAcc t 77≠kStk t g:=j0x (by decide) (by decide) (by decide) (by decide) (by decide) ka;have nat':kAcc t 77≠kTot g:=j0x (by decide) (by decide) (by decide) (by decide) (by decide) ka;have nst:kStk t g≠kTot g:=j0x (by decide) (by decide) (by decide) (by decide) (by decide) ks;have hmv:s.mv t g 77 a=(s.setAmt (kAcc t 77) (amtV (getP s.t) (kAcc t 77) - a)).setAmt (kStk t g) (amtV (getP s.t) (kStk t g)+a):=by
    unfold PS.mv PS.moveA;rw [if_pos ⟨b3,nas⟩]
   unfold mvE moveE at b3
   rw [if_neg (fun e=>e h.bal.1),if_neg nas] at b3
   by_cases c2:amtV (getP s.t) (kStk t g)+a < uHalf
   ·have l1:amtV (getP s.t) (kAcc t 77) - a < uMax:=by have:=j0u (getP s.t) (kAcc t 77);omega
    have l2:=c0s c2;have hq:∀ q,amtV (getP (s.mv t g 77 a).t) q=if kStk t g=q then amtV (getP s.t) (kStk t g)+a else if kAcc t 77=q then amtV (getP s.t) (kAcc t 77) - a else amtV (getP s.t) q:=fun q=>by
     rw [hmv,g0V _ _ q ks l2,g0V _ _ q ka l1]
    have e1:amtV (getP (s.mv t g 77 a).t) (kTot g)=amtV (getP s.t) (kTot g):=by rw [hq,if_neg nst,if_neg nat']
    rw [e1] at hlt hadd;have l3:=c0s hlt;rw [hadd];refine ⟨h.g0,h.t1,?_,?_,?_,?_,h.bal.2,?_⟩
    ·rw [← hon,← h.inf];refine n0L ?_;rw [c0d _ _ _ kt,if_neg (show kTot g≠kInf g from j0x (by decide) (by decide) (by decide) (by decide) (by decide) kt),hmv,c0d _ _ _ ks,if_neg (show kStk t g≠kInf g from j0x (by decide) (by decide) (by decide) (by decide) (by decide) ks),c0d _ _ _ ka,if_neg (show kAcc t 77≠kInf g from j0x (by decide) (by decide) (by decide) (by decide) (by decide) ka)]
    ·unfold vTo
     rw [g0V _ _ _ kt l3,if_pos rfl]
    ·unfold vSt
     rw [g0V _ _ _ kt l3,if_neg fun e=>nst e.symm,hq,if_pos rfl]
    ·rw [g0V _ _ _ kt l3,if_neg fun e=>nat' e.symm,hq,if_neg fun e=>nas e.symm,if_pos rfl];have:=h.bal.1
     omega
    ·unfold depX shF
     split
     ·unfold shQ
      exact Nat.div_mul_le_self _ _
     ·rw [Nat.zero_mul];exact Nat.zero_le _
   ·rw [if_neg c2] at b3;cases b3
  ·rw [if_pos b3] at he;exact absurd he b3
 ·rw [if_neg hb] at he;exact absurd he hb
theorem m0S {s:PS} {k:Txt} {l:List Int} (hk:k≠[]) (h:∀ x∈l,0≤x∧x < 9223372036854775808):rowF (valF (getP (s.setRow k l).t) k)=l:=by rw [n0M _ _ _ hk h,if_pos rfl]
theorem Dq.allow {s s2:PS} {g t:Int} {a x:Nat} (h:Dq s s2 g t true a x):Dq s (s2.allow g false) g t false a x:=by
 have hS:s2.allow g false=s2.setRow (kInf g) [t,0]:=by unfold PS.allow;rw [h.inf];rfl
 have hk:=l_inf h.g0;have hv:∀ q,kInf g≠q→valF (getP (s2.setRow (kInf g) [t,0]).t) q=valF (getP s2.t) q:=fun q e=>by
  unfold PS.setRow PS.putv;split
  ·rfl
  ·split
   ·rw [h0P,if_neg e]
   ·rw [i0C,if_neg fun e2=>e e2.1]
 have hr:∀ q,kInf g≠q→amtV (getP (s2.setRow (kInf g) [t,0]).t) q=amtV (getP s2.t) q:=fun q e=>by unfold amtV;rw [hv q e]
 rw [hS];refine ⟨h.g0,h.t1,?_,?_,?_,?_,h.lt,h.le⟩
 ·unfold infF
  rw [m0S hk (fun z hz=>by
   simp only [List.mem_cons,List.not_mem_nil,or_false] at hz;have:=h.t1
   rcases hz with rfl | rfl
   ·omega
   ·decide)]
  rfl
 ·unfold vTo
  rw [hr (kTot g) (j0x (by decide) (by decide) (by decide) (by decide) (by decide) hk)]
  exact h.tot
 ·unfold vSt
  rw [hr (kStk t g) (j0x (by decide) (by decide) (by decide) (by decide) (by decide) hk)]
  exact h.stk
 ·rw [hr (kAcc t 77) (j0x (by decide) (by decide) (by decide) (by decide) (by decide) hk)]
  exact h.bal
theorem Dq.state {s s2:PS} {g t:Int} {a x:Nat} (h:Dq s s2 g t false a x):depE s2 g 77 a=10∧s2.dep g 77 a=s2:=by
 have hE:depE s2 g 77 a=depE1 s2 t g false 77 a:=by unfold depE;rw [h.inf]
 have hS:s2.dep g 77 a=s2.dep1 t g false 77 a:=by unfold PS.dep;rw [h.inf]
 rw [hE,hS]
 exact ⟨rfl,rfl⟩
theorem Dq.red {s s2:PS} {g t:Int} {a x:Nat} (h:Dq s s2 g t false a x):redE s2 g 77 x=0∧redV s2 g 77 x≤a∧amtV (getP (s2.red g 77 x).t) (kAcc t 77)≤amtV (getP s.t) (kAcc t 77):=by
 have h1:¬ goodB 1 77=false:=by decide
 have hE:redE s2 g 77 x=outE s2 t g (kAcc t 77) x:=by unfold redE;rw [h.inf];exact if_neg h1
 have hV:redV s2 g 77 x=outV s2 t g (kAcc t 77) x:=by unfold redV;rw [h.inf];exact if_neg h1
 have hS:s2.red g 77 x=s2.out t g (kAcc t 77) x:=by unfold PS.red;rw [h.inf];exact if_neg h1
 have ka:=l_acc (t:=t) (n:=77) (by have:=h.t1;omega) (by decide);have ks:=l_stk (t:=t) (g:=g) (by have:=h.t1;omega) h.g0;have kt:=l_tot h.g0;have nsa:kStk t g≠kAcc t 77:=j0x (by decide) (by decide) (by decide) (by decide) (by decide) ks;have nta:kTot g≠kAcc t 77:=j0x (by decide) (by decide) (by decide) (by decide) (by decide) kt;have nst:kStk t g≠kTot g:=j0x (by decide) (by decide) (by decide) (by decide) (by decide) ks;obtain ⟨y,hy⟩:=nm (outX s2 t g x);have hya:y≤a:=by
  rw [hy]
  unfold outX shF
  split
  ·unfold shQ
   rw [h.tot,h.stk];refine Nat.div_le_of_le_mul ?_;have e1:x*(vSt (getP s.t) t g+a+1000)=x*(vSt (getP s.t) t g+1000)+x*a:=by rw [← Nat.mul_add];congr 1;omega
   have e2:(vTo (getP s.t) g+x+1000)*a=a*(vTo (getP s.t) g+1000)+x*a:=by rw [Nat.mul_comm,Nat.mul_comm x a,← Nat.mul_add];congr 1;omega
   rw [e1,e2]
   exact Nat.add_le_add_right h.le _
  ·exact Nat.zero_le _
 have hsk:amtV (getP s2.t) (kStk t g)=vSt (getP s.t) t g+a:=h.stk;have hm:moveE (getP s2.t) (kStk t g) (kAcc t 77) y=0:=by
  unfold moveE
  rw [if_neg (fun e=>e (by omega)),if_neg nsa,if_pos (by have:=h.bal;have:=h.lt;omega)]
 have hO:outE s2 t g (kAcc t 77) x=0:=by
  unfold outE
  rw [if_neg (by have:=h.tot;omega),← hy]
  exact hm
 refine ⟨hE.trans hO,?_,?_⟩
 ·rw [hV]
  unfold outV
  rw [if_pos hO,← hy]
  exact hya
 ·rw [hS]
  unfold PS.out
  rw [if_pos hO,← hy];have hmv:s2.moveA (kStk t g) (kAcc t 77) y=(s2.setAmt (kStk t g) (amtV (getP s2.t) (kStk t g) - y)).setAmt (kAcc t 77) (amtV (getP s2.t) (kAcc t 77)+y):=by unfold PS.moveA;rw [if_pos ⟨hm,nsa⟩]
  have l1:amtV (getP s2.t) (kStk t g) - y < uMax:=by have:=j0u (getP s2.t) (kStk t g);omega
  have hbl:=h.bal;have hll:=h.lt;have l2:amtV (getP s2.t) (kAcc t 77)+y < uMax:=c0s (by omega);have e1:amtV (getP (s2.moveA (kStk t g) (kAcc t 77) y).t) (kTot g)=vTo (getP s2.t) g:=by
   rw [hmv,g0V _ _ _ ka l2,if_neg fun e=>nta e.symm,g0V _ _ _ ks l1,if_neg nst];rfl
  have hle:x≤vTo (getP s2.t) g:=by have:=h.tot;omega
  unfold PS.subA
  rw [e1,if_pos hle];have l3:vTo (getP s2.t) g - x < uMax:=by have:=j0u (getP s2.t) (kTot g);unfold vTo;omega
  rw [g0V _ _ _ kt l3,if_neg nta,hmv,g0V _ _ _ ka l2,if_pos rfl]
  omega
end Go.Proofs.YtabminbgoclnkaaGreat
