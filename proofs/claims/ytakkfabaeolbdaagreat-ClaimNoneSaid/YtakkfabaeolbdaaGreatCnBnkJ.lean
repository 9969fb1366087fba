/- Sums of the amounts under a beginning of keys: plain. No condition. Banks: what is minted and paid: plain. No condition. Banks: keys, Good, Mint, Pay, Balance (code). No condition. Banks: Mint, Pay, Balance, Total (code). No condition. Banks: Total; law 17's example; where tokens are (code). No condition. -/
import Derived.Test.YtakkfabaeolbdaaGreatCn30
import Derived.Test.YtakkfabaeolbdaaGreatCn27
import Derived.Test.YtakkfabaeolbdaaGreatCn23
import Derived.Test.YtakkfabaeolbdaaGreatCn24
import Derived.Test.YtakkfabaeolbdaaGreatCn25
import Derived.Deep.Cut
namespace Go.Proofs.YtakkfabaeolbdaaGreat
set_option maxHeartbeats 8000000
set_option maxRecDepth 100000
section
open Go.RowKit

def sumU (b:Txt):Tab→Nat
 | []=>0
 | p :: t=>(if b.isPrefixOf p.1 then amtF p.2 else 0)+sumU b t
theorem o0f {k:Txt} {t:Tab}:∀ (_:∀ p∈t,p.1≠k),delP t k=t:=fun h=>List.filter_eq_self.2 fun p hp=>by simpa using h p hp
theorem i0d (b:Txt):∀ {t:Tab} (_:Up t) (k:Txt),sumU b (delP t k)+(if b.isPrefixOf k then amtF (valF (getP t) k) else 0)=sumU b t
 | [],_,k=>by
  have:valF (getP []) k = []:=rfl;rw [this,c0z]
  split<;>rfl
 | p :: t,hu,k=>by
  have hp:=List.pairwise_cons.1 hu;have ih:=i0d b (t:=t) hp.2 k
  by_cases e:p.1=k
  ·have hd:delP (p :: t) k=t:=by
    unfold delP
    rw [List.filter_cons,if_neg (by simpa using e)]
    exact o0f fun q hq h=>by
     have:=hp.1 q hq;rw [e,h,a0r] at this
     cases this
   have hv:valF (getP (p :: t)) k=p.2:=by unfold valF;rw [a0T,if_pos e];rfl
   rw [hd,hv]
   show sumU b t+(if b.isPrefixOf k=true then amtF p.2 else 0)=(if b.isPrefixOf p.1=true then amtF p.2 else 0)+sumU b t
   rw [e]
   omega
  ·have hd:delP (p :: t) k=p :: delP t k:=by
    unfold delP
    rw [List.filter_cons,if_pos (by simpa using e)]
   have hv:valF (getP (p :: t)) k=valF (getP t) k:=by unfold valF;rw [a0T,if_neg e]
   rw [hd,hv]
   show (if b.isPrefixOf p.1=true then amtF p.2 else 0)+sumU b (delP t k)+_=(if b.isPrefixOf p.1=true then amtF p.2 else 0)+sumU b t
   omega
theorem l0l (b:Txt):∀ {t:Tab} (_:Up t) (k v:Txt),sumU b (insP t k v)+(if b.isPrefixOf k then amtF (valF (getP t) k) else 0)=sumU b t+(if b.isPrefixOf k then amtF v else 0)
 | [],_,k,v=>by
  have:valF (getP []) k = []:=rfl;rw [this,c0z]
  show (if b.isPrefixOf k=true then amtF v else 0)+0+_=0+_
  split<;>omega
 | p :: t,hu,k,v=>by
  have hp:=List.pairwise_cons.1 hu;have ih:=l0l b (t:=t) hp.2 k v
  by_cases e:p.1=k
  ·have hv:valF (getP (p :: t)) k=p.2:=by unfold valF;rw [a0T,if_pos e];rfl
   have hi:insP (p :: t) k v=(k,v) :: t:=by show (if p.1=k then _ else _)=_;rw [if_pos e]
   rw [hi,hv]
   show (if b.isPrefixOf k=true then amtF v else 0)+sumU b t+(if b.isPrefixOf k=true then amtF p.2 else 0)=(if b.isPrefixOf p.1=true then amtF p.2 else 0)+sumU b t+(if b.isPrefixOf k=true then amtF v else 0)
   rw [e]
   omega
  ·by_cases h2:less p.1 k=true
   ·have hv:valF (getP (p :: t)) k=valF (getP t) k:=by unfold valF;rw [a0T,if_neg e]
    have hi:insP (p :: t) k v=p :: insP t k v:=by show (if p.1=k then _ else if less p.1 k=true then _ else _)=_;rw [if_neg e,if_pos h2]
    rw [hi,hv]
    show (if b.isPrefixOf p.1=true then amtF p.2 else 0)+sumU b (insP t k v)+_=(if b.isPrefixOf p.1=true then amtF p.2 else 0)+sumU b t+_
    omega
   ·have hn:getP (p :: t) k=none:=by
     rw [b0f];intro q hq hqk
     rcases List.mem_cons.1 hq with rfl | hq
     ·exact e hqk
     ·have h3:=hp.1 q hq;rw [hqk] at h3
      exact h2 h3
    have hv:valF (getP (p :: t)) k = []:=by unfold valF;rw [hn];rfl
    have hi:insP (p :: t) k v=(k,v) :: p :: t:=by show (if p.1=k then _ else if less p.1 k=true then _ else _)=_;rw [if_neg e,if_neg h2]
    rw [hi,hv,c0z]
    show (if b.isPrefixOf k=true then amtF v else 0)+sumU b (p :: t)+_=_
    split<;>omega
theorem f0O (b:Txt) {s:PS} (hu:Up s.t) (k:Txt) {n:Nat} (hk:k≠[]) (hn:n < uMax) :
  sumU b (s.setAmt k n).t+(if b.isPrefixOf k then amtV (getP s.t) k else 0)=sumU b s.t+(if b.isPrefixOf k then n else 0):=by
 unfold PS.setAmt amtV
 by_cases h0:n=0
 ·rw [if_pos h0]
  unfold PS.del
  by_cases hg:getP s.t k=none
  ·rw [if_pos hg];have:valF (getP s.t) k = []:=by unfold valF;rw [hg];rfl
   rw [this,c0z,h0]
  ·rw [if_neg hg];have:=i0d b hu k
   show sumU b (delP s.t k)+_=_
   rw [this,h0]
   split<;>rfl
 ·rw [if_neg h0]
  unfold PS.set
  by_cases hg:getP s.t k=some (amtB n)
  ·rw [if_pos (.inr hg)];have:valF (getP s.t) k=amtB n:=by unfold valF;rw [hg];rfl
   rw [this,i0v hn]
  ·rw [if_neg (by rintro (e | e);exact hk e;exact hg e)];have:=l0l b hu k (amtB n);rw [i0v hn] at this
   exact this
theorem o0x {t:Tab} {b k:Txt} (hu:Up t) (hb:b.isPrefixOf k=true):amtV (getP t) k≤sumU b t:=by
 have:=i0d b hu k;rw [if_pos hb] at this
 unfold amtV
 omega
theorem d0K {s:PS} (hu:Up s.t) (k:Txt) (n:Nat):Up (s.setAmt k n).t:=by
 unfold PS.setAmt PS.del PS.set
 split
 ·split
  ·exact hu
  ·exact (b0L hu k [] false:Up (layP s.t k [] false))
 ·split
  ·exact hu
  ·exact (b0L hu k (amtB n) true:Up (layP s.t k (amtB n) true))
theorem c0t (s:PS) (k q:Txt) {n:Nat} (hk:k≠[]):valF (getP (s.setAmt k n).t) q=if k=q then (if n=0 then [] else amtB n) else valF (getP s.t) q:=by
 unfold PS.setAmt
 by_cases h0:n=0
 ·rw [if_pos h0,if_pos h0,i0o]
 ·rw [if_neg h0,if_neg h0,d0S]
  by_cases h:k=q
  ·rw [if_pos ⟨h,hk⟩,if_pos h]
  ·rw [if_neg (fun e=>h e.1),if_neg h]
theorem m0R {t:Int} {i:Int} {l:List Int} (h1:1≤t) (h2:t≤255) (hi:0≤i) (hl:∀ x∈l,0≤x):(keyF t [i]).isPrefixOf (keyF t (i :: l))=true:=by
 rw [c0S h1 h2 (fun x hx=>by rw [List.mem_singleton.1 hx];exact hi),c0S h1 h2 (fun x hx=>by rcases List.mem_cons.1 hx with rfl | hx;exact hi;exact hl x hx),List.isPrefixOf_iff_prefix];rw [List.flatMap_cons,List.flatMap_cons,List.flatMap_nil,List.append_nil]
 exact ⟨l.flatMap numL,by simp⟩
theorem j0y {t u:Int} {i j:Int} {l:List Int} (h1:1≤t) (h2:t≤255) (h3:1≤u) (h4:u≤255) (hi:0≤i∧i < 9223372036854775808) (hj:0≤j∧j < 9223372036854775808) (hl:∀ x∈l,0≤x) (h:t≠u∨i≠j):(keyF t [i]).isPrefixOf (keyF u (j :: l))=false:=by
 rw [Bool.eq_false_iff];intro e;rw [c0S h1 h2 (fun x hx=>by rw [List.mem_singleton.1 hx];exact hi.1),c0S h3 h4 (fun x hx=>by rcases List.mem_cons.1 hx with rfl | hx;exact hj.1;exact hl x hx),List.isPrefixOf_iff_prefix,List.flatMap_cons,List.flatMap_cons,List.flatMap_nil,List.append_nil] at e;obtain ⟨r,hr⟩:=e;rw [List.cons_append] at hr;obtain ⟨e1,e2⟩:=List.cons.inj hr
 rcases h with h | h
 ·apply h
  have:=congrArg UInt8.toNat e1;rw [UInt8.toNat_ofNat',UInt8.toNat_ofNat'] at this
  omega
 ·apply h
  have e3:=congrArg (List.take 8) e2;rw [List.take_append_of_le_length (by rw [a0s];omega),List.take_append_of_le_length (by rw [a0s];omega),List.take_of_length_le (by rw [a0s];omega),List.take_of_length_le (by rw [a0s];omega)] at e3;have k1:=f0K hi.1 hi.2;have k2:=f0K hj.1 hj.2;rw [e3,k2] at k1
  exact (List.cons.inj k1).1.symm
end
section
open Go.RowKit

def kAcc (t n:Int):Txt:=keyF 1 [t,n]
def kSup (t:Int):Txt:=keyF 2 [t]
def goodB (t n:Int):Bool:=decide ((1≤t∧t≤1000)∧(1≤n∧n≤4294967295))
theorem o0W (s:PS):s.undo s.past.length=s:=by
 unfold PS.undo undoE
 rw [if_pos (by simp)];have:s.past.length - ((s.past.length:Int)).toNat=0:=by omega
 rw [this];rfl
def mintE (s:PS) (t n:Int) (m:Nat):Int:=
 if goodB t n=false∨¬ m < uHalf then 2 else if addE (getP s.t) (kSup t) m≠0 then addE (getP s.t) (kSup t) m else addE (getP (s.addA (kSup t) m).t) (kAcc t n) m
def PS.mint (s:PS) (t n:Int) (m:Nat):PS:=
 if goodB t n=false∨¬ m < uHalf then s else if addE (getP s.t) (kSup t) m≠0 then s
 else if addE (getP (s.addA (kSup t) m).t) (kAcc t n) m≠0 then ((s.addA (kSup t) m).addA (kAcc t n) m).undo s.past.length else (s.addA (kSup t) m).addA (kAcc t n) m
def PS.pay (s:PS) (t a b:Int) (m:Nat):PS:=if goodB t a=false∨goodB t b=false then s else s.moveA (kAcc t a) (kAcc t b) m
theorem o0j {s:PS} {k:Txt} {m:Nat} (h:addE (getP s.t) k m≠0):s.addA k m=s:=by
 unfold PS.addA
 by_cases hc:amtV (getP s.t) k+m < uHalf
 ·exact absurd (by unfold addE;rw [if_pos hc]) h
 ·rw [if_neg hc]
theorem l0C {s:PS} {k:Txt} {m:Nat} (h:addE (getP s.t) k m=0):amtV (getP s.t) k+m < uHalf∧s.addA k m=s.setAmt k (amtV (getP s.t) k+m):=by
 unfold addE at h
 by_cases hc:amtV (getP s.t) k+m < uHalf
 ·exact ⟨hc,by unfold PS.addA;rw [if_pos hc]⟩
 ·rw [if_neg hc] at h;cases h
theorem s0a {f:Txt→Option Txt} {k:Txt} {m:Nat} (h:amtV f k+m < uHalf):addE f k m=0:=by unfold addE;rw [if_pos h]
theorem c0G {n:Nat} (h:n < uHalf):n < uMax:=by unfold uHalf at h;unfold uMax;omega
theorem g0j {t n:Int} (ht:0≤t) (hn:0≤n):kAcc t n≠[]:=c0R (by decide) (by decide) fun x hx=>by
 simp only [List.mem_cons,List.not_mem_nil,or_false] at hx
 rcases hx with rfl | rfl
 ·exact ht
 ·exact hn
theorem k0v {t:Int} (ht:0≤t):kSup t≠[]:=c0R (by decide) (by decide) fun x hx=>by rw [List.mem_singleton.1 hx];exact ht
theorem e0q {t n:Int} (ht:0≤t) (hn:0≤n):(keyF 1 [t]).isPrefixOf (kAcc t n)=true:=m0R (by decide) (by decide) ht fun x hx=>by rw [List.mem_singleton.1 hx];exact hn
theorem n0P {u t t' n:Int} (h1:1≤u) (h2:u≤255) (ht:0≤t∧t < 9223372036854775808) (ht':0≤t'∧t' < 9223372036854775808) (hn:0≤n) (h:u≠1∨t≠t'):(keyF u [t]).isPrefixOf (kAcc t' n)=false:=
 j0y h1 h2 (by decide) (by decide) ht ht' (fun x hx=>by rw [List.mem_singleton.1 hx];exact hn) h
theorem n0g {u t t':Int} (h1:1≤u) (h2:u≤255) (ht:0≤t∧t < 9223372036854775808) (ht':0≤t'∧t' < 9223372036854775808) (h:u≠2):(keyF u [t]).isPrefixOf (kSup t')=false:=
 j0y h1 h2 (by decide) (by decide) ht ht' (fun x hx=>by cases hx) (.inl h)
theorem j0L {t t' n:Int} (ht:0≤t):kSup t≠kAcc t' n:=c0e (by decide) (by decide) (by decide) (by decide) (by decide) (k0v ht)
theorem s0R {t t':Int} (ht:0≤t∧t < 18446744073709551616) (ht':0≤t'∧t' < 18446744073709551616) (h:kSup t=kSup t'):t=t':=e0U (by decide) (by decide) ht.1 ht.2 ht'.1 ht'.2 h
structure Keeps (s:PS) (m:Int→Nat) (i:Nat):Prop where
 fit:Fit s
 up:Up s.t
 sz:s.sz≤8*i
 sup:∀ t,1≤t→t≤3→valF (getP s.t) (kSup t)=if m t=0 then [] else amtB (m t)
 lt:∀ t,1≤t→t≤3→m t < uHalf
 acc:∀ t,1≤t→t≤3→sumU (keyF 1 [t]) s.t=m t
 oth:∀ u t,1≤t→t≤3→u=3∨u=4∨u=6→sumU (keyF u [t]) s.t=0
theorem Keeps.new:Keeps PS.new (fun _=>0) 0:=⟨Fit.new,List.Pairwise.nil,Nat.le_refl _,fun _ _ _=>rfl,fun _ _ _=>by show 0 < uHalf;decide,fun _ _ _=>rfl,fun _ _ _ _ _=>rfl⟩
theorem Keeps.skip {s:PS} {m:Int→Nat} {i:Nat} (h:Keeps s m i):Keeps s m (i+1):=⟨h.fit,h.up,by have:=h.sz;omega,h.sup,h.lt,h.acc,h.oth⟩
theorem Keeps.supply {s:PS} {m:Int→Nat} {i:Nat} (h:Keeps s m i) {t:Int} (h1:1≤t) (h3:t≤3):amtV (getP s.t) (kSup t)=m t:=by
 unfold amtV
 rw [h.sup t h1 h3]
 by_cases h0:m t=0
 ·rw [if_pos h0,c0z,h0]
 ·rw [if_neg h0,i0v (c0G (h.lt t h1 h3))]
theorem d0j {s:PS} (hu:Up s.t) {t n:Int} (ht:0≤t∧t < 9223372036854775808) (hn:0≤n) {x:Nat} (hx:x < uMax) {u t':Int} (h1:1≤u) (h2:u≤255) (ht':0≤t'∧t' < 9223372036854775808) :
  sumU (keyF u [t']) (s.setAmt (kAcc t n) x).t+(if u=1∧t'=t then amtV (getP s.t) (kAcc t n) else 0)=sumU (keyF u [t']) s.t+(if u=1∧t'=t then x else 0):=by
 have:=f0O (keyF u [t']) hu (kAcc t n) (g0j ht.1 hn) hx
 by_cases h:u=1∧t'=t
 ·obtain ⟨rfl,rfl⟩:=h;rw [e0q ht.1 hn] at this
  simpa using this
 ·rw [n0P h1 h2 ht' ht hn (by by_cases e:u=1;exact .inr fun e2=>h ⟨e,e2⟩;exact .inl e)] at this;rw [if_neg h,if_neg h]
  simpa using this
theorem h0T {s:PS} (hu:Up s.t) {t:Int} (ht:0≤t∧t < 9223372036854775808) {x:Nat} (hx:x < uMax) {u t':Int} (h1:1≤u) (h2:u≤255) (ht':0≤t'∧t' < 9223372036854775808) (h:u≠2) :
  sumU (keyF u [t']) (s.setAmt (kSup t) x).t=sumU (keyF u [t']) s.t:=by
 have:=f0O (keyF u [t']) hu (kSup t) (k0v ht.1) hx;rw [n0g h1 h2 ht' ht h] at this
 simpa using this
theorem h0E {t n:Int} (h:¬ (goodB t n=false)):(1≤t∧t≤1000)∧(1≤n∧n≤4294967295):=by
 have:goodB t n=true:=by cases hb:goodB t n;exact absurd hb h;rfl
 exact of_decide_eq_true this
theorem Keeps.mint {s:PS} {m:Int→Nat} {i:Nat} (h:Keeps s m i) {t n:Int} (h1:1≤t) (h3:t≤3) {x:Nat} :
  (mintE s t n x=0∧m t+x < uHalf∧Keeps (s.mint t n x) (fun u=>if u=t then m t+x else m u) (i+1))∨(mintE s t n x≠0∧s.mint t n x=s):=by
 by_cases hg:goodB t n=false∨¬ x < uHalf
 ·right
  refine ⟨by unfold mintE;rw [if_pos hg];decide,by unfold PS.mint;rw [if_pos hg]⟩
 by_cases he:addE (getP s.t) (kSup t) x≠0
 ·right
  refine ⟨by unfold mintE;rw [if_neg hg,if_pos he];exact he,by unfold PS.mint;rw [if_neg hg,if_pos he]⟩
 left
 have hgd:=h0E (t:=t) (n:=n) fun e=>hg (.inl e)
 have he0:addE (getP s.t) (kSup t) x=0:=Classical.not_not.1 he;obtain ⟨hlt,hs1⟩:=l0C he0;rw [h.supply h1 h3] at hlt hs1;have ht:0≤t∧t < 9223372036854775808:=by omega
 have hn:0≤n:=by omega
 have hu1:Up (s.setAmt (kSup t) (m t+x)).t:=d0K h.up _ _;have hmx:=c0G hlt;have hle:amtV (getP (s.setAmt (kSup t) (m t+x)).t) (kAcc t n)≤m t:=by
  have h8:=o0x hu1 (e0q ht.1 hn);rw [h0T h.up ht hmx (by decide) (by decide) ht (by decide),h.acc t h1 h3] at h8
  exact h8
 have hacc:amtV (getP (s.setAmt (kSup t) (m t+x)).t) (kAcc t n)+x < uHalf:=by omega
 have he2:=s0a hacc;have hs2:(s.setAmt (kSup t) (m t+x)).addA (kAcc t n) x=(s.setAmt (kSup t) (m t+x)).setAmt (kAcc t n) (amtV (getP (s.setAmt (kSup t) (m t+x)).t) (kAcc t n)+x):=(l0C he2).2;have hE:mintE s t n x=0:=by unfold mintE;rw [if_neg hg,if_neg he,hs1];exact he2
 have hS:s.mint t n x=(s.setAmt (kSup t) (m t+x)).setAmt (kAcc t n) (amtV (getP (s.setAmt (kSup t) (m t+x)).t) (kAcc t n)+x):=by
  unfold PS.mint
  rw [if_neg hg,if_neg he,hs1,if_neg (fun e=>e he2),hs2]
 have hax:=c0G hacc;refine ⟨hE,hlt,?_⟩;rw [hS];refine ⟨(h.fit.setAmt _ _).setAmt _ _,d0K hu1 _ _,?_,?_,?_,?_,?_⟩
 ·have a1:=a0z s (kSup t) (m t+x);have a2:=a0z (s.setAmt (kSup t) (m t+x)) (kAcc t n) (amtV (getP (s.setAmt (kSup t) (m t+x)).t) (kAcc t n)+x);have:=h.sz
  omega
 ·intro u u1 u3;rw [c0t _ _ _ (g0j ht.1 hn),if_neg (fun e=>j0L (by omega:0≤u) e.symm),c0t _ _ _ (k0v ht.1)]
  by_cases e:u=t
  ·subst e;rw [if_pos rfl,if_pos rfl]
  ·rw [if_neg (fun e2=>e (s0R (by omega) (by omega) e2).symm),if_neg e]
   exact h.sup u u1 u3
 ·intro u u1 u3
  show (if u=t then m t+x else m u) < uHalf
  split
  ·exact hlt
  ·exact h.lt u u1 u3
 ·intro u u1 u3;have h8:=d0j hu1 ht hn hax (u:=1) (t':=u) (by decide) (by decide) (by omega);rw [h0T h.up ht hmx (by decide) (by decide) (by omega) (by decide),h.acc u u1 u3] at h8
  show _=if u=t then m t+x else m u
  by_cases e:u=t
  ·subst e;rw [if_pos ⟨rfl,rfl⟩,if_pos ⟨rfl,rfl⟩] at h8;rw [if_pos rfl]
   omega
  ·rw [if_neg (fun e2=>e e2.2),if_neg (fun e2=>e e2.2)] at h8;rw [if_neg e]
   omega
 ·intro u u' u1 u3 hu;have h8:=d0j hu1 ht hn hax (u:=u) (t':=u') (by omega) (by omega) (by omega);rw [if_neg (by omega),if_neg (by omega),h0T h.up ht hmx (by omega) (by omega) (by omega) (by omega),h.oth u u' u1 u3 hu] at h8
  omega
theorem Keeps.pay {s:PS} {m:Int→Nat} {i:Nat} (h:Keeps s m i) {t a b:Int} (h1:1≤t) (h3:t≤3) {x:Nat}:Keeps (s.pay t a b x) m (i+1):=by
 by_cases hg:goodB t a=false∨goodB t b=false
 ·have:s.pay t a b x=s:=by unfold PS.pay;rw [if_pos hg]
  rw [this];exact h.skip
 have ga:=h0E (t:=t) (n:=a) fun e=>hg (.inl e)
 have gb:=h0E (t:=t) (n:=b) fun e=>hg (.inr e)
 have hS:s.pay t a b x=s.moveA (kAcc t a) (kAcc t b) x:=by unfold PS.pay;rw [if_neg hg]
 rw [hS]
 by_cases hE:moveE (getP s.t) (kAcc t a) (kAcc t b) x=0∧kAcc t a≠kAcc t b
 ·have hm:=hE.1
  unfold moveE at hm
  by_cases c1:x≤amtV (getP s.t) (kAcc t a)
  ·rw [if_neg (fun e=>e c1),if_neg hE.2] at hm
   by_cases c2:amtV (getP s.t) (kAcc t b)+x < uHalf
   ·have ht:0≤t∧t < 9223372036854775808:=by omega
    have hla:=o0x h.up (e0q (t:=t) (n:=a) ht.1 (by omega));rw [h.acc t h1 h3] at hla;have hx1:amtV (getP s.t) (kAcc t a) - x < uMax:=c0G (by have:=h.lt t h1 h3;omega);have hx2:=c0G c2;have hu1:Up (s.setAmt (kAcc t a) (amtV (getP s.t) (kAcc t a) - x)).t:=d0K h.up _ _;have hmv:s.moveA (kAcc t a) (kAcc t b) x=(s.setAmt (kAcc t a) (amtV (getP s.t) (kAcc t a) - x)).setAmt (kAcc t b) (amtV (getP s.t) (kAcc t b)+x):=by unfold PS.moveA;rw [if_pos hE]
    have hsame:amtV (getP (s.setAmt (kAcc t a) (amtV (getP s.t) (kAcc t a) - x)).t) (kAcc t b)=amtV (getP s.t) (kAcc t b):=by rw [k0r _ _ _ (g0j ht.1 (by omega)) hx1,if_neg hE.2]
    rw [hmv];refine ⟨(h.fit.setAmt _ _).setAmt _ _,d0K hu1 _ _,?_,?_,h.lt,?_,?_⟩
    ·have a1:=a0z s (kAcc t a) (amtV (getP s.t) (kAcc t a) - x);have a2:=a0z (s.setAmt (kAcc t a) (amtV (getP s.t) (kAcc t a) - x)) (kAcc t b) (amtV (getP s.t) (kAcc t b)+x);have:=h.sz
     omega
    ·intro u u1 u3;rw [c0t _ _ _ (g0j ht.1 (by omega)),if_neg (fun e=>j0L (by omega:0≤u) e.symm),c0t _ _ _ (g0j ht.1 (by omega)),if_neg (fun e=>j0L (by omega:0≤u) e.symm)]
     exact h.sup u u1 u3
    ·intro u u1 u3;have e1:=d0j h.up ht (n:=a) (by omega) hx1 (u:=1) (t':=u) (by decide) (by decide) (by omega);have e2:=d0j hu1 ht (n:=b) (by omega) hx2 (u:=1) (t':=u) (by decide) (by decide) (by omega);rw [hsame] at e2;rw [h.acc u u1 u3] at e1
     by_cases e:u=t
     ·rw [if_pos ⟨rfl,e⟩,if_pos ⟨rfl,e⟩] at e1 e2
      omega
     ·rw [if_neg (fun e2=>e e2.2),if_neg (fun e2=>e e2.2)] at e1 e2
      omega
    ·intro u u' u1 u3 hu;have e1:=d0j h.up ht (n:=a) (by omega) hx1 (u:=u) (t':=u') (by omega) (by omega) (by omega);have e2:=d0j hu1 ht (n:=b) (by omega) hx2 (u:=u) (t':=u') (by omega) (by omega) (by omega);rw [if_neg (by omega),if_neg (by omega)] at e1 e2;have:=h.oth u u' u1 u3 hu
     omega
   ·rw [if_neg c2] at hm;cases hm
  ·rw [if_pos c1] at hm;cases hm
 ·have:s.moveA (kAcc t a) (kAcc t b) x=s:=by unfold PS.moveA;rw [if_neg hE]
  rw [this]
  exact h.skip
end
section
open Go.RowKit

def I64 (n:Int):Prop:=-9223372036854775808≤n∧n < 9223372036854775808
theorem e0Z {t n:Int} (ht:I64 t) (hn:I64 n) (w:World):Calls Tryz.prog 62 #[.int .i64 t,.int .i64 n] w (Ret w (.string (bs (keyF 1 [t,n])))):=by
 have H:=hh (And.intro ht hn);clear ht hn
 go_enter Tryz.func62,Tryz.ntmps62
 go_wp2_with fail;obtain ⟨w1,hw1⟩:=nm (w.alloc (.cells #[.int .i64 t,.int .i64 n] 3));obtain ⟨gi,hgi⟩:=nm (w.heap.size);rw [← hw1,← hgi];have HOI:Hid (Own w1 0 3 intE 1 (.slice (some ⟨gi,0,none⟩) 2 2) [t,n]):=hh (a0H (l:=[t,n]) (by rw [hw1,hgi];exact heap_alloc_new _ _) (Nat.zero_le _) (by unfold maxLen;simp));have HB:Hid (Below w.heap.size w w1):=hh (by rw [hw1];exact a0d _ _);clear hw1 hgi;refine (a0X 1 [t,n] _ _ (by simp) (I64s.two H.out.1 H.out.2) (HOI.out.rd fun _=>rfl)).mono ?_;rintro e w2 ⟨rfl,hb⟩;have HB2:=bT HB hb;clear hb;go_wp2_with fail
 go_ret
 exact ⟨rfl,HB2.out⟩
theorem f0F {t n:Int} (ht:I64 t) (hn:I64 n) (w:World):Calls Tryz.prog 111 #[.int .i64 t,.int .i64 n] w (Ret w (.string (bs (keyF 1 [t,n])))):=by
 have H:=hh (And.intro ht hn);clear ht hn
 go_enter Tryz.func111,Tryz.ntmps111
 go_wp2_with fail;obtain ⟨w1,hw1⟩:=nm (w.alloc (.cells #[.int .i64 t,.int .i64 n] 3));obtain ⟨gi,hgi⟩:=nm (w.heap.size);rw [← hw1,← hgi];have HOI:Hid (Own w1 0 3 intE 1 (.slice (some ⟨gi,0,none⟩) 2 2) [t,n]):=hh (a0H (l:=[t,n]) (by rw [hw1,hgi];exact heap_alloc_new _ _) (Nat.zero_le _) (by unfold maxLen;simp));have HB:Hid (Below w.heap.size w w1):=hh (by rw [hw1];exact a0d _ _);clear hw1 hgi;refine (a0I 1 [t,n] _ _ (by simp) (I64s.two H.out.1 H.out.2) (HOI.out.rd fun _=>rfl)).mono ?_;rintro e w2 ⟨rfl,hb⟩;have HB2:=bT HB hb;clear hb;go_wp2_with fail
 go_ret
 exact ⟨rfl,HB2.out⟩
theorem r0a {t:Int} (ht:I64 t) (w:World):Calls Tryz.prog 105 #[.int .i64 t] w (Ret w (.string (bs (keyF 2 [t])))):=by
 have H:=hh ht;clear ht
 go_enter Tryz.func105,Tryz.ntmps105
 go_wp2_with fail;obtain ⟨w1,hw1⟩:=nm (w.alloc (.cells #[.int .i64 t] 3));obtain ⟨gi,hgi⟩:=nm (w.heap.size);rw [← hw1,← hgi];have HOI:Hid (Own w1 0 3 intE 1 (.slice (some ⟨gi,0,none⟩) 1 1) [t]):=hh (a0H (l:=[t]) (by rw [hw1,hgi];exact heap_alloc_new _ _) (Nat.zero_le _) (by unfold maxLen;simp));have HB:Hid (Below w.heap.size w w1):=hh (by rw [hw1];exact a0d _ _);clear hw1 hgi;refine (a0X 2 [t] _ _ (by simp) (I64s.one H.out) (HOI.out.rd fun _=>rfl)).mono ?_;rintro e w2 ⟨rfl,hb⟩;have HB2:=bT HB hb;clear hb;go_wp2_with fail
 go_ret
 exact ⟨rfl,HB2.out⟩
theorem o0H {t:Int} (ht:I64 t) (w:World):Calls Tryz.prog 110 #[.int .i64 t] w (Ret w (.string (bs (keyF 2 [t])))):=by
 have H:=hh ht;clear ht
 go_enter Tryz.func110,Tryz.ntmps110
 go_wp2_with fail;obtain ⟨w1,hw1⟩:=nm (w.alloc (.cells #[.int .i64 t] 3));obtain ⟨gi,hgi⟩:=nm (w.heap.size);rw [← hw1,← hgi];have HOI:Hid (Own w1 0 3 intE 1 (.slice (some ⟨gi,0,none⟩) 1 1) [t]):=hh (a0H (l:=[t]) (by rw [hw1,hgi];exact heap_alloc_new _ _) (Nat.zero_le _) (by unfold maxLen;simp));have HB:Hid (Below w.heap.size w w1):=hh (by rw [hw1];exact a0d _ _);clear hw1 hgi;refine (a0I 2 [t] _ _ (by simp) (I64s.one H.out) (HOI.out.rd fun _=>rfl)).mono ?_;rintro e w2 ⟨rfl,hb⟩;have HB2:=bT HB hb;clear hb;go_wp2_with fail
 go_ret
 exact ⟨rfl,HB2.out⟩
theorem d0Q {t:Int} (ht:I64 t) (w:World):Calls Tryz.prog 115 #[.int .i64 t] w (Ret w (.string (bs (keyF 4 [t])))):=by
 have H:=hh ht;clear ht
 go_enter Tryz.func115,Tryz.ntmps115
 go_wp2_with fail;obtain ⟨w1,hw1⟩:=nm (w.alloc (.cells #[.int .i64 t] 3));obtain ⟨gi,hgi⟩:=nm (w.heap.size);rw [← hw1,← hgi];have HOI:Hid (Own w1 0 3 intE 1 (.slice (some ⟨gi,0,none⟩) 1 1) [t]):=hh (a0H (l:=[t]) (by rw [hw1,hgi];exact heap_alloc_new _ _) (Nat.zero_le _) (by unfold maxLen;simp));have HB:Hid (Below w.heap.size w w1):=hh (by rw [hw1];exact a0d _ _);clear hw1 hgi;refine (a0X 4 [t] _ _ (by simp) (I64s.one H.out) (HOI.out.rd fun _=>rfl)).mono ?_;rintro e w2 ⟨rfl,hb⟩;have HB2:=bT HB hb;clear hb;go_wp2_with fail
 go_ret
 exact ⟨rfl,HB2.out⟩
theorem e0x {t:Int} (ht:I64 t) (w:World):Calls Tryz.prog 117 #[.int .i64 t] w (Ret w (.string (bs (keyF 4 [t])))):=by
 have H:=hh ht;clear ht
 go_enter Tryz.func117,Tryz.ntmps117
 go_wp2_with fail;obtain ⟨w1,hw1⟩:=nm (w.alloc (.cells #[.int .i64 t] 3));obtain ⟨gi,hgi⟩:=nm (w.heap.size);rw [← hw1,← hgi];have HOI:Hid (Own w1 0 3 intE 1 (.slice (some ⟨gi,0,none⟩) 1 1) [t]):=hh (a0H (l:=[t]) (by rw [hw1,hgi];exact heap_alloc_new _ _) (Nat.zero_le _) (by unfold maxLen;simp));have HB:Hid (Below w.heap.size w w1):=hh (by rw [hw1];exact a0d _ _);clear hw1 hgi;refine (a0I 4 [t] _ _ (by simp) (I64s.one H.out) (HOI.out.rd fun _=>rfl)).mono ?_;rintro e w2 ⟨rfl,hb⟩;have HB2:=bT HB hb;clear hb;go_wp2_with fail
 go_ret
 exact ⟨rfl,HB2.out⟩
theorem h0m (n m:Int) (w:World):Calls Tryz.prog 157 #[.int .i64 n,.int .i64 m] w fun e w'=>e = .returned (.bool (decide (1≤n∧n≤m)))∧w=w':=by
 obtain ⟨q,hq⟩:=nm (decide (1≤n∧n≤m));have HQ:=hh hq;rw [← hq];clear hq
 by_cases h1:1≤n
 ·have hd:Hid (decide (n≤m)=q):=hh (by rw [HQ.out];simp only [h1,true_and])
  go_enter Tryz.func157,Tryz.ntmps157
  go_wp2_with fail
  go_ret
  exact ⟨by rw [← hd.out];rfl,rfl⟩
 ·have hd:Hid (q=false):=hh (by rw [HQ.out];exact decide_eq_false fun e=>h1 e.1);have h3:n < 1:=by omega
  clear h1
  go_enter Tryz.func157,Tryz.ntmps157
  go_wp2_with fail
  go_ret
  exact ⟨by rw [hd.out];rfl,rfl⟩
theorem d0P (t n:Int) (w:World):Calls Tryz.prog 80 #[.int .i64 t,.int .i64 n] w fun e w'=>e = .returned (.bool (goodB t n))∧w=w':=by
 obtain ⟨g1,hg1⟩:=nm (decide (1≤t∧t≤1000));obtain ⟨g2,hg2⟩:=nm (decide (1≤n∧n≤4294967295));have HG:Hid (goodB t n=(g1 && g2)):=hh (by rw [hg1,hg2];unfold goodB;rw [Bool.decide_and]);have G1:=hh hg1;have G2:=hh hg2;clear hg1 hg2
 go_enter Tryz.func80,Tryz.ntmps80
 go_wp2_with fail;refine (h0m t 1000 _).mono ?_;rw [← G1.out];rintro e w1 ⟨rfl,rfl⟩
 cases g1 with
 | false=>
  go_wp2_with fail
  go_ret
  exact ⟨by rw [HG.out];rfl,rfl⟩
 | true=>
  go_wp2_with fail;refine (h0m n 4294967295 _).mono ?_;rw [← G2.out];rintro e w1 ⟨rfl,rfl⟩;go_wp2_with fail
  go_ret
  exact ⟨by rw [HG.out];rfl,rfl⟩
theorem a0A {w0 w w':World} {F0:List Nat} {g:Nat} {s:PS} {X:Nat} {cs:Array Value} {T:TypeId} (L:Liv w0 F0 w g s) (hX:w.heap[X]? = some (.cells cs T (0,0))) (hT:stoKind (.cells cs T (0,0))=false) (hk:Keep (· = X) w w') (hw:w0.heap.size≤X):Liv w0 F0 w' g s:=by
 obtain ⟨F,h1,h2,h3⟩:=L;refine ⟨F,h1.keep hk fun x hx hu=>?_,h2.trans (hk.mono fun y _ hy=>.inr (hy▸hw)),h3⟩;obtain ⟨o,ho,k1⟩:=h1.kind x hx;subst hu;rw [hX] at ho
 cases ho
 rw [hT] at k1;cases k1

theorem o0E {w:World} {g:Nat} {s:PS} {F:List Nat} (h:St w g s F) (hz:s.sz < 1000000000) (hf:Fit s) {t n:Int} (ht:I64 t) (hn:I64 n) {a b c d:Int} {m:Nat} (hu:UIs a b c d m) {BS BT BA:Nat} (hBS:w.heap[BS]? = some (.cells #[.pointer (some ⟨g,0,none⟩)] 42 (0,0))) (hBT:w.heap[BT]? = some (.cells #[.int .i64 t] 3 (0,0))) (hBA:w.heap[BA]? = some (.cells #[.int .u64 a,.int .u64 b,.int .u64 c,.int .u64 d] 25 (0,0))) :
  Calls Tryz.prog 103 #[.pointer (some ⟨BS,0,none⟩),.pointer (some ⟨BT,0,none⟩),.pointer (some ⟨BA,0,none⟩)] w (StRet w g F (s.addA (kSup t) m) (.int .i64 (addE (getP s.t) (kSup t) m))):=by
 have L:=hh (Liv.start h);have HZ:=hh hz;have HF:=hh hf;have HTN:=hh (And.intro ht hn);have HU:=hh hu;have HBS:=hh hBS;have HBT:=hh hBT;have HBA:=hh hBA;clear h hz hf ht hn hu hBS hBT hBA
 go_enter Tryz.func103,Tryz.ntmps103
 go_wp2_with fail;obtain ⟨a1,hwz,hbz⟩:=dr w;replace L:=hh (L.out.later hbz);replace HBS:=bA hbz HBS;replace HBT:=bA hbz HBT;replace HBA:=bA hbz HBA;clear hbz;refine rg3 6 6 hwz HBS HBT HBA fun hS=>?_
 clear hwz;refine tk 0 (some 4) rfl rfl (.inl ⟨by rfl,fun w' hS'=>(by have hc:w'.cell? ⟨BS,0,none⟩=some (.pointer (some ⟨g,0,none⟩)):=Lib.cell_of_heap (hS'.1) 0;go_simp;rfl)⟩) hS ?_;go_frame;refine tk 1 (some 5) rfl rfl (.inl ⟨by rfl,fun w' hS'=>(by have hc:w'.cell? ⟨BT,0,none⟩=some (.int .i64 t):=Lib.cell_of_heap (hS'.2.1) 0;go_simp;rfl)⟩) hS ?_;go_frame;refine tl 3 (some 7) (fun _ h=>h.2.2) Tryz.underlying25 Tryz.sizeU hS ?_;go_frame;refine t1 2 fun K hK=>?_
 simp only [gA,jB,gC];go_simp;refine (r0a HTN.out.1 _).mono ?_;rintro e a2 ⟨rfl,hb⟩;replace L:=hh (L.out.later hb);replace HBS:=bA hb HBS;replace HBT:=bA hb HBT;replace HBA:=bA hb HBA;clear hb;replace hS:=And.intro HBS.out (And.intro HBT.out HBA.out);refine hK _ _ (fun _ _=>hS) ?_;clear hK;refine t1 4 fun K hK=>?_
 simp only [gA,jB,gC];go_simp;refine (L.out.call fun F hs=>h0X hs (by have:=HZ.out;omega) HF.out (kSup t) HU.out).mono ?_;rintro e a3 ⟨rfl,o,hoth⟩;replace L:=hh o;replace HBS:=oA hoth HBS;replace HBT:=oA hoth HBT;replace HBA:=oA hoth HBA;clear o hoth;replace hS:=And.intro HBS.out (And.intro HBT.out HBA.out);refine hK _ _ (fun _ _=>hS) ?_;clear hK;refine tA1 5 3 hS ?_;go_frame;refine tD ?_;clear hS;go_wp2_with fail
 go_ret
 exact L.out.ret
theorem n0s {w:World} {g:Nat} {s:PS} {F:List Nat} (h:St w g s F) (hz:s.sz < 1000000000) (hf:Fit s) {t n:Int} (ht:I64 t) (hn:I64 n) {a b c d:Int} {m:Nat} (hu:UIs a b c d m) {BS BT BN BA:Nat} (hBS:w.heap[BS]? = some (.cells #[.pointer (some ⟨g,0,none⟩)] 42 (0,0))) (hBT:w.heap[BT]? = some (.cells #[.int .i64 t] 3 (0,0))) (hBN:w.heap[BN]? = some (.cells #[.int .i64 n] 3 (0,0))) (hBA:w.heap[BA]? = some (.cells #[.int .u64 a,.int .u64 b,.int .u64 c,.int .u64 d] 25 (0,0))) :
  Calls Tryz.prog 106 #[.pointer (some ⟨BS,0,none⟩),.pointer (some ⟨BT,0,none⟩),.pointer (some ⟨BN,0,none⟩),.pointer (some ⟨BA,0,none⟩)] w (StRet w g F (s.addA (kAcc t n) m) (.int .i64 (addE (getP s.t) (kAcc t n) m))):=by
 have L:=hh (Liv.start h);have HZ:=hh hz;have HF:=hh hf;have HTN:=hh (And.intro ht hn);have HU:=hh hu;have HBS:=hh hBS;have HBT:=hh hBT;have HBN:=hh hBN;have HBA:=hh hBA;clear h hz hf ht hn hu hBS hBT hBN hBA
 go_enter Tryz.func106,Tryz.ntmps106
 go_wp2_with fail;obtain ⟨a1,hwz,hbz⟩:=dr w;replace L:=hh (L.out.later hbz);replace HBS:=bA hbz HBS;replace HBT:=bA hbz HBT;replace HBN:=bA hbz HBN;replace HBA:=bA hbz HBA;clear hbz;refine rg4 7 7 hwz HBS HBT HBN HBA fun hS=>?_
 clear hwz;refine tk 0 (some 5) rfl rfl (.inl ⟨by rfl,fun w' hS'=>(by have hc:w'.cell? ⟨BS,0,none⟩=some (.pointer (some ⟨g,0,none⟩)):=Lib.cell_of_heap (hS'.1) 0;go_simp;rfl)⟩) hS ?_;go_frame;refine tk 1 (some 6) rfl rfl (.inl ⟨by rfl,fun w' hS'=>(by have hc:w'.cell? ⟨BT,0,none⟩=some (.int .i64 t):=Lib.cell_of_heap (hS'.2.1) 0;go_simp;rfl)⟩) hS ?_;go_frame;refine tk 2 (some 7) rfl rfl (.inl ⟨by rfl,fun w' hS'=>(by have hc:w'.cell? ⟨BN,0,none⟩=some (.int .i64 n):=Lib.cell_of_heap (hS'.2.2.1) 0;go_simp;rfl)⟩) hS ?_;go_frame;refine tl 4 (some 9) (fun _ h=>h.2.2.2) Tryz.underlying25 Tryz.sizeU hS ?_;go_frame;refine t1 3 fun K hK=>?_
 simp only [gA,jB,gC];go_simp;refine (e0Z HTN.out.1 HTN.out.2 _).mono ?_;rintro e a2 ⟨rfl,hb⟩;replace L:=hh (L.out.later hb);replace HBS:=bA hb HBS;replace HBT:=bA hb HBT;replace HBN:=bA hb HBN;replace HBA:=bA hb HBA;clear hb;replace hS:=And.intro HBS.out (And.intro HBT.out (And.intro HBN.out HBA.out));refine hK _ _ (fun _ _=>hS) ?_;clear hK;refine t1 5 fun K hK=>?_
 simp only [gA,jB,gC];go_simp;refine (L.out.call fun F hs=>h0X hs (by have:=HZ.out;omega) HF.out (kAcc t n) HU.out).mono ?_;rintro e a3 ⟨rfl,o,hoth⟩;replace L:=hh o;replace HBS:=oA hoth HBS;replace HBT:=oA hoth HBT;replace HBN:=oA hoth HBN;replace HBA:=oA hoth HBA;clear o hoth;replace hS:=And.intro HBS.out (And.intro HBT.out (And.intro HBN.out HBA.out));refine hK _ _ (fun _ _=>hS) ?_;clear hK;refine tA1 6 4 hS ?_;go_frame;refine tD ?_;clear hS;go_wp2_with fail
 go_ret
 exact L.out.ret
def mint2E (s:PS) (t n:Int) (m:Nat):Int:=if addE (getP s.t) (kSup t) m≠0 then addE (getP s.t) (kSup t) m else addE (getP (s.addA (kSup t) m).t) (kAcc t n) m
def PS.mint2 (s:PS) (t n:Int) (m:Nat):PS:=if addE (getP s.t) (kSup t) m≠0 then s else if addE (getP (s.addA (kSup t) m).t) (kAcc t n) m≠0 then ((s.addA (kSup t) m).addA (kAcc t n) m).undo s.past.length else (s.addA (kSup t) m).addA (kAcc t n) m
theorem q0r {w:World} {g:Nat} {s:PS} {F:List Nat} (h:St w g s F) (hz:s.sz < 100000000) (hf:Fit s) {t n:Int} (ht:I64 t) (hn:I64 n) {a b c d:Int} {m:Nat} (hu:UIs a b c d m) {BS BT BN BA L0:Nat} (hBS:w.heap[BS]? = some (.cells #[.pointer (some ⟨g,0,none⟩)] 42 (0,0))) (hBT:w.heap[BT]? = some (.cells #[.int .i64 t] 3 (0,0))) (hBN:w.heap[BN]? = some (.cells #[.int .i64 n] 3 (0,0))) (hBA:w.heap[BA]? = some (.cells #[.int .u64 a,.int .u64 b,.int .u64 c,.int .u64 d] 25 (0,0))) (hL0:w.heap[L0]? = some (.cells #[.func (.func 103) #[] #[.pointer (some ⟨BS,0,none⟩),.pointer (some ⟨BT,0,none⟩),.pointer (some ⟨BA,0,none⟩)],.func (.func 106) #[] #[.pointer (some ⟨BS,0,none⟩),.pointer (some ⟨BT,0,none⟩),.pointer (some ⟨BN,0,none⟩),.pointer (some ⟨BA,0,none⟩)]] 182 (0,0))) :
  Calls Tryz.prog 102 #[.pointer (some ⟨g,0,none⟩),.slice (some ⟨L0,0,none⟩) 2 2] w (StRet w g F (s.mint2 t n m) (.int .i64 (mint2E s t n m))):=by
 have L:=hh (Liv.start h);have HZ:=hh hz;have HF:=hh hf;have HT:=hh ht;have HN:=hh hn;have HU:=hh hu;have HBS:=hh hBS;have HBT:=hh hBT;have HBN:=hh hBN;have HBA:=hh hBA;have HL0:=hh hL0;have hmk:=g0d h;clear hz hf ht hn hu hBS hBT hBN hBA hL0
 go_enter Tryz.func102,Tryz.ntmps102
 go_wp2_with fail;refine hmk.mono ?_;rintro e _ ⟨rfl,rfl⟩;clear hmk h;obtain ⟨pl,hpl⟩:=nm (s.past.length);rw [← hpl];have HPL:=hh hpl;clear hpl;obtain ⟨e1,he1⟩:=nm (addE (getP s.t) (kSup t) m);obtain ⟨s1,hs1⟩:=nm (s.addA (kSup t) m);obtain ⟨e2,he2⟩:=nm (addE (getP s1.t) (kAcc t n) m);obtain ⟨s2,hs2⟩:=nm (s1.addA (kAcc t n) m);have HE:Hid (mint2E s t n m=if e1≠0 then e1 else e2):=hh (by unfold mint2E;rw [he2,hs1,he1]);have HS:Hid (s.mint2 t n m=if e1≠0 then s else if e2≠0 then s2.undo s.past.length else s2):=hh (by unfold PS.mint2;rw [he2,hs2,hs1,he1]);have HZ1:Hid (s1.sz < 1000000000∧Fit s1):=hh (by rw [hs1];have h8:=c0N s (kSup t) m;have h9:=HZ.out;exact ⟨by omega,HF.out.addA _ _⟩);have HZ2:Hid (s2.sz < 1000000000):=hh (by rw [hs2,hs1];have h8:=c0N s (kSup t) m;have h9:=HZ.out;have h7:=c0N (s.addA (kSup t) m) (kAcc t n) m;omega);have HSA:Hid (e1≠0→s1=s):=hh (by intro h9;rw [hs1];exact o0j (by rw [← he1];exact h9));have H1:=hh (And.intro he1 hs1);have H2:=hh (And.intro he2 hs2);clear he1 hs1 he2 hs2;go_wp2_with fail
 go_loopw [13] (fun vi wr=>∃ i:Nat,vi = .int .i64 i∧i≤2∧Hid ((i=0∧Liv w F wr g s)∨(i=1∧e1=0∧Liv w F wr g s1)∨(i=2∧e1=0∧e2=0∧Liv w F wr g s2))∧Hid (wr.heap[BS]? = some (.cells #[.pointer (some ⟨g,0,none⟩)] 42 (0,0))∧wr.heap[BT]? = some (.cells #[.int .i64 t] 3 (0,0))∧wr.heap[BN]? = some (.cells #[.int .i64 n] 3 (0,0))∧wr.heap[BA]? = some (.cells #[.int .u64 a,.int .u64 b,.int .u64 c,.int .u64 d] 25 (0,0))∧wr.heap[L0]? = some (.cells #[.func (.func 103) #[] #[.pointer (some ⟨BS,0,none⟩),.pointer (some ⟨BT,0,none⟩),.pointer (some ⟨BA,0,none⟩)],.func (.func 106) #[] #[.pointer (some ⟨BS,0,none⟩),.pointer (some ⟨BT,0,none⟩),.pointer (some ⟨BN,0,none⟩),.pointer (some ⟨BA,0,none⟩)]] 182 (0,0)))) (fun vi _=>2 - (intOf vi).toNat)
 case atStart=>exact ⟨0,rfl,by omega,hh (.inl ⟨rfl,L.out⟩),hh ⟨HBS.out,HBT.out,HBN.out,HBA.out,HL0.out⟩⟩
 case round=>
  clear L HBS HBT HBN HBA HL0;obtain ⟨i,rfl,hi,HI,HX⟩:=hrel
  rcases (show i=0∨i=1∨i=2 by omega) with rfl | rfl | rfl
  ·have L:Hid (Liv w F wr g s):=hh (by rcases HI.out with h | h | h;exact h.2;exact absurd h.1 (by decide);exact absurd h.1 (by decide));have c0:wr.cell? ⟨L0,0,none⟩=some (.func (.func 103) #[] #[.pointer (some ⟨BS,0,none⟩),.pointer (some ⟨BT,0,none⟩),.pointer (some ⟨BA,0,none⟩)]):=Lib.cell_of_heap HX.out.2.2.2.2 0;go_wp2_with fail;clear c0 HI;refine (L.out.call fun F2 hs=>o0E hs (by have:=HZ.out;omega) HF.out HT.out HN.out HU.out HX.out.1 HX.out.2.1 HX.out.2.2.2.1).mono ?_;rw [← H1.out.1,← H1.out.2];rintro e w2 ⟨rfl,L2,hoth⟩;have L2:=hh L2;have HX2:=hh (And.intro (hoth.2 BS _ HX.out.1 rfl rfl) (And.intro (hoth.2 BT _ HX.out.2.1 rfl rfl) (And.intro (hoth.2 BN _ HX.out.2.2.1 rfl rfl) (And.intro (hoth.2 BA _ HX.out.2.2.2.1 rfl rfl) (hoth.2 L0 _ HX.out.2.2.2.2 rfl rfl)))));clear hoth L HX
   by_cases hz0:e1=0
   ·have HZE:=hh hz0;have hb0:(e1 != 0)=false:=by rw [hz0];rfl
    clear hz0;go_wp2_with fail
    go_roundw
    case rel=>exact ⟨1,by go_num,by omega,hh (.inr (.inl ⟨rfl,HZE.out,L2.out⟩)),HX2⟩
    case measure=>simp [intOf]
   ·have hb0:(e1 != 0)=true:=by rw [bne_iff_ne];exact hz0
    have HEV:Hid (mint2E s t n m=e1):=hh (by rw [HE.out,if_pos hz0]);have HSV:Hid (s.mint2 t n m=s1.undo pl):=hh (by rw [HS.out,HPL.out,if_pos hz0,HSA.out hz0,o0W]);have hne:(e1 == 0)=false:=by rw [beq_eq_false_iff_ne];exact hz0
    clear hz0;go_wp2_with fail;refine (L2.out.call fun F2 hs=>c0X hs (by have h8:=HZ1.out.1;have h9:=HZ2.out;unfold PS.sz at h8 h9;omega) pl).mono ?_;rintro e w3 ⟨rfl,L3,_⟩;have L3:=hh L3;clear L2;go_wp2_with fail
    go_ret
    rw [HEV.out,HSV.out];exact L3.out.ret
  ·have hhq:e1=0∧Liv w F wr g s1:=by rcases HI.out with h | h | h;exact absurd h.1 (by decide);exact h.2;exact absurd h.1 (by decide)
   have L:=hh hhq.2;have HE1:=hh hhq.1;have c0:wr.cell? ⟨L0,1,none⟩=some (.func (.func 106) #[] #[.pointer (some ⟨BS,0,none⟩),.pointer (some ⟨BT,0,none⟩),.pointer (some ⟨BN,0,none⟩),.pointer (some ⟨BA,0,none⟩)]):=Lib.cell_of_heap HX.out.2.2.2.2 1;clear hhq;go_wp2_with fail;clear c0 HI;refine (L.out.call fun F2 hs=>n0s hs HZ1.out.1 HZ1.out.2 HT.out HN.out HU.out HX.out.1 HX.out.2.1 HX.out.2.2.1 HX.out.2.2.2.1).mono ?_;rw [← H2.out.1,← H2.out.2];rintro e w2 ⟨rfl,L2,hoth⟩;have L2:=hh L2;have HX2:=hh (And.intro (hoth.2 BS _ HX.out.1 rfl rfl) (And.intro (hoth.2 BT _ HX.out.2.1 rfl rfl) (And.intro (hoth.2 BN _ HX.out.2.2.1 rfl rfl) (And.intro (hoth.2 BA _ HX.out.2.2.2.1 rfl rfl) (hoth.2 L0 _ HX.out.2.2.2.2 rfl rfl)))));clear hoth L HX
   by_cases hz0:e2=0
   ·have HZE:=hh hz0;have hb0:(e2 != 0)=false:=by rw [hz0];rfl
    clear hz0;go_wp2_with fail
    go_roundw
    case rel=>exact ⟨2,by go_num,by omega,hh (.inr (.inr ⟨rfl,HE1.out,HZE.out,L2.out⟩)),HX2⟩
    case measure=>simp [intOf]
   ·have hb0:(e2 != 0)=true:=by rw [bne_iff_ne];exact hz0
    have HEV:Hid (mint2E s t n m=e2):=hh (by rw [HE.out,if_neg (fun e=>e HE1.out)]);have HSV:Hid (s.mint2 t n m=s2.undo pl):=hh (by rw [HS.out,HPL.out,if_neg (fun e=>e HE1.out),if_pos hz0]);have hne:(e2 == 0)=false:=by rw [beq_eq_false_iff_ne];exact hz0
    clear hz0;go_wp2_with fail;refine (L2.out.call fun F2 hs=>c0X hs (by have h8:=HZ1.out.1;have h9:=HZ2.out;unfold PS.sz at h8 h9;omega) pl).mono ?_;rintro e w3 ⟨rfl,L3,_⟩;have L3:=hh L3;clear L2;go_wp2_with fail
    go_ret
    rw [HEV.out,HSV.out];exact L3.out.ret
  ·have hhq:e1=0∧e2=0∧Liv w F wr g s2:=by rcases HI.out with h | h | h;exact absurd h.1 (by decide);exact absurd h.1 (by decide);exact h.2
   have L:=hh hhq.2.2;have HEV:Hid (mint2E s t n m=0):=hh (by rw [HE.out,if_neg (fun e=>e hhq.1),hhq.2.1]);have HSV:Hid (s.mint2 t n m=s2):=hh (by rw [HS.out,if_neg (fun e=>e hhq.1),if_neg (fun e=>e hhq.2.1)]);clear hhq HI;go_wp2_with fail
   go_ret
   rw [HEV.out,HSV.out];exact L.out.ret
end
section
open Go.RowKit

theorem o0Q (w:World) (c0 c1:Array Value) (T0 T1:TypeId) (w1:World) (hw:w1=(w.alloc (.cells c0 T0)).alloc (.cells c1 T1)) :
  w1.heap[w.heap.size]? = some (.cells c0 T0 (0,0))∧w1.heap[w.heap.size+1]? = some (.cells c1 T1 (0,0))∧Below w.heap.size w w1∧w1.heap.size=w.heap.size+1+1:=by
 obtain ⟨wa,ha⟩:=nm (w.alloc (.cells c0 T0));rw [← ha] at hw;have sa:wa.heap.size=w.heap.size+1:=by rw [ha,World.size_alloc]
 have ba:Below w.heap.size w wa:=by rw [ha];exact a0d _ _
 have bb:Below wa.heap.size wa w1:=by rw [hw];exact a0d _ _
 have ea:wa.heap[w.heap.size]? = some (.cells c0 T0 (0,0)):=by rw [ha];exact heap_alloc_new _ _
 have eb:w1.heap[wa.heap.size]? = some (.cells c1 T1 (0,0)):=by rw [hw];exact heap_alloc_new _ _
 rw [sa] at eb
 exact ⟨a0e bb ea,eb,ba.trans (bb.mono (by omega)),by rw [hw,World.size_alloc,sa]⟩
theorem q0a (w:World) (c0 c1 c2 c3:Array Value) (T0 T1 T2 T3:TypeId) (w1:World) (hw:w1=(((w.alloc (.cells c0 T0)).alloc (.cells c1 T1)).alloc (.cells c2 T2)).alloc (.cells c3 T3)) :
  w1.heap[w.heap.size]? = some (.cells c0 T0 (0,0))∧w1.heap[w.heap.size+1]? = some (.cells c1 T1 (0,0))∧w1.heap[w.heap.size+1+1]? = some (.cells c2 T2 (0,0))∧w1.heap[w.heap.size+1+1+1]? = some (.cells c3 T3 (0,0))∧Below w.heap.size w w1:=by
 obtain ⟨wa,ha⟩:=nm ((w.alloc (.cells c0 T0)).alloc (.cells c1 T1));obtain ⟨h1,h2,h3,h4⟩:=o0Q w c0 c1 T0 T1 wa ha;rw [← ha] at hw;obtain ⟨k1,k2,k3,k4⟩:=o0Q wa c2 c3 T2 T3 w1 hw;rw [h4] at k1 k2
 exact ⟨a0e k3 h1,a0e k3 h2,k1,k2,h3.trans (k3.mono h3.size)⟩

theorem r0x {w:World} {g:Nat} {s:PS} {F:List Nat} (h:St w g s F) (hz:s.sz < 100000000) (hf:Fit s) {t n:Int} (ht:I64 t) (hn:I64 n) {a b c d:Int} {m:Nat} (hu:UIs a b c d m) :
  Calls Tryz.prog 45 #[.pointer (some ⟨g,0,none⟩),.int .i64 t,.int .i64 n,.agg #[.int .u64 a,.int .u64 b,.int .u64 c,.int .u64 d]] w (StRet w g F (s.mint t n m) (.int .i64 (mintE s t n m))):=by
 have L:=hh (Liv.start h);have HZ:=hh hz;have HF:=hh hf;have HT:=hh ht;have HN:=hh hn;have HU:=hh hu;obtain ⟨gq,hgq⟩:=nm (goodB t n);have HG:=hh hgq;clear h hz hf ht hn hu hgq
 go_enter Tryz.func45,Tryz.ntmps45
 go_upto_region 1 with fail
 obtain ⟨w1,hw1⟩:=nm ((((w.alloc (.cells #[.pointer (some ⟨g,0,none⟩)] 42)).alloc (.cells #[.int .i64 t] 3)).alloc (.cells #[.int .i64 n] 3)).alloc (.cells #[.int .u64 a,.int .u64 b,.int .u64 c,.int .u64 d] 25));obtain ⟨BS,hBS⟩:=nm (w.heap.size);obtain ⟨BT,hBT⟩:=nm (w.heap.size+1);obtain ⟨BN,hBN⟩:=nm (w.heap.size+1+1);obtain ⟨BA,hBA⟩:=nm (w.heap.size+1+1+1);rw [← hw1,← hBA,← hBN,← hBT,← hBS];have hbx:=q0a w _ _ _ _ _ _ _ _ w1 hw1;rw [← hBA,← hBN,← hBT,← hBS] at hbx;have hb1:Below w.heap.size w w1:=by rw [← hBS];exact hbx.2.2.2.2
 have HBS:=hh hbx.1;have HBT:=hh hbx.2.1;have HBN:=hh hbx.2.2.1;have HBA:=hh hbx.2.2.2.1;replace L:=hh (L.out.later hb1);clear hbx hw1 hBS hBT hBN hBA hb1;have c0:w1.cell? ⟨BT,0,none⟩=some (.int .i64 t):=Lib.cell_of_heap HBT.out 0;have c1:w1.cell? ⟨BN,0,none⟩=some (.int .i64 n):=Lib.cell_of_heap HBN.out 0;go_wp2_with fail;clear c0 c1;refine (d0P t n _).mono ?_;rw [← HG.out];rintro e _ ⟨rfl,rfl⟩
 cases gq with
 | false=>
  have HE:Hid (mintE s t n m=2):=hh (by unfold mintE;rw [if_pos (.inl HG.out.symm)]);have HS:Hid (s.mint t n m=s):=hh (by unfold PS.mint;rw [if_pos (.inl HG.out.symm)]);go_wp2_with fail
  go_ret
  rw [HE.out,HS.out];exact L.out.ret
 | true=>
  have cBA0:w1.cell? ⟨BA,0,none⟩=some (.int .u64 a):=Lib.cell_of_heap HBA.out 0;have cBA1:w1.cell? ⟨BA,1,none⟩=some (.int .u64 b):=Lib.cell_of_heap HBA.out 1;have cBA2:w1.cell? ⟨BA,2,none⟩=some (.int .u64 c):=Lib.cell_of_heap HBA.out 2;have cBA3:w1.cell? ⟨BA,3,none⟩=some (.int .u64 d):=Lib.cell_of_heap HBA.out 3;go_wp2_with fail;clear cBA0 cBA1 cBA2 cBA3;refine (d0A HU.out _).mono ?_;obtain ⟨q,hq⟩:=nm (decide (m < uHalf));rw [← hq];have HQ:=hh hq;clear hq;rintro e w2 ⟨rfl,hb⟩;replace L:=hh (L.out.later hb);replace HBS:=bA hb HBS;replace HBT:=bA hb HBT;replace HBN:=bA hb HBN;replace HBA:=bA hb HBA;clear hb
  cases q with
  | false=>
   have HE:Hid (mintE s t n m=2):=hh (by unfold mintE;rw [if_pos (.inr (of_decide_eq_false HQ.out.symm))]);have HS:Hid (s.mint t n m=s):=hh (by unfold PS.mint;rw [if_pos (.inr (of_decide_eq_false HQ.out.symm))]);go_wp2_with fail
   go_ret
   rw [HE.out,HS.out];exact L.out.ret
  | true=>
   have hno:¬ (goodB t n=false∨¬ m < uHalf):=fun e=>by
    rcases e with e | e
    ·rw [e] at HG;have:=HG.out;cases this
    ·exact e (of_decide_eq_true HQ.out.symm)
   have HE:Hid (mintE s t n m=mint2E s t n m):=hh (by unfold mintE mint2E;rw [if_neg hno]);have HS:Hid (s.mint t n m=s.mint2 t n m):=hh (by unfold PS.mint PS.mint2;rw [if_neg hno]);clear hno HG HQ;have c0:w2.cell? ⟨BS,0,none⟩=some (.pointer (some ⟨g,0,none⟩)):=Lib.cell_of_heap HBS.out 0;go_wp2_with fail;clear c0;obtain ⟨w3,hw3⟩:=nm (w2.alloc (.cells #[.func (.func 103) #[] #[.pointer (some ⟨BS,0,none⟩),.pointer (some ⟨BT,0,none⟩),.pointer (some ⟨BA,0,none⟩)],.func (.func 106) #[] #[.pointer (some ⟨BS,0,none⟩),.pointer (some ⟨BT,0,none⟩),.pointer (some ⟨BN,0,none⟩),.pointer (some ⟨BA,0,none⟩)]] 182));obtain ⟨L0,hL0⟩:=nm (w2.heap.size);rw [← hw3,← hL0];have HL0:Hid (w3.heap[L0]? = some (.cells #[.func (.func 103) #[] #[.pointer (some ⟨BS,0,none⟩),.pointer (some ⟨BT,0,none⟩),.pointer (some ⟨BA,0,none⟩)],.func (.func 106) #[] #[.pointer (some ⟨BS,0,none⟩),.pointer (some ⟨BT,0,none⟩),.pointer (some ⟨BN,0,none⟩),.pointer (some ⟨BA,0,none⟩)]] 182 (0,0))):=hh (by rw [hw3,hL0];exact heap_alloc_new _ _);have hb3:Below w2.heap.size w2 w3:=by rw [hw3];exact a0d _ _
   clear hw3 hL0;replace L:=hh (L.out.later hb3);replace HBS:=bA hb3 HBS;replace HBT:=bA hb3 HBT;replace HBN:=bA hb3 HBN;replace HBA:=bA hb3 HBA;clear hb3;refine (L.out.call fun F2 hs=>q0r hs HZ.out HF.out HT.out HN.out HU.out HBS.out HBT.out HBN.out HBA.out HL0.out).mono ?_;rintro e w4 ⟨rfl,o,_⟩;have L4:=hh o;clear o L;go_wp2_with fail
   go_ret
   rw [HE.out,HS.out];exact L4.out.ret

def UndB (w:World) (x:Option Addr) (Tb:Txt→Tab):Prop:=∀ W,Below w.heap.size w W→∀ b,Calls Tryz.prog 71 #[.pointer x,.string (bs b)] W (CloneRet W 135 pairE 2 (Tb b))
theorem UndB.later {w w':World} {x:Option Addr} {Tb:Txt→Tab} (h:UndB w x Tb) (hb:Below w.heap.size w w'):UndB w' x Tb:=fun W hW b=>h W (hb.trans (hW.mono hb.size)) b
theorem UndB.st {w:World} {g:Nat} {s:PS} {F:List Nat} (h:St w g s F) (htl:s.t.length < 1099511627776):UndB w (some ⟨g,0,none⟩) (underP s.t):=fun W hW b=>by
 obtain ⟨F2,h2,_,_⟩:=(Liv.start h).later hW
 exact m0u h2 htl b
theorem UndB.not {w:World} {x:Option Addr} (h:NotMade w x):UndB w x (fun _=>[]):=fun W hW b=>by
 have h2:NotMade W x:=by
  rcases (Look.of_not h).later hW with ⟨e,_⟩ | ⟨_,h2,_⟩
  ·cases e
  ·exact h2
 exact (m0q h2 b).mono fun e W2 ⟨e1,e2⟩=>⟨_,e1,by rw [← e2];exact ⟨LO.nil _ _ _ _,Below.refl _ _,fun k e=>by cases e⟩⟩

end
section
open Go.RowKit

end
end Go.Proofs.YtakkfabaeolbdaaGreat
