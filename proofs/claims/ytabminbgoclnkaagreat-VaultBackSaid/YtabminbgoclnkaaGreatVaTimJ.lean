/- Plain: products and quotients of numbers as digits of 2^32. No condition. Rows of digits of 2^32 that a call makes and writes. No condition. The reference's product of numbers as digits (code). No condition. The reference's quotient and rest of numbers as digits (code). No condition. -/
import Derived.Test.YtabminbgoclnkaaGreatVaAriJ
import Derived.Test.YtabminbgoclnkaaGreatVaCelR
namespace Go.Proofs.YtabminbgoclnkaaGreat
set_option maxHeartbeats 32000000
set_option maxRecDepth 100000
section

theorem m0E {l:List Nat} {k d:Nat} (h:k < l.length):dv (l.set k d)+4294967296 ^ k*l[k]=dv l+4294967296 ^ k*d:=by
 have e1:l=l.take k ++ l[k] :: l.drop (k+1):=by rw [← List.drop_eq_getElem_cons h,List.take_append_drop]
 have e2:l.set k d=l.take k ++ d :: l.drop (k+1):=List.set_eq_take_append_cons_drop▸(by rw [if_pos h]);have f1:=congrArg dv e1;have f2:=congrArg dv e2;rw [e0E,List.length_take,Nat.min_eq_left (by omega)] at f1 f2;have g1:dv (l[k] :: l.drop (k+1))=l[k]+4294967296*dv (l.drop (k+1)):=rfl;have g2:dv (d :: l.drop (k+1))=d+4294967296*dv (l.drop (k+1)):=rfl;rw [g1,Nat.mul_add] at f1;rw [g2,Nat.mul_add] at f2
 omega
theorem D32.set {l:List Nat} (h:D32 l) (k:Nat) {d:Nat} (hd:d < 4294967296):D32 (l.set k d):=fun x hx=>by
 rcases List.mem_or_eq_of_mem_set hx with h1 | h1
 ·exact h x h1
 ·rw [h1];exact hd
theorem D32.at {l:List Nat} (h:D32 l) {k:Nat} (hk:k < l.length):l[k] < 4294967296:=h _ (List.getElem_mem hk)
theorem D32.zeros (n:Nat):D32 (List.replicate n 0):=fun d hd=>by rw [(List.mem_replicate.1 hd).2];omega
theorem f0C (n:Nat):dv (List.replicate n 0)=0:=by
 induction n with
 | zero=>rfl
 | succ n ih=>rw [List.replicate_succ];show 0+4294967296*dv _=0;rw [ih]
theorem dv_at {l:List Nat} (h:D32 l) {k:Nat} (hk:k < l.length):l[k]=dv l / 4294967296 ^ k % 4294967296:=by
 have e1:l=l.take k ++ l[k] :: l.drop (k+1):=by rw [← List.drop_eq_getElem_cons hk,List.take_append_drop]
 have f1:=congrArg dv e1;rw [e0E,List.length_take,Nat.min_eq_left (by omega)] at f1;have g1:dv (l[k] :: l.drop (k+1))=l[k]+4294967296*dv (l.drop (k+1)):=rfl;have h1:=dv_lt (h.take k);rw [List.length_take,Nat.min_eq_left (by omega)] at h1;have h2:=h.at hk;rw [f1,Nat.add_mul_div_left _ _ (Nat.pow_pos (by omega)),Nat.div_eq_of_lt h1,Nat.zero_add,g1]
 omega

structure TimesI (o0 b:List Nat) (x i j:Nat) (o:List Nat) (c:Nat):Prop where
 len:o.length=o0.length
 d32:D32 o
 c32:c < 4294967296
 eq:dv o+4294967296 ^ (i+j)*c=dv o0+4294967296 ^ i*(x*dv (b.take j))
theorem TimesI.zero {o0 b:List Nat} (x i:Nat) (h:D32 o0):TimesI o0 b x i 0 o0 0:=⟨rfl,h,by omega,by simp [dv]⟩
theorem TimesI.next {o0 b:List Nat} {x i j:Nat} {o:List Nat} {c:Nat} (h:TimesI o0 b x i j o c) (hj:i+j < o.length) {y:Nat} (hy:y=o[i+j]+c+x*dig b j) (hx:x < 4294967296) (hb:D32 b) :
  y < 18446744073709551616∧TimesI o0 b x i (j+1) (o.set (i+j) (y % 4294967296)) (y / 4294967296):=by
 have h1:=h.d32.at hj;have h2:=h.c32;have h3:dig b j < 4294967296:=a0X hb j;have h4:x*dig b j≤4294967295*4294967295:=Nat.mul_le_mul (by omega) (by omega);have hlt:y < 18446744073709551616:=by omega
 refine ⟨hlt,by rw [List.length_set,h.len],h.d32.set _ (Nat.mod_lt _ (by omega)),by omega,?_⟩;have e:=h.eq;have s:=m0E (l:=o) (k:=i+j) (d:=y % 4294967296) hj;have e2:4294967296 ^ (i+(j+1))=4294967296 ^ (i+j)*4294967296:=by rw [← Nat.add_assoc,Nat.pow_succ]
 have e3:4294967296 ^ (i+j)*4294967296*(y / 4294967296)+4294967296 ^ (i+j)*(y % 4294967296)=4294967296 ^ (i+j)*y:=by
  rw [Nat.mul_assoc,← Nat.mul_add];congr 1;omega
 have e4:4294967296 ^ (i+j)*y=4294967296 ^ (i+j)*o[i+j]+4294967296 ^ (i+j)*c+4294967296 ^ (i+j)*(x*dig b j):=by
  rw [hy,Nat.mul_add,Nat.mul_add]
 have e5:4294967296 ^ i*(x*dv (b.take (j+1)))=4294967296 ^ i*(x*dv (b.take j))+4294967296 ^ (i+j)*(x*dig b j):=by
  rw [b0p,Nat.mul_add,Nat.mul_add,Nat.pow_add,Nat.mul_assoc (4294967296 ^ i) (4294967296 ^ j),Nat.mul_left_comm x (4294967296 ^ j)]
 rw [e2,e5]
 omega
structure TimesO (a b:List Nat) (i:Nat) (o:List Nat):Prop where
 len:o.length=a.length+b.length
 d32:D32 o
 eq:dv o=dv (a.take i)*dv b
theorem TimesO.zero (a b:List Nat) {n:Nat} (hn:n=a.length+b.length):TimesO a b 0 (List.replicate n 0):=⟨by rw [List.length_replicate,hn],D32.zeros _,by rw [f0C];simp [dv]⟩
theorem TimesI.small {a b:List Nat} {i j:Nat} {o0 o:List Nat} {c x:Nat} (h:TimesI o0 b x i j o c) (ho:TimesO a b i o0) (hi:i < a.length) (hx:x=a[i]) (ha:D32 a) (hb:D32 b) (hj:b.length≤j) (hc:0 < c):j=b.length:=by
 apply Classical.byContradiction
 intro hne;have e:=h.eq;rw [List.take_of_length_le hj,ho.eq] at e;have e1:dv (a.take i)*dv b+4294967296 ^ i*(x*dv b)=dv (a.take (i+1))*dv b:=by
  rw [b0h hi,Nat.add_mul,hx,Nat.mul_assoc]
 have k1:=dv_lt (ha.take (i+1));rw [List.length_take,Nat.min_eq_left (by omega)] at k1;have k2:=dv_lt hb;have k3:dv (a.take (i+1))*dv b < 4294967296 ^ (i+1)*4294967296 ^ b.length:=by
  by_cases h0:dv b=0
  ·rw [h0,Nat.mul_zero];exact Nat.mul_pos (Nat.pow_pos (by omega)) (Nat.pow_pos (by omega))
  ·exact Nat.mul_lt_mul_of_lt_of_le k1 (Nat.le_of_lt k2) (Nat.pow_pos (by omega))
 rw [← Nat.pow_add] at k3;have k4:4294967296 ^ (i+1+b.length)≤4294967296 ^ (i+j):=Nat.pow_le_pow_right (by omega) (by omega);have k5:4294967296 ^ (i+j)*1≤4294967296 ^ (i+j)*c:=Nat.mul_le_mul_left _ hc
 omega
theorem TimesI.done {a b:List Nat} {i j:Nat} {o0 o:List Nat} {x:Nat} (h:TimesI o0 b x i j o 0) (ho:TimesO a b i o0) (hi:i < a.length) (hx:x=a[i]) (hj:b.length≤j):TimesO a b (i+1) o:=by
 refine ⟨by rw [h.len,ho.len],h.d32,?_⟩;have e:=h.eq;rw [List.take_of_length_le hj,ho.eq,Nat.mul_zero,Nat.add_zero] at e;rw [e,b0h hi,Nat.add_mul,hx,Nat.mul_assoc]
theorem TimesO.done {a b:List Nat} {i:Nat} {o:List Nat} (h:TimesO a b i o) (hi:a.length≤i):dv o=dv a*dv b:=by
 rw [h.eq,List.take_of_length_le hi]

structure QuoI (n d:Nat) (i:Nat) (q r:List Nat) (lq lr:Nat):Prop where
 lenq:q.length=lq
 lenr:r.length=lr
 q32:D32 q
 r32:D32 r
 rest:dv r=n / 2 ^ i % d
 quo:dv q=n / 2 ^ i / d*2 ^ i
theorem QuoI.start {n d i lq lr:Nat} (h:n < 2 ^ i):QuoI n d i (List.replicate lq 0) (List.replicate lr 0) lq lr:=by
 have e:n / 2 ^ i=0:=Nat.div_eq_of_lt h
 exact ⟨List.length_replicate,List.length_replicate,D32.zeros _,D32.zeros _,by rw [f0C,e,Nat.zero_mod],by rw [f0C,e,Nat.zero_div,Nat.zero_mul]⟩
theorem QuoI.done {n d lq lr:Nat} {q r:List Nat} (h:QuoI n d 0 q r lq lr):dv q=n / d∧dv r=n % d:=by
 have h1:=h.rest;have h2:=h.quo;rw [Nat.pow_zero,Nat.div_one] at h1;rw [Nat.pow_zero,Nat.div_one,Nat.mul_one] at h2
 exact ⟨h2,h1⟩
def bitN (n i:Nat):Nat:=n / 2 ^ i % 2
theorem g0G (n i:Nat):n / 2 ^ i=2*(n / 2 ^ (i+1))+bitN n i:=by
 unfold bitN
 rw [Nat.pow_succ,← Nat.div_div_eq_div_mul]
 omega
theorem pow32 (k:Nat):(4294967296:Nat) ^ k=2 ^ (32*k):=by rw [show (4294967296:Nat)=2 ^ 32 from rfl,← Nat.pow_mul]
theorem g0R {l:List Nat} (h:D32 l) {k e:Nat} (hk:k < l.length) (he:e < 32):l[k] / 2 ^ e % 2=bitN (dv l) (32*k+e):=by
 rw [dv_at h hk]
 unfold bitN
 rw [pow32,Nat.pow_add,← Nat.div_div_eq_div_mul]
 generalize dv l / 2 ^ (32*k)=m
 have h1:(4294967296:Nat)=2 ^ e*2 ^ (32 - e):=by rw [← Nat.pow_add,show e+(32 - e)=32 by omega]
 rw [h1,Nat.mod_mul_right_div_self];have h2:(2:Nat) ^ (32 - e)=2*2 ^ (32 - e - 1):=by rw [← Nat.pow_succ',show (32 - e - 1).succ=32 - e by omega]
 rw [h2,Nat.mod_mul_right_mod]
theorem j0G {q:List Nat} (h:D32 q) {k e m:Nat} (hk:k < q.length) (he:e < 32) (hq:dv q=m*2 ^ (32*k+e+1)):q[k] % 2 ^ (e+1)=0:=by
 rw [dv_at h hk,hq,pow32,show 32*k+e+1=32*k+(e+1) by omega,Nat.pow_add,Nat.mul_left_comm,Nat.mul_div_cancel_left _ (Nat.pow_pos (by omega))];have h1:(4294967296:Nat)=2 ^ (e+1)*2 ^ (32 - (e+1)):=by rw [← Nat.pow_add,show e+1+(32 - (e+1))=32 by omega]
 rw [h1,Nat.mod_mul_right_mod,Nat.mul_mod_left]
theorem m0h {x e:Nat} (hx:x < 4294967296) (he:e < 32) (h:x % 2 ^ (e+1)=0):x+2 ^ e < 4294967296∧x / 2 ^ e % 2=0:=by
 have hp:0 < 2 ^ e:=Nat.pow_pos (by omega);have h1:(4294967296:Nat)=2 ^ (e+1)*2 ^ (32 - (e+1)):=by rw [← Nat.pow_add,show e+1+(32 - (e+1))=32 by omega]
 obtain ⟨t,ht⟩:=Nat.dvd_of_mod_eq_zero h;rw [ht] at hx ⊢
 constructor
 ·have h2:t < 2 ^ (32 - (e+1)):=Nat.lt_of_mul_lt_mul_left (a:=2 ^ (e+1)) (by rw [← h1];exact hx);have h3:2 ^ (e+1)*(t+1)≤2 ^ (e+1)*2 ^ (32 - (e+1)):=Nat.mul_le_mul_left _ h2;rw [← h1,Nat.mul_succ] at h3;have h4:2 ^ (e+1)=2*2 ^ e:=by rw [Nat.pow_succ']
  omega
 ·rw [Nat.pow_succ,Nat.mul_assoc,Nat.mul_div_cancel_left _ hp];omega
theorem l0x {n d i:Nat} (hd:0 < d) (h:2*(n / 2 ^ (i+1) % d)+bitN n i < d):n / 2 ^ i % d=2*(n / 2 ^ (i+1) % d)+bitN n i∧n / 2 ^ i / d=2*(n / 2 ^ (i+1) / d):=by
 have e:=g0G n i;have e2:=Nat.div_add_mod (n / 2 ^ (i+1)) d
 generalize n / 2 ^ (i+1) / d=Q at *
 generalize n / 2 ^ (i+1) % d=R at *
 have e3:n / 2 ^ i=(2*R+bitN n i)+d*(2*Q):=by
  rw [e,← e2,Nat.mul_left_comm d 2 Q];omega
 rw [e3]
 exact ⟨by rw [Nat.add_mul_mod_self_left,Nat.mod_eq_of_lt h],by rw [Nat.add_mul_div_left _ _ hd,Nat.div_eq_of_lt h,Nat.zero_add]⟩
theorem l0N {n d i:Nat} (hd:0 < d) (h:d≤2*(n / 2 ^ (i+1) % d)+bitN n i):n / 2 ^ i % d=2*(n / 2 ^ (i+1) % d)+bitN n i - d∧n / 2 ^ i / d=2*(n / 2 ^ (i+1) / d)+1:=by
 have e:=g0G n i;have e2:=Nat.div_add_mod (n / 2 ^ (i+1)) d;have e4:=Nat.mod_lt (n / 2 ^ (i+1)) hd;have e5:bitN n i < 2:=Nat.mod_lt _ (by omega)
 generalize n / 2 ^ (i+1) / d=Q at *
 generalize n / 2 ^ (i+1) % d=R at *
 have e3:n / 2 ^ i=(2*R+bitN n i - d)+d*(2*Q+1):=by
  have e6:d*(2*Q+1)=2*(d*Q)+d:=by rw [Nat.mul_add,Nat.mul_one,Nat.mul_left_comm]
  rw [e,← e2,e6];omega
 have hl:2*R+bitN n i - d < d:=by omega
 rw [e3]
 exact ⟨by rw [Nat.add_mul_mod_self_left,Nat.mod_eq_of_lt hl],by rw [Nat.add_mul_div_left _ _ hd,Nat.div_eq_of_lt hl,Nat.zero_add]⟩
theorem QuoI.less {n d i lq lr:Nat} {q r r':List Nat} (h:QuoI n d (i+1) q r lq lr) (hd:0 < d) (hl:r'.length=lr) (h32:D32 r') (hr:dv r'=2*dv r+bitN n i) (hlt:dv r' < d):QuoI n d i q r' lq lr:=by
 have e:=h.rest;rw [hr,e] at hlt;have k:=l0x hd hlt;refine ⟨h.lenq,hl,h.q32,h32,by rw [hr,e,k.1],?_⟩;rw [h.quo,k.2,Nat.pow_succ,Nat.mul_comm 2,Nat.mul_assoc,Nat.mul_comm 2]
theorem QuoI.more {n d i lq lr:Nat} {q r r' r'':List Nat} (h:QuoI n d (i+1) q r lq lr) (hd:0 < d) (hr:dv r'=2*dv r+bitN n i) (hge:d≤dv r') (hl:r''.length=lr) (h32:D32 r'') (hr2:dv r''=dv r' - d)
  {k e:Nat} (hi:i=32*k+e) (he:e < 32) (hk:k < q.length):q[k]+2 ^ e < 4294967296∧q[k] / 2 ^ e % 2=0∧QuoI n d i (q.set k (q[k]+2 ^ e)) r'' lq lr:=by
 have e1:=h.rest;rw [hr,e1] at hge;have kk:=l0N hd hge;have hq:=h.quo;rw [hi] at hq;have hz:=j0G h.q32 hk he hq;have hrm:=m0h (h.q32.at hk) he hz;refine ⟨hrm.1,hrm.2,by rw [List.length_set,h.lenq],hl,h.q32.set _ hrm.1,h32,by rw [hr2,hr,e1,kk.1],?_⟩;have s:=m0E (l:=q) (k:=k) (d:=q[k]+2 ^ e) hk;rw [Nat.mul_add] at s;have e3:4294967296 ^ k*2 ^ e=2 ^ i:=by rw [pow32,← Nat.pow_add,hi]
 rw [e3] at s;have e4:=h.quo;have e5:n / 2 ^ (i+1) / d*2 ^ (i+1)=2*(n / 2 ^ (i+1) / d)*2 ^ i:=by rw [Nat.pow_succ,Nat.mul_comm (2 ^ i) 2,← Nat.mul_assoc,Nat.mul_comm _ 2]
 rw [e5] at e4;rw [kk.2,Nat.add_mul,Nat.one_mul]
 generalize 2*(n / 2 ^ (i+1) / d)*2 ^ i=Z at *
 generalize 2 ^ i=Y at *
 generalize 4294967296 ^ k*q[k]=X at *
 omega
structure ShlI (r:List Nat) (c0 j:Nat) (o:List Nat) (c:Nat):Prop where
 len:o.length=r.length
 d32:D32 o
 c2:c < 2
 tail:o.drop j=r.drop j
 eq:dv (o.take j)+4294967296 ^ j*c=2*dv (r.take j)+c0
theorem ShlI.zero {r:List Nat} {c0:Nat} (h:D32 r) (hc:c0 < 2):ShlI r c0 0 r c0:=⟨rfl,h,hc,rfl,by simp [dv]⟩
theorem ShlI.at {r o:List Nat} {c0 j c:Nat} (h:ShlI r c0 j o c) (hj:j < r.length) (hj':j < o.length):o[j]=r[j]:=by
 have e:=h.tail;rw [List.drop_eq_getElem_cons hj',List.drop_eq_getElem_cons hj] at e
 exact (List.cons.inj e).1
theorem ShlI.next {r o:List Nat} {c0 j c:Nat} (h:ShlI r c0 j o c) (hj:j < o.length) {y:Nat} (hy:y=2*o[j]+c):y < 8589934592∧ShlI r c0 (j+1) (o.set j (y % 4294967296)) (y / 4294967296):=by
 have h1:=h.d32.at hj;have h2:=h.c2;have hjr:j < r.length:=by rw [← h.len];exact hj
 have hat:=h.at hjr hj;refine ⟨by omega,by rw [List.length_set,h.len],h.d32.set _ (Nat.mod_lt _ (by omega)),by omega,?_,?_⟩
 ·rw [List.drop_set_of_lt (by omega)];have e:=h.tail;rw [List.drop_eq_getElem_cons hj,List.drop_eq_getElem_cons hjr] at e
  exact (List.cons.inj e).2
 ·have hj2:j < (o.set j (y % 4294967296)).length:=by rw [List.length_set];exact hj
  rw [b0h hj2,b0h hjr,List.take_set_of_le (Nat.le_refl _),List.getElem_set_self,← hat];have e:=h.eq;have e3:4294967296 ^ (j+1)*(y / 4294967296)+4294967296 ^ j*(y % 4294967296)=4294967296 ^ j*y:=by
   rw [Nat.pow_succ,Nat.mul_assoc,← Nat.mul_add];congr 1;omega
  have e4:4294967296 ^ j*y=2*(4294967296 ^ j*o[j])+4294967296 ^ j*c:=by rw [hy,Nat.mul_add,Nat.mul_left_comm]
  omega
theorem ShlI.done {r o:List Nat} {c0 j c:Nat} (h:ShlI r c0 j o c) (hj:r.length≤j) (hfit:2*dv r+c0 < 4294967296 ^ r.length) (hj2:j=r.length):dv o=2*dv r+c0∧c=0:=by
 have e:=h.eq;rw [List.take_of_length_le (by rw [h.len];exact hj),List.take_of_length_le hj] at e;subst hj2
 rcases Nat.eq_zero_or_pos c with h0 | h0
 ·subst h0;exact ⟨by omega,rfl⟩
 ·have:=Nat.mul_le_mul_left (4294967296 ^ r.length) h0
  omega
end
section
open Go.RowKit

def dC (l:List Nat):Array Value:=(l.map (fun d:Nat=>Value.int .u32 (d:Int))).toArray
theorem e0P (l:List Nat) (k y:Nat):(dC l).setIfInBounds k (.int .u32 (y:Int))=dC (l.set k y):=by
 apply Array.ext
 ·simp [dC]
 ·intro i h1 h2;rw [Array.getElem_setIfInBounds (by simpa [dC] using h1)];simp only [dC,List.getElem_toArray,List.getElem_map,List.getElem_set]
  split<;>rfl
theorem n0n (n:Nat):zrow (.int .u32 0) n=dC (List.replicate n 0):=by simp [zrow,dC]
theorem dC_at {w:World} {g k:Nat} {l:List Nat} {e:TypeId} (h:w.heap[g]? = some (.cells (dC l) e (0,0))) (hk:k < l.length):w.cell? ⟨g,k,none⟩=some (.int .u32 ((l[k]:Nat):Int)):=by
 rw [Lib.cell_of_heap h];simp [dC,hk]
theorem dC_rd {w:World} {g n:Nat} {l:List Nat} (h:w.heap[g]? = some (.cells (dC l) 135 (0,0))) (hn:n=l.length) (hl:l.length≤1000000):Rd w u32E 1 (.slice (some ⟨g,0,none⟩) n n) l:=by
 subst hn;refine ⟨_,_,rfl,Nat.le_refl _,by unfold maxLen;omega,fun _=>⟨_,0,rfl,a0e h,fun i hi j hj=>?_⟩⟩;obtain rfl:j=0:=by omega
 have e:=dC_at h hi;simp only [Nat.zero_add,Nat.mul_one,Nat.add_zero];rw [e];rfl
theorem Tryz.infoU32:(Tryz.prog.info? 135).map (fun i=>(i.zero,i.size,i.bytes))=some (some (.int .u32 0),1,4):=Tryz.info32
end
section
open Go.RowKit

theorem k0f {N:Nat} (hN:N≤1000000) (w:World):Sem.run Tryz.prog (Instr.makeSlice 96 (.int .i64 (N:Int)) (.int .i64 (N:Int))) w = .ok (.slice (some ⟨w.heap.size,0,none⟩) N N) (w.alloc (.cells (dC (List.replicate N 0)) 135)):=by
 have h:=g0u (P:=Tryz.prog) w 96 Tryz.underlying96 Tryz.infoU32 rfl .i64 .i64 (N:Int) (N:Int) N N rfl rfl (Nat.le_refl _) (by omega) (by omega);rw [n0n] at h
 exact h

theorem l0s {w:World} {v1 v2:Value} {l1 l2:List Nat} {n m:Nat} (h1:Rd w u32E 1 v1 l1) (h2:Rd w u32E 1 v2 l2) (d1:D32 l1) (d2:D32 l2) (b1:l1.length≤100000) (b2:l2.length≤100000) (hn:dv l1=n) (hm:dv l2=m) :
  Calls Tryz.prog 149 #[v1,v2] w (DgRet w (n*m)):=by
 obtain ⟨ad1,cap1,rfl,c1,c1'⟩:=h1.shape;obtain ⟨ad2,cap2,rfl,c2,c2'⟩:=h2.shape;obtain ⟨n1,hn1⟩:=nm (l1.length);obtain ⟨n2,hn2⟩:=nm (l2.length);rw [← hn1] at h1 c1 b1 ⊢;rw [← hn2] at h2 c2 b2 ⊢;have H1:=hh h1;have H2:=hh h2;have HD1:=hh d1;have HD2:=hh d2;have HN:=hh hn;have HM:=hh hm;have HN1:=hh hn1;have HN2:=hh hn2;obtain ⟨N,hN⟩:=nm (n1+n2);have HNN:=hh hN;have HBB:=hh (And.intro b1 b2);have hNb:N≤1000000:=by omega
 have hmk:=k0f hNb;have qN:(n1:Int)+(n2:Int)=(N:Int):=by omega
 clear h1 h2 d1 d2 hn hm hn1 hn2 hN
 go_enter Tryz.func149,Tryz.ntmps149
 go_wp2_with fail;obtain ⟨w1,hw1⟩:=nm (w.alloc (.cells (dC (List.replicate N 0)) 135));obtain ⟨O,hO⟩:=nm (w.heap.size);rw [← hw1,← hO];have HO:Hid (w1.heap[O]? = some (.cells (dC (List.replicate N 0)) 135 (0,0))):=hh (by rw [hw1,hO];exact heap_alloc_new _ _);have HB:Hid (Below w.heap.size w w1):=hh (by rw [hw1];exact a0c _ _);have WO:Hid (w.heap.size≤O):=hh (by omega);clear hw1 hO hmk qN
 go_loopw [19] (fun vi wr=>∃ (i:Nat) (o:List Nat),vi = .int .i64 i∧i≤n1∧Hid (TimesO l1 l2 i o)∧Hid (wr.heap[O]? = some (.cells (dC o) 135 (0,0)))∧Hid (Below w.heap.size w wr)) (fun vi _=>n1 - (intOf vi).toNat)
 case atStart=>exact ⟨0,_,rfl,by omega,hh (TimesO.zero _ _ (by rw [HNN.out,HN1.out,HN2.out])),HO,HB⟩
 case round=>
  clear HO HB;obtain ⟨i,o0,rfl,hi,HTO,HO,HB⟩:=hrel
  by_cases g1:i < n1
  ·obtain ⟨p1,o1,rfl,hp1,hc1⟩:=H1.out.at i (by rw [← HN1.out];exact g1);have hc1':=(HB.out.cell (p:=⟨p1,o1+i,none⟩) hp1).trans hc1;obtain ⟨x,hx⟩:=nm (l1[i]'(by rw [← HN1.out];exact g1));have hd1:wr.cell? ⟨p1,o1+i,none⟩=some (.int .u32 (x:Int)):=by rw [hc1',hx];rfl
   have hxb:x < 4294967296:=by rw [hx];exact HD1.out _ (List.getElem_mem _)
   have HX:Hid (∃ h:i < l1.length,x=l1[i]):=hh ⟨by rw [← HN1.out];exact g1,hx⟩;have HG1:=hh g1;clear hc1 hc1' hx;go_wp2_with fail;clear hd1 g1;obtain ⟨w2,hw2⟩:=nm (wr);rw [← hw2] at HO HB ⊢;clear hw2
   go_loopw [8,9] (fun vc vj wr=>∃ (j c:Nat) (o:List Nat),vc = .int .u64 c∧vj = .int .i64 j∧j≤n2+1∧Hid (TimesI o0 l2 x i j o c)∧Hid (wr.heap[O]? = some (.cells (dC o) 135 (0,0)))∧Hid (Below w.heap.size w wr)) (fun _ vj _=>n2+1 - (intOf vj).toNat)
   case atStart=>exact ⟨0,0,o0,rfl,rfl,by omega,hh (TimesI.zero _ _ HTO.out.d32),HO,HB⟩
   case round=>
    clear HO HB;obtain ⟨j,c,o,rfl,rfl,hj,HTI,HO,HB⟩:=hrel;have HJ:=hh hj;have hcb:c < 4294967296:=HTI.out.c32
    by_cases g2:j < n2
    ·have HJJ:Hid (i+j < n1+n2∧j≤n2):=hh (by have:=HG1.out;omega);have HKN:Hid (i+j < o.length):=hh (by
      have h7:=HTO.out.len;have h8:=HTI.out.len;have h5:=HJJ.out.1;rw [← HN1.out,← HN2.out] at h7
      omega)
     obtain ⟨k,hk⟩:=nm (i+j);have HKK:=hh hk;have HKN2:Hid (k < o.length):=hh (by rw [hk];exact HKN.out);have hkN:k < N:=by
      have h7:=HTO.out.len;have h8:=HTI.out.len;have h6:=HKN2.out;have h5:=HNN.out;rw [← HN1.out,← HN2.out] at h7
      omega
     have qk:(i:Int)+(j:Int)=(k:Int):=by omega
     obtain ⟨od,hod⟩:=nm (o[k]'HKN2.out);have hco:wr.cell? ⟨O,k,none⟩=some (.int .u32 (od:Int)):=by rw [hod];exact dC_at HO.out HKN2.out
     have hfo:wr.frozen? ⟨O,k,none⟩=false:=Lib.frozen_of_heap HO.out k;have hodb:od < 4294967296:=by rw [hod];exact HTI.out.d32 _ (List.getElem_mem _)
     obtain ⟨p2,o2,rfl,hp2,hc2⟩:=H2.out.at j (by rw [← HN2.out];exact g2);have hc2':=(HB.out.cell (p:=⟨p2,o2+j,none⟩) hp2).trans hc2;obtain ⟨e,he⟩:=nm (dig l2 j);have hd2:wr.cell? ⟨p2,o2+j,none⟩=some (.int .u32 (e:Int)):=by rw [hc2',he];unfold dig;rw [a0W (by rw [← HN2.out];exact g2)];rfl
     have heb:e < 4294967296:=by rw [he];exact a0X HD2.out j
     obtain ⟨p,hp⟩:∃ q:Nat,q=x*e:=⟨_,rfl⟩;have hpb:p≤18446744065119617025:=by rw [hp];have:=Nat.mul_le_mul (show x≤4294967295 by omega) (show e≤4294967295 by omega);omega
     have qp:IntKind.u64.wrap ((x:Int)*(e:Int))=(p:Int):=by rw [← Int.natCast_mul,← hp,IntKind.wrap_u64];omega
     obtain ⟨s,hs⟩:∃ q:Nat,q=od+c:=⟨_,rfl⟩;have qs:IntKind.u64.wrap ((od:Int)+(c:Int))=(s:Int):=by rw [IntKind.wrap_u64];omega
     have qs':(od:Int)+(c:Int)=(s:Int):=by omega
     obtain ⟨y,hy⟩:∃ q:Nat,q=s+p:=⟨_,rfl⟩;have qy:IntKind.u64.wrap ((s:Int)+(p:Int))=(y:Int):=by rw [IntKind.wrap_u64];omega
     have qy':(s:Int)+(p:Int)=(y:Int):=by omega
     have hyy:y=o[i+j]'HKN.out+c+x*dig l2 j:=by rw [← he,← hp,hy,hs,hod];simp only [hk]
     have hsb:s < 8589934592:=by omega
     have hyb:y < 18446744073709551616:=by omega
     obtain ⟨yl,hyl⟩:∃ q:Nat,q=y % 4294967296:=⟨_,rfl⟩;obtain ⟨yh,hyh⟩:∃ q:Nat,q=y / 4294967296:=⟨_,rfl⟩;have q3:IntKind.u32.wrap (y:Int)=(yl:Int):=by rw [a0A,hyl]
     have q4:(y:Int) / 4294967296=(yh:Int):=by omega
     have HTI2:Hid (TimesI o0 l2 x i (j+1) (o.set k yl) yh):=hh (by
      have h9:=(HTI.out.next HKN.out hyy hxb HD2.out).2;rw [← hyl,← hyh,← hk] at h9
      exact h9)
     have HLT:=hh HJJ.out.2;clear hk hod hyy hyl hyh hc2 hc2' he hp hs hy HTI HKN hj;go_wp2_with fail
     go_roundw
     case rel=>exact ⟨j+1,yh,_,by first | rfl | go_num,by go_num,by have:=HLT.out;omega,HTI2,hh (by
      rw [← e0P]
      exact heap_setCell_same _ _ _ _ _ _ HO.out),hh (HB.out.setCell (p:=⟨O,k,none⟩) WO.out _)⟩
     case measure=>have:=HLT.out;simp [intOf];omega
    ·by_cases g3:0 < c
     ·have hjn:j=n2:=by
       obtain ⟨hil,hxe⟩:=HX.out;rw [HN2.out]
       exact HTI.out.small HTO.out hil hxe HD1.out HD2.out (by rw [← HN2.out];omega) g3
      have HJJ:Hid (i+j < n1+n2∧j≤n2):=hh (by have:=HG1.out;omega);clear hjn;have HKN:Hid (i+j < o.length):=hh (by
       have h7:=HTO.out.len;have h8:=HTI.out.len;have h5:=HJJ.out.1;rw [← HN1.out,← HN2.out] at h7
       omega)
      obtain ⟨k,hk⟩:=nm (i+j);have HKK:=hh hk;have HKN2:Hid (k < o.length):=hh (by rw [hk];exact HKN.out);have hkN:k < N:=by
       have h7:=HTO.out.len;have h8:=HTI.out.len;have h6:=HKN2.out;have h5:=HNN.out;rw [← HN1.out,← HN2.out] at h7
       omega
      have qk:(i:Int)+(j:Int)=(k:Int):=by omega
      obtain ⟨od,hod⟩:=nm (o[k]'HKN2.out);have hco:wr.cell? ⟨O,k,none⟩=some (.int .u32 (od:Int)):=by rw [hod];exact dC_at HO.out HKN2.out
      have hfo:wr.frozen? ⟨O,k,none⟩=false:=Lib.frozen_of_heap HO.out k;have hodb:od < 4294967296:=by rw [hod];exact HTI.out.d32 _ (List.getElem_mem _)
      have he0:dig l2 j=0:=by unfold dig;rw [b0m (by rw [← HN2.out];omega)]
      obtain ⟨y,hy⟩:∃ q:Nat,q=od+c:=⟨_,rfl⟩;have qs:IntKind.u64.wrap ((od:Int)+(c:Int))=(y:Int):=by rw [IntKind.wrap_u64];omega
      have qs':(od:Int)+(c:Int)=(y:Int):=by omega
      have hyy:y=o[i+j]'HKN.out+c+x*dig l2 j:=by rw [he0,hy,hod];simp only [hk];omega
      have hyb:y < 18446744073709551616:=by omega
      obtain ⟨yl,hyl⟩:∃ q:Nat,q=y % 4294967296:=⟨_,rfl⟩;obtain ⟨yh,hyh⟩:∃ q:Nat,q=y / 4294967296:=⟨_,rfl⟩;have q3:IntKind.u32.wrap (y:Int)=(yl:Int):=by rw [a0A,hyl]
      have q4:(y:Int) / 4294967296=(yh:Int):=by omega
      have HTI2:Hid (TimesI o0 l2 x i (j+1) (o.set k yl) yh):=hh (by
       have h9:=(HTI.out.next HKN.out hyy hxb HD2.out).2;rw [← hyl,← hyh,← hk] at h9
       exact h9)
      have HLT:=hh HJJ.out.2;clear hk hod hyy hyl hyh he0 hy HTI HKN hj;go_wp2_with fail
      go_roundw
      case rel=>exact ⟨j+1,yh,_,by first | rfl | go_num,by go_num,by have:=HLT.out;omega,HTI2,hh (by
       rw [← e0P]
       exact heap_setCell_same _ _ _ _ _ _ HO.out),hh (HB.out.setCell (p:=⟨O,k,none⟩) WO.out _)⟩
      case measure=>have:=HLT.out;simp [intOf];omega
     ·obtain rfl:c=0:=by omega
      have HTO2:Hid (TimesO l1 l2 (i+1) o):=hh (by
       obtain ⟨hil,hxe⟩:=HX.out
       exact HTI.out.done HTO.out hil hxe (by rw [← HN2.out];omega))
      clear HTI HTO hj;go_wp2_with fail
      go_roundw
      case rel=>exact ⟨i+1,o,by go_num,HG1.out,HTO2,HO,HB⟩
      case measure=>have:=HG1.out;simp [intOf];omega
  ·obtain rfl:i=n1:=by omega
   have HRO:=hh (dC_rd (n:=N) HO.out (by rw [HTO.out.len,HNN.out,HN1.out,HN2.out]) (by have:=HBB.out;rw [HTO.out.len,← HN1.out,← HN2.out];omega));have HOD:=hh HTO.out.d32;have HDV:Hid (dv o0=n*m):=hh (by rw [HTO.out.done (by rw [HN1.out];exact Nat.le_refl _),HN.out,HM.out]);clear HTO HO;go_wp2_with fail;refine (tfun HRO.out HOD.out HDV.out).mono ?_;rintro e w9 ⟨v',rfl,h9,hb⟩;have H9:=hh h9;have HB9:=bT HB hb;clear h9 hb;go_wp2_with fail
   go_ret
   exact ⟨_,rfl,H9.out,HB9.out⟩
end
section
open Go.RowKit

theorem m0t (a:Nat) (h:a < 4294967296):bits BinOp.and IntKind.u32 (a:Int) 1=((a % 2:Nat):Int):=by
 rw [show (1:Int)=((1:Nat):Int) from rfl,u32_and_nat _ _ h (by omega),Nat.and_one_is_mod]
theorem j0f (t c:Nat) (ht:t % 2=0) (hc:c < 2):t ||| c=t+c:=by
 obtain ⟨a,ha⟩:∃ a,t=2 ^ 1*a:=⟨t / 2,by omega⟩;rw [ha,← Nat.two_pow_add_eq_or_of_lt (by omega)]
theorem j0c {t c:Nat} (ht:t < 4294967296) (he:t % 2=0) (hc:c < 2):bits BinOp.or IntKind.u32 (t:Int) (c:Int)=((t+c:Nat):Int):=by
 rw [u32_or_nat _ _ ht (by omega),j0f _ _ he hc]
theorem f0e {x e:Nat} (h:x / 2 ^ e % 2=0):x ||| 2 ^ e=x+2 ^ e:=by
 have hp:0 < 2 ^ e:=Nat.pow_pos (by omega);obtain ⟨a,ha⟩:∃ a,x / 2 ^ e=2*a:=⟨x / 2 ^ e / 2,by omega⟩;have h1:=Nat.div_add_mod x (2 ^ e);have h2:=Nat.mod_lt x hp;obtain ⟨b,hb⟩:=nm (x % 2 ^ e);rw [ha,← hb] at h1;rw [← hb] at h2;have h3:x=2 ^ (e+1)*a+b:=by rw [← h1,Nat.pow_succ,Nat.mul_assoc]
 have h4:b ||| 2 ^ e=2 ^ e+b:=by
  have:=Nat.two_pow_add_eq_or_of_lt h2 1;rw [Nat.mul_one] at this;rw [Nat.or_comm,← this]
 have h5:2 ^ e+b < 2 ^ (e+1):=by rw [Nat.pow_succ];omega
 rw [h3,Nat.two_pow_add_eq_or_of_lt (by omega:b < 2 ^ (e+1)),Nat.or_assoc,h4,← Nat.two_pow_add_eq_or_of_lt h5,← Nat.two_pow_add_eq_or_of_lt (by omega:b < 2 ^ (e+1))]
 omega
theorem j0d {x e:Nat} (he:e < 32) (hx:x < 4294967296) (h:x / 2 ^ e % 2=0):bits BinOp.or IntKind.u32 (x:Int) ((2 ^ e:Nat):Int)=((x+2 ^ e:Nat):Int):=by
 rw [u32_or_nat _ _ hx (Nat.pow_lt_pow_right (by omega) he:2 ^ e < 2 ^ 32),f0e h]
def padT (z:List Nat) (j:Nat):List Nat:=(List.range j).map (dig z)
theorem d0o (z:List Nat) (j:Nat):(padT z j).length=j:=by simp [padT]
theorem j0U (z:List Nat):∀ j,dv (padT z j)=dv (z.take j)
 | 0=>rfl
 | j+1=>by
  have e:padT z (j+1)=padT z j ++ [dig z j]:=by simp [padT,List.range_succ]
  rw [e,h0t,d0o,j0U z j,b0p]
theorem l0B {z:List Nat} (h:D32 z) (j:Nat):D32 (padT z j):=fun d hd=>by
 obtain ⟨i,_,rfl⟩:=List.mem_map.1 hd
 exact a0X h i
theorem l0E {z o:List Nat} {j:Nat} (hj:j < o.length):(padT z j ++ o.drop j).set j (dig z j)=padT z (j+1) ++ o.drop (j+1):=by
 have e:padT z (j+1)=padT z j ++ [dig z j]:=by simp [padT,List.range_succ]
 rw [List.set_append_right _ _ (by rw [d0o];exact Nat.le_refl _),d0o,Nat.sub_self,List.drop_eq_getElem_cons hj,List.set_cons_zero,e]
 simp
theorem k0Y {z:List Nat} {j:Nat} (h:z.length≤j):dig z j=0:=b0m h
theorem k0X {n:Nat}:(digs n).length=0↔n=0:=by
 constructor
 ·intro h
  apply Classical.byContradiction
  intro h0;rw [c0l h0] at h
  simp at h
 ·intro h;rw [h,b0i];rfl
def QRRet (w:World) (q r:Nat) (e:Ending) (w':World):Prop:=∃ v1 v2,e = .returned (.tuple #[v1,v2])∧Rd w' u32E 1 v1 (digs q)∧Rd w' u32E 1 v2 (digs r)∧Below w.heap.size w w'

theorem i0N {w:World} {v1 v2:Value} {l1 l2:List Nat} {n m:Nat} (h1:Rd w u32E 1 v1 l1) (h2:Rd w u32E 1 v2 l2) (d1:D32 l1) (d2:D32 l2) (b1:l1.length≤100000) (hmb:(digs m).length≤100000) (hn:dv l1=n) (hm:dv l2=m) (h0:0 < m) :
  Calls Tryz.prog 148 #[v1,v2] w (QRRet w (n / m) (n % m)):=by
 obtain ⟨ad1,cap1,rfl,c1,c1'⟩:=h1.shape;obtain ⟨n1,hn1⟩:=nm (l1.length);rw [← hn1] at h1 c1 b1 ⊢;have H1:=hh h1;have H2:=hh h2;have HD1:=hh d1;have HD2:=hh d2;have HN:=hh hn;have HM:=hh hm;have HN1:=hh hn1;have H0:=hh h0;obtain ⟨n2,hn2⟩:=nm ((digs m).length);rw [← hn2] at hmb;have HN2:=hh hn2;have hn20:0 < n2:=by
  rw [hn2]
  apply Nat.pos_of_ne_zero
  intro e;have:=k0X.1 e
  omega
 have HBB:=hh (And.intro b1 (And.intro hmb hn20));have HNL:Hid (n < 2 ^ (32*n1)):=hh (by rw [← hn,hn1,← pow32];exact dv_lt d1);have HML:Hid (m < 4294967296 ^ n2):=hh (by
  have:=dv_lt (a0F m);rw [a0L,← hn2] at this
  exact this)
 clear h1 h2 d1 d2 hn hm hn1 hn2 h0
 go_enter Tryz.func148,Tryz.ntmps148
 go_wp2_with fail;refine (i0E H2.out HD2.out).mono ?_;rintro e w0 ⟨vm,rfl,hvm,rfl⟩;rw [HM.out] at hvm;obtain ⟨ad2,cap2,rfl,c2,c2'⟩:=hvm.shape;rw [← HN2.out] at hvm c2 ⊢;have HV:=hh hvm;have hmk1:=k0f (N:=n1) (by omega);have hmk2:=k0f (N:=n2+1) (by omega);obtain ⟨lr,hlr⟩:=nm (n2+1);have qlr:(n2:Int)+1=(lr:Int):=by omega
 rw [← hlr] at hmk2;obtain ⟨M,hM⟩:=nm (32*n1);have qM:32*(n1:Int)=(M:Int):=by omega
 have hMb:M≤3200000:=by omega
 have hlrb:lr≤100001:=by omega
 have hz2:((n2:Int) == 0)=false:=by simp;omega
 have HLR:=hh hlr;have HMM:=hh hM;clear hvm hlr hM;go_wp2_with fail;obtain ⟨w1,hw1⟩:=nm ((w.alloc (.cells (dC (List.replicate n1 0)) 135)).alloc (.cells (dC (List.replicate lr 0)) 135));obtain ⟨Q,hQ⟩:=nm (w.heap.size);obtain ⟨R,hR⟩:=nm (w.heap.size+1);rw [← hw1,← hR,← hQ];obtain ⟨wa,hwa⟩:=nm (w.alloc (.cells (dC (List.replicate n1 0)) 135));rw [← hwa] at hw1;have sa:wa.heap.size=w.heap.size+1:=by rw [hwa,World.size_alloc]
 have ba:Below w.heap.size w wa:=by rw [hwa];exact a0c _ _
 have bb:Below wa.heap.size wa w1:=by rw [hw1];exact a0c _ _
 have ea:wa.heap[Q]? = some (.cells (dC (List.replicate n1 0)) 135 (0,0)):=by rw [hwa,hQ];exact heap_alloc_new _ _
 have HQ:Hid (w1.heap[Q]? = some (.cells (dC (List.replicate n1 0)) 135 (0,0))):=hh (a0d bb ea);have HR:Hid (w1.heap[R]? = some (.cells (dC (List.replicate lr 0)) 135 (0,0))):=hh (by rw [hw1,hR,← sa];exact heap_alloc_new _ _);have HB:Hid (Below w.heap.size w w1):=hh (ba.trans (bb.mono (by omega)));have WQ:Hid (w.heap.size≤Q∧w.heap.size≤R∧Q≠R):=hh (by omega);clear hw1 hwa hQ hR sa ba bb ea hmk1 hmk2 qlr qM hz2
 go_loopw [8] (fun vi wr=>∃ (i:Nat) (ii:Int) (q r:List Nat),vi = .int .i64 ii∧Hid (ii=(i:Int) - 1)∧i≤M∧Hid (QuoI n m i q r n1 lr)∧Hid (wr.heap[Q]? = some (.cells (dC q) 135 (0,0)))∧Hid (wr.heap[R]? = some (.cells (dC r) 135 (0,0)))∧Hid (Below w.heap.size w wr)) (fun vi _=>(intOf vi+1).toNat)
 case atStart=>exact ⟨M,(M:Int) - 1,_,_,rfl,hh rfl,Nat.le_refl _,hh (QuoI.start (by rw [HMM.out];exact HNL.out)),HQ,HR,HB⟩
 case round=>
  clear HQ HR HB;obtain ⟨i,ii,q,r,rfl,hii,hiM,HI,HQ,HR,HB⟩:=hrel
  rcases i with _ | i
  ·obtain rfl:ii = -1:=by have:=hii.out;omega
   clear hii hiM;have HDN:=hh HI.out.done;have HRQ:=hh (dC_rd (n:=n1) HQ.out HI.out.lenq.symm (by rw [HI.out.lenq];omega));have HRR:=hh (dC_rd (n:=lr) HR.out HI.out.lenr.symm (by rw [HI.out.lenr];omega));have HQD:=hh HI.out.q32;have HRD:=hh HI.out.r32;clear HQ HR HI;go_wp2_with fail;refine (tfun HRQ.out HQD.out HDN.out.1).mono ?_;rintro e w8 ⟨va,rfl,ha,hb⟩;have HA:=hh ha;have HBm:=bT HB hb;have HRRm:=hh (HRR.out.later hb);clear ha hb HB HRR HRQ;have HB:=HBm;have HRR:=HRRm;clear HBm HRRm;go_wp2_with fail;refine (tfun HRR.out HRD.out HDN.out.2).mono ?_;rintro e w9 ⟨vb,rfl,ha,hb⟩;have HA2:=hh ha;have HBm:=bT HB hb;have HAm:=hh (HA.out.later hb);clear ha hb HB HA HRR;go_wp2_with fail
   go_ret2
   exact ⟨_,_,rfl,HAm.out,HA2.out,HBm.out⟩
  ·obtain rfl:(i:Int)=ii:=by have:=hii.out;omega
   clear hii;have hi:i < M:=by omega
   obtain ⟨k,hk⟩:=nm (i / 32);obtain ⟨e,he⟩:=nm (i % 32);have hie:i=32*k+e:=by omega
   have he32:e < 32:=by omega
   have hkn:k < n1:=by have:=HMM.out;omega
   have q1:(i:Int) / 32=(k:Int):=by omega
   have q2:(i:Int) % 32=(e:Int):=by omega
   obtain ⟨pw,hpw⟩:∃ pw:Nat,pw=2 ^ e:=⟨_,rfl⟩;have q3:(2:Int) ^ e=(pw:Int):=by rw [hpw];simp
   have hpwb:pw < 4294967296:=by rw [hpw];exact (Nat.pow_lt_pow_right (by omega) he32:2 ^ e < 2 ^ 32)
   have hpw0:0 < pw:=by rw [hpw];exact Nat.pow_pos (by omega)
   obtain ⟨p1,o1,rfl,hp1,hc1⟩:=H1.out.at k (by rw [← HN1.out];exact hkn);have hc1':=(HB.out.cell (p:=⟨p1,o1+k,none⟩) hp1).trans hc1;obtain ⟨x,hx⟩:=nm (l1[k]'(by rw [← HN1.out];exact hkn));have hd1:wr.cell? ⟨p1,o1+k,none⟩=some (.int .u32 (x:Int)):=by rw [hc1',hx];rfl
   have hxb:x < 4294967296:=by rw [hx];exact HD1.out _ (List.getElem_mem _)
   obtain ⟨y,hy⟩:=nm (x / pw);have q4:(x:Int) / (pw:Int)=(y:Int):=by rw [hy];simp
   have hyb:y < 4294967296:=by rw [hy];exact Nat.lt_of_le_of_lt (Nat.div_le_self _ _) hxb
   obtain ⟨c0,hc0⟩:=nm (y % 2);have q5:bits BinOp.and IntKind.u32 (y:Int) 1=(c0:Int):=by rw [m0t y hyb,hc0]
   have hc02:c0 < 2:=by omega
   have HC0:Hid (c0=bitN n i):=hh (by
    have h9:=g0R (l:=l1) HD1.out (k:=k) (e:=e) (by rw [← HN1.out];exact hkn) he32;rw [HN.out,← hie,← hx,← hpw,← hy,← hc0] at h9
    exact h9)
   have HKE:=hh (And.intro hie (And.intro he32 hkn));have HPW:=hh hpw;have HIM:=hh hi;have HC2:=hh hc02;clear hk he hie he32 hpw hx hc1 hc1' hy hc0 hiM;go_wp2_with fail;clear hd1 q4 q5 hyb hxb hp1
   go_loopw [9,47] (fun vc vj wr=>∃ (j c:Nat) (o:List Nat),vc = .int .u32 c∧vj = .int .i64 j∧j≤lr∧Hid (ShlI r c0 j o c)∧Hid (wr.heap[Q]? = some (.cells (dC q) 135 (0,0)))∧Hid (wr.heap[R]? = some (.cells (dC o) 135 (0,0)))∧Hid (Below w.heap.size w wr)) (fun _ vj _=>lr - (intOf vj).toNat)
   case atStart=>exact ⟨0,c0,r,rfl,rfl,Nat.zero_le _,hh (ShlI.zero HI.out.r32 HC2.out),HQ,HR,HB⟩
   case round=>
    clear HQ HR HB;obtain ⟨j,c,o,rfl,rfl,hj,HS,HQ,HR,HB⟩:=hrel
    by_cases hlt:j < lr
    ·have hjo:j < o.length:=by rw [HS.out.len,HI.out.lenr];exact hlt
     obtain ⟨od,hod⟩:=nm (o[j]);have hco:wr.cell? ⟨R,j,none⟩=some (.int .u32 (od:Int)):=by rw [hod];exact dC_at HR.out hjo
     have hfo:wr.frozen? ⟨R,j,none⟩=false:=Lib.frozen_of_heap HR.out j;have hodb:od < 4294967296:=by rw [hod];exact HS.out.d32 _ (List.getElem_mem _)
     have hcb:c < 2:=HS.out.c2;obtain ⟨t,ht⟩:=nm (2*od % 4294967296);have f1:IntKind.u32.wrap ((od:Int)*2)=(t:Int):=by rw [show (od:Int)*2=((2*od:Nat):Int) by omega,a0A,ht]
     have f1':(od:Int)*2 % 4294967296=(t:Int):=by omega
     obtain ⟨yl,hyl⟩:=nm (t+c);have f2:bits BinOp.or IntKind.u32 (t:Int) (c:Int)=(yl:Int):=by rw [j0c (by omega) (by omega) hcb,hyl]
     obtain ⟨yh,hyh⟩:=nm (od / 2147483648);have f3:(od:Int) / 2147483648=(yh:Int):=by omega
     have HS2:Hid (ShlI r c0 (j+1) (o.set j yl) yh):=hh (by
      have h9:=(HS.out.next hjo (y:=2*o[j]+c) rfl).2;rw [← hod,show (2*od+c) % 4294967296=yl by omega,show (2*od+c) / 4294967296=yh by omega] at h9
      exact h9)
     have HLT:=hh hlt;clear hod ht hyl hyh hj hlt hjo HS;go_wp2_with fail
     go_roundw
     case rel=>exact ⟨j+1,yh,_,by first | rfl | go_num,by go_num,HLT.out,HS2,hh ((heap_setCell_other _ _ _ _ (fun e=>WQ.out.2.2 e)).trans HQ.out),hh (by
      rw [← e0P]
      exact heap_setCell_same _ _ _ _ _ _ HR.out),hh (HB.out.setCell (p:=⟨R,j,none⟩) WQ.out.2.1 _)⟩
     case measure=>have:=HLT.out;simp [intOf];omega
    ·obtain rfl:lr=j:=by omega
     clear hlt hj;have HDV:Hid (dv o=2*dv r+bitN n i∧D32 o∧o.length=lr):=hh (by
      have hl:=HI.out.lenr;have h1:dv r < m:=by rw [HI.out.rest];exact Nat.mod_lt _ H0.out
      have h2:=HML.out;have h3:4294967296 ^ lr=4294967296*4294967296 ^ n2:=by rw [HLR.out,Nat.pow_succ,Nat.mul_comm]
      have h4:=HC2.out;have h5:=(HS.out.done (by rw [hl];exact Nat.le_refl _) (by rw [hl,h3];omega) hl.symm).1;rw [HC0.out] at h5
      exact ⟨h5,HS.out.d32,by rw [HS.out.len,hl]⟩)
     have HRO:=hh (dC_rd (n:=lr) HR.out HDV.out.2.2.symm (by rw [HDV.out.2.2];omega));have HVO:=hh (HV.out.later HB.out);clear HS;go_wp2_with fail;refine (d0A HRO.out HVO.out HDV.out.2.1 (a0F m) rfl (a0L m)).mono ?_;rintro er w2 ⟨rfl,hb⟩;obtain ⟨cv,hcv⟩:=nm (cmpV (dv o) m);rw [← hcv];have HQm:=bA hb HQ;have HRm:=bA hb HR;have HBm:=bT HB hb;have HROm:=hh (HRO.out.later hb);have HVOm:=hh (HVO.out.later hb);clear hb HQ HR HB HRO HVO;have HQ:=HQm;have HR:=HRm;have HB:=HBm;have HRO:=HROm;have HVO:=HVOm;clear HQm HRm HBm HROm HVOm
     by_cases hge:0≤cv
     ·have HGE:Hid (m≤dv o):=hh (by apply Classical.byContradiction;intro hc;rw [hcv] at hge;unfold cmpV at hge;rw [if_pos (by omega)] at hge;omega);clear hcv;go_wp2_with fail;clear hge;refine (f0m HRO.out HVO.out HDV.out.2.1 (a0F m) (by rw [HDV.out.2.2];omega) (by rw [← HN2.out];have:=HBB.out.2.1;omega) rfl (a0L m)).mono ?_;rintro er w3 ⟨vz,rfl,hz,hzo,hb⟩;rw [decide_eq_true HGE.out];rw [if_pos HGE.out] at hz;obtain ⟨Z,hZ⟩:=nm (digs (dv o - m));rw [← hZ] at hz;obtain ⟨az,cz,rfl,cz1,cz2⟩:=hz.shape;obtain ⟨nz,hnz⟩:=nm (Z.length);rw [← hnz] at hz cz1 ⊢;have HZ:Hid (dv Z=dv o - m∧D32 Z∧Z.length≤lr):=hh (by
       refine ⟨by rw [hZ,a0L],by rw [hZ];exact a0F _,?_⟩;rw [hZ];refine b0K (Nat.lt_of_le_of_lt (Nat.sub_le _ _) ?_);have:=dv_lt HDV.out.2.1;rw [HDV.out.2.2] at this
       exact this)
      have HNZ:=hh hnz;have HRZ:=hh hz;have HAZ:Hid (∀ b off,az=some ⟨b,off,none⟩→0 < nz→b≠R):=hh (fun b off e hp he=>by
       have h1:=hzo b (by rw [e];simp [Value.ownBlock]);have h2:=a0e HR.out
       omega)
      have HQm:=bA hb HQ;have HRm:=bA hb HR;have HBm:=bT HB hb;clear hb HQ HR HB HRO HVO hzo hz hnz hZ;have HQ:=HQm;have HR:=HRm;have HB:=HBm;clear HQm HRm HBm;go_wp2_with fail
      go_loopw [79] (fun vj wr=>∃ j:Nat,vj = .int .i64 j∧j≤lr∧Hid (Rd wr u32E 1 (.slice az nz cz) Z)∧Hid (wr.heap[Q]? = some (.cells (dC q) 135 (0,0)))∧Hid (wr.heap[R]? = some (.cells (dC (padT Z j ++ o.drop j)) 135 (0,0)))∧Hid (Below w.heap.size w wr)) (fun vj _=>lr - (intOf vj).toNat)
      case atStart=>exact ⟨0,rfl,Nat.zero_le _,HRZ,HQ,hh (by have:=HR.out;simpa [padT] using this),HB⟩
      case round=>
       clear HQ HR HB HRZ;obtain ⟨j,rfl,hj,HRZ,HQ,HR,HB⟩:=hrel
       by_cases hlt:j < lr
       ·have hjo:j < (padT Z j ++ o.drop j).length:=by rw [List.length_append,d0o,List.length_drop,HDV.out.2.2];omega
        have hfo:wr.frozen? ⟨R,j,none⟩=false:=Lib.frozen_of_heap HR.out j;have HLT:=hh hlt;obtain ⟨row,hrow⟩:=nm (padT Z j ++ o.drop j);have HRW:Hid (row.set j (dig Z j)=padT Z (j+1) ++ o.drop (j+1)):=hh (by rw [hrow];exact l0E (by rw [HDV.out.2.2];exact hlt));rw [← hrow] at HR hjo;obtain ⟨od,hod⟩:=nm (row[j]);have hco:wr.cell? ⟨R,j,none⟩=some (.int .u32 (od:Int)):=by rw [hod];exact dC_at HR.out hjo
        clear hod;have hR0:(wr.setCell ⟨R,j,none⟩ (.int .u32 0)).heap[R]? = some (.cells (dC (row.set j 0)) 135 (0,0)):=by
         have h9:=heap_setCell_same wr R j _ _ (.int .u32 ((0:Nat):Int)) HR.out;rw [e0P] at h9
         exact h9
        by_cases hz:j < nz
        ·obtain ⟨pz,oz,rfl,hpz,hcz⟩:=HRZ.out.at j (by rw [← HNZ.out];exact hz);have hne:pz≠R:=HAZ.out pz oz rfl (by omega);obtain ⟨zd,hzd⟩:=nm (dig Z j);have hcz':(wr.setCell ⟨R,j,none⟩ (.int .u32 0)).cell? ⟨pz,oz+j,none⟩=some (.int .u32 (zd:Int)):=by
          rw [World.cell?_setCell_other (h:=show (⟨R,j,none⟩:Addr)≠⟨pz,oz+j,none⟩ by intro e;exact hne (congrArg Addr.block e).symm),hcz,hzd]
          unfold dig
          rw [a0W (by rw [← HNZ.out];exact hz)];rfl
         have hco2:(wr.setCell ⟨R,j,none⟩ (.int .u32 0)).cell? ⟨R,j,none⟩=some (.int .u32 0):=by
          have h9:=dC_at (k:=j) hR0 (by rw [List.length_set];exact hjo);rw [List.getElem_set_self] at h9
          exact h9
         have hfo2:(wr.setCell ⟨R,j,none⟩ (.int .u32 0)).frozen? ⟨R,j,none⟩=false:=Lib.frozen_of_heap hR0 j;have HR2:Hid (((wr.setCell ⟨R,j,none⟩ (.int .u32 0)).setCell ⟨R,j,none⟩ (.int .u32 (zd:Int))).heap[R]? = some (.cells (dC (padT Z (j+1) ++ o.drop (j+1))) 135 (0,0))):=hh (by
          have h9:=heap_setCell_same _ R j _ _ (.int .u32 (zd:Int)) hR0;rw [e0P,List.set_set,hzd,HRW.out,← hzd] at h9
          exact h9)
         have hkz:Keep (· = R) wr ((wr.setCell ⟨R,j,none⟩ (.int .u32 0)).setCell ⟨R,j,none⟩ (.int .u32 (zd:Int))):=Keep.setCell (S:=(· = R)) (p:=⟨R,j,none⟩) (Keep.setCell (S:=(· = R)) (p:=⟨R,j,none⟩) (Keep.refl _ wr) (.inl rfl) _) (.inl rfl) _;have HRZ2:=hh (HRZ.out.keep hkz (fun b e _ hb=>hne (by simp [Value.ownBlock] at e;rw [e];exact hb)));have HKZ:=hh hkz;clear hcz hzd hrow hR0 HRW hj hlt hjo HRZ hkz hne;go_wp2_with fail
         go_roundw
         case rel=>exact ⟨j+1,by go_num,HLT.out,HRZ2,hh (HKZ.out.at HQ.out WQ.out.2.2),HR2,hh (HB.out.trans (HKZ.out.below (B:=w.heap.size) (fun y hy e=>by have:=WQ.out;omega) HB.out.size))⟩
         case measure=>have:=HLT.out;simp [intOf];omega
        ·have HR2:Hid ((wr.setCell ⟨R,j,none⟩ (.int .u32 0)).heap[R]? = some (.cells (dC (padT Z (j+1) ++ o.drop (j+1))) 135 (0,0))):=hh (by
          rw [← HRW.out,k0Y (by rw [← HNZ.out];omega)]
          exact hR0)
         have hkz:Keep (· = R) wr (wr.setCell ⟨R,j,none⟩ (.int .u32 0)):=Keep.setCell (S:=(· = R)) (p:=⟨R,j,none⟩) (Keep.refl _ wr) (.inl rfl) _;have HRZ2:=hh (HRZ.out.keep hkz (fun b e hne hb=>by
          have hp:0 < nz:=by rw [HNZ.out];exact List.length_pos_iff.2 hne
          obtain ⟨pz,oz,rfl,_,_⟩:=HRZ.out.at 0 (by rw [← HNZ.out];exact hp)
          simp [Value.ownBlock] at e
          exact HAZ.out pz oz rfl hp (by rw [e];exact hb)))
         have HKZ:=hh hkz;clear hrow hR0 HRW hj hlt hjo HRZ hkz;go_wp2_with fail
         go_roundw
         case rel=>exact ⟨j+1,by go_num,HLT.out,HRZ2,hh (HKZ.out.at HQ.out WQ.out.2.2),HR2,hh (HB.out.trans (HKZ.out.below (B:=w.heap.size) (fun y hy e=>by have:=WQ.out;omega) HB.out.size))⟩
         case measure=>have:=HLT.out;simp [intOf];omega
       ·obtain rfl:lr=j:=by omega
        clear hlt hj;obtain ⟨rr,hrr⟩:=nm (padT Z lr ++ o.drop lr);rw [← hrr] at HR;have hr1:rr=padT Z lr:=by rw [hrr,List.drop_of_length_le (by rw [HDV.out.2.2];exact Nat.le_refl _),List.append_nil]
        have hkq:k < q.length:=by rw [HI.out.lenq];exact HKE.out.2.2
        have hmore:=HI.out.more H0.out HDV.out.1 HGE.out (r'':=rr) (by rw [hr1,d0o]) (by rw [hr1];exact l0B HZ.out.2.1 _) (by rw [hr1,j0U,List.take_of_length_le HZ.out.2.2,HZ.out.1]) HKE.out.1 HKE.out.2.1 hkq;obtain ⟨qk,hqk⟩:=nm (q[k]);rw [← hqk,← HPW.out] at hmore;have hcq:wr.cell? ⟨Q,k,none⟩=some (.int .u32 (qk:Int)):=by rw [hqk];exact dC_at HQ.out hkq
        have hfq:wr.frozen? ⟨Q,k,none⟩=false:=Lib.frozen_of_heap HQ.out k;have hqkb:qk < 4294967296:=by omega
        obtain ⟨qn,hqn⟩:=nm (qk+pw);have f9:bits BinOp.or IntKind.u32 (qk:Int) (pw:Int)=(qn:Int):=by
         have h9:=j0d (x:=qk) HKE.out.2.1 hqkb (by rw [← HPW.out];exact hmore.2.1);rw [← HPW.out] at h9;rw [h9,hqn]
        have f8:IntKind.u32.wrap (pw:Int)=(pw:Int):=by rw [a0A,Nat.mod_eq_of_lt hpwb]
        have HI2:Hid (QuoI n m i (q.set k qn) rr n1 lr):=hh (by rw [hqn];exact hmore.2.2);have hkn1:k < n1:=HKE.out.2.2;clear hrr hr1 hmore hqk hqn hkq HRZ;go_wp2_with fail
        go_roundw
        case rel=>exact ⟨i,(i:Int) - 1,_,rr,by first | rfl | go_num,hh rfl,Nat.le_of_lt HIM.out,HI2,hh (by
         rw [← e0P]
         exact heap_setCell_same _ _ _ _ _ _ HQ.out),hh ((heap_setCell_other _ _ _ _ (fun e=>WQ.out.2.2 e.symm)).trans HR.out),hh (HB.out.setCell (p:=⟨Q,k,none⟩) WQ.out.1 _)⟩
        case measure=>simp [intOf]
     ·have HLS:Hid (dv o < m):=hh (by apply Classical.byContradiction;intro hc;rw [hcv] at hge;unfold cmpV at hge;rw [if_neg (by omega)] at hge;split at hge<;>omega);have HI2:Hid (QuoI n m i q o n1 lr):=hh (HI.out.less H0.out HDV.out.2.2 HDV.out.2.1 HDV.out.1 HLS.out);clear hcv;go_wp2_with fail;clear hge
      go_roundw
      case rel=>exact ⟨i,(i:Int) - 1,q,o,by first | rfl | go_num,hh rfl,Nat.le_of_lt HIM.out,HI2,HQ,HR,HB⟩
      case measure=>simp [intOf]<;>omega
end
end Go.Proofs.YtabminbgoclnkaaGreat
