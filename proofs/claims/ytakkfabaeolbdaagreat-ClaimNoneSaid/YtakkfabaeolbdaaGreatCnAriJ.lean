/- Plain: numbers as digits of 2^32, the least first. No condition. The reference's numbers: digits, and amounts of them (code). No condition. The reference's numbers: as an amount (code). No condition. The reference's numbers: sum, and order (code). No condition. The reference's numbers: order, and sums of amounts (code). No condition. -/
import Derived.Test.YtakkfabaeolbdaaGreatCn28
import Derived.Test.YtakkfabaeolbdaaGreatCnAriB
import Derived.Test.YtakkfabaeolbdaaGreatCnReg
namespace Go.Proofs.YtakkfabaeolbdaaGreat
set_option maxHeartbeats 16000000
set_option maxRecDepth 100000
section

def dv:List Nat→Nat
 | []=>0
 | d :: l=>d+4294967296*dv l
def digs (n:Nat):List Nat:=if n=0 then [] else n % 4294967296 :: digs (n / 4294967296)
termination_by n
decreasing_by omega
def D32 (l:List Nat):Prop:=∀ d∈l,d < 4294967296
theorem b0z:digs 0 = []:=by rw [digs];rfl
theorem d0l {n:Nat} (h:n≠0):digs n=n % 4294967296 :: digs (n / 4294967296):=by rw [digs,if_neg h]
theorem D32.nil:D32 []:=fun d h=>by cases h
theorem D32.cons {d:Nat} {l:List Nat}:D32 (d :: l)↔d < 4294967296∧D32 l:=by
 constructor
 ·intro h;exact ⟨h d (by simp),fun x hx=>h x (by simp [hx])⟩
 ·rintro ⟨h1,h2⟩ x hx
  rcases List.mem_cons.1 hx with rfl | hx
  ·exact h1
  ·exact h2 x hx
theorem D32.app {l m:List Nat} (h1:D32 l) (h2:D32 m):D32 (l ++ m):=fun d h=>by
 rcases List.mem_append.1 h with h | h
 ·exact h1 d h
 ·exact h2 d h
theorem D32.one {d:Nat} (h:d < 4294967296):D32 [d]:=fun x hx=>by rw [List.mem_singleton.1 hx];exact h
theorem D32.take {l:List Nat} (h:D32 l) (k:Nat):D32 (l.take k):=fun d hd=>h d (List.take_subset k l hd)
theorem b0i (n:Nat):D32 (digs n):=by
 induction n using Nat.strongRecOn with
 | _ n ih=>
  by_cases h:n=0
  ·rw [h,b0z];exact D32.nil
  ·rw [d0l h]
   exact D32.cons.2 ⟨Nat.mod_lt _ (by omega),ih _ (by omega)⟩
theorem b0B (n:Nat):dv (digs n)=n:=by
 induction n using Nat.strongRecOn with
 | _ n ih=>
  by_cases h:n=0
  ·rw [h,b0z];rfl
  ·rw [d0l h]
   show n % 4294967296+4294967296*dv (digs (n / 4294967296))=n
   rw [ih _ (by omega)]
   omega
theorem i0R (l m:List Nat):dv (l ++ m)=dv l+4294967296 ^ l.length*dv m:=by
 induction l with
 | nil=>simp [dv]
 | cons d l ih=>
  show d+4294967296*dv (l ++ m)=d+4294967296*dv l+_
  rw [ih,List.length_cons,Nat.pow_succ,Nat.mul_add,← Nat.mul_assoc,Nat.mul_comm 4294967296 (4294967296 ^ l.length),Nat.add_assoc]
theorem dv_lt {l:List Nat} (h:D32 l):dv l < 4294967296 ^ l.length:=by
 induction l with
 | nil=>simp [dv]
 | cons d l ih=>
  obtain ⟨h1,h2⟩:=D32.cons.1 h;have:=ih h2
  show d+4294967296*dv l < _
  rw [List.length_cons,Nat.pow_succ,Nat.mul_comm (4294967296 ^ l.length)]
  omega
theorem r0X {l:List Nat} (h:dv l=0):∀ d∈l,d=0:=by
 induction l with
 | nil=>intro d hd;cases hd
 | cons d l ih=>
  have h1:d+4294967296*dv l=0:=h;intro x hx
  rcases List.mem_cons.1 hx with rfl | hx
  ·omega
  ·exact ih (by omega) x hx
def Top (l:List Nat):Prop:=l.getLast?≠some 0
theorem s0j {l:List Nat} (h:D32 l) (ht:Top l):digs (dv l)=l:=by
 induction l with
 | nil=>exact b0z
 | cons d l ih=>
  obtain ⟨h1,h2⟩:=D32.cons.1 h;have htl:Top l:=by
   unfold Top at ht ⊢
   cases l with
   | nil=>simp
   | cons e l=>simpa [List.getLast?_cons] using ht
  have hne:dv (d :: l)≠0:=by
   intro e;have hz:=r0X e
   unfold Top at ht
   have hm:=List.getLast_mem (l:=d :: l) (by simp);have:=hz _ hm;rw [List.getLast?_eq_some_getLast (by simp),this] at ht
   exact ht rfl
  rw [d0l hne];have e1:dv (d :: l)=d+4294967296*dv l:=rfl;rw [e1,show (d+4294967296*dv l) % 4294967296=d by omega,show (d+4294967296*dv l) / 4294967296=dv l by omega,ih h2 htl]
theorem l0L (n:Nat):Top (digs n):=by
 induction n using Nat.strongRecOn with
 | _ n ih=>
  by_cases h:n=0
  ·rw [h,b0z];unfold Top;simp
  ·rw [d0l h]
   by_cases h2:n / 4294967296=0
   ·rw [h2,b0z]
    unfold Top
    simp only [List.getLast?_singleton,ne_eq,Option.some.injEq]
    omega
   ·have h3:=ih (n / 4294967296) (by omega);rw [d0l h2] at h3 ⊢
    unfold Top at h3 ⊢
    simpa [List.getLast?_cons] using h3
theorem f0o {n k:Nat} (h:n < 4294967296 ^ k):(digs n).length≤k:=by
 induction k generalizing n with
 | zero=>
  have:n=0:=by simpa using h
  rw [this,b0z];simp
 | succ k ih=>
  by_cases h0:n=0
  ·rw [h0,b0z];simp
  ·rw [d0l h0,List.length_cons];have:=ih (n:=n / 4294967296) ((Nat.div_lt_iff_lt_mul (by omega)).2 (by rw [Nat.pow_succ] at h;exact h))
   omega
theorem k0z {n k:Nat} (h:4294967296 ^ k≤n):k < (digs n).length:=by
 have h1:=dv_lt (b0i n);rw [b0B] at h1;have h2:4294967296 ^ k < 4294967296 ^ (digs n).length:=by omega
 exact (Nat.pow_lt_pow_iff_right (by omega)).1 h2
theorem t0r {l:List Nat} (ht:Top l) (h:l≠[]):4294967296 ^ (l.length - 1)≤dv l:=by
 have hd:=List.dropLast_concat_getLast h;have hlen:l.dropLast.length=l.length - 1:=List.length_dropLast;rw [← hd,i0R,List.length_append,List.length_singleton,hlen];have hne:l.getLast h≠0:=by
  intro e
  unfold Top at ht
  rw [List.getLast?_eq_some_getLast h,e] at ht
  exact ht rfl
 have e1:dv [l.getLast h]=l.getLast h:=by show l.getLast h+4294967296*0=_;omega
 rw [e1,show l.length - 1+1 - 1=l.length - 1 by omega];have h2:4294967296 ^ (l.length - 1)*1≤4294967296 ^ (l.length - 1)*l.getLast h:=Nat.mul_le_mul_left _ (by omega)
 omega
theorem i0y {l m:List Nat} (hl:D32 l) (hm:Top m) (h:l.length < m.length):dv l < dv m:=by
 have h1:=dv_lt hl;have h2:=t0r hm (by intro e;subst e;simp at h);have h3:4294967296 ^ l.length≤4294967296 ^ (m.length - 1):=Nat.pow_le_pow_right (by omega) (by omega)
 omega
theorem l0F {l m:List Nat} (hl:D32 l) {i:Nat} (h1:i < l.length) (h2:i < m.length) (hd:l.drop (i+1)=m.drop (i+1)) (h:l[i] < m[i]):dv l < dv m:=by
 have e1:l=l.take i ++ l[i] :: l.drop (i+1):=by rw [← List.drop_eq_getElem_cons (by assumption),List.take_append_drop]
 have e2:m=m.take i ++ m[i] :: m.drop (i+1):=by rw [← List.drop_eq_getElem_cons (by assumption),List.take_append_drop]
 have f1:=congrArg dv e1;have f2:=congrArg dv e2;rw [i0R,List.length_take,Nat.min_eq_left (by omega)] at f1 f2;have g1:dv (l[i] :: l.drop (i+1))=l[i]+4294967296*dv (l.drop (i+1)):=rfl;have g2:dv (m[i] :: m.drop (i+1))=m[i]+4294967296*dv (m.drop (i+1)):=rfl;rw [g1] at f1;rw [g2,← hd] at f2;have k1:=dv_lt (hl.take i);rw [List.length_take,Nat.min_eq_left (by omega)] at k1;rw [f1,f2];have k2:4294967296 ^ i*(l[i]+4294967296*dv (l.drop (i+1)))+4294967296 ^ i≤4294967296 ^ i*(m[i]+4294967296*dv (l.drop (i+1))):=by
  rw [← Nat.mul_succ]
  exact Nat.mul_le_mul_left _ (by omega)
 omega
theorem e0K {l:List Nat} {i:Nat} (hi:i < l.length):dv (l.take (i+1))=dv (l.take i)+4294967296 ^ i*l[i]:=by
 rw [List.take_succ_eq_append_getElem hi,i0R,List.length_take,Nat.min_eq_left (by omega)];have:dv [l[i]]=l[i]:=by show l[i]+4294967296*0=_;omega
 rw [this]
theorem n0U (l:List Nat) (d:Nat):dv (l ++ [d])=dv l+4294967296 ^ l.length*d:=by
 rw [i0R];have:dv [d]=d:=by show d+4294967296*0=_;omega
 rw [this]
theorem pow8:(4294967296:Nat) ^ 8=uMax:=by decide
end
section
open Go.RowKit

def u32E (d:Nat):List Value:=[.int .u32 d]
theorem a0S (d:Nat):(u32E d).length=1:=rfl
theorem b0h (d:Nat):∀ u∈u32E d,u.oneCell'=true:=fun u hu=>by rw [List.mem_singleton.1 hu];rfl
theorem Tryz.size32:(Tryz.prog.info? 218).map (·.size)=some 1:=by kernel_rfl
theorem Tryz.info32:(Tryz.prog.info? 218).map (fun i=>(i.zero,i.size,i.bytes))=some (some (.int .u32 0),1,4):=by kernel_rfl
def DgRet (w:World) (n:Nat) (e:Ending) (w':World):Prop:=∃ v,e = .returned v∧Rd w' u32E 1 v (digs n)∧Below w.heap.size w w'
theorem l0U {l:List Nat} {k:Nat} (hk:k < l.length) (h0:l[k]=0):dv (l.take (k+1))=dv (l.take k):=by
 rw [e0K hk,h0];simp
theorem r0y {l:List Nat} {k:Nat} (hk:k < l.length) (h0:l[k]≠0):Top (l.take (k+1)):=by
 unfold Top
 rw [List.getLast?_eq_getElem?,List.length_take,Nat.min_eq_left (by omega),List.getElem?_take,if_pos (by omega),show k+1 - 1=k by omega,List.getElem?_eq_getElem hk];intro e;exact h0 (Option.some.inj e)

theorem i0O {w:World} {v:Value} {l:List Nat} (h:Rd w u32E 1 v l) (hd:D32 l) :
  Calls Tryz.prog 145 #[v] w fun e w'=>∃ v',e = .returned v'∧Rd w' u32E 1 v' (digs (dv l))∧(∀ b,v'.ownBlock=some b→v.ownBlock=some b)∧w=w':=by
 obtain ⟨ad,cap,rfl,c1,c2⟩:=h.shape;obtain ⟨L,hL⟩:=nm (l.length);rw [← hL] at h c1 ⊢;have HR:=hh h;have HD:=hh hd;have HL:=hh hL;clear h hd hL
 go_enter Tryz.func145,Tryz.ntmps145
 go_wp2_with fail
 go_loopw [3] (fun vn wr=>∃ n:Nat,vn = .int .i64 n∧n≤L∧Hid (dv (l.take n)=dv l)∧Hid (w=wr)) (fun vn _=>(intOf vn).toNat)
 case atStart=>exact ⟨L,rfl,Nat.le_refl _,hh (by rw [HL.out,List.take_length]),hh rfl⟩
 case round=>
  obtain ⟨n,rfl,hn,HV,HW⟩:=hrel;have hend:∀ k:Nat,k≤L→Top (l.take k)→dv (l.take k)=dv l→∃ v',(∀ w kl,(Instr.slice 127 (.slice ad L cap) none (some (.int kl (k:Int))) none).run Tryz.prog w = .ok v' w)∧Rd wr u32E 1 v' (digs (dv l))∧Hid (∀ b,v'.ownBlock=some b→Value.ownBlock (.slice ad L cap)=some b):=by
   intro k hk ht he;obtain ⟨v',r1,r2,r3⟩:=(HW.out▸HR.out).upto (P:=Tryz.prog) (t:=127) Tryz.underlying127 Tryz.size32 k (by rw [← HL.out];exact hk);refine ⟨v',r1,?_,hh r3⟩;rw [← he,s0j (HD.out.take k) ht]
   exact r2
  rcases n with _ | k
  ·obtain ⟨v',r1,r2,R3⟩:=hend 0 (Nat.zero_le _) (by simp [Top]) HV.out;have R2:=hh r2;have r1':∀ w kl,(Instr.slice 127 (.slice ad L cap) none (some (.int kl 0)) none).run Tryz.prog w = .ok v' w:=fun w kl=>r1 w kl
   clear r1 r2 hend;go_wp2_with fail
   go_ret
   exact ⟨_,rfl,R2.out,R3.out,HW.out⟩
  ·have hk:k < l.length:=by rw [← HL.out];omega
   obtain ⟨b,off,rfl,hb,hc⟩:=HR.out.at k hk;rw [HW.out] at hc;obtain ⟨d,hdd⟩:=nm (l[k]);have hcell:wr.cell? ⟨b,off+k,none⟩=some (.int .u32 (d:Int)):=by rw [hc,hdd];rfl
   have hdb:d < 4294967296:=by rw [hdd];exact HD.out _ (List.getElem_mem hk)
   have hlt:(k:Int) < (L:Int):=by omega
   have hpo:(0:Int) < (k:Int)+1:=by omega
   have hk0:(0:Int)≤(k:Int):=by omega
   have hwr:IntKind.i64.wrap (k:Int)=(k:Int):=IntWalk.i64_in _ (by omega)
   by_cases h0:d=0
   ·have HV2:Hid (dv (l.take k)=dv l):=hh (by rw [← HV.out,l0U hk (by rw [← hdd];exact h0)]);subst h0;clear hend hc hdd hk HV;go_wp2_with fail
    go_roundw
    case rel=>exact ⟨k,by go_num,by omega,HV2,HW⟩
    case measure=>simp [intOf]
   ·obtain ⟨v',r1,r2,R3⟩:=hend (k+1) hn (r0y hk (by rw [← hdd];exact h0)) HV.out;have R2:=hh r2;have hz:((d:Int) == 0)=false:=by simpa using h0
    have r1':∀ w kl,(Instr.slice 127 (.slice (some ⟨b,off,none⟩) L cap) none (some (.int kl ((k:Int)+1))) none).run Tryz.prog w = .ok v' w:=fun w kl=>by have:=r1 w kl;rwa [show ((k+1:Nat):Int)=(k:Int)+1 by omega] at this
    clear r1 r2 hend hc hdd hk h0;go_wp2_with fail
    go_ret
    exact ⟨_,rfl,R2.out,R3.out,HW.out⟩
theorem q0n {w:World} {v:Value} {l:List Nat} (h:Rd w u32E 1 v l) (hd:D32 l) :
  Calls Tryz.prog 145 #[v] w fun e w'=>∃ v',e = .returned v'∧Rd w' u32E 1 v' (digs (dv l))∧w=w':=(i0O h hd).mono fun _ _ ⟨v',h1,h2,_,h3⟩=>⟨v',h1,h2,h3⟩
theorem tfun {w:World} {v:Value} {l:List Nat} {n:Nat} (h:Rd w u32E 1 v l) (hd:D32 l) (hn:dv l=n):Calls Tryz.prog 145 #[v] w (DgRet w n):=by
 refine (q0n h hd).mono ?_;rintro e w' ⟨v',rfl,h1,rfl⟩;rw [hn] at h1
 exact ⟨v',rfl,h1,Below.refl _ _⟩
theorem lit32 {w:World} {A:Nat} {l:List Nat} (h:w.heap[A]? = some (.cells (l.map (fun d:Nat=>Value.int .u32 (d:Int))).toArray 218 (0,0))) (hl:l.length≤100):Rd w u32E 1 (.slice (some ⟨A,0,none⟩) l.length l.length) l:=by
 refine ⟨_,_,rfl,Nat.le_refl _,by unfold maxLen;omega,fun _=>⟨_,0,rfl,a0b h,fun i hi j hj=>?_⟩⟩;obtain rfl:j=0:=by omega
 rw [Lib.cell_of_heap h]
 simp [u32E,List.getElem?_eq_getElem hi]
theorem o0a (A B C E:Nat):dv [A % 4294967296,A / 4294967296,B % 4294967296,B / 4294967296,C % 4294967296,C / 4294967296,E % 4294967296,E / 4294967296]=A+B*18446744073709551616+C*340282366920938463463374607431768211456+E*6277101735386680763835789423207666416102355444464034512896:=by
 simp only [dv]
 omega
theorem a0Q (a:Nat):IntKind.u32.wrap (a:Int)=((a % 4294967296:Nat):Int):=by
 simp [IntKind.wrap,IntKind.bits,IntKind.signed]
theorem b0Q {a:Nat} (h:a < 18446744073709551616):IntKind.u32.wrap ((a:Int) / 4294967296)=((a / 4294967296:Nat):Int):=by
 rw [show ((a:Int) / 4294967296)=((a / 4294967296:Nat):Int) by omega,a0Q];omega

theorem e0s {a b c d:Int} {n:Nat} (h:UIs a b c d n) (w:World):Calls Tryz.prog 65 #[.agg #[.int .u64 a,.int .u64 b,.int .u64 c,.int .u64 d]] w (DgRet w n):=by
 obtain ⟨A,B,C,E,rfl,rfl,rfl,rfl,ha,hb,hc,he,hn⟩:=h.nats;obtain ⟨D,hD⟩:=nm ([A % 4294967296,A / 4294967296,B % 4294967296,B / 4294967296,C % 4294967296,C / 4294967296,E % 4294967296,E / 4294967296]);have HN:Hid (dv D=n):=hh (by rw [hD,o0a,hn]);have HD:Hid (D32 D):=hh (by
  rw [hD];intro x hx;simp only [List.mem_cons,List.not_mem_nil,or_false] at hx
  rcases hx with rfl | rfl | rfl | rfl | rfl | rfl | rfl | rfl<;>omega)
 have HDL:=hh hD;have wa0:=a0Q A;have wb0:=a0Q B;have wc0:=a0Q C;have we0:=a0Q E;have wa1:=b0Q ha;have wb1:=b0Q hb;have wc1:=b0Q hc;have we1:=b0Q he;obtain ⟨a0,ha0⟩:=nm (A % 4294967296);obtain ⟨a1,ha1⟩:=nm (A / 4294967296);obtain ⟨b0,hb0⟩:=nm (B % 4294967296);obtain ⟨b1,hb1⟩:=nm (B / 4294967296);obtain ⟨c0,hc0⟩:=nm (C % 4294967296);obtain ⟨c1,hc1⟩:=nm (C / 4294967296);obtain ⟨e0,he0⟩:=nm (E % 4294967296);obtain ⟨e1,he1⟩:=nm (E / 4294967296);rw [← ha0,← ha1,← hb0,← hb1,← hc0,← hc1,← he0,← he1] at HDL;rw [← ha0] at wa0;rw [← hb0] at wb0;rw [← hc0] at wc0;rw [← he0] at we0;rw [← ha1] at wa1;rw [← hb1] at wb1;rw [← hc1] at wc1;rw [← he1] at we1;clear h ha hb hc he hn hD ha0 ha1 hb0 hb1 hc0 hc1 he0 he1
 go_enter Tryz.func65,Tryz.ntmps65
 go_wp2_with fail;obtain ⟨w1,hw1⟩:=nm (w.alloc (.cells #[.int .u64 (A:Int),.int .u64 (B:Int),.int .u64 (C:Int),.int .u64 (E:Int)] 25));obtain ⟨X,hX⟩:=nm (w.heap.size);rw [← hw1,← hX];have HX1:Hid (w1.heap[X]? = some (.cells #[.int .u64 (A:Int),.int .u64 (B:Int),.int .u64 (C:Int),.int .u64 (E:Int)] 25 (0,0))):=hh (by rw [hw1,hX];exact heap_alloc_new _ _);have HB1:Hid (Below w.heap.size w w1):=hh (by rw [hw1];exact a0d _ _);clear hw1 hX
 go_loopw [3,4] (fun vo vi wr=>∃ i:Nat,vi = .int .i64 i∧i≤4∧Hid (LO wr 218 u32E 1 vo (D.take (2*i)))∧Hid (∀ k,vo.ownBlock=some k→w.heap.size≤k)∧Hid (wr.heap[X]? = some (.cells #[.int .u64 (A:Int),.int .u64 (B:Int),.int .u64 (C:Int),.int .u64 (E:Int)] 25 (0,0)))∧Hid (Below w.heap.size w wr)) (fun _ vi _=>4 - (intOf vi).toNat)
 case atStart=>exact ⟨0,rfl,by omega,hh (LO.nil _ _ _ _),hh (fun k e=>by cases e),HX1,HB1⟩
 case round=>
  clear HX1 HB1;obtain ⟨i,rfl,hi,HO,HK,HX,HB⟩:=hrel
  by_cases hlt:i < 4
  ·rcases (show i=0∨i=1∨i=2∨i=3 by omega) with rfl | rfl | rfl | rfl
   ·obtain ⟨wz,hwz⟩:=nm (wr.drew);have hbz:Below wr.heap.size wr wz:=by rw [hwz];exact (Below.refl _ _).drew
    have HOz:=hh (HO.out.later hbz);have HXz:=bA hbz HX;have HBz:=bT HB hbz;have hS:wz.cell? ⟨X,0,none⟩=some (.int .u64 (A:Int)):=Lib.cell_of_heap HXz.out 0;clear hbz HO HX HB hi hlt;go_wp2_with fail;refine a0f (fun w'=>w'.cell? ⟨X,0,none⟩=some (.int .u64 (A:Int))) 13 13 (by kernel_rfl) rfl ?_;rw [← hwz];clear hwz;refine tA1 0 9 hS ?_;go_frame;refine tA1 1 10 hS ?_;go_frame;refine tA1 2 11 hS ?_;go_frame;refine tk 3 (some 12) rfl rfl (.inl ⟨by rfl,fun w' hS'=>(by have hc1:=hS';go_simp;rfl)⟩) hS ?_;go_frame;refine tA1 4 13 hS ?_;go_frame;refine tA1 5 14 hS ?_;go_frame;refine tA1 6 15 hS ?_;go_frame;refine tk 7 (some 16) rfl rfl (.inl ⟨by rfl,fun w' hS'=>(by have hc1:=hS';go_simp;rfl)⟩) hS ?_;go_frame;refine tA1 8 17 hS ?_;go_frame;refine tA1 9 18 hS ?_;go_frame;refine t1 10 fun K hK=>?_
    simp only [gA,jB,gC];go_simp;obtain ⟨w4,hwn⟩:=nm (World.alloc wz (.cells #[.int .u32 (a0:Int),.int .u32 (a1:Int)] 218));obtain ⟨G,hG⟩:=nm ((World.heap wz).size);rw [← hwn,← hG];have hb:Below (World.heap wz).size wz w4:=by rw [hwn];exact a0d _ _
    have hg4:w4.heap[G]? = some (.cells #[.int .u32 (a0:Int),.int .u32 (a1:Int)] 218 (0,0)):=by rw [hwn,hG];exact heap_alloc_new _ _
    have HG4:Hid (Rd w4 u32E 1 (.slice (some ⟨G,0,none⟩) 2 2) [a0,a1]):=hh (lit32 (l:=[a0,a1]) hg4 (by simp));have HO4:=hh (HOz.out.later hb);have HX4:=bA hb HXz;have HB4:=bT HBz hb;have hS2:w4.cell? ⟨X,0,none⟩=some (.int .u64 (A:Int)):=Lib.cell_of_heap HX4.out 0;refine hK _ _ (fun _ _=>hS2) ?_;clear hK hS hwn hG hb hg4 HOz HXz HBz;have hS:=hS2;clear hS2;refine t1 11 fun K hK=>?_
    simp only [gA,jB,gC];refine b0n (l:=D.take (2*0)) (l2:=[a0,a1]) _ _ 127 127 rfl Tryz.underlying127 Tryz.underlying127 Tryz.info32 rfl (by decide) a0S (fun x _=>b0h x) HO4.out rfl _ rfl HG4.out (by rw [HDL.out];unfold maxLen;simp) (by rw [HDL.out];simp) ?_;intro va w5 la ka ma;rw [show D.take (2*0) ++ [a0,a1]=D.take (2*(0+1)) by rw [HDL.out];rfl] at la;have HO5:=hh la;have HK5:Hid (∀ k,Value.ownBlock va=some k→w.heap.size≤k):=hh (fun k e=>by
     rcases ma with m1 | ⟨g,m1,m2⟩
     ·exact HK.out k (m1▸e)
     ·rw [e] at m1;cases m1;exact Nat.le_trans HB4.out.size m2)
    have HB5:=hh (HB4.out.trans (ka.below (B:=w.heap.size) (fun q hq e=>by have:=HK.out q e;omega) HB4.out.size));have HX5:=hh (ka.at HX4.out (fun e=>by obtain ⟨cs,h1⟩:=HO4.out.kind e;rw [HX4.out] at h1;injection h1 with h2;injection h2 with _ h3;exact absurd h3 (by decide)));have hS2:w5.cell? ⟨X,0,none⟩=some (.int .u64 (A:Int)):=Lib.cell_of_heap HX5.out 0;refine hK _ _ (fun _ _=>hS2) ?_;clear hK hS la ka ma HO4 HX4 HB4;have hS:=hS2;clear hS2;refine tA1 12 3 hS ?_;go_frame;refine tD ?_;clear hS;go_wp2_with fail
    go_roundw
    case rel=>exact ⟨1,by go_num,by omega,HO5,HK5,HX5,HB5⟩
    case measure=>simp [intOf]
   ·obtain ⟨wz,hwz⟩:=nm (wr.drew);have hbz:Below wr.heap.size wr wz:=by rw [hwz];exact (Below.refl _ _).drew
    have HOz:=hh (HO.out.later hbz);have HXz:=bA hbz HX;have HBz:=bT HB hbz;have hS:wz.cell? ⟨X,1,none⟩=some (.int .u64 (B:Int)):=Lib.cell_of_heap HXz.out 1;clear hbz HO HX HB hi hlt;go_wp2_with fail;refine a0f (fun w'=>w'.cell? ⟨X,1,none⟩=some (.int .u64 (B:Int))) 13 13 (by kernel_rfl) rfl ?_;rw [← hwz];clear hwz;refine tA1 0 9 hS ?_;go_frame;refine tA1 1 10 hS ?_;go_frame;refine tA1 2 11 hS ?_;go_frame;refine tk 3 (some 12) rfl rfl (.inl ⟨by rfl,fun w' hS'=>(by have hc1:=hS';go_simp;rfl)⟩) hS ?_;go_frame;refine tA1 4 13 hS ?_;go_frame;refine tA1 5 14 hS ?_;go_frame;refine tA1 6 15 hS ?_;go_frame;refine tk 7 (some 16) rfl rfl (.inl ⟨by rfl,fun w' hS'=>(by have hc1:=hS';go_simp;rfl)⟩) hS ?_;go_frame;refine tA1 8 17 hS ?_;go_frame;refine tA1 9 18 hS ?_;go_frame;refine t1 10 fun K hK=>?_
    simp only [gA,jB,gC];go_simp;obtain ⟨w4,hwn⟩:=nm (World.alloc wz (.cells #[.int .u32 (b0:Int),.int .u32 (b1:Int)] 218));obtain ⟨G,hG⟩:=nm ((World.heap wz).size);rw [← hwn,← hG];have hb:Below (World.heap wz).size wz w4:=by rw [hwn];exact a0d _ _
    have hg4:w4.heap[G]? = some (.cells #[.int .u32 (b0:Int),.int .u32 (b1:Int)] 218 (0,0)):=by rw [hwn,hG];exact heap_alloc_new _ _
    have HG4:Hid (Rd w4 u32E 1 (.slice (some ⟨G,0,none⟩) 2 2) [b0,b1]):=hh (lit32 (l:=[b0,b1]) hg4 (by simp));have HO4:=hh (HOz.out.later hb);have HX4:=bA hb HXz;have HB4:=bT HBz hb;have hS2:w4.cell? ⟨X,1,none⟩=some (.int .u64 (B:Int)):=Lib.cell_of_heap HX4.out 1;refine hK _ _ (fun _ _=>hS2) ?_;clear hK hS hwn hG hb hg4 HOz HXz HBz;have hS:=hS2;clear hS2;refine t1 11 fun K hK=>?_
    simp only [gA,jB,gC];refine b0n (l:=D.take (2*1)) (l2:=[b0,b1]) _ _ 127 127 rfl Tryz.underlying127 Tryz.underlying127 Tryz.info32 rfl (by decide) a0S (fun x _=>b0h x) HO4.out rfl _ rfl HG4.out (by rw [HDL.out];unfold maxLen;simp) (by rw [HDL.out];simp) ?_;intro va w5 la ka ma;rw [show D.take (2*1) ++ [b0,b1]=D.take (2*(1+1)) by rw [HDL.out];rfl] at la;have HO5:=hh la;have HK5:Hid (∀ k,Value.ownBlock va=some k→w.heap.size≤k):=hh (fun k e=>by
     rcases ma with m1 | ⟨g,m1,m2⟩
     ·exact HK.out k (m1▸e)
     ·rw [e] at m1;cases m1;exact Nat.le_trans HB4.out.size m2)
    have HB5:=hh (HB4.out.trans (ka.below (B:=w.heap.size) (fun q hq e=>by have:=HK.out q e;omega) HB4.out.size));have HX5:=hh (ka.at HX4.out (fun e=>by obtain ⟨cs,h1⟩:=HO4.out.kind e;rw [HX4.out] at h1;injection h1 with h2;injection h2 with _ h3;exact absurd h3 (by decide)));have hS2:w5.cell? ⟨X,1,none⟩=some (.int .u64 (B:Int)):=Lib.cell_of_heap HX5.out 1;refine hK _ _ (fun _ _=>hS2) ?_;clear hK hS la ka ma HO4 HX4 HB4;have hS:=hS2;clear hS2;refine tA1 12 3 hS ?_;go_frame;refine tD ?_;clear hS;go_wp2_with fail
    go_roundw
    case rel=>exact ⟨2,by go_num,by omega,HO5,HK5,HX5,HB5⟩
    case measure=>simp [intOf]
   ·obtain ⟨wz,hwz⟩:=nm (wr.drew);have hbz:Below wr.heap.size wr wz:=by rw [hwz];exact (Below.refl _ _).drew
    have HOz:=hh (HO.out.later hbz);have HXz:=bA hbz HX;have HBz:=bT HB hbz;have hS:wz.cell? ⟨X,2,none⟩=some (.int .u64 (C:Int)):=Lib.cell_of_heap HXz.out 2;clear hbz HO HX HB hi hlt;go_wp2_with fail;refine a0f (fun w'=>w'.cell? ⟨X,2,none⟩=some (.int .u64 (C:Int))) 13 13 (by kernel_rfl) rfl ?_;rw [← hwz];clear hwz;refine tA1 0 9 hS ?_;go_frame;refine tA1 1 10 hS ?_;go_frame;refine tA1 2 11 hS ?_;go_frame;refine tk 3 (some 12) rfl rfl (.inl ⟨by rfl,fun w' hS'=>(by have hc1:=hS';go_simp;rfl)⟩) hS ?_;go_frame;refine tA1 4 13 hS ?_;go_frame;refine tA1 5 14 hS ?_;go_frame;refine tA1 6 15 hS ?_;go_frame;refine tk 7 (some 16) rfl rfl (.inl ⟨by rfl,fun w' hS'=>(by have hc1:=hS';go_simp;rfl)⟩) hS ?_;go_frame;refine tA1 8 17 hS ?_;go_frame;refine tA1 9 18 hS ?_;go_frame;refine t1 10 fun K hK=>?_
    simp only [gA,jB,gC];go_simp;obtain ⟨w4,hwn⟩:=nm (World.alloc wz (.cells #[.int .u32 (c0:Int),.int .u32 (c1:Int)] 218));obtain ⟨G,hG⟩:=nm ((World.heap wz).size);rw [← hwn,← hG];have hb:Below (World.heap wz).size wz w4:=by rw [hwn];exact a0d _ _
    have hg4:w4.heap[G]? = some (.cells #[.int .u32 (c0:Int),.int .u32 (c1:Int)] 218 (0,0)):=by rw [hwn,hG];exact heap_alloc_new _ _
    have HG4:Hid (Rd w4 u32E 1 (.slice (some ⟨G,0,none⟩) 2 2) [c0,c1]):=hh (lit32 (l:=[c0,c1]) hg4 (by simp));have HO4:=hh (HOz.out.later hb);have HX4:=bA hb HXz;have HB4:=bT HBz hb;have hS2:w4.cell? ⟨X,2,none⟩=some (.int .u64 (C:Int)):=Lib.cell_of_heap HX4.out 2;refine hK _ _ (fun _ _=>hS2) ?_;clear hK hS hwn hG hb hg4 HOz HXz HBz;have hS:=hS2;clear hS2;refine t1 11 fun K hK=>?_
    simp only [gA,jB,gC];refine b0n (l:=D.take (2*2)) (l2:=[c0,c1]) _ _ 127 127 rfl Tryz.underlying127 Tryz.underlying127 Tryz.info32 rfl (by decide) a0S (fun x _=>b0h x) HO4.out rfl _ rfl HG4.out (by rw [HDL.out];unfold maxLen;simp) (by rw [HDL.out];simp) ?_;intro va w5 la ka ma;rw [show D.take (2*2) ++ [c0,c1]=D.take (2*(2+1)) by rw [HDL.out];rfl] at la;have HO5:=hh la;have HK5:Hid (∀ k,Value.ownBlock va=some k→w.heap.size≤k):=hh (fun k e=>by
     rcases ma with m1 | ⟨g,m1,m2⟩
     ·exact HK.out k (m1▸e)
     ·rw [e] at m1;cases m1;exact Nat.le_trans HB4.out.size m2)
    have HB5:=hh (HB4.out.trans (ka.below (B:=w.heap.size) (fun q hq e=>by have:=HK.out q e;omega) HB4.out.size));have HX5:=hh (ka.at HX4.out (fun e=>by obtain ⟨cs,h1⟩:=HO4.out.kind e;rw [HX4.out] at h1;injection h1 with h2;injection h2 with _ h3;exact absurd h3 (by decide)));have hS2:w5.cell? ⟨X,2,none⟩=some (.int .u64 (C:Int)):=Lib.cell_of_heap HX5.out 2;refine hK _ _ (fun _ _=>hS2) ?_;clear hK hS la ka ma HO4 HX4 HB4;have hS:=hS2;clear hS2;refine tA1 12 3 hS ?_;go_frame;refine tD ?_;clear hS;go_wp2_with fail
    go_roundw
    case rel=>exact ⟨3,by go_num,by omega,HO5,HK5,HX5,HB5⟩
    case measure=>simp [intOf]
   ·obtain ⟨wz,hwz⟩:=nm (wr.drew);have hbz:Below wr.heap.size wr wz:=by rw [hwz];exact (Below.refl _ _).drew
    have HOz:=hh (HO.out.later hbz);have HXz:=bA hbz HX;have HBz:=bT HB hbz;have hS:wz.cell? ⟨X,3,none⟩=some (.int .u64 (E:Int)):=Lib.cell_of_heap HXz.out 3;clear hbz HO HX HB hi hlt;go_wp2_with fail;refine a0f (fun w'=>w'.cell? ⟨X,3,none⟩=some (.int .u64 (E:Int))) 13 13 (by kernel_rfl) rfl ?_;rw [← hwz];clear hwz;refine tA1 0 9 hS ?_;go_frame;refine tA1 1 10 hS ?_;go_frame;refine tA1 2 11 hS ?_;go_frame;refine tk 3 (some 12) rfl rfl (.inl ⟨by rfl,fun w' hS'=>(by have hc1:=hS';go_simp;rfl)⟩) hS ?_;go_frame;refine tA1 4 13 hS ?_;go_frame;refine tA1 5 14 hS ?_;go_frame;refine tA1 6 15 hS ?_;go_frame;refine tk 7 (some 16) rfl rfl (.inl ⟨by rfl,fun w' hS'=>(by have hc1:=hS';go_simp;rfl)⟩) hS ?_;go_frame;refine tA1 8 17 hS ?_;go_frame;refine tA1 9 18 hS ?_;go_frame;refine t1 10 fun K hK=>?_
    simp only [gA,jB,gC];go_simp;obtain ⟨w4,hwn⟩:=nm (World.alloc wz (.cells #[.int .u32 (e0:Int),.int .u32 (e1:Int)] 218));obtain ⟨G,hG⟩:=nm ((World.heap wz).size);rw [← hwn,← hG];have hb:Below (World.heap wz).size wz w4:=by rw [hwn];exact a0d _ _
    have hg4:w4.heap[G]? = some (.cells #[.int .u32 (e0:Int),.int .u32 (e1:Int)] 218 (0,0)):=by rw [hwn,hG];exact heap_alloc_new _ _
    have HG4:Hid (Rd w4 u32E 1 (.slice (some ⟨G,0,none⟩) 2 2) [e0,e1]):=hh (lit32 (l:=[e0,e1]) hg4 (by simp));have HO4:=hh (HOz.out.later hb);have HX4:=bA hb HXz;have HB4:=bT HBz hb;have hS2:w4.cell? ⟨X,3,none⟩=some (.int .u64 (E:Int)):=Lib.cell_of_heap HX4.out 3;refine hK _ _ (fun _ _=>hS2) ?_;clear hK hS hwn hG hb hg4 HOz HXz HBz;have hS:=hS2;clear hS2;refine t1 11 fun K hK=>?_
    simp only [gA,jB,gC];refine b0n (l:=D.take (2*3)) (l2:=[e0,e1]) _ _ 127 127 rfl Tryz.underlying127 Tryz.underlying127 Tryz.info32 rfl (by decide) a0S (fun x _=>b0h x) HO4.out rfl _ rfl HG4.out (by rw [HDL.out];unfold maxLen;simp) (by rw [HDL.out];simp) ?_;intro va w5 la ka ma;rw [show D.take (2*3) ++ [e0,e1]=D.take (2*(3+1)) by rw [HDL.out];rfl] at la;have HO5:=hh la;have HK5:Hid (∀ k,Value.ownBlock va=some k→w.heap.size≤k):=hh (fun k e=>by
     rcases ma with m1 | ⟨g,m1,m2⟩
     ·exact HK.out k (m1▸e)
     ·rw [e] at m1;cases m1;exact Nat.le_trans HB4.out.size m2)
    have HB5:=hh (HB4.out.trans (ka.below (B:=w.heap.size) (fun q hq e=>by have:=HK.out q e;omega) HB4.out.size));have HX5:=hh (ka.at HX4.out (fun e=>by obtain ⟨cs,h1⟩:=HO4.out.kind e;rw [HX4.out] at h1;injection h1 with h2;injection h2 with _ h3;exact absurd h3 (by decide)));have hS2:w5.cell? ⟨X,3,none⟩=some (.int .u64 (E:Int)):=Lib.cell_of_heap HX5.out 3;refine hK _ _ (fun _ _=>hS2) ?_;clear hK hS la ka ma HO4 HX4 HB4;have hS:=hS2;clear hS2;refine tA1 12 3 hS ?_;go_frame;refine tD ?_;clear hS;go_wp2_with fail
    go_roundw
    case rel=>exact ⟨4,by go_num,by omega,HO5,HK5,HX5,HB5⟩
    case measure=>simp [intOf]
  ·obtain rfl:i=4:=by omega
   have hrd:=HO.out.rd a0S;rw [List.take_of_length_le (by rw [HDL.out];simp)] at hrd;have HRD:=hh hrd;clear hrd HO HK HX hi hlt;go_wp2_with fail;refine (tfun HRD.out HD.out HN.out).mono ?_;rintro e w9 ⟨v',rfl,h1,hb⟩;have H1:=hh h1;have HB9:=bT HB hb;clear h1 hb;go_wp2_with fail
   go_ret
   exact ⟨_,rfl,H1.out,HB9.out⟩
end
section
open Go.RowKit

def tA (g0 g1 g2 g3 g4 g5 g6 g7:Nat):Nat→Array Value
 | 0=>#[.int .u64 0,.int .u64 0,.int .u64 0,.int .u64 0]
 | 1=>#[.int .u64 (g0:Int),.int .u64 0,.int .u64 0,.int .u64 0]
 | 2=>#[.int .u64 ((g0+g1*4294967296:Nat):Int),.int .u64 0,.int .u64 0,.int .u64 0]
 | 3=>#[.int .u64 ((g0+g1*4294967296:Nat):Int),.int .u64 (g2:Int),.int .u64 0,.int .u64 0]
 | 4=>#[.int .u64 ((g0+g1*4294967296:Nat):Int),.int .u64 ((g2+g3*4294967296:Nat):Int),.int .u64 0,.int .u64 0]
 | 5=>#[.int .u64 ((g0+g1*4294967296:Nat):Int),.int .u64 ((g2+g3*4294967296:Nat):Int),.int .u64 (g4:Int),.int .u64 0]
 | 6=>#[.int .u64 ((g0+g1*4294967296:Nat):Int),.int .u64 ((g2+g3*4294967296:Nat):Int),.int .u64 ((g4+g5*4294967296:Nat):Int),.int .u64 0]
 | 7=>#[.int .u64 ((g0+g1*4294967296:Nat):Int),.int .u64 ((g2+g3*4294967296:Nat):Int),.int .u64 ((g4+g5*4294967296:Nat):Int),.int .u64 (g6:Int)]
 | _=>#[.int .u64 ((g0+g1*4294967296:Nat):Int),.int .u64 ((g2+g3*4294967296:Nat):Int),.int .u64 ((g4+g5*4294967296:Nat):Int),.int .u64 ((g6+g7*4294967296:Nat):Int)]

theorem t0f (a d:Nat) (ha:a < 4294967296) (hd:d < 4294967296):bits BinOp.or IntKind.u64 (a:Int) ((d*4294967296:Nat):Int)=((a+d*4294967296:Nat):Int):=by
 rw [u64_or_nat _ _ (by omega) (by omega),Nat.or_comm,nat_join 32 _ _ (by omega) (by omega),Nat.add_comm]
theorem e0b (d:Nat) (hd:d < 18446744073709551616):bits BinOp.or IntKind.u64 0 (d:Int)=(d:Int):=by
 have:=u64_or_nat 0 d (by omega) hd
 simpa using this
theorem h0O (a d:Nat) (ha:a < 4294967296) (hd:d < 4294967296):bits BinOp.or IntKind.u64 (a:Int) ((d:Int)*4294967296)=((a+d*4294967296:Nat):Int):=by
 rw [show (d:Int)*4294967296=((d*4294967296:Nat):Int) by omega];exact t0f a d ha hd
theorem c0P (l:List Nat):dv l=l.getD 0 0+4294967296*dv l.tail:=by
 cases l with
 | nil=>simp [dv]
 | cons d l=>simp [dv]
theorem o0q (l:List Nat) (k:Nat):l.tail.getD k 0=l.getD (k+1) 0:=by cases l<;>simp
theorem s0U {l:List Nat} (h:l.length≤8):dv l=(l.getD 0 0+l.getD 1 0*4294967296)+(l.getD 2 0+l.getD 3 0*4294967296)*18446744073709551616+(l.getD 4 0+l.getD 5 0*4294967296)*340282366920938463463374607431768211456+(l.getD 6 0+l.getD 7 0*4294967296)*6277101735386680763835789423207666416102355444464034512896:=by
 have e0:=c0P l;have e1:=c0P l.tail;have e2:=c0P l.tail.tail;have e3:=c0P l.tail.tail.tail;have e4:=c0P l.tail.tail.tail.tail;have e5:=c0P l.tail.tail.tail.tail.tail;have e6:=c0P l.tail.tail.tail.tail.tail.tail;have e7:=c0P l.tail.tail.tail.tail.tail.tail.tail;have e8:dv l.tail.tail.tail.tail.tail.tail.tail.tail=0:=by
  have:l.tail.tail.tail.tail.tail.tail.tail.tail = []:=List.length_eq_zero_iff.1 (by simp only [List.length_tail];omega);rw [this];rfl
 simp only [o0q,Nat.zero_add,Nat.reduceAdd] at e1 e2 e3 e4 e5 e6 e7;rw [e8] at e7
 omega
theorem b0r {l:List Nat} (h:D32 l) (k:Nat):l.getD k 0 < 4294967296:=by
 by_cases hk:k < l.length
 ·rw [List.getD_eq_getElem?_getD,List.getElem?_eq_getElem hk];exact h _ (List.getElem_mem hk)
 ·rw [List.getD_eq_getElem?_getD,List.getElem?_eq_none (by omega)];decide
theorem b0K {l:List Nat} {k:Nat} (h:l.length≤k):l.getD k 0=0:=by
 rw [List.getD_eq_getElem?_getD,List.getElem?_eq_none h];rfl
theorem t0p {g0 g1 g2 g3 g4 g5 g6 g7 i:Nat} (h:i≤8) (z0:i≤0→g0=0) (z1:i≤1→g1=0) (z2:i≤2→g2=0) (z3:i≤3→g3=0) (z4:i≤4→g4=0) (z5:i≤5→g5=0) (z6:i≤6→g6=0) (z7:i≤7→g7=0) :
  tA g0 g1 g2 g3 g4 g5 g6 g7 i=tA g0 g1 g2 g3 g4 g5 g6 g7 8:=by
 rcases (show i=0∨i=1∨i=2∨i=3∨i=4∨i=5∨i=6∨i=7∨i=8 by omega) with rfl | rfl | rfl | rfl | rfl | rfl | rfl | rfl | rfl<;>simp at z0 z1 z2 z3 z4 z5 z6 z7<;>simp [*,tA]
theorem b0o {l:List Nat} {k:Nat} (h:k < l.length):l.getD k 0=l[k]:=by
 rw [List.getD_eq_getElem?_getD,List.getElem?_eq_getElem h];rfl

theorem s0k {w:World} {v:Value} {l:List Nat} {n:Nat} (h:Rd w u32E 1 v l) (hd:D32 l) (hn:dv l=n):Calls Tryz.prog 144 #[v] w (UOk w n (decide (n < uMax))):=by
 obtain ⟨ad0,cap0,rfl,_,_⟩:=h.shape;have HR:=hh h;have HD:=hh hd;have HN:=hh hn;clear h hd hn
 go_enter Tryz.func144,Tryz.ntmps144
 go_wp2_with (refine sA _ Tryz.zeroUz ?_)
 intro R w1 h1;have HR1:=hh h1.out.cells;have HB1:=hh h1.out.below;have HRW:Hid (w.heap.size≤R):=hh (Nat.le_of_eq h1.out.eq.symm);clear h1;go_wp2_with fail;refine (tfun (HR.out.later HB1.out) HD.out HN.out).mono ?_;rintro e w2 ⟨v',rfl,h2,hb⟩;have HR2:=bA hb HR1;have HB2:=bT HB1 hb;obtain ⟨m,hm⟩:=nm (digs n);rw [← hm] at h2;have HM:Hid (D32 m∧dv m=n):=hh (by rw [hm];exact ⟨b0i n,b0B n⟩);have HLM:Hid ((n < uMax→m.length≤8)∧(uMax≤n→8 < m.length)):=hh (by rw [hm];exact ⟨fun h=>f0o (by rw [pow8];exact h),fun h=>k0z (by rw [pow8];exact h)⟩);obtain ⟨ad,cap,rfl,c1,c2⟩:=h2.shape;obtain ⟨L,hL⟩:=nm (m.length);rw [← hL] at h2 c1 ⊢;have H2:=hh h2;have HL:=hh hL;clear hb hm h2 hL HR1 HB1 HR HD
 by_cases hbig:uMax≤n
 ·have h8:8 < L:=by rw [HL.out];exact HLM.out.2 hbig
  have HF:Hid (decide (n < uMax)=false):=hh (decide_eq_false (by omega));clear hbig
  go_wp2_with (refine a0a (t:=25) (old:=u0) rfl 25 _ _ rfl R u0 rfl rfl HR2.out Tryz.sizeU rfl (a0Y _ _ _ _) ?_)
  intro w8 hx8 k8 _;have HX8:=hh hx8;have HB8:=hh (HB2.out.trans (k8.below (B:=w.heap.size) (fun y hy e=>by have:=HRW.out;omega) HB2.out.size));clear hx8 k8;go_wp2_with fail
  exact bodyPost_ret (a0l rfl _ _ R _ u0 _ _ rfl HX8.out Tryz.underlying25 rfl Tryz.sizeU _ rfl) rfl ⟨0,0,0,0,by rw [HF.out];exact UIs.zero,by rw [HF.out];rfl,HB8.out⟩
 ·have h8:L≤8:=by rw [HL.out];exact HLM.out.1 (by omega)
  have h8':decide ((8:Int) < (L:Int))=false:=decide_eq_false (by omega);have HF:Hid (decide (n < uMax)=true):=hh (decide_eq_true (by omega));have hpad:=s0U (l:=m) (by rw [← HL.out];exact h8);rw [HM.out.2] at hpad;obtain ⟨g0,hg0⟩:=nm (m.getD 0 0);obtain ⟨g1,hg1⟩:=nm (m.getD 1 0);obtain ⟨g2,hg2⟩:=nm (m.getD 2 0);obtain ⟨g3,hg3⟩:=nm (m.getD 3 0);obtain ⟨g4,hg4⟩:=nm (m.getD 4 0);obtain ⟨g5,hg5⟩:=nm (m.getD 5 0);obtain ⟨g6,hg6⟩:=nm (m.getD 6 0);obtain ⟨g7,hg7⟩:=nm (m.getD 7 0);rw [← hg0,← hg1,← hg2,← hg3,← hg4,← hg5,← hg6,← hg7] at hpad;have HG0:Hid (g0=m.getD 0 0∧g0 < 4294967296):=hh ⟨hg0,by rw [hg0];exact b0r HM.out.1 0⟩;have HG1:Hid (g1=m.getD 1 0∧g1 < 4294967296):=hh ⟨hg1,by rw [hg1];exact b0r HM.out.1 1⟩;have HG2:Hid (g2=m.getD 2 0∧g2 < 4294967296):=hh ⟨hg2,by rw [hg2];exact b0r HM.out.1 2⟩;have HG3:Hid (g3=m.getD 3 0∧g3 < 4294967296):=hh ⟨hg3,by rw [hg3];exact b0r HM.out.1 3⟩;have HG4:Hid (g4=m.getD 4 0∧g4 < 4294967296):=hh ⟨hg4,by rw [hg4];exact b0r HM.out.1 4⟩;have HG5:Hid (g5=m.getD 5 0∧g5 < 4294967296):=hh ⟨hg5,by rw [hg5];exact b0r HM.out.1 5⟩;have HG6:Hid (g6=m.getD 6 0∧g6 < 4294967296):=hh ⟨hg6,by rw [hg6];exact b0r HM.out.1 6⟩;have HG7:Hid (g7=m.getD 7 0∧g7 < 4294967296):=hh ⟨hg7,by rw [hg7];exact b0r HM.out.1 7⟩
  clear hg0 hg1 hg2 hg3 hg4 hg5 hg6 hg7;have HPAD:=hh hpad;clear hbig hpad
  go_wp2_with (refine sA _ Tryz.zeroUz ?_)
  intro O w3 h3;have HO3:=hh h3.out.cells;have HB3:=hh (HB2.out.trans (h3.out.below.mono HB2.out.size));have HR3:=hh (a0e h3.out.below HR2.out);have HOD:Hid (w.heap.size≤O∧O≠R):=hh (by
   have:=h3.out.eq;have:=a0b HR2.out;have:=HB2.out.size
   exact ⟨by omega,by omega⟩)
  have HOA:Hid (∀ b off,ad=some ⟨b,off,none⟩→0 < L→b < O):=hh (fun b off e hL0=>by
   obtain ⟨b',off',e1,hb1⟩:=H2.out.ptr (by rw [← HL.out];exact hL0);rw [e] at e1;cases e1;rw [h3.out.eq];exact hb1)
  have H3:=hh (H2.out.later h3.out.below);clear h3 HB2 HR2 h8';go_wp2_with fail
  go_loopw [15] (fun vi wr=>∃ i:Nat,vi = .int .i64 i∧i≤L∧Hid (Rd wr u32E 1 (.slice ad L cap) m)∧Hid (wr.heap[O]? = some (.cells (tA g0 g1 g2 g3 g4 g5 g6 g7 i) 25 (0,0)))∧Hid (wr.heap[R]? = some (.cells u0 25 (0,0)))∧Hid (Below w.heap.size w wr)) (fun vi _=>L - (intOf vi).toNat)
  case atStart=>exact ⟨0,rfl,Nat.zero_le _,H3,HO3,HR3,HB3⟩
  case round=>
   clear H3 HO3 HR3 HB3;obtain ⟨i,rfl,hi,HA,HO,HRR,HB⟩:=hrel
   by_cases hlt:i < L
   ·have HLT:=hh hlt;have H8:=hh h8;have him:i < m.length:=by rw [← HL.out];exact hlt
    rcases (show i=0∨i=1∨i=2∨i=3∨i=4∨i=5∨i=6∨i=7 by omega) with rfl | rfl | rfl | rfl | rfl | rfl | rfl | rfl
    ·obtain ⟨b,off,rfl,hb,hc⟩:=HA.out.at 0 him;have hcell:wr.cell? ⟨b,off,none⟩=some (.int .u32 (g0:Int)):=by show wr.cell? ⟨b,off+0,none⟩=_;rw [hc,HG0.out.1,b0o him];rfl
     have ho:wr.cell? ⟨O,0,none⟩=some (.int .u64 0):=Lib.cell_of_heap HO.out 0;have hfz:wr.frozen? ⟨O,0,none⟩=false:=Lib.frozen_of_heap HO.out 0;have hgb:=HG0.out.2;clear hc;go_wp2_with fail
     go_roundw
     case rel=>
      refine ⟨1,by go_num,by omega,hh (HA.out.keep (Keep.setCell (S:=(· = O)) (p:=⟨O,0,none⟩) (Keep.refl _ _) (.inl rfl) _) (fun q e _ hq=>?_)),hh ?_,hh ((heap_setCell_other _ _ _ _ (fun e=>HOD.out.2 e.symm)).trans HRR.out),hh (HB.out.setCell (p:=⟨O,0,none⟩) HOD.out.1 _)⟩
      ·have:=HOA.out b off rfl (by omega)
       cases e;have hq2:b=O:=hq;omega
      ·rw [heap_setCell_same _ _ _ _ _ _ HO.out,e0b g0 (by omega)]
       rfl
     case measure=>simp [intOf];omega
    ·obtain ⟨b,off,rfl,hb,hc⟩:=HA.out.at 1 him;have hcell:wr.cell? ⟨b,off+1,none⟩=some (.int .u32 (g1:Int)):=by show wr.cell? ⟨b,off+1,none⟩=_;rw [hc,HG1.out.1,b0o him];rfl
     have ho:wr.cell? ⟨O,0,none⟩=some (.int .u64 (g0:Int)):=Lib.cell_of_heap HO.out 0;have hfz:wr.frozen? ⟨O,0,none⟩=false:=Lib.frozen_of_heap HO.out 0;have hgb:=HG1.out.2;clear hc;go_wp2_with fail
     go_roundw
     case rel=>
      refine ⟨2,by go_num,by omega,hh (HA.out.keep (Keep.setCell (S:=(· = O)) (p:=⟨O,0,none⟩) (Keep.refl _ _) (.inl rfl) _) (fun q e _ hq=>?_)),hh ?_,hh ((heap_setCell_other _ _ _ _ (fun e=>HOD.out.2 e.symm)).trans HRR.out),hh (HB.out.setCell (p:=⟨O,0,none⟩) HOD.out.1 _)⟩
      ·have:=HOA.out b off rfl (by omega)
       cases e;have hq2:b=O:=hq;omega
      ·rw [heap_setCell_same _ _ _ _ _ _ HO.out,h0O g0 g1 HG0.out.2 hgb]
       rfl
     case measure=>simp [intOf];omega
    ·obtain ⟨b,off,rfl,hb,hc⟩:=HA.out.at 2 him;have hcell:wr.cell? ⟨b,off+2,none⟩=some (.int .u32 (g2:Int)):=by show wr.cell? ⟨b,off+2,none⟩=_;rw [hc,HG2.out.1,b0o him];rfl
     have ho:wr.cell? ⟨O,1,none⟩=some (.int .u64 0):=Lib.cell_of_heap HO.out 1;have hfz:wr.frozen? ⟨O,1,none⟩=false:=Lib.frozen_of_heap HO.out 1;have hgb:=HG2.out.2;clear hc;go_wp2_with fail
     go_roundw
     case rel=>
      refine ⟨3,by go_num,by omega,hh (HA.out.keep (Keep.setCell (S:=(· = O)) (p:=⟨O,1,none⟩) (Keep.refl _ _) (.inl rfl) _) (fun q e _ hq=>?_)),hh ?_,hh ((heap_setCell_other _ _ _ _ (fun e=>HOD.out.2 e.symm)).trans HRR.out),hh (HB.out.setCell (p:=⟨O,1,none⟩) HOD.out.1 _)⟩
      ·have:=HOA.out b off rfl (by omega)
       cases e;have hq2:b=O:=hq;omega
      ·rw [heap_setCell_same _ _ _ _ _ _ HO.out,e0b g2 (by omega)]
       rfl
     case measure=>simp [intOf];omega
    ·obtain ⟨b,off,rfl,hb,hc⟩:=HA.out.at 3 him;have hcell:wr.cell? ⟨b,off+3,none⟩=some (.int .u32 (g3:Int)):=by show wr.cell? ⟨b,off+3,none⟩=_;rw [hc,HG3.out.1,b0o him];rfl
     have ho:wr.cell? ⟨O,1,none⟩=some (.int .u64 (g2:Int)):=Lib.cell_of_heap HO.out 1;have hfz:wr.frozen? ⟨O,1,none⟩=false:=Lib.frozen_of_heap HO.out 1;have hgb:=HG3.out.2;clear hc;go_wp2_with fail
     go_roundw
     case rel=>
      refine ⟨4,by go_num,by omega,hh (HA.out.keep (Keep.setCell (S:=(· = O)) (p:=⟨O,1,none⟩) (Keep.refl _ _) (.inl rfl) _) (fun q e _ hq=>?_)),hh ?_,hh ((heap_setCell_other _ _ _ _ (fun e=>HOD.out.2 e.symm)).trans HRR.out),hh (HB.out.setCell (p:=⟨O,1,none⟩) HOD.out.1 _)⟩
      ·have:=HOA.out b off rfl (by omega)
       cases e;have hq2:b=O:=hq;omega
      ·rw [heap_setCell_same _ _ _ _ _ _ HO.out,h0O g2 g3 HG2.out.2 hgb]
       rfl
     case measure=>simp [intOf];omega
    ·obtain ⟨b,off,rfl,hb,hc⟩:=HA.out.at 4 him;have hcell:wr.cell? ⟨b,off+4,none⟩=some (.int .u32 (g4:Int)):=by show wr.cell? ⟨b,off+4,none⟩=_;rw [hc,HG4.out.1,b0o him];rfl
     have ho:wr.cell? ⟨O,2,none⟩=some (.int .u64 0):=Lib.cell_of_heap HO.out 2;have hfz:wr.frozen? ⟨O,2,none⟩=false:=Lib.frozen_of_heap HO.out 2;have hgb:=HG4.out.2;clear hc;go_wp2_with fail
     go_roundw
     case rel=>
      refine ⟨5,by go_num,by omega,hh (HA.out.keep (Keep.setCell (S:=(· = O)) (p:=⟨O,2,none⟩) (Keep.refl _ _) (.inl rfl) _) (fun q e _ hq=>?_)),hh ?_,hh ((heap_setCell_other _ _ _ _ (fun e=>HOD.out.2 e.symm)).trans HRR.out),hh (HB.out.setCell (p:=⟨O,2,none⟩) HOD.out.1 _)⟩
      ·have:=HOA.out b off rfl (by omega)
       cases e;have hq2:b=O:=hq;omega
      ·rw [heap_setCell_same _ _ _ _ _ _ HO.out,e0b g4 (by omega)]
       rfl
     case measure=>simp [intOf];omega
    ·obtain ⟨b,off,rfl,hb,hc⟩:=HA.out.at 5 him;have hcell:wr.cell? ⟨b,off+5,none⟩=some (.int .u32 (g5:Int)):=by show wr.cell? ⟨b,off+5,none⟩=_;rw [hc,HG5.out.1,b0o him];rfl
     have ho:wr.cell? ⟨O,2,none⟩=some (.int .u64 (g4:Int)):=Lib.cell_of_heap HO.out 2;have hfz:wr.frozen? ⟨O,2,none⟩=false:=Lib.frozen_of_heap HO.out 2;have hgb:=HG5.out.2;clear hc;go_wp2_with fail
     go_roundw
     case rel=>
      refine ⟨6,by go_num,by omega,hh (HA.out.keep (Keep.setCell (S:=(· = O)) (p:=⟨O,2,none⟩) (Keep.refl _ _) (.inl rfl) _) (fun q e _ hq=>?_)),hh ?_,hh ((heap_setCell_other _ _ _ _ (fun e=>HOD.out.2 e.symm)).trans HRR.out),hh (HB.out.setCell (p:=⟨O,2,none⟩) HOD.out.1 _)⟩
      ·have:=HOA.out b off rfl (by omega)
       cases e;have hq2:b=O:=hq;omega
      ·rw [heap_setCell_same _ _ _ _ _ _ HO.out,h0O g4 g5 HG4.out.2 hgb]
       rfl
     case measure=>simp [intOf];omega
    ·obtain ⟨b,off,rfl,hb,hc⟩:=HA.out.at 6 him;have hcell:wr.cell? ⟨b,off+6,none⟩=some (.int .u32 (g6:Int)):=by show wr.cell? ⟨b,off+6,none⟩=_;rw [hc,HG6.out.1,b0o him];rfl
     have ho:wr.cell? ⟨O,3,none⟩=some (.int .u64 0):=Lib.cell_of_heap HO.out 3;have hfz:wr.frozen? ⟨O,3,none⟩=false:=Lib.frozen_of_heap HO.out 3;have hgb:=HG6.out.2;clear hc;go_wp2_with fail
     go_roundw
     case rel=>
      refine ⟨7,by go_num,by omega,hh (HA.out.keep (Keep.setCell (S:=(· = O)) (p:=⟨O,3,none⟩) (Keep.refl _ _) (.inl rfl) _) (fun q e _ hq=>?_)),hh ?_,hh ((heap_setCell_other _ _ _ _ (fun e=>HOD.out.2 e.symm)).trans HRR.out),hh (HB.out.setCell (p:=⟨O,3,none⟩) HOD.out.1 _)⟩
      ·have:=HOA.out b off rfl (by omega)
       cases e;have hq2:b=O:=hq;omega
      ·rw [heap_setCell_same _ _ _ _ _ _ HO.out,e0b g6 (by omega)]
       rfl
     case measure=>simp [intOf];omega
    ·obtain ⟨b,off,rfl,hb,hc⟩:=HA.out.at 7 him;have hcell:wr.cell? ⟨b,off+7,none⟩=some (.int .u32 (g7:Int)):=by show wr.cell? ⟨b,off+7,none⟩=_;rw [hc,HG7.out.1,b0o him];rfl
     have ho:wr.cell? ⟨O,3,none⟩=some (.int .u64 (g6:Int)):=Lib.cell_of_heap HO.out 3;have hfz:wr.frozen? ⟨O,3,none⟩=false:=Lib.frozen_of_heap HO.out 3;have hgb:=HG7.out.2;clear hc;go_wp2_with fail
     go_roundw
     case rel=>
      refine ⟨8,by go_num,by omega,hh (HA.out.keep (Keep.setCell (S:=(· = O)) (p:=⟨O,3,none⟩) (Keep.refl _ _) (.inl rfl) _) (fun q e _ hq=>?_)),hh ?_,hh ((heap_setCell_other _ _ _ _ (fun e=>HOD.out.2 e.symm)).trans HRR.out),hh (HB.out.setCell (p:=⟨O,3,none⟩) HOD.out.1 _)⟩
      ·have:=HOA.out b off rfl (by omega)
       cases e;have hq2:b=O:=hq;omega
      ·rw [heap_setCell_same _ _ _ _ _ _ HO.out,h0O g6 g7 HG6.out.2 hgb]
       rfl
     case measure=>simp [intOf];omega
   ·obtain rfl:i=L:=by omega
    have hA:tA g0 g1 g2 g3 g4 g5 g6 g7 i=tA g0 g1 g2 g3 g4 g5 g6 g7 8:=by
     have hz:∀ k,i≤k→m.getD k 0=0:=fun k hk=>b0K (by rw [← HL.out];exact hk)
     have z0:i≤0→g0=0:=fun h=>by rw [HG0.out.1];exact hz 0 h
     have z1:i≤1→g1=0:=fun h=>by rw [HG1.out.1];exact hz 1 h
     have z2:i≤2→g2=0:=fun h=>by rw [HG2.out.1];exact hz 2 h
     have z3:i≤3→g3=0:=fun h=>by rw [HG3.out.1];exact hz 3 h
     have z4:i≤4→g4=0:=fun h=>by rw [HG4.out.1];exact hz 4 h
     have z5:i≤5→g5=0:=fun h=>by rw [HG5.out.1];exact hz 5 h
     have z6:i≤6→g6=0:=fun h=>by rw [HG6.out.1];exact hz 6 h
     have z7:i≤7→g7=0:=fun h=>by rw [HG7.out.1];exact hz 7 h
     exact t0p h8 z0 z1 z2 z3 z4 z5 z6 z7
    have ho:=HO.out;rw [hA] at ho;have HO8:Hid (wr.heap[O]? = some (.cells #[.int .u64 ((g0+g1*4294967296:Nat):Int),.int .u64 ((g2+g3*4294967296:Nat):Int),.int .u64 ((g4+g5*4294967296:Nat):Int),.int .u64 ((g6+g7*4294967296:Nat):Int)] 25 (0,0))):=hh ho;obtain ⟨u0',hu0⟩:∃ q,q=g0+g1*4294967296:=⟨_,rfl⟩;obtain ⟨u1',hu1⟩:∃ q,q=g2+g3*4294967296:=⟨_,rfl⟩;obtain ⟨u2',hu2⟩:∃ q,q=g4+g5*4294967296:=⟨_,rfl⟩;obtain ⟨u3',hu3⟩:∃ q,q=g6+g7*4294967296:=⟨_,rfl⟩;have HUU:Hid (UIs (u0':Int) (u1':Int) (u2':Int) (u3':Int) n):=hh (UIs.of_nats (by have:=HG0.out.2;have:=HG1.out.2;omega) (by have:=HG2.out.2;have:=HG3.out.2;omega) (by have:=HG4.out.2;have:=HG5.out.2;omega) (by have:=HG6.out.2;have:=HG7.out.2;omega) (by rw [HPAD.out,hu0,hu1,hu2,hu3]));rw [← hu0,← hu1,← hu2,← hu3] at HO8;clear ho hA HO HA hlt hi hu0 hu1 hu2 hu3
    go_wp2_with (first
     | (refine lR HO8 Tryz.underlying25 Tryz.sizeU ?_)
     | (refine sR 25 #[.int .u64 u0',.int .u64 u1',.int .u64 u2',.int .u64 u3'] HRR Tryz.sizeU ?_))
    intro w8 hx8 k8 _;have HX8:=hh hx8;have HB8:=hh (HB.out.trans (k8.below (B:=w.heap.size) (fun y hy e=>by have:=HRW.out;omega) HB.out.size));clear hx8 k8;go_wp2_with fail
    exact bR rfl rfl HX8 Tryz.underlying25 Tryz.sizeU ⟨_,_,_,_,by rw [HF.out];exact HUU.out,by rw [HF.out];rfl,HB8.out⟩

theorem k0X {w:World} {v:Value} {l:List Nat} {n:Nat} (h:Rd w u32E 1 v l) (hd:D32 l) (hn:dv l=n):Calls Tryz.prog 63 #[v] w (UOk w n (decide (n < uMax))):=by
 obtain ⟨ad0,cap0,rfl,_,_⟩:=h.shape;have HR:=hh h;have HD:=hh hd;have HN:=hh hn;clear h hd hn
 go_enter Tryz.func63,Tryz.ntmps63
 go_wp2_with (refine sA _ Tryz.zeroUz ?_)
 intro R w1 h1;have HR1:=hh h1.out.cells;have HB1:=hh h1.out.below;have HRW:Hid (w.heap.size≤R):=hh (Nat.le_of_eq h1.out.eq.symm);clear h1;go_wp2_with fail;refine (s0k (HR.out.later HB1.out) HD.out HN.out).mono ?_;obtain ⟨q,hq⟩:=nm (decide (n < uMax));rw [← hq];have HQ:=hh hq;clear hq;rintro e w2 ⟨a,b,c,d,hu,rfl,hb⟩;have HU:=hh hu;have HR2:=bA hb HR1;have HB2:=bT HB1 hb;clear hu hb
 go_wp2_with (refine sR 25 #[.int .u64 a,.int .u64 b,.int .u64 c,.int .u64 d] HR2 Tryz.sizeU ?_)
 intro w8 hx8 k8 _;have HX8:=hh hx8;have HB8:=hh (HB2.out.trans (k8.below (B:=w.heap.size) (fun y hy e=>by have:=HRW.out;omega) HB2.out.size));clear hx8 k8;go_wp2_with fail
 exact bR rfl rfl HX8 Tryz.underlying25 Tryz.sizeU ⟨_,_,_,_,by rw [← HQ.out];exact HU.out,by rw [← HQ.out];rfl,HB8.out⟩
end
section
open Go.RowKit

theorem lit1d {w:World} {A d:Nat} (h:w.heap[A]? = some (.cells #[.int .u32 (d:Int)] 218 (0,0))):Rd w u32E 1 (.slice (some ⟨A,0,none⟩) 1 1) [d]:=lit32 (l:=[d]) h (by simp)
structure PlusI (l1 l2:List Nat) (i:Nat) (o:List Nat) (c:Nat):Prop where
 len:o.length=i
 d32:D32 o
 c1:c≤1
 eq:dv o+4294967296 ^ i*c=dv (l1.take i)+dv (l2.take i)
theorem PlusI.zero (l1 l2:List Nat):PlusI l1 l2 0 [] 0:=⟨rfl,D32.nil,by omega,by simp [dv]⟩
def dig (l:List Nat) (i:Nat):Nat:=l.getD i 0
theorem c0p (l:List Nat) (i:Nat):dv (l.take (i+1))=dv (l.take i)+4294967296 ^ i*dig l i:=by
 by_cases h:i < l.length
 ·rw [e0K h];unfold dig;rw [b0o h]
 ·unfold dig
  rw [b0K (by omega),List.take_of_length_le (by omega),List.take_of_length_le (by omega)];simp
theorem PlusI.next {l1 l2:List Nat} {i:Nat} {o:List Nat} {c:Nat} (h:PlusI l1 l2 i o c) {x xl xh:Nat} (hx:x=c+dig l1 i+dig l2 i) (h1:dig l1 i < 4294967296) (h2:dig l2 i < 4294967296) (hl:xl=x % 4294967296) (hhq:xh=x / 4294967296):PlusI l1 l2 (i+1) (o ++ [xl]) xh:=by
 have hc:=h.c1;refine ⟨by rw [List.length_append,h.len];rfl,h.d32.app (D32.one (by omega)),by omega,?_⟩;rw [n0U,h.len,c0p,c0p,Nat.pow_succ];have e:=h.eq;have e2:xl+4294967296*xh=c+dig l1 i+dig l2 i:=by omega
 have e3:4294967296 ^ i*xl+4294967296 ^ i*4294967296*xh=4294967296 ^ i*c+4294967296 ^ i*dig l1 i+4294967296 ^ i*dig l2 i:=by
  rw [Nat.mul_assoc,← Nat.mul_add,e2,Nat.mul_add,Nat.mul_add]
 omega
theorem PlusI.done {l1 l2:List Nat} {i:Nat} {o:List Nat} (h:PlusI l1 l2 i o 0) (h1:l1.length≤i) (h2:l2.length≤i):dv o=dv l1+dv l2:=by
 have e:=h.eq;rw [List.take_of_length_le h1,List.take_of_length_le h2] at e
 omega

theorem q0W {w:World} {v1 v2:Value} {l1 l2:List Nat} {n:Nat} (h1:Rd w u32E 1 v1 l1) (h2:Rd w u32E 1 v2 l2) (d1:D32 l1) (d2:D32 l2) (b1:l1.length≤1000000) (b2:l2.length≤1000000) (hn:dv l1+dv l2=n) :
  Calls Tryz.prog 64 #[v1,v2] w (DgRet w n):=by
 obtain ⟨ad1,cap1,rfl,c1,c1'⟩:=h1.shape;obtain ⟨ad2,cap2,rfl,c2,c2'⟩:=h2.shape;obtain ⟨n1,hn1⟩:=nm (l1.length);obtain ⟨n2,hn2⟩:=nm (l2.length);rw [← hn1] at h1 c1 b1 ⊢;rw [← hn2] at h2 c2 b2 ⊢;have H1:=hh h1;have H2:=hh h2;have HD1:=hh d1;have HD2:=hh d2;have HN:=hh hn;have HN1:=hh hn1;have HN2:=hh hn2;clear h1 h2 d1 d2 hn hn1 hn2
 go_enter Tryz.func64,Tryz.ntmps64
 go_wp2_with fail
 go_loopw [5,6,7] (fun vo vc vi wr=>∃ (i c:Nat) (o:List Nat),vi = .int .i64 i∧vc = .int .u64 c∧i≤n1+n2+1∧c≤1∧Hid (PlusI l1 l2 i o c)∧Hid (i≤n1∨i≤n2∨c=0)∧Hid (LO wr 218 u32E 1 vo o)∧Hid (∀ k,vo.ownBlock=some k→w.heap.size≤k)∧Hid (Below w.heap.size w wr)) (fun _ vc vi _=>2*(n1+n2+1 - (intOf vi).toNat)+(intOf vc).toNat)
 case atStart=>exact ⟨0,0,[],rfl,rfl,by omega,by omega,hh (PlusI.zero _ _),hh (.inl (Nat.zero_le _)),hh (LO.nil _ _ _ _),hh (fun k e=>by cases e),hh (Below.refl _ _)⟩
 case round=>
  obtain ⟨i,c,o,rfl,rfl,hi,hc,HP,HC,HO,HK,HB⟩:=hrel;have HI:=hh (And.intro hi hc);have HB1:=hh (And.intro b1 b2)
  by_cases g1:i < n1
  ·obtain ⟨p1,o1,rfl,hp1,hc1⟩:=H1.out.at i (by rw [← HN1.out];exact g1);have hc1':=(HB.out.cell (p:=⟨p1,o1+i,none⟩) hp1).trans hc1;obtain ⟨d,hd⟩:=nm (dig l1 i);have hd1:wr.cell? ⟨p1,o1+i,none⟩=some (.int .u32 (d:Int)):=by rw [hc1',hd];unfold dig;rw [b0o (by rw [← HN1.out];exact g1)];rfl
   have hdb:d < 4294967296:=by rw [hd];exact b0r HD1.out i
   have HDD:=hh hd;clear hc1 hc1' hd
   by_cases g2:i < n2
   ·obtain ⟨p2,o2,rfl,hp2,hc2⟩:=H2.out.at i (by rw [← HN2.out];exact g2);have hc2':=(HB.out.cell (p:=⟨p2,o2+i,none⟩) hp2).trans hc2;obtain ⟨e,he⟩:=nm (dig l2 i);have hd2:wr.cell? ⟨p2,o2+i,none⟩=some (.int .u32 (e:Int)):=by rw [hc2',he];unfold dig;rw [b0o (by rw [← HN2.out];exact g2)];rfl
    have heb:e < 4294967296:=by rw [he];exact b0r HD2.out i
    have HEE:=hh he;clear hc2 hc2' he;obtain ⟨x,hx⟩:∃ q:Nat,q=c+d+e:=⟨_,rfl⟩;obtain ⟨x1,hx1⟩:∃ q:Nat,q=c+d:=⟨_,rfl⟩;have q1:IntKind.u64.wrap ((c:Int)+(d:Int))=(x1:Int):=by rw [IntKind.wrap_u64];omega
    have q2:IntKind.u64.wrap ((x1:Int)+(e:Int))=(x:Int):=by rw [IntKind.wrap_u64];omega
    obtain ⟨xl,hxl⟩:∃ q:Nat,q=x % 4294967296:=⟨_,rfl⟩;obtain ⟨xh,hxh⟩:∃ q:Nat,q=x / 4294967296:=⟨_,rfl⟩;have q3:IntKind.u32.wrap (x:Int)=(xl:Int):=by rw [a0Q,hxl]
    have q4:(x:Int) / 4294967296=(xh:Int):=by omega
    have hxb:x < 18446744073709551616:=by omega
    have HP2:Hid (PlusI l1 l2 (i+1) (o ++ [xl]) xh):=hh (HP.out.next (x:=x) (by rw [← HDD.out,← HEE.out];exact hx) (by rw [← HDD.out];omega) (by rw [← HEE.out];omega) hxl hxh);have hxh1:xh≤1:=HP2.out.c1;have HLEN:Hid (o.length=i):=hh HP.out.len;have HC2:Hid (i+1≤n1∨i+1≤n2∨xh=0):=hh (by have h:=g1;omega);have HIB:Hid (i+1≤n1+n2+1):=hh (by rcases HC.out with h | h | h<;>omega);clear hx hx1 hxl hxh HP HC hi hc;have h1000:i≤2000001:=by have:=HI.out;have:=HB1.out;omega
    go_wp2_with (at_builtin;refine a0y (l:=o) (l2:=[xl]) (enc:=u32E) rfl _ _ 127 127 rfl Tryz.underlying127 Tryz.underlying127 Tryz.info32 rfl (by decide) a0S (fun x _=>b0h x) (HO.out.later (a0d _ _)) rfl _ rfl (lit1d (heap_alloc_new _ _)) (by have:=HLEN.out;have:=HI.out;have:=HB1.out;unfold maxLen;simp only [List.length_singleton];omega) (by have:=HLEN.out;have:=HI.out;have:=HB1.out;simp only [List.length_singleton];omega) ?_)
    intro va w5 la ka ma;have HO5:=hh la;have hbn:=a0d wr (.cells #[.int .u32 ((xl:Nat):Int)] 218);have HK5:Hid (∀ k,Value.ownBlock va=some k→w.heap.size≤k):=hh (fun k e=>by
     rcases ma with m1 | ⟨g,m1,m2⟩
     ·exact HK.out k (m1▸e)
     ·rw [e] at m1;cases m1;exact Nat.le_trans (Nat.le_trans HB.out.size hbn.size) m2)
    have HB5:=hh ((HB.out.trans (hbn.mono HB.out.size)).trans (ka.below (B:=w.heap.size) (fun q hq e=>by have:=HK.out q e;omega) (Nat.le_trans HB.out.size hbn.size)));clear la ka ma hbn HO HB;go_wp2_with fail
    go_roundw
    case rel=>exact ⟨i+1,xh,_,by go_num,by first | rfl | go_num,HIB.out,by first | exact hxh1 | omega,HP2,by first | exact HC2 | exact hh (.inr (.inr rfl)),HO5,HK5,HB5⟩
    case measure=>have:=HI.out;simp [intOf];omega
   ·have HEE:Hid (0=dig l2 i):=hh (by unfold dig;rw [b0K (by rw [← HN2.out];omega)]);obtain ⟨x,hx⟩:∃ q:Nat,q=c+d+0:=⟨_,rfl⟩;have q1:IntKind.u64.wrap ((c:Int)+(d:Int))=(x:Int):=by rw [IntKind.wrap_u64];omega
    obtain ⟨xl,hxl⟩:∃ q:Nat,q=x % 4294967296:=⟨_,rfl⟩;obtain ⟨xh,hxh⟩:∃ q:Nat,q=x / 4294967296:=⟨_,rfl⟩;have q3:IntKind.u32.wrap (x:Int)=(xl:Int):=by rw [a0Q,hxl]
    have q4:(x:Int) / 4294967296=(xh:Int):=by omega
    have hxb:x < 18446744073709551616:=by omega
    have HP2:Hid (PlusI l1 l2 (i+1) (o ++ [xl]) xh):=hh (HP.out.next (x:=x) (by rw [← HDD.out,← HEE.out];exact hx) (by rw [← HDD.out];omega) (by rw [← HEE.out];omega) hxl hxh);have hxh1:xh≤1:=HP2.out.c1;have HLEN:Hid (o.length=i):=hh HP.out.len;have HC2:Hid (i+1≤n1∨i+1≤n2∨xh=0):=hh (by have h:=g1;omega);have HIB:Hid (i+1≤n1+n2+1):=hh (by rcases HC.out with h | h | h<;>omega);clear hx  hxl hxh HP HC hi hc;have h1000:i≤2000001:=by have:=HI.out;have:=HB1.out;omega
    go_wp2_with (at_builtin;refine a0y (l:=o) (l2:=[xl]) (enc:=u32E) rfl _ _ 127 127 rfl Tryz.underlying127 Tryz.underlying127 Tryz.info32 rfl (by decide) a0S (fun x _=>b0h x) (HO.out.later (a0d _ _)) rfl _ rfl (lit1d (heap_alloc_new _ _)) (by have:=HLEN.out;have:=HI.out;have:=HB1.out;unfold maxLen;simp only [List.length_singleton];omega) (by have:=HLEN.out;have:=HI.out;have:=HB1.out;simp only [List.length_singleton];omega) ?_)
    intro va w5 la ka ma;have HO5:=hh la;have hbn:=a0d wr (.cells #[.int .u32 ((xl:Nat):Int)] 218);have HK5:Hid (∀ k,Value.ownBlock va=some k→w.heap.size≤k):=hh (fun k e=>by
     rcases ma with m1 | ⟨g,m1,m2⟩
     ·exact HK.out k (m1▸e)
     ·rw [e] at m1;cases m1;exact Nat.le_trans (Nat.le_trans HB.out.size hbn.size) m2)
    have HB5:=hh ((HB.out.trans (hbn.mono HB.out.size)).trans (ka.below (B:=w.heap.size) (fun q hq e=>by have:=HK.out q e;omega) (Nat.le_trans HB.out.size hbn.size)));clear la ka ma hbn HO HB;go_wp2_with fail
    go_roundw
    case rel=>exact ⟨i+1,xh,_,by go_num,by first | rfl | go_num,HIB.out,by first | exact hxh1 | omega,HP2,by first | exact HC2 | exact hh (.inr (.inr rfl)),HO5,HK5,HB5⟩
    case measure=>have:=HI.out;simp [intOf];omega
  ·by_cases g2:i < n2
   ·obtain ⟨p2,o2,rfl,hp2,hc2⟩:=H2.out.at i (by rw [← HN2.out];exact g2);have hc2':=(HB.out.cell (p:=⟨p2,o2+i,none⟩) hp2).trans hc2;obtain ⟨e,he⟩:=nm (dig l2 i);have hd2:wr.cell? ⟨p2,o2+i,none⟩=some (.int .u32 (e:Int)):=by rw [hc2',he];unfold dig;rw [b0o (by rw [← HN2.out];exact g2)];rfl
    have heb:e < 4294967296:=by rw [he];exact b0r HD2.out i
    have HEE:=hh he;have HDD:Hid (0=dig l1 i):=hh (by unfold dig;rw [b0K (by rw [← HN1.out];omega)]);clear hc2 hc2' he;obtain ⟨x,hx⟩:∃ q:Nat,q=c+0+e:=⟨_,rfl⟩;have q1:IntKind.u64.wrap ((c:Int)+(e:Int))=(x:Int):=by rw [IntKind.wrap_u64];omega
    obtain ⟨xl,hxl⟩:∃ q:Nat,q=x % 4294967296:=⟨_,rfl⟩;obtain ⟨xh,hxh⟩:∃ q:Nat,q=x / 4294967296:=⟨_,rfl⟩;have q3:IntKind.u32.wrap (x:Int)=(xl:Int):=by rw [a0Q,hxl]
    have q4:(x:Int) / 4294967296=(xh:Int):=by omega
    have hxb:x < 18446744073709551616:=by omega
    have HP2:Hid (PlusI l1 l2 (i+1) (o ++ [xl]) xh):=hh (HP.out.next (x:=x) (by rw [← HDD.out,← HEE.out];exact hx) (by rw [← HDD.out];omega) (by rw [← HEE.out];omega) hxl hxh);have hxh1:xh≤1:=HP2.out.c1;have HLEN:Hid (o.length=i):=hh HP.out.len;have HC2:Hid (i+1≤n1∨i+1≤n2∨xh=0):=hh (by have h:=g2;omega);have HIB:Hid (i+1≤n1+n2+1):=hh (by rcases HC.out with h | h | h<;>omega);clear hx  hxl hxh HP HC hi hc;have h1000:i≤2000001:=by have:=HI.out;have:=HB1.out;omega
    go_wp2_with (at_builtin;refine a0y (l:=o) (l2:=[xl]) (enc:=u32E) rfl _ _ 127 127 rfl Tryz.underlying127 Tryz.underlying127 Tryz.info32 rfl (by decide) a0S (fun x _=>b0h x) (HO.out.later (a0d _ _)) rfl _ rfl (lit1d (heap_alloc_new _ _)) (by have:=HLEN.out;have:=HI.out;have:=HB1.out;unfold maxLen;simp only [List.length_singleton];omega) (by have:=HLEN.out;have:=HI.out;have:=HB1.out;simp only [List.length_singleton];omega) ?_)
    intro va w5 la ka ma;have HO5:=hh la;have hbn:=a0d wr (.cells #[.int .u32 ((xl:Nat):Int)] 218);have HK5:Hid (∀ k,Value.ownBlock va=some k→w.heap.size≤k):=hh (fun k e=>by
     rcases ma with m1 | ⟨g,m1,m2⟩
     ·exact HK.out k (m1▸e)
     ·rw [e] at m1;cases m1;exact Nat.le_trans (Nat.le_trans HB.out.size hbn.size) m2)
    have HB5:=hh ((HB.out.trans (hbn.mono HB.out.size)).trans (ka.below (B:=w.heap.size) (fun q hq e=>by have:=HK.out q e;omega) (Nat.le_trans HB.out.size hbn.size)));clear la ka ma hbn HO HB;go_wp2_with fail
    go_roundw
    case rel=>exact ⟨i+1,xh,_,by go_num,by first | rfl | go_num,HIB.out,by first | exact hxh1 | omega,HP2,by first | exact HC2 | exact hh (.inr (.inr rfl)),HO5,HK5,HB5⟩
    case measure=>have:=HI.out;simp [intOf];omega
   ·have HEE:Hid (0=dig l2 i):=hh (by unfold dig;rw [b0K (by rw [← HN2.out];omega)]);have HDD:Hid (0=dig l1 i):=hh (by unfold dig;rw [b0K (by rw [← HN1.out];omega)])
    by_cases g3:0 < c
    ·obtain rfl:c=1:=by omega
     obtain ⟨x,hx⟩:∃ q:Nat,q=1+0+0:=⟨_,rfl⟩;obtain rfl:x=1:=by omega
     clear hx;have HP2:Hid (PlusI l1 l2 (i+1) (o ++ [1]) 0):=hh (HP.out.next (x:=1) (by rw [← HDD.out,← HEE.out]) (by rw [← HDD.out];omega) (by rw [← HEE.out];omega) rfl rfl);have HLEN:Hid (o.length=i):=hh HP.out.len;have HC2:Hid (i+1≤n1∨i+1≤n2∨0=0):=hh (by exact .inr (.inr rfl));have HIB:Hid (i+1≤n1+n2+1):=hh (by rcases HC.out with h | h | h<;>omega);clear   HP HC hi hc;have h1000:i≤2000001:=by have:=HI.out;have:=HB1.out;omega
     go_wp2_with (at_builtin;refine a0y (l:=o) (l2:=[1]) (enc:=u32E) rfl _ _ 127 127 rfl Tryz.underlying127 Tryz.underlying127 Tryz.info32 rfl (by decide) a0S (fun x _=>b0h x) (HO.out.later (a0d _ _)) rfl _ rfl (lit1d (heap_alloc_new _ _)) (by have:=HLEN.out;have:=HI.out;have:=HB1.out;unfold maxLen;simp only [List.length_singleton];omega) (by have:=HLEN.out;have:=HI.out;have:=HB1.out;simp only [List.length_singleton];omega) ?_)
     intro va w5 la ka ma;have HO5:=hh la;have hbn:=a0d wr (.cells #[.int .u32 ((1:Nat):Int)] 218);have HK5:Hid (∀ k,Value.ownBlock va=some k→w.heap.size≤k):=hh (fun k e=>by
      rcases ma with m1 | ⟨g,m1,m2⟩
      ·exact HK.out k (m1▸e)
      ·rw [e] at m1;cases m1;exact Nat.le_trans (Nat.le_trans HB.out.size hbn.size) m2)
     have HB5:=hh ((HB.out.trans (hbn.mono HB.out.size)).trans (ka.below (B:=w.heap.size) (fun q hq e=>by have:=HK.out q e;omega) (Nat.le_trans HB.out.size hbn.size)));clear la ka ma hbn HO HB;go_wp2_with fail
     go_roundw
     case rel=>exact ⟨i+1,0,_,by go_num,by first | rfl | go_num,HIB.out,by first | exact hxh1 | omega,HP2,by first | exact HC2 | exact hh (.inr (.inr rfl)),HO5,HK5,HB5⟩
     case measure=>have:=HI.out;simp [intOf];omega
    ·obtain rfl:c=0:=by omega
     have HDV:Hid (dv o=n):=hh (by rw [HP.out.done (by rw [← HN1.out];omega) (by rw [← HN2.out];omega),HN.out]);have HOD:Hid (D32 o):=hh HP.out.d32;have HRO:=hh (HO.out.rd a0S);clear HP HO HK g3;go_wp2_with fail;refine (tfun HRO.out HOD.out HDV.out).mono ?_;rintro e w9 ⟨v',rfl,h9,hb⟩;have H9:=hh h9;have HB9:=bT HB hb;clear h9 hb;go_wp2_with fail
     go_ret
     exact ⟨_,rfl,H9.out,HB9.out⟩
end
section
open Go.RowKit

def cmpV (n m:Nat):Int:=if n < m then -1 else if n=m then 0 else 1

theorem g0V {w:World} {v1 v2:Value} {l1 l2:List Nat} {n m:Nat} (h1:Rd w u32E 1 v1 l1) (h2:Rd w u32E 1 v2 l2) (d1:D32 l1) (d2:D32 l2) (hn:dv l1=n) (hm:dv l2=m) :
  Calls Tryz.prog 66 #[v1,v2] w (Ret w (.int .i64 (cmpV n m))):=by
 obtain ⟨ad1,cap1,rfl,_,_⟩:=h1.shape;obtain ⟨ad2,cap2,rfl,_,_⟩:=h2.shape;have H1:=hh h1;have H2:=hh h2;have HD1:=hh d1;have HD2:=hh d2;have HN:=hh hn;have HM:=hh hm;clear h1 h2 d1 d2 hn hm
 go_enter Tryz.func66,Tryz.ntmps66
 go_wp2_with fail;refine (tfun H1.out HD1.out HN.out).mono ?_;rintro e w1 ⟨u1,rfl,k1,hb1⟩;have K1:=hh k1;have HB1:=hh hb1;clear k1 hb1;go_wp2_with fail;refine (tfun (H2.out.later HB1.out) HD2.out HM.out).mono ?_;rintro e w2 ⟨u2,rfl,k2,hb2⟩;obtain ⟨m1,hm1⟩:=nm (digs n);obtain ⟨m2,hm2⟩:=nm (digs m);have k1:=K1.out.later hb2;rw [← hm1] at k1;rw [← hm2] at k2;obtain ⟨a1,p1,rfl,c1,c1'⟩:=k1.shape;obtain ⟨a2,p2,rfl,c2,c2'⟩:=k2.shape;obtain ⟨L1,hL1⟩:=nm (m1.length);obtain ⟨L2,hL2⟩:=nm (m2.length);rw [← hL1] at k1 c1 ⊢;rw [← hL2] at k2 c2 ⊢;have KA:=hh k1;have KB:=hh k2;have HB2:=bT HB1 hb2;have HA:Hid (D32 m1∧Top m1∧dv m1=n):=hh (by rw [hm1];exact ⟨b0i n,l0L n,b0B n⟩);have HBB:Hid (D32 m2∧Top m2∧dv m2=m):=hh (by rw [hm2];exact ⟨b0i m,l0L m,b0B m⟩);have HL1:=hh hL1;have HL2:=hh hL2;clear k1 k2 hb2 hm1 hm2 hL1 hL2 HB1 K1 H1 H2 HD1 HD2
 by_cases hne:L1=L2
 ·subst hne;have hee:((L1:Int) == (L1:Int))=true:=by simp
  go_wp2_with fail;clear hee;have hw0:IntKind.i64.wrap ((L1:Int) - 1)=(L1:Int) - 1:=IntWalk.i64_in _ (by omega);go_wp2_with fail
  go_loopw [5] (fun vi wr=>∃ k:Nat,vi = .int .i64 ((k:Int) - 1)∧k≤L1∧Hid (m1.drop k=m2.drop k)∧Hid (Below w2.heap.size w2 wr)) (fun vi _=>(intOf vi+1).toNat)
  case atStart=>exact ⟨L1,rfl,Nat.le_refl _,hh (by rw [List.drop_of_length_le (by rw [← HL1.out];exact Nat.le_refl _),List.drop_of_length_le (by rw [← HL2.out];exact Nat.le_refl _)]),hh (Below.refl _ _)⟩
  case round=>
   clear hw0;obtain ⟨k,rfl,hk,HD,HW⟩:=hrel
   rcases k with _ | j
   ·have heq:Hid (cmpV n m=0):=hh (by
     have h:=HD.out;rw [List.drop_zero,List.drop_zero] at h;have:n=m:=by rw [← HA.out.2.2,← HBB.out.2.2,h]
     unfold cmpV;rw [if_neg (by omega),if_pos this])
    go_wp2_with fail
    go_ret
    exact ⟨by rw [heq.out];rfl,HB2.out.trans (HW.out.mono HB2.out.size)⟩
   ·have hj1:j < m1.length:=by rw [← HL1.out];omega
    have hj2:j < m2.length:=by rw [← HL2.out];omega
    obtain ⟨b1,o1,rfl,hq1,hc1⟩:=KA.out.at j hj1;obtain ⟨b2,o2,rfl,hq2,hc2⟩:=KB.out.at j hj2;replace hc1:=(HW.out.cell (p:=⟨b1,o1+j,none⟩) hq1).trans hc1;replace hc2:=(HW.out.cell (p:=⟨b2,o2+j,none⟩) hq2).trans hc2;obtain ⟨d,hd⟩:=nm (m1[j]);obtain ⟨e,he⟩:=nm (m2[j]);have hS0:wr.cell? ⟨b1,o1+j,none⟩=some (.int .u32 (d:Int))∧wr.cell? ⟨b2,o2+j,none⟩=some (.int .u32 (e:Int)):=⟨by rw [hc1,hd];rfl,by rw [hc2,he];rfl⟩;have HS0:=hh hS0;have hlt:(j:Int) < (L1:Int):=by omega
    have hj0:(0:Int)≤(j:Int):=by omega
    have hwr:IntKind.i64.wrap ((j:Int) - 1)=(j:Int) - 1:=IntWalk.i64_in _ (by omega);have HDE:=hh (And.intro hd he);have HJ:=hh (And.intro hj1 hj2);clear hc1 hc2 hd he hq1 hq2 hS0;have hS:=HS0.out
    by_cases hde:d=e
    ·have HD2:Hid (m1.drop j=m2.drop j):=hh (by
      rw [List.drop_eq_getElem_cons HJ.out.1,List.drop_eq_getElem_cons HJ.out.2,HD.out,← HDE.out.1,← HDE.out.2,hde])
     subst hde;have hbe:((d:Int) == (d:Int))=true:=by simp
     go_wp2_with fail;refine a0f (fun w'=>w'.cell? ⟨b1,o1+j,none⟩=some (.int .u32 (d:Int))∧w'.cell? ⟨b2,o2+j,none⟩=some (.int .u32 (d:Int))) 9 9 (by kernel_rfl) rfl ?_;refine tA1 0 27 hS ?_;go_frame;refine tA1 1 28 hS ?_;go_frame;refine tA1 2 29 hS ?_;go_frame;refine tk 3 (some 30) rfl rfl (.inl ⟨by rfl,fun w' hS'=>(by obtain ⟨hc1,hc2⟩:=hS';go_simp;rfl)⟩) hS ?_;go_frame;refine tA1 4 31 hS ?_;go_frame;refine tA1 5 32 hS ?_;go_frame;refine tA1 6 33 hS ?_;go_frame;refine tk 7 (some 34) rfl rfl (.inl ⟨by rfl,fun w' hS'=>(by obtain ⟨hc1,hc2⟩:=hS';go_simp;rfl)⟩) hS ?_;go_frame;refine tA1 8 35 hS ?_;go_frame;refine tD ?_;clear hS hbe;go_wp2_with fail
     go_roundw
     case rel=>exact ⟨j,by go_num,by omega,HD2,hh HW.out.drew⟩
     case measure=>simp [intOf]
    ·have hbe:((d:Int) == (e:Int))=false:=beq_eq_false_iff_ne.2 (fun h=>hde (by omega));have HV:Hid (cmpV n m=if d < e then -1 else 1):=hh (by
      by_cases h:d < e
      ·rw [if_pos h];have h1:=l0F HA.out.1 HJ.out.1 HJ.out.2 HD.out (by rw [← HDE.out.1,← HDE.out.2];exact h);rw [HA.out.2.2,HBB.out.2.2] at h1
       unfold cmpV;rw [if_pos h1]
      ·rw [if_neg h];have h1:=l0F HBB.out.1 HJ.out.2 HJ.out.1 HD.out.symm (by rw [← HDE.out.1,← HDE.out.2];omega);rw [HA.out.2.2,HBB.out.2.2] at h1
       unfold cmpV;rw [if_neg (by omega),if_neg (by omega)])
     clear hde;go_wp2_with fail;refine a0f (fun w'=>w'.cell? ⟨b1,o1+j,none⟩=some (.int .u32 (d:Int))∧w'.cell? ⟨b2,o2+j,none⟩=some (.int .u32 (e:Int))) 9 9 (by kernel_rfl) rfl ?_;refine tA1 0 27 hS ?_;go_frame;refine tA1 1 28 hS ?_;go_frame;refine tA1 2 29 hS ?_;go_frame;refine tk 3 (some 30) rfl rfl (.inl ⟨by rfl,fun w' hS'=>(by obtain ⟨hc1,hc2⟩:=hS';go_simp;rfl)⟩) hS ?_;go_frame;refine tA1 4 31 hS ?_;go_frame;refine tA1 5 32 hS ?_;go_frame;refine tA1 6 33 hS ?_;go_frame;refine tk 7 (some 34) rfl rfl (.inl ⟨by rfl,fun w' hS'=>(by obtain ⟨hc1,hc2⟩:=hS';go_simp;rfl)⟩) hS ?_;go_frame;refine tA1 8 35 hS ?_;go_frame;refine tD ?_;clear hS;obtain ⟨wd,hwd⟩:=nm (wr.drew);have hS:wd.drew.cell? ⟨b1,o1+j,none⟩=some (.int .u32 (d:Int))∧wd.drew.cell? ⟨b2,o2+j,none⟩=some (.int .u32 (e:Int)):=by rw [hwd];exact HS0.out
     have HWD:Hid (Below w.heap.size w wd.drew):=hh (by rw [hwd];exact (HB2.out.trans (HW.out.mono HB2.out.size)).drew.drew);rw [← hwd];clear hwd
     by_cases hl2:d < e
     ·have HV2:Hid (cmpV n m = -1):=hh (by rw [HV.out,if_pos hl2]);go_wp2_with fail;refine a0f (fun w'=>w'.cell? ⟨b1,o1+j,none⟩=some (.int .u32 (d:Int))∧w'.cell? ⟨b2,o2+j,none⟩=some (.int .u32 (e:Int))) 9 9 (by kernel_rfl) rfl ?_;refine tA1 0 36 hS ?_;go_frame;refine tA1 1 37 hS ?_;go_frame;refine tA1 2 38 hS ?_;go_frame;refine tk 3 (some 39) rfl rfl (.inl ⟨by rfl,fun w' hS'=>(by obtain ⟨hc1,hc2⟩:=hS';go_simp;rfl)⟩) hS ?_;go_frame;refine tA1 4 40 hS ?_;go_frame;refine tA1 5 41 hS ?_;go_frame;refine tA1 6 42 hS ?_;go_frame;refine tk 7 (some 43) rfl rfl (.inl ⟨by rfl,fun w' hS'=>(by obtain ⟨hc1,hc2⟩:=hS';go_simp;rfl)⟩) hS ?_;go_frame;refine tA1 8 44 hS ?_;go_frame;refine tD ?_;clear hS;go_wp2_with fail
      go_ret
      exact ⟨by rw [HV2.out];rfl,HWD.out⟩
     ·have HV2:Hid (cmpV n m=1):=hh (by rw [HV.out,if_neg hl2]);go_wp2_with fail;refine a0f (fun w'=>w'.cell? ⟨b1,o1+j,none⟩=some (.int .u32 (d:Int))∧w'.cell? ⟨b2,o2+j,none⟩=some (.int .u32 (e:Int))) 9 9 (by kernel_rfl) rfl ?_;refine tA1 0 36 hS ?_;go_frame;refine tA1 1 37 hS ?_;go_frame;refine tA1 2 38 hS ?_;go_frame;refine tk 3 (some 39) rfl rfl (.inl ⟨by rfl,fun w' hS'=>(by obtain ⟨hc1,hc2⟩:=hS';go_simp;rfl)⟩) hS ?_;go_frame;refine tA1 4 40 hS ?_;go_frame;refine tA1 5 41 hS ?_;go_frame;refine tA1 6 42 hS ?_;go_frame;refine tk 7 (some 43) rfl rfl (.inl ⟨by rfl,fun w' hS'=>(by obtain ⟨hc1,hc2⟩:=hS';go_simp;rfl)⟩) hS ?_;go_frame;refine tA1 8 44 hS ?_;go_frame;refine tD ?_;clear hS;go_wp2_with fail
      go_ret
      exact ⟨by rw [HV2.out];rfl,HWD.out⟩
 ·have hnb:((L1:Int) == (L2:Int))=false:=beq_eq_false_iff_ne.2 (fun h=>hne (by omega))
  by_cases hl:L1 < L2
  ·have HV:Hid (cmpV n m = -1):=hh (by
    have h1:=i0y HA.out.1 HBB.out.2.1 (by rw [← HL1.out,← HL2.out];exact hl);rw [HA.out.2.2,HBB.out.2.2] at h1
    unfold cmpV;rw [if_pos h1])
   clear hne;go_wp2_with fail
   go_ret
   exact ⟨by rw [HV.out];rfl,HB2.out⟩
  ·have HV:Hid (cmpV n m=1):=hh (by
    have h1:=i0y HBB.out.1 HA.out.2.1 (by rw [← HL1.out,← HL2.out];omega);rw [HA.out.2.2,HBB.out.2.2] at h1
    unfold cmpV;rw [if_neg (by omega),if_neg (by omega)])
   clear hne;go_wp2_with fail
   go_ret
   exact ⟨by rw [HV.out];rfl,HB2.out⟩

theorem l0q {n:Nat} (h:n < uMax):(digs n).length≤1000000:=by
 have:=f0o (n:=n) (k:=8) (by rw [pow8];exact h)
 omega

theorem r0q {a b c d a' b' c' d':Int} {n m:Nat} (h:UIs a b c d n) (h':UIs a' b' c' d' m) (w:World) :
  Calls Tryz.prog 22 #[.agg #[.int .u64 a,.int .u64 b,.int .u64 c,.int .u64 d],.agg #[.int .u64 a',.int .u64 b',.int .u64 c',.int .u64 d']] w (Ret w (.int .i64 (cmpV n m))):=by
 have HU:=hh h;have HU2:=hh h';clear h h'
 go_enter Tryz.func22,Tryz.ntmps22
 go_wp2_with fail;obtain ⟨w1,hw1⟩:=nm ((w.alloc (.cells #[.int .u64 a,.int .u64 b,.int .u64 c,.int .u64 d] 25)).alloc (.cells #[.int .u64 a',.int .u64 b',.int .u64 c',.int .u64 d'] 25));obtain ⟨X,hX⟩:=nm (w.heap.size);obtain ⟨Y,hY⟩:=nm (w.heap.size+1);rw [← hw1,← hY,← hX];have hbx:=box2 w _ _ _ _ w1 hw1;rw [← hY,← hX] at hbx;have HX1:=hh hbx.1;have HY1:=hh hbx.2.1;have HB1:Hid (Below w.heap.size w w1):=hh (by rw [← hX];exact hbx.2.2.1);clear hbx hw1 hX hY;have hS:=And.intro HX1.out HY1.out;have HB:=hh HB1.out.drew;clear HX1 HY1 HB1;refine a0f (fun w'=>w'.heap[X]? = some (.cells #[.int .u64 a,.int .u64 b,.int .u64 c,.int .u64 d] 25 (0,0))∧w'.heap[Y]? = some (.cells #[.int .u64 a',.int .u64 b',.int .u64 c',.int .u64 d'] 25 (0,0))) 6 6 (by kernel_rfl) rfl ?_;refine tl 0 (some 5) (fun _ h=>h.1) Tryz.underlying25 Tryz.sizeU hS ?_;go_frame;refine tl 2 (some 7) (fun _ h=>h.2) Tryz.underlying25 Tryz.sizeU hS ?_;go_frame;refine t1 1 fun K hK=>?_
 simp only [gA,jB,gC];go_simp;refine (e0s HU.out _).mono ?_;rintro e wa ⟨v1,rfl,r1,hb⟩;have hS2:wa.heap[X]? = some (.cells #[.int .u64 a,.int .u64 b,.int .u64 c,.int .u64 d] 25 (0,0))∧wa.heap[Y]? = some (.cells #[.int .u64 a',.int .u64 b',.int .u64 c',.int .u64 d'] 25 (0,0)):=⟨a0e hb hS.1,a0e hb hS.2⟩;have HBn:=bT HB hb;have R1:=hh r1;clear r1;refine hK _ _ (fun _ _=>hS2) ?_;clear hK hS hb HB;have hS:=hS2;have HB:=HBn;clear hS2 HBn;refine t1 3 fun K hK=>?_
 simp only [gA,jB,gC];go_simp;refine (e0s HU2.out _).mono ?_;rintro e wb ⟨v2,rfl,r2,hb⟩;have hS2:wb.heap[X]? = some (.cells #[.int .u64 a,.int .u64 b,.int .u64 c,.int .u64 d] 25 (0,0))∧wb.heap[Y]? = some (.cells #[.int .u64 a',.int .u64 b',.int .u64 c',.int .u64 d'] 25 (0,0)):=⟨a0e hb hS.1,a0e hb hS.2⟩;have HBn:=bT HB hb;have R2:=hh r2;have R1b:=hh (R1.out.later hb);clear r2 R1;refine hK _ _ (fun _ _=>hS2) ?_;clear hK hS hb HB;have hS:=hS2;have HB:=HBn;clear hS2 HBn;refine t1 4 fun K hK=>?_
 simp only [gA,jB,gC];go_simp;refine (g0V R1b.out R2.out (b0i _) (b0i _) (b0B _) (b0B _)).mono ?_;rintro e wc ⟨rfl,hb⟩;have hS2:wc.heap[X]? = some (.cells #[.int .u64 a,.int .u64 b,.int .u64 c,.int .u64 d] 25 (0,0))∧wc.heap[Y]? = some (.cells #[.int .u64 a',.int .u64 b',.int .u64 c',.int .u64 d'] 25 (0,0)):=⟨a0e hb hS.1,a0e hb hS.2⟩;have HBn:=bT HB hb;refine hK _ _ (fun _ _=>hS2) ?_;clear hK hS hb HB;have hS:=hS2;have HB:=HBn;clear hS2 HBn;refine tA1 5 4 hS ?_;go_frame;refine tD ?_;clear hS;go_wp2_with fail
 go_ret
 exact ⟨rfl,HB.out⟩

theorem d0n {a b c d a' b' c' d':Int} {n m:Nat} (h:UIs a b c d n) (h':UIs a' b' c' d' m) (w:World) :
  Calls Tryz.prog 21 #[.agg #[.int .u64 a,.int .u64 b,.int .u64 c,.int .u64 d],.agg #[.int .u64 a',.int .u64 b',.int .u64 c',.int .u64 d']] w (UOk w (n+m) (decide (n+m < uMax))):=by
 have HU:=hh h;have HU2:=hh h';clear h h'
 go_enter Tryz.func21,Tryz.ntmps21
 go_wp2_with (refine sA _ Tryz.zeroUz ?_)
 obtain ⟨w1,hw1⟩:=nm ((w.alloc (.cells #[.int .u64 a,.int .u64 b,.int .u64 c,.int .u64 d] 25)).alloc (.cells #[.int .u64 a',.int .u64 b',.int .u64 c',.int .u64 d'] 25));obtain ⟨X,hX⟩:=nm (w.heap.size);obtain ⟨Y,hY⟩:=nm (w.heap.size+1);rw [← hw1,← hY,← hX];have hbx:=box2 w _ _ _ _ w1 hw1;rw [← hY,← hX] at hbx;have HX1:=hh hbx.1;have HY1:=hh hbx.2.1;have HB1:Hid (Below w.heap.size w w1):=hh (by rw [← hX];exact hbx.2.2.1);clear hbx hw1 hX hY;intro R w2 h2;have HRn:=hh h2.out.cells;have HB2:=hh (HB1.out.trans (h2.out.below.mono HB1.out.size));have HRW:Hid (w.heap.size≤R):=hh (by rw [h2.out.eq];exact HB1.out.size);have HX2:=hh (a0e h2.out.below HX1.out);have HY2:=hh (a0e h2.out.below HY1.out);have HXY:Hid (X≠R∧Y≠R):=hh (by have:=h2.out.eq;have:=a0b HX1.out;have:=a0b HY1.out;exact ⟨by omega,by omega⟩);clear h2 HX1 HY1 HB1;go_wp2_with fail;have hS:=And.intro HX2.out HY2.out;have HB:=hh HB2.out.drew;have HR0:Hid (w2.drew.heap[R]? = some (.cells u0 25 (0,0))):=HRn;clear HX2 HY2 HB2 HRn;refine a0f (fun w'=>w'.heap[X]? = some (.cells #[.int .u64 a,.int .u64 b,.int .u64 c,.int .u64 d] 25 (0,0))∧w'.heap[Y]? = some (.cells #[.int .u64 a',.int .u64 b',.int .u64 c',.int .u64 d'] 25 (0,0))) 10 10 (by kernel_rfl) rfl ?_
 refine tl 0 (some 6) (fun _ h=>h.1) Tryz.underlying25 Tryz.sizeU hS ?_;go_frame;refine tl 2 (some 8) (fun _ h=>h.2) Tryz.underlying25 Tryz.sizeU hS ?_;go_frame;refine t1 1 fun K hK=>?_
 simp only [gA,jB,gC];go_simp;refine (e0s HU.out _).mono ?_;rintro e wa ⟨v1,rfl,r1,hb⟩;have hS2:wa.heap[X]? = some (.cells #[.int .u64 a,.int .u64 b,.int .u64 c,.int .u64 d] 25 (0,0))∧wa.heap[Y]? = some (.cells #[.int .u64 a',.int .u64 b',.int .u64 c',.int .u64 d'] 25 (0,0)):=⟨a0e hb hS.1,a0e hb hS.2⟩;have HBn:=bT HB hb;have R1:=hh r1;have HRa:=bA hb HR0;clear r1 HR0;refine hK _ _ (fun _ _=>hS2) ?_;clear hK hS hb HB;have hS:=hS2;have HB:=HBn;clear hS2 HBn;refine t1 3 fun K hK=>?_
 simp only [gA,jB,gC];go_simp;refine (e0s HU2.out _).mono ?_;rintro e wb ⟨v2,rfl,r2,hb⟩;have hS2:wb.heap[X]? = some (.cells #[.int .u64 a,.int .u64 b,.int .u64 c,.int .u64 d] 25 (0,0))∧wb.heap[Y]? = some (.cells #[.int .u64 a',.int .u64 b',.int .u64 c',.int .u64 d'] 25 (0,0)):=⟨a0e hb hS.1,a0e hb hS.2⟩;have HBn:=bT HB hb;have R2:=hh r2;have R1b:=hh (R1.out.later hb);have HRb:=bA hb HRa;clear r2 R1 HRa;refine hK _ _ (fun _ _=>hS2) ?_;clear hK hS hb HB;have hS:=hS2;have HB:=HBn;clear hS2 HBn;refine t1 4 fun K hK=>?_
 simp only [gA,jB,gC];go_simp;refine (q0W (n:=n+m) R1b.out R2.out (b0i _) (b0i _) (l0q HU.out.lt) (l0q HU2.out.lt) (by rw [b0B,b0B])).mono ?_;rintro e wc ⟨v3,rfl,r3,hb⟩;have hS2:wc.heap[X]? = some (.cells #[.int .u64 a,.int .u64 b,.int .u64 c,.int .u64 d] 25 (0,0))∧wc.heap[Y]? = some (.cells #[.int .u64 a',.int .u64 b',.int .u64 c',.int .u64 d'] 25 (0,0)):=⟨a0e hb hS.1,a0e hb hS.2⟩;have HBn:=bT HB hb;have R3:=hh r3;have HRc:=bA hb HRb;clear r3 HRb;refine hK _ _ (fun _ _=>hS2) ?_;clear hK hS hb HB;have hS:=hS2;have HB:=HBn;clear hS2 HBn;refine t1 5 fun K hK=>?_
 simp only [gA,jB,gC];go_simp;refine (k0X R3.out (b0i _) (b0B _)).mono ?_;obtain ⟨q,hq⟩:=nm (decide (n+m < uMax));rw [← hq];have HQ:=hh hq;clear hq;rintro e wd ⟨sa,sb,sc,sd,hu,rfl,hb⟩;have hS2:wd.heap[X]? = some (.cells #[.int .u64 a,.int .u64 b,.int .u64 c,.int .u64 d] 25 (0,0))∧wd.heap[Y]? = some (.cells #[.int .u64 a',.int .u64 b',.int .u64 c',.int .u64 d'] 25 (0,0)):=⟨a0e hb hS.1,a0e hb hS.2⟩;have HBn:=bT HB hb;have HSU:=hh hu;have HRn:=bA hb HRc;clear hu;refine hK _ _ (fun _ _=>hS2) ?_;clear hK hS hb HB;have hS:=hS2;have HB:=HBn;clear hS2 HBn;refine tA1 6 12 hS ?_;go_frame;refine tA1 7 13 hS ?_;go_frame;refine t1 8 fun K hK=>?_
 simp only [gA,jB,gC];refine wR1 25 #[.int .u64 sa,.int .u64 sb,.int .u64 sc,.int .u64 sd] HRn Tryz.sizeU ?_;intro w8 hx8 k8 _;have HX8:=hh hx8;have HB8:=hh (HB.out.trans (k8.below (B:=w.heap.size) (fun y hy e=>by have:=HRW.out;omega) HB.out.size));have hS2:w8.heap[X]? = some (.cells #[.int .u64 a,.int .u64 b,.int .u64 c,.int .u64 d] 25 (0,0))∧w8.heap[Y]? = some (.cells #[.int .u64 a',.int .u64 b',.int .u64 c',.int .u64 d'] 25 (0,0)):=⟨k8.at hS.1 (fun e=>HXY.out.1 e),k8.at hS.2 (fun e=>HXY.out.2 e)⟩;refine hK _ _ (fun _ _=>hS2) ?_;clear hK hS hx8 k8 HB;have hS:=hS2;clear hS2;refine tA1 9 5 hS ?_;go_frame;refine tD ?_;clear hS;go_wp2_with fail
 exact bR rfl rfl HX8 Tryz.underlying25 Tryz.sizeU ⟨_,_,_,_,by rw [← HQ.out];exact HSU.out,by rw [← HQ.out];rfl,HB8.out⟩
end
end Go.Proofs.YtakkfabaeolbdaaGreat
