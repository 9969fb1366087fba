/- The reference's numbers: differences, bytes, and whether a number is an amount (code). No condition. The reference's cells: amounts (code). No condition. -/
import Derived.Test.YtakkfabaeolbdaaGreatCnAriJ
import Derived.Test.YtakkfabaeolbdaaGreatCn29
import Derived.Test.YtakkfabaeolbdaaGreatCn27
import Derived.Test.YtakkfabaeolbdaaGreatCn30
import Derived.Deep.Cut
namespace Go.Proofs.YtakkfabaeolbdaaGreat
section
set_option maxHeartbeats 16000000
set_option maxRecDepth 100000
open Go.RowKit

structure MinusI (l1 l2:List Nat) (i:Nat) (o:List Nat) (b:Nat):Prop where
 len:o.length=i
 d32:D32 o
 b1:b≤1
 eq:dv o+dv (l2.take i)=dv (l1.take i)+4294967296 ^ i*b
theorem MinusI.zero (l1 l2:List Nat):MinusI l1 l2 0 [] 0:=⟨rfl,D32.nil,by omega,by simp [dv]⟩
theorem MinusI.next {l1 l2:List Nat} {i:Nat} {o:List Nat} {b:Nat} (h:MinusI l1 l2 i o b) {x y z c:Nat} (hx:x=dig l1 i) (hy:y=b+dig l2 i) (hz:z+y=x+4294967296*c) (hc:c≤1) (hzl:z < 4294967296):MinusI l1 l2 (i+1) (o ++ [z]) c:=by
 refine ⟨by rw [List.length_append,h.len];rfl,h.d32.app (D32.one hzl),hc,?_⟩;rw [n0U,h.len,c0p,c0p,Nat.pow_succ,← hx];have e:=h.eq;have e2:4294967296 ^ i*z+4294967296 ^ i*b+4294967296 ^ i*dig l2 i=4294967296 ^ i*x+4294967296 ^ i*4294967296*c:=by
  rw [Nat.mul_assoc,← Nat.mul_add,← Nat.mul_add,← Nat.mul_add]
  congr 1
  omega
 omega
theorem MinusI.done {l1 l2:List Nat} {o:List Nat} {b:Nat} (h:MinusI l1 l2 l1.length o b) (d1:D32 l1) (hle:dv l2≤dv l1):dv o=dv l1 - dv l2:=by
 have e:=h.eq;rw [List.take_of_length_le (Nat.le_refl l1.length)] at e;have k1:=dv_lt d1;have k2:=dv_lt h.d32;rw [h.len] at k2;have e2:dv (l2.take l1.length)=dv l2:=by
  by_cases hl:l2.length≤l1.length
  ·rw [List.take_of_length_le hl]
  ·have f:=congrArg dv (List.take_append_drop l1.length l2);rw [i0R,List.length_take,Nat.min_eq_left (by omega)] at f
   rcases Nat.eq_zero_or_pos (dv (l2.drop l1.length)) with h0 | h0
   ·rw [h0] at f;omega
   ·have:=Nat.mul_le_mul_left (4294967296 ^ l1.length) h0
    omega
 rw [e2] at e;have hb:=h.b1
 rcases Nat.eq_zero_or_pos b with h0 | h0
 ·rw [h0] at e;omega
 ·obtain rfl:b=1:=by omega
  omega
def MinRetO (w:World) (n m:Nat) (e:Ending) (w':World):Prop:=∃ v,e = .returned (.tuple #[v,.bool (decide (m≤n))])∧Rd w' u32E 1 v (digs (if m≤n then n - m else 0))∧(∀ k,v.ownBlock=some k→w.heap.size≤k)∧Below w.heap.size w w'
def MinRet (w:World) (n m:Nat) (e:Ending) (w':World):Prop:=∃ v,e = .returned (.tuple #[v,.bool (decide (m≤n))])∧Rd w' u32E 1 v (digs (if m≤n then n - m else 0))∧Below w.heap.size w w'

theorem m0n {w:World} {v1 v2:Value} {l1 l2:List Nat} {n m:Nat} (h1:Rd w u32E 1 v1 l1) (h2:Rd w u32E 1 v2 l2) (d1:D32 l1) (d2:D32 l2) (b1:l1.length≤1000000) (b2:l2.length≤1000000) (hn:dv l1=n) (hm:dv l2=m) :
  Calls Tryz.prog 216 #[v1,v2] w (MinRetO w n m):=by
 obtain ⟨ad1,cap1,rfl,c1,c1'⟩:=h1.shape;obtain ⟨ad2,cap2,rfl,c2,c2'⟩:=h2.shape;obtain ⟨n1,hn1⟩:=nm (l1.length);obtain ⟨n2,hn2⟩:=nm (l2.length);rw [← hn1] at h1 c1 b1 ⊢;rw [← hn2] at h2 c2 b2 ⊢;have H1:=hh h1;have H2:=hh h2;have HD1:=hh d1;have HD2:=hh d2;have HN:=hh hn;have HM:=hh hm;have HN1:=hh hn1;have HN2:=hh hn2;clear h1 h2 d1 d2 hn hm hn1 hn2
 go_enter Tryz.func216,Tryz.ntmps216
 go_wp2_with fail;refine (g0V H1.out H2.out HD1.out HD2.out HN.out HM.out).mono ?_;rintro e w0 ⟨rfl,hb0⟩;obtain ⟨cv,hcv⟩:=nm (cmpV n m);rw [← hcv];have HB0:=hh hb0;clear hb0
 by_cases hlt0:cv < 0
 ·have hnm:Hid (¬ m≤n):=hh (by intro hle;rw [hcv] at hlt0;unfold cmpV at hlt0;rw [if_neg (by omega)] at hlt0;split at hlt0<;>omega);clear hcv;go_wp2_with fail
  go_ret2
  exact ⟨_,by rw [decide_eq_false hnm.out];rfl,by rw [if_neg hnm.out,b0z];exact Rd.nil _ _ _,fun k hk=>(by cases hk),HB0.out⟩
 have hnm:Hid (m≤n):=hh (by apply Classical.byContradiction;intro hle;apply hlt0;rw [hcv];unfold cmpV;rw [if_pos (by omega)];decide);clear hcv;go_wp2_with fail;clear hlt0
 go_loopw [6,7,8] (fun vo vb vi wr=>∃ (i b:Nat) (o:List Nat),vi = .int .i64 i∧vb = .int .u64 b∧i≤n1∧b≤1∧Hid (MinusI l1 l2 i o b)∧Hid (LO wr 218 u32E 1 vo o)∧Hid (∀ k,vo.ownBlock=some k→w.heap.size≤k)∧Hid (Below w.heap.size w wr)) (fun _ _ vi _=>n1 - (intOf vi).toNat)
 case atStart=>exact ⟨0,0,[],rfl,rfl,by omega,by omega,hh (MinusI.zero _ _),hh (LO.nil _ _ _ _),hh (fun k e=>by cases e),HB0⟩
 case round=>
  clear HB0;obtain ⟨i,b,o,rfl,rfl,hi,hbb,HP,HO,HK,HB⟩:=hrel;have HB1:=hh (And.intro b1 b2)
  by_cases g1:i < n1
  ·obtain ⟨p1,o1,rfl,hp1,hc1⟩:=H1.out.at i (by rw [← HN1.out];exact g1);have hc1':=(HB.out.cell (p:=⟨p1,o1+i,none⟩) hp1).trans hc1;obtain ⟨d,hd⟩:=nm (dig l1 i);have hd1:wr.cell? ⟨p1,o1+i,none⟩=some (.int .u32 (d:Int)):=by rw [hc1',hd];unfold dig;rw [b0o (by rw [← HN1.out];exact g1)];rfl
   have hdb:d < 4294967296:=by rw [hd];exact b0r HD1.out i
   have HDD:=hh hd;have HLT:=hh g1;have HBB:=hh hbb;clear hc1 hc1' hd
   by_cases g2:i < n2
   ·obtain ⟨p2,o2,rfl,hp2,hc2⟩:=H2.out.at i (by rw [← HN2.out];exact g2);have hc2':=(HB.out.cell (p:=⟨p2,o2+i,none⟩) hp2).trans hc2;obtain ⟨e,he⟩:=nm (dig l2 i);have hd2:wr.cell? ⟨p2,o2+i,none⟩=some (.int .u32 (e:Int)):=by rw [hc2',he];unfold dig;rw [b0o (by rw [← HN2.out];exact g2)];rfl
    have heb:e < 4294967296:=by rw [he];exact b0r HD2.out i
    have HEE:=hh he;clear hc2 hc2' he;obtain ⟨y,hy⟩:∃ q:Nat,q=b+e:=⟨_,rfl⟩;have qy:IntKind.u64.wrap ((b:Int)+(e:Int))=(y:Int):=by rw [IntKind.wrap_u64];omega
    have hyb:y≤4294967296:=by omega
    have HY:Hid (y=b+dig l2 i):=hh (by rw [← HEE.out];exact hy);clear hy
    by_cases g3:d < y
    ·obtain ⟨z,hz⟩:∃ z:Nat,z+y=d+4294967296:=⟨d+4294967296 - y,by omega⟩;have hzl:z < 4294967296:=by omega
     have qs:(d:Int)+4294967296 - (y:Int)=(z:Int):=by omega
     have qw:IntKind.u32.wrap (z:Int)=(z:Int):=by rw [IntKind.wrap_u32];omega
     have HP2:Hid (MinusI l1 l2 (i+1) (o ++ [z]) 1):=hh (HP.out.next HDD.out HY.out (by omega) (by omega) hzl);have HLEN:Hid (o.length=i):=hh HP.out.len;have HI9:Hid (i≤1000000):=hh (by have:=HB1.out;have:=HLT.out;omega);clear hz hi hbb HP
     go_wp2_with (at_builtin;refine a0y (l:=o) (l2:=[z]) (enc:=u32E) rfl _ _ 127 127 rfl Tryz.underlying127 Tryz.underlying127 Tryz.info32 rfl (by decide) a0S (fun x _=>b0h x) (HO.out.later (a0d _ _)) rfl _ rfl (lit1d (heap_alloc_new _ _)) (by have:=HLEN.out;have:=HI9.out;unfold maxLen;simp only [List.length_singleton];omega) (by have:=HLEN.out;have:=HI9.out;simp only [List.length_singleton];omega) ?_)
     intro va w5 la ka ma;have HO5:=hh la;have hbn:=a0d wr (.cells #[.int .u32 ((z:Nat):Int)] 218);have HK5:Hid (∀ k,Value.ownBlock va=some k→w.heap.size≤k):=hh (fun k e=>by
      rcases ma with m1 | ⟨g,m1,m2⟩
      ·exact HK.out k (m1▸e)
      ·rw [e] at m1;cases m1;exact Nat.le_trans (Nat.le_trans HB.out.size hbn.size) m2)
     have HB5:=hh ((HB.out.trans (hbn.mono HB.out.size)).trans (ka.below (B:=w.heap.size) (fun q hq e=>by have:=HK.out q e;omega) (Nat.le_trans HB.out.size hbn.size)));clear la ka ma hbn HO HB;go_wp2_with fail
     go_roundw
     case rel=>exact ⟨i+1,1,_,by go_num,by first | rfl | go_num,HLT.out,by omega,HP2,HO5,HK5,HB5⟩
     case measure=>have:=HLT.out;simp [intOf];omega
    ·obtain ⟨z,hz⟩:∃ z:Nat,z+y=d+0:=⟨d+0 - y,by omega⟩;have hzl:z < 4294967296:=by omega
     have qs:(d:Int) - (y:Int)=(z:Int):=by omega
     have qw:IntKind.u32.wrap (z:Int)=(z:Int):=by rw [IntKind.wrap_u32];omega
     have HP2:Hid (MinusI l1 l2 (i+1) (o ++ [z]) 0):=hh (HP.out.next HDD.out HY.out (by omega) (by omega) hzl);have HLEN:Hid (o.length=i):=hh HP.out.len;have HI9:Hid (i≤1000000):=hh (by have:=HB1.out;have:=HLT.out;omega);clear hz hi hbb HP
     go_wp2_with (at_builtin;refine a0y (l:=o) (l2:=[z]) (enc:=u32E) rfl _ _ 127 127 rfl Tryz.underlying127 Tryz.underlying127 Tryz.info32 rfl (by decide) a0S (fun x _=>b0h x) (HO.out.later (a0d _ _)) rfl _ rfl (lit1d (heap_alloc_new _ _)) (by have:=HLEN.out;have:=HI9.out;unfold maxLen;simp only [List.length_singleton];omega) (by have:=HLEN.out;have:=HI9.out;simp only [List.length_singleton];omega) ?_)
     intro va w5 la ka ma;have HO5:=hh la;have hbn:=a0d wr (.cells #[.int .u32 ((z:Nat):Int)] 218);have HK5:Hid (∀ k,Value.ownBlock va=some k→w.heap.size≤k):=hh (fun k e=>by
      rcases ma with m1 | ⟨g,m1,m2⟩
      ·exact HK.out k (m1▸e)
      ·rw [e] at m1;cases m1;exact Nat.le_trans (Nat.le_trans HB.out.size hbn.size) m2)
     have HB5:=hh ((HB.out.trans (hbn.mono HB.out.size)).trans (ka.below (B:=w.heap.size) (fun q hq e=>by have:=HK.out q e;omega) (Nat.le_trans HB.out.size hbn.size)));clear la ka ma hbn HO HB;go_wp2_with fail
     go_roundw
     case rel=>exact ⟨i+1,0,_,by go_num,by first | rfl | go_num,HLT.out,by omega,HP2,HO5,HK5,HB5⟩
     case measure=>have:=HLT.out;simp [intOf];omega
   ·have HEE:Hid (0=dig l2 i):=hh (by unfold dig;rw [b0K (by rw [← HN2.out];omega)]);have HY:Hid (b=b+dig l2 i):=hh (by rw [← HEE.out];rfl)
    by_cases g3:d < b
    ·obtain ⟨z,hz⟩:∃ z:Nat,z+b=d+4294967296:=⟨d+4294967296 - b,by omega⟩;have hzl:z < 4294967296:=by omega
     have qs:(d:Int)+4294967296 - (b:Int)=(z:Int):=by omega
     have qw:IntKind.u32.wrap (z:Int)=(z:Int):=by rw [IntKind.wrap_u32];omega
     have HP2:Hid (MinusI l1 l2 (i+1) (o ++ [z]) 1):=hh (HP.out.next HDD.out HY.out (by omega) (by omega) hzl);have HLEN:Hid (o.length=i):=hh HP.out.len;have HI9:Hid (i≤1000000):=hh (by have:=HB1.out;have:=HLT.out;omega);clear hz hi hbb HP
     go_wp2_with (at_builtin;refine a0y (l:=o) (l2:=[z]) (enc:=u32E) rfl _ _ 127 127 rfl Tryz.underlying127 Tryz.underlying127 Tryz.info32 rfl (by decide) a0S (fun x _=>b0h x) (HO.out.later (a0d _ _)) rfl _ rfl (lit1d (heap_alloc_new _ _)) (by have:=HLEN.out;have:=HI9.out;unfold maxLen;simp only [List.length_singleton];omega) (by have:=HLEN.out;have:=HI9.out;simp only [List.length_singleton];omega) ?_)
     intro va w5 la ka ma;have HO5:=hh la;have hbn:=a0d wr (.cells #[.int .u32 ((z:Nat):Int)] 218);have HK5:Hid (∀ k,Value.ownBlock va=some k→w.heap.size≤k):=hh (fun k e=>by
      rcases ma with m1 | ⟨g,m1,m2⟩
      ·exact HK.out k (m1▸e)
      ·rw [e] at m1;cases m1;exact Nat.le_trans (Nat.le_trans HB.out.size hbn.size) m2)
     have HB5:=hh ((HB.out.trans (hbn.mono HB.out.size)).trans (ka.below (B:=w.heap.size) (fun q hq e=>by have:=HK.out q e;omega) (Nat.le_trans HB.out.size hbn.size)));clear la ka ma hbn HO HB;go_wp2_with fail
     go_roundw
     case rel=>exact ⟨i+1,1,_,by go_num,by first | rfl | go_num,HLT.out,by omega,HP2,HO5,HK5,HB5⟩
     case measure=>have:=HLT.out;simp [intOf];omega
    ·obtain ⟨z,hz⟩:∃ z:Nat,z+b=d+0:=⟨d+0 - b,by omega⟩;have hzl:z < 4294967296:=by omega
     have qs:(d:Int) - (b:Int)=(z:Int):=by omega
     have qw:IntKind.u32.wrap (z:Int)=(z:Int):=by rw [IntKind.wrap_u32];omega
     have HP2:Hid (MinusI l1 l2 (i+1) (o ++ [z]) 0):=hh (HP.out.next HDD.out HY.out (by omega) (by omega) hzl);have HLEN:Hid (o.length=i):=hh HP.out.len;have HI9:Hid (i≤1000000):=hh (by have:=HB1.out;have:=HLT.out;omega);clear hz hi hbb HP
     go_wp2_with (at_builtin;refine a0y (l:=o) (l2:=[z]) (enc:=u32E) rfl _ _ 127 127 rfl Tryz.underlying127 Tryz.underlying127 Tryz.info32 rfl (by decide) a0S (fun x _=>b0h x) (HO.out.later (a0d _ _)) rfl _ rfl (lit1d (heap_alloc_new _ _)) (by have:=HLEN.out;have:=HI9.out;unfold maxLen;simp only [List.length_singleton];omega) (by have:=HLEN.out;have:=HI9.out;simp only [List.length_singleton];omega) ?_)
     intro va w5 la ka ma;have HO5:=hh la;have hbn:=a0d wr (.cells #[.int .u32 ((z:Nat):Int)] 218);have HK5:Hid (∀ k,Value.ownBlock va=some k→w.heap.size≤k):=hh (fun k e=>by
      rcases ma with m1 | ⟨g,m1,m2⟩
      ·exact HK.out k (m1▸e)
      ·rw [e] at m1;cases m1;exact Nat.le_trans (Nat.le_trans HB.out.size hbn.size) m2)
     have HB5:=hh ((HB.out.trans (hbn.mono HB.out.size)).trans (ka.below (B:=w.heap.size) (fun q hq e=>by have:=HK.out q e;omega) (Nat.le_trans HB.out.size hbn.size)));clear la ka ma hbn HO HB;go_wp2_with fail
     go_roundw
     case rel=>exact ⟨i+1,0,_,by go_num,by first | rfl | go_num,HLT.out,by omega,HP2,HO5,HK5,HB5⟩
     case measure=>have:=HLT.out;simp [intOf];omega
  ·obtain rfl:i=n1:=by omega
   have HDV:Hid (dv o=if m≤n then n - m else 0):=hh (by
    have h:=HP.out;rw [HN1.out] at h;rw [if_pos hnm.out,h.done HD1.out (by rw [HN.out,HM.out];exact hnm.out),HN.out,HM.out])
   have HOD:Hid (D32 o):=hh HP.out.d32;have HRO:=hh (HO.out.rd a0S);clear HP HO;go_wp2_with fail;refine (i0O HRO.out HOD.out).mono ?_;rintro e w9 ⟨v',rfl,h9,ho9,rfl⟩;rw [HDV.out] at h9;have H9:=hh h9;have HB9:=HB;have HO9:Hid (∀ k,v'.ownBlock=some k→w.heap.size≤k):=hh (fun k hk=>HK.out k (ho9 k hk));clear h9 ho9;go_wp2_with fail
   go_ret2
   exact ⟨_,by rw [decide_eq_true hnm.out];rfl,H9.out,HO9.out,HB9.out⟩
theorem n0A {w:World} {v1 v2:Value} {l1 l2:List Nat} {n m:Nat} (h1:Rd w u32E 1 v1 l1) (h2:Rd w u32E 1 v2 l2) (d1:D32 l1) (d2:D32 l2) (b1:l1.length≤1000000) (b2:l2.length≤1000000) (hn:dv l1=n) (hm:dv l2=m) :
  Calls Tryz.prog 216 #[v1,v2] w (MinRet w n m):=(m0n h1 h2 d1 d2 b1 b2 hn hm).mono fun _ _ ⟨v,e1,e2,_,e3⟩=>⟨v,e1,e2,e3⟩

theorem h0M {a b c d a' b' c' d':Int} {n m:Nat} (h:UIs a b c d n) (h':UIs a' b' c' d' m) (w:World) :
  Calls Tryz.prog 185 #[.agg #[.int .u64 a,.int .u64 b,.int .u64 c,.int .u64 d],.agg #[.int .u64 a',.int .u64 b',.int .u64 c',.int .u64 d']] w (UOk w (n - m) (decide (m≤n))):=by
 have HU:=hh h;have HU2:=hh h';clear h h'
 go_enter Tryz.func185,Tryz.ntmps185
 go_wp2_with (refine sA _ Tryz.zeroUz ?_)
 obtain ⟨w1,hw1⟩:=nm ((w.alloc (.cells #[.int .u64 a,.int .u64 b,.int .u64 c,.int .u64 d] 25)).alloc (.cells #[.int .u64 a',.int .u64 b',.int .u64 c',.int .u64 d'] 25));obtain ⟨X,hX⟩:=nm (w.heap.size);obtain ⟨Y,hY⟩:=nm (w.heap.size+1);rw [← hw1,← hY,← hX];have hbx:=box2 w _ _ _ _ w1 hw1;rw [← hY,← hX] at hbx;have HX:=hh hbx.1;have HY:=hh hbx.2.1;have HB:Hid (Below w.heap.size w w1):=hh (by rw [← hX];exact hbx.2.2.1);clear hbx hw1 hX hY;intro R a1 hR;have WR:=mGe hR HB.out.size;have NXR:=mNe hR HX;have NYR:=mNe hR HY;have HR:=hh hR.out.cells;have hbR:=hR.out.below;clear hR;replace HB:=bT HB hbR;replace HX:=bA hbR HX;replace HY:=bA hbR HY;clear hbR;go_wp2_with fail;obtain ⟨a2,hwz,hbz⟩:=dr a1;replace HB:=bT HB hbz;replace HX:=bA hbz HX;replace HY:=bA hbz HY;replace HR:=bA hbz HR;clear hbz;refine rg2 10 10 hwz HX HY fun hS=>?_
 clear hwz;refine tl 0 (some 9) (fun _ h=>h.1) Tryz.underlying25 Tryz.sizeU hS ?_;go_frame;refine tl 2 (some 11) (fun _ h=>h.2) Tryz.underlying25 Tryz.sizeU hS ?_;go_frame;refine t1 1 fun K hK=>?_
 simp only [gA,jB,gC];go_simp;refine (e0s HU.out _).mono ?_;rintro e a3 ⟨v1,rfl,r,hb⟩;have V1:=hh r;clear r;replace HB:=bT HB hb;replace HX:=bA hb HX;replace HY:=bA hb HY;replace HR:=bA hb HR;clear hb;replace hS:=And.intro HX.out HY.out;refine hK _ _ (fun _ _=>hS) ?_;clear hK;refine t1 3 fun K hK=>?_
 simp only [gA,jB,gC];go_simp;refine (e0s HU2.out _).mono ?_;rintro e a4 ⟨v2,rfl,r,hb⟩;have V2:=hh r;clear r;replace HB:=bT HB hb;replace HX:=bA hb HX;replace HY:=bA hb HY;replace HR:=bA hb HR;replace V1:=hh (V1.out.later hb);clear hb;replace hS:=And.intro HX.out HY.out;refine hK _ _ (fun _ _=>hS) ?_;clear hK;refine t1 4 fun K hK=>?_
 simp only [gA,jB,gC];go_simp;refine (n0A (n:=n) (m:=m) V1.out V2.out (b0i _) (b0i _) (l0q HU.out.lt) (l0q HU2.out.lt) (b0B _) (b0B _)).mono ?_;obtain ⟨q,hq⟩:=nm (decide (m≤n));obtain ⟨r3,hr3⟩:=nm (if m≤n then n - m else 0);rintro e a5 ⟨v3,rfl,r,hb⟩;rw [← hr3] at r;have V3:=hh r;have HQ:=hh hq;have HR3:=hh hr3;clear r hr3;rw [← hq];clear hq;replace HB:=bT HB hb;replace HX:=bA hb HX;replace HY:=bA hb HY;replace HR:=bA hb HR;clear hb;replace hS:=And.intro HX.out HY.out;refine hK _ _ (fun _ _=>hS) ?_;clear hK;refine tA1 5 8 hS ?_;go_frame;refine tA1 6 14 hS ?_;go_frame;refine tA1 7 15 hS ?_;go_frame;refine tA1 8 6 hS ?_;go_frame;refine tA1 9 7 hS ?_;go_frame;refine tD ?_;clear hS
 cases q with
 | false=>
  have hno:Hid (¬ m≤n):=hh (of_decide_eq_false HQ.out.symm);clear HQ
  go_wp2_with (refine a0a (t:=25) (old:=u0) rfl 25 _ _ rfl R u0 rfl rfl HR.out Tryz.sizeU rfl (a0Y _ _ _ _) ?_)
  intro a6 hxR kR zR;clear zR;replace HB:=bS HB kR WR;replace HR:=hh hxR;clear hxR kR;go_wp2_with fail
  exact bodyPost_ret (a0l rfl _ _ R _ u0 _ _ rfl HR.out Tryz.underlying25 rfl Tryz.sizeU _ rfl) rfl ⟨0,0,0,0,by rw [decide_eq_false hno.out];exact UIs.zero,by rw [decide_eq_false hno.out];rfl,HB.out⟩
 | true=>
  have hok:Hid (m≤n):=hh (of_decide_eq_true HQ.out.symm);have HV:Hid (r3=n - m):=hh (by rw [HR3.out,if_pos hok.out]);have hlt3:Hid (r3 < uMax):=hh (by have:=HU.out.lt;rw [HV.out];omega);clear HQ;go_wp2_with fail;refine (k0X (n:=r3) V3.out (b0i _) (b0B _)).mono ?_;rw [decide_eq_true hlt3.out];rintro e a6 ⟨sa,sb,sc,sd,hu,rfl,hb⟩;have HSU:=hh hu;clear hu;replace HB:=bT HB hb;replace HR:=bA hb HR;clear hb
  go_wp2_with (refine sR 25 #[.int .u64 sa,.int .u64 sb,.int .u64 sc,.int .u64 sd] HR Tryz.sizeU ?_)
  intro a7 hxR kR zR;clear zR;replace HB:=bS HB kR WR;replace HR:=hh hxR;clear hxR kR;go_wp2_with fail
  exact bR rfl rfl HR Tryz.underlying25 Tryz.sizeU ⟨_,_,_,_,by rw [decide_eq_true hok.out,if_pos rfl,← HV.out];exact HSU.out,by rw [decide_eq_true hok.out];rfl,HB.out⟩

theorem o0y (w:World):Calls Tryz.prog 174 #[] w (URet w 340282366920938463463374607431768211455):=by
 go_enter Tryz.func174,Tryz.ntmps174
 go_wp2_with (refine sA _ Tryz.zeroUz ?_)
 intro R w1 h1
 go_wp2_with (refine a0a (t:=25) (old:=u0) rfl 25 _ _ rfl R #[.int .u64 18446744073709551615,.int .u64 18446744073709551615,.int .u64 0,.int .u64 0] rfl rfl h1.out.cells Tryz.sizeU rfl (a0Y _ _ _ _) ?_)
 intro w2 h2 k2 z2;clear z2;have HB:Hid (Below w.heap.size w w2):=hh (h1.out.below.trans (k2.below (B:=w.heap.size) (fun x hx e=>by have:=h1.out.eq;omega) h1.out.below.size));have HR:=hh h2;clear h1 h2 k2;go_wp2_with fail
 exact bodyPost_ret (results_cell_row rfl _ _ _ _ _ _ _ rfl HR.out Tryz.underlying25 rfl Tryz.sizeU) rfl ⟨_,_,_,_,by unfold UIs;omega,rfl,HB.out⟩
theorem q0J (n:Nat):decide (cmpV n 340282366920938463463374607431768211455≤0)=decide (n < uHalf):=by
 unfold cmpV
 by_cases h:n < 340282366920938463463374607431768211455
 ·rw [if_pos h,decide_eq_true (by decide),decide_eq_true (by unfold uHalf;omega)]
 ·rw [if_neg h]
  by_cases h2:n=340282366920938463463374607431768211455
  ·rw [if_pos h2,decide_eq_true (by decide),decide_eq_true (by unfold uHalf;omega)]
  ·rw [if_neg h2,decide_eq_false (by decide),decide_eq_false (by unfold uHalf;omega)]

theorem b0V {a b c d:Int} {n:Nat} (h:UIs a b c d n) (w:World):Calls Tryz.prog 108 #[.agg #[.int .u64 a,.int .u64 b,.int .u64 c,.int .u64 d]] w (Ret w (.bool (decide (n < uHalf)))):=by
 have HU:=hh h;clear h
 go_enter Tryz.func108,Tryz.ntmps108
 go_wp2_with fail;obtain ⟨w1,hw1⟩:=nm (w.alloc (.cells #[.int .u64 a,.int .u64 b,.int .u64 c,.int .u64 d] 25));obtain ⟨X,hX⟩:=nm (w.heap.size);rw [← hw1,← hX];have HX:Hid (w1.heap[X]? = some (.cells #[.int .u64 a,.int .u64 b,.int .u64 c,.int .u64 d] 25 (0,0))):=hh (by rw [hw1,hX];exact heap_alloc_new _ _);have HB:Hid (Below w.heap.size w w1):=hh (by rw [hw1];exact a0d _ _);clear hw1 hX;obtain ⟨a1,hwz,hbz⟩:=dr w1;replace HB:=bT HB hbz;replace HX:=bA hbz HX;clear hbz;refine rg1 5 5 hwz HX fun hS=>?_
 clear hwz;refine tl 0 (some 3) (fun _ h=>h) Tryz.underlying25 Tryz.sizeU hS ?_;go_frame;refine t1 1 fun K hK=>?_
 simp only [gA,jB,gC];go_simp;refine (o0y _).mono ?_;rintro e a2 ⟨ma,mb,mc,md,hu,rfl,hb⟩;have HM:=hh hu;clear hu;replace HB:=bT HB hb;replace HX:=bA hb HX;clear hb;replace hS:=HX.out;refine hK _ _ (fun _ _=>hS) ?_;clear hK;refine t1 2 fun K hK=>?_
 simp only [gA,jB,gC];go_simp;refine (r0q HU.out HM.out _).mono ?_;obtain ⟨cv,hcv⟩:=nm (cmpV n 340282366920938463463374607431768211455);rw [← hcv];have hle:=q0J n;rw [← hcv] at hle;have HLE:=hh hle;clear hcv hle;rintro e a3 ⟨rfl,hb⟩;replace HB:=bT HB hb;replace HX:=bA hb HX;clear hb;replace hS:=HX.out;refine hK _ _ (fun _ _=>hS) ?_;clear hK;refine tA1 3 6 hS ?_;go_frame;refine tA1 4 2 hS ?_;go_frame;refine tD ?_;clear hS;have HV:Hid (Value.bool (decide (cv≤0)) = .bool (decide (n < uHalf))):=hh (by rw [HLE.out]);go_wp2_with fail
 go_ret
 exact ⟨by rw [← HLE.out];rfl,HB.out⟩

theorem lit1b {w:World} {A:Nat} {x:Int} {c:UInt8} (hx:byteV c = .int .u8 x) (h:w.heap[A]? = some (.cells #[.int .u8 x] 5 (0,0))):Rd w u8E 1 (.slice (some ⟨A,0,none⟩) 1 1) [c]:=by
 refine ⟨_,1,rfl,Nat.le_refl _,(by unfold maxLen;decide),fun _=>⟨_,0,rfl,a0b h,fun i hi j hj=>?_⟩⟩;simp only [List.length_singleton] at hi;obtain rfl:i=0:=by omega
 obtain rfl:j=0:=by omega
 simp only [List.getElem_cons_zero,u8E,hx]
 exact Lib.cell_of_heap h 0
theorem g0F (c:UInt8):(u8E c).length=1:=rfl
theorem h0G (c:UInt8):∀ u∈u8E c,u.oneCell'=true:=fun u hu=>by rw [List.mem_singleton.1 hu];rfl
theorem k0w (a:Nat→Int) {n:Nat} (h:n < 32):(ubytes a).take (n+1)=(ubytes a).take n ++ [ub a n]:=by
 rw [List.take_succ_eq_append_getElem (by rw [b0p];exact h)]
 congr 1
 simp [ubytes]

theorem m0l {a0 a1 a2 a3:Int} {m:Nat} (h:UIs a0 a1 a2 a3 m) (w:World) :
  Calls Tryz.prog 236 #[.agg #[.int .u64 a0,.int .u64 a1,.int .u64 a2,.int .u64 a3]] w fun e w'=>∃ v,e = .returned v∧Rd w' u8E 1 v (amtB m)∧Below w.heap.size w w':=by
 have HM:Hid (ubytes (w4 a0 a1 a2 a3)=amtB m):=hh (g0q h);obtain ⟨⟨p0,p0'⟩,⟨p1,p1'⟩,⟨p2,p2'⟩,⟨p3,p3'⟩,_⟩:=h
 go_enter Tryz.func236,Tryz.ntmps236
 go_wp2_with fail;obtain ⟨w1,hw1⟩:=nm (w.alloc (.cells #[.int .u64 a0,.int .u64 a1,.int .u64 a2,.int .u64 a3] 25));obtain ⟨X,hX⟩:=nm (w.heap.size);rw [← hw1,← hX];have HX1:Hid (w1.heap[X]? = some (.cells #[.int .u64 a0,.int .u64 a1,.int .u64 a2,.int .u64 a3] 25 (0,0))):=hh (by rw [hw1,hX];exact heap_alloc_new _ _);have HB1:Hid (Below w.heap.size w w1):=hh (by rw [hw1];exact a0d _ _);clear hw1 hX
 go_loopw [3,4] (fun vo vi wr=>∃ n:Nat,n≤32∧vi = .int .i64 (31 - (n:Int))∧Hid (LO wr 5 u8E 1 vo ((ubytes (w4 a0 a1 a2 a3)).take n))∧Hid (∀ k,vo.ownBlock=some k→w.heap.size≤k)∧Hid (wr.heap[X]? = some (.cells #[.int .u64 a0,.int .u64 a1,.int .u64 a2,.int .u64 a3] 25 (0,0)))∧Hid (Below w.heap.size w wr)) (fun _ vi _=>(intOf vi+1).toNat)
 case atStart=>exact ⟨0,by omega,rfl,hh (LO.nil _ _ _ _),hh (fun k e=>by cases e),HX1,HB1⟩
 case round=>
  clear HX1 HB1;obtain ⟨n,hn,rfl,HO,HK,HX,HB⟩:=hrel
  by_cases hlt:n < 32
  ·have HLT:=hh hlt;have HTK:Hid ((ubytes (w4 a0 a1 a2 a3)).take (n+1)=(ubytes (w4 a0 a1 a2 a3)).take n ++ [ub (w4 a0 a1 a2 a3) n]):=hh (k0w _ hlt);have HLEN:Hid (((ubytes (w4 a0 a1 a2 a3)).take n).length=n):=hh (by rw [List.length_take,b0p];omega);obtain ⟨o,ho⟩:=nm ((ubytes (w4 a0 a1 a2 a3)).take n);rw [← ho] at HO HTK HLEN;clear ho
   rcases (show n < 8∨(8≤n∧n < 16)∨(16≤n∧n < 24)∨24≤n by omega) with hc | hc | hc | hc
   ·have e1:(31 - (n:Int)) / 8=3:=by omega
    have e2:(31 - (n:Int)) % 8=7 - n:=by omega
    have k1:wr.cell? ⟨X,3,none⟩=some (.int .u64 a3):=Lib.cell_of_heap HX.out 3;have j0:¬ (31 - (n:Int)) < 0:=by omega
    have HV:=hh (e0G (w4 a0 a1 a2 a3) n 0 3 (by omega) (by omega) rfl)
    go_wp2_with (at_builtin;refine a0y (l:=o) (l2:=[ub (w4 a0 a1 a2 a3) n]) (enc:=u8E) rfl _ _ 122 122 rfl Tryz.underlying122 Tryz.underlying122 Tryz.infoU8 rfl (by decide) g0F (fun x _=>h0G x) (HO.out.later (a0d _ _)) rfl _ rfl (lit1b HV.out (heap_alloc_new _ _)) (by have:=HLEN.out;have:=HLT.out;unfold maxLen;simp only [List.length_singleton];omega) (by have:=HLEN.out;have:=HLT.out;simp only [List.length_singleton];omega) ?_)
    intro va w5 la ka ma;have HO5:=hh la;have hbn:=a0d wr (.cells #[.int .u8 (w4 a0 a1 a2 a3 3 / 2 ^ (8*(7+8*0 - n)) % 256)] 5);have HK5:Hid (∀ k,Value.ownBlock va=some k→w.heap.size≤k):=hh (fun k e=>by
     rcases ma with m1 | ⟨g,m1,m2⟩
     ·exact HK.out k (m1▸e)
     ·rw [e] at m1;cases m1;exact Nat.le_trans (Nat.le_trans HB.out.size hbn.size) m2)
    have HX5:Hid (w5.heap[X]? = some (.cells #[.int .u64 a0,.int .u64 a1,.int .u64 a2,.int .u64 a3] 25 (0,0))):=hh (ka.at (a0e hbn HX.out) (fun e=>by
     obtain ⟨cs,hk⟩:=HO.out.kind e;rw [HX.out] at hk;cases hk))
    have HB5:=hh ((HB.out.trans (hbn.mono HB.out.size)).trans (ka.below (B:=w.heap.size) (fun q hq e=>by have:=HK.out q e;omega) (Nat.le_trans HB.out.size hbn.size)));clear la ka ma hbn HO HB HX k1;go_wp2_with fail
    go_roundw
    case rel=>exact ⟨n+1,HLT.out,by go_num,by rw [HTK.out];exact HO5,HK5,HX5,HB5⟩
    case measure=>have:=HLT.out;simp [intOf];omega
   ·have e1:(31 - (n:Int)) / 8=2:=by omega
    have e2:(31 - (n:Int)) % 8=15 - n:=by omega
    have k1:wr.cell? ⟨X,2,none⟩=some (.int .u64 a2):=Lib.cell_of_heap HX.out 2;have j0:¬ (31 - (n:Int)) < 0:=by omega
    have HV:=hh (e0G (w4 a0 a1 a2 a3) n 1 2 (by omega) (by omega) rfl)
    go_wp2_with (at_builtin;refine a0y (l:=o) (l2:=[ub (w4 a0 a1 a2 a3) n]) (enc:=u8E) rfl _ _ 122 122 rfl Tryz.underlying122 Tryz.underlying122 Tryz.infoU8 rfl (by decide) g0F (fun x _=>h0G x) (HO.out.later (a0d _ _)) rfl _ rfl (lit1b HV.out (heap_alloc_new _ _)) (by have:=HLEN.out;have:=HLT.out;unfold maxLen;simp only [List.length_singleton];omega) (by have:=HLEN.out;have:=HLT.out;simp only [List.length_singleton];omega) ?_)
    intro va w5 la ka ma;have HO5:=hh la;have hbn:=a0d wr (.cells #[.int .u8 (w4 a0 a1 a2 a3 2 / 2 ^ (8*(7+8*1 - n)) % 256)] 5);have HK5:Hid (∀ k,Value.ownBlock va=some k→w.heap.size≤k):=hh (fun k e=>by
     rcases ma with m1 | ⟨g,m1,m2⟩
     ·exact HK.out k (m1▸e)
     ·rw [e] at m1;cases m1;exact Nat.le_trans (Nat.le_trans HB.out.size hbn.size) m2)
    have HX5:Hid (w5.heap[X]? = some (.cells #[.int .u64 a0,.int .u64 a1,.int .u64 a2,.int .u64 a3] 25 (0,0))):=hh (ka.at (a0e hbn HX.out) (fun e=>by
     obtain ⟨cs,hk⟩:=HO.out.kind e;rw [HX.out] at hk;cases hk))
    have HB5:=hh ((HB.out.trans (hbn.mono HB.out.size)).trans (ka.below (B:=w.heap.size) (fun q hq e=>by have:=HK.out q e;omega) (Nat.le_trans HB.out.size hbn.size)));clear la ka ma hbn HO HB HX k1;go_wp2_with fail
    go_roundw
    case rel=>exact ⟨n+1,HLT.out,by go_num,by rw [HTK.out];exact HO5,HK5,HX5,HB5⟩
    case measure=>have:=HLT.out;simp [intOf];omega
   ·have e1:(31 - (n:Int)) / 8=1:=by omega
    have e2:(31 - (n:Int)) % 8=23 - n:=by omega
    have k1:wr.cell? ⟨X,1,none⟩=some (.int .u64 a1):=Lib.cell_of_heap HX.out 1;have j0:¬ (31 - (n:Int)) < 0:=by omega
    have HV:=hh (e0G (w4 a0 a1 a2 a3) n 2 1 (by omega) (by omega) rfl)
    go_wp2_with (at_builtin;refine a0y (l:=o) (l2:=[ub (w4 a0 a1 a2 a3) n]) (enc:=u8E) rfl _ _ 122 122 rfl Tryz.underlying122 Tryz.underlying122 Tryz.infoU8 rfl (by decide) g0F (fun x _=>h0G x) (HO.out.later (a0d _ _)) rfl _ rfl (lit1b HV.out (heap_alloc_new _ _)) (by have:=HLEN.out;have:=HLT.out;unfold maxLen;simp only [List.length_singleton];omega) (by have:=HLEN.out;have:=HLT.out;simp only [List.length_singleton];omega) ?_)
    intro va w5 la ka ma;have HO5:=hh la;have hbn:=a0d wr (.cells #[.int .u8 (w4 a0 a1 a2 a3 1 / 2 ^ (8*(7+8*2 - n)) % 256)] 5);have HK5:Hid (∀ k,Value.ownBlock va=some k→w.heap.size≤k):=hh (fun k e=>by
     rcases ma with m1 | ⟨g,m1,m2⟩
     ·exact HK.out k (m1▸e)
     ·rw [e] at m1;cases m1;exact Nat.le_trans (Nat.le_trans HB.out.size hbn.size) m2)
    have HX5:Hid (w5.heap[X]? = some (.cells #[.int .u64 a0,.int .u64 a1,.int .u64 a2,.int .u64 a3] 25 (0,0))):=hh (ka.at (a0e hbn HX.out) (fun e=>by
     obtain ⟨cs,hk⟩:=HO.out.kind e;rw [HX.out] at hk;cases hk))
    have HB5:=hh ((HB.out.trans (hbn.mono HB.out.size)).trans (ka.below (B:=w.heap.size) (fun q hq e=>by have:=HK.out q e;omega) (Nat.le_trans HB.out.size hbn.size)));clear la ka ma hbn HO HB HX k1;go_wp2_with fail
    go_roundw
    case rel=>exact ⟨n+1,HLT.out,by go_num,by rw [HTK.out];exact HO5,HK5,HX5,HB5⟩
    case measure=>have:=HLT.out;simp [intOf];omega
   ·have e1:(31 - (n:Int)) / 8=0:=by omega
    have e2:(31 - (n:Int)) % 8=31 - n:=by omega
    have k1:wr.cell? ⟨X,0,none⟩=some (.int .u64 a0):=Lib.cell_of_heap HX.out 0;have j0:¬ (31 - (n:Int)) < 0:=by omega
    have HV:=hh (e0G (w4 a0 a1 a2 a3) n 3 0 (by omega) (by omega) rfl)
    go_wp2_with (at_builtin;refine a0y (l:=o) (l2:=[ub (w4 a0 a1 a2 a3) n]) (enc:=u8E) rfl _ _ 122 122 rfl Tryz.underlying122 Tryz.underlying122 Tryz.infoU8 rfl (by decide) g0F (fun x _=>h0G x) (HO.out.later (a0d _ _)) rfl _ rfl (lit1b HV.out (heap_alloc_new _ _)) (by have:=HLEN.out;have:=HLT.out;unfold maxLen;simp only [List.length_singleton];omega) (by have:=HLEN.out;have:=HLT.out;simp only [List.length_singleton];omega) ?_)
    intro va w5 la ka ma;have HO5:=hh la;have hbn:=a0d wr (.cells #[.int .u8 (w4 a0 a1 a2 a3 0 / 2 ^ (8*(7+8*3 - n)) % 256)] 5);have HK5:Hid (∀ k,Value.ownBlock va=some k→w.heap.size≤k):=hh (fun k e=>by
     rcases ma with m1 | ⟨g,m1,m2⟩
     ·exact HK.out k (m1▸e)
     ·rw [e] at m1;cases m1;exact Nat.le_trans (Nat.le_trans HB.out.size hbn.size) m2)
    have HX5:Hid (w5.heap[X]? = some (.cells #[.int .u64 a0,.int .u64 a1,.int .u64 a2,.int .u64 a3] 25 (0,0))):=hh (ka.at (a0e hbn HX.out) (fun e=>by
     obtain ⟨cs,hk⟩:=HO.out.kind e;rw [HX.out] at hk;cases hk))
    have HB5:=hh ((HB.out.trans (hbn.mono HB.out.size)).trans (ka.below (B:=w.heap.size) (fun q hq e=>by have:=HK.out q e;omega) (Nat.le_trans HB.out.size hbn.size)));clear la ka ma hbn HO HB HX k1;go_wp2_with fail
    go_roundw
    case rel=>exact ⟨n+1,HLT.out,by go_num,by rw [HTK.out];exact HO5,HK5,HX5,HB5⟩
    case measure=>have:=HLT.out;simp [intOf];omega
  ·obtain rfl:n=32:=by omega
   have HRO:=hh (HO.out.rd g0F);clear HO;go_wp2_with fail
   go_ret
   exact ⟨_,rfl,by have h8:=HRO.out;rw [List.take_of_length_le (by rw [b0p];exact Nat.le_refl _),HM.out] at h8;exact h8,HB.out⟩

theorem q0K {a b c d:Int} {n:Nat} (h:UIs a b c d n) (w:World):Calls Tryz.prog 211 #[.agg #[.int .u64 a,.int .u64 b,.int .u64 c,.int .u64 d]] w (Ret w (.string (bs (amtB n)))):=by
 have HU:=hh h;clear h
 go_enter Tryz.func211,Tryz.ntmps211
 go_wp2_with (refine wpList_load_row rfl 25 _ rfl w.heap.size rfl 25 _ _ _ (heap_alloc_new w _) Tryz.underlying25 rfl Tryz.sizeU ?_)
 refine (m0l HU.out _).mono ?_;rintro e w2 ⟨v,rfl,r,hb⟩;have HB:=hh ((a0d w _).trans (hb.mono (a0d w _).size));have hcv:=g0m (P:=Tryz.prog) Tryz.underlying122 Tryz.underlying5 Tryz.underlying9 r;obtain ⟨ad,cap,rfl,_,_⟩:=r.shape;clear r hb;go_wp2_with fail
 go_ret
 exact ⟨rfl,HB.out⟩
end
section
set_option maxHeartbeats 16000000
set_option maxRecDepth 100000
open Go.RowKit

theorem b0c {w0 w w':World} {F0:List Nat} {g:Nat} {s:PS} {X:Nat} {cs:Array Value} {T:TypeId} (L:RLiv w0 F0 w g s) (hX:w.heap[X]? = some (.cells cs T (0,0))) (hT:rstKind (.cells cs T (0,0))=false) (hk:Keep (· = X) w w') (hw:w0.heap.size≤X):RLiv w0 F0 w' g s:=by
 obtain ⟨F,h1,h2,h3⟩:=L;refine ⟨F,h1.keep hk fun x hx hu=>?_,h2.trans (hk.mono fun y _ hy=>.inr (hy▸hw)),h3⟩;obtain ⟨o,ho,k1⟩:=h1.kind x hx;subst hu;rw [hX] at ho
 cases ho
 rw [hT] at k1;cases k1
theorem RLiv.get {w0 w:World} {F0:List Nat} {g:Nat} {s:PS} (L:RLiv w0 F0 w g s):∃ F,RS w g s F:=by obtain ⟨F,h1,_,_⟩:=L;exact ⟨F,h1⟩

theorem b0u {w:World} {g:Nat} {s:PS} {F:List Nat} (h:RS w g s F) (hz:s.sz < 1099511627776) (hfit:Fit s) (k:Txt) :
  Calls Tryz.prog 69 #[.pointer (some ⟨g,0,none⟩),.string (bs k)] w (URet w (amtV (getP s.t) k)):=by
 have H:=hh h;have hfv:=hfit.f k;have HZ:Hid (s.t.length < 4611686018427387904):=hh (by unfold PS.sz at hz;omega);obtain ⟨v,hv⟩:=nm (valF (getP s.t) k);rw [← hv] at hfv;have HV:=hh hv;have HFV:=hh hfv;have HA:Hid (amtV (getP s.t) k=amtF v):=hh (by rw [hv];rfl);clear h hz hfit hv hfv
 go_enter Tryz.func69,Tryz.ntmps69
 go_wp2_with (refine sA _ Tryz.zeroUz ?_)
 intro R w1 h1;have HR1:=hh h1.out.cells;have HB1:=hh h1.out.below;have HRW:Hid (w.heap.size≤R):=hh (Nat.le_of_eq h1.out.eq.symm);clear h1;go_wp2_with fail;refine (d0i (H.out.later HB1.out) HZ.out k).mono ?_;rintro e w2 ⟨rfl,rfl⟩;rw [show (getP s.t k).getD []=v from HV.out.symm];go_wp2_with fail;refine (m0h v _ (by have:=HFV.out;omega)).mono ?_;rintro e w3 ⟨a,b,c,d,hu,rfl,hb⟩;have HU:=hh hu;have HR3:=bA hb HR1;have HB3:=bT HB1 hb;clear hu hb HR1 HB1
 go_wp2_with (refine sA _ Tryz.zeroUz ?_)
 intro X w4 h4;have HX4:=hh h4.out.cells;have HR4:=hh (a0e h4.out.below HR3.out);have HB4:=hh (HB3.out.trans (h4.out.below.mono HB3.out.size));have HXR:Hid (w.heap.size≤X∧R≠X):=hh (by have:=h4.out.eq;have:=a0b HR3.out;have:=HB3.out.size;exact ⟨by omega,by omega⟩);clear h4 HR3 HB3
 go_wp2_with (refine sR 25 #[.int .u64 a,.int .u64 b,.int .u64 c,.int .u64 d] HX4 Tryz.sizeU ?_)
 intro w5 hx5 k5 _;have HX5:=hh hx5;have HR5:=hh (k5.at HR4.out (fun e=>HXR.out.2 e));have HB5:=hh (HB4.out.trans (k5.below (B:=w.heap.size) (fun y hy e=>by have:=HXR.out;omega) HB4.out.size));clear hx5 k5 HX4 HR4 HB4
 go_wp2_with (first
  | (refine lR HX5 Tryz.underlying25 Tryz.sizeU ?_)
  | (refine sR 25 #[.int .u64 a,.int .u64 b,.int .u64 c,.int .u64 d] HR5 Tryz.sizeU ?_))
 intro w6 hx6 k6 _;have HX6:=hh hx6;have HB6:=hh (HB5.out.trans (k6.below (B:=w.heap.size) (fun y hy e=>by have:=HRW.out;omega) HB5.out.size));clear hx6 k6;go_wp2_with fail
 exact bodyPost_ret (results_cell_row rfl _ _ _ _ _ _ _ rfl HX6.out Tryz.underlying25 rfl Tryz.sizeU) rfl ⟨a,b,c,d,by rw [HA.out];exact HU.out,rfl,HB6.out⟩

theorem b0Y {w:World} {g:Nat} {s:PS} {F:List Nat} (h:RS w g s F) (hz:s.sz < 1099511627776) (k:Txt) {a b c d:Int} {n:Nat} (hu:UIs a b c d n) :
  Calls Tryz.prog 175 #[.pointer (some ⟨g,0,none⟩),.string (bs k),.agg #[.int .u64 a,.int .u64 b,.int .u64 c,.int .u64 d]] w (RRet w g F (s.setAmt k n) (.tuple #[])):=by
 have L:=hh (RLiv.start h);have HU:=hh hu;have HZ:Hid (s.t.length < 1099511627776∧s.past.length < 1099511627776):=hh (by unfold PS.sz at hz;omega);have q:=Tryz.eqUn hu UIs.zero;clear h hz hu
 by_cases h0:n=0
 ·have HP:Hid (s.setAmt k n=s.del k):=hh (by unfold PS.setAmt;rw [if_pos h0]);rw [decide_eq_true h0] at q;clear h0
  go_enter Tryz.func175,Tryz.ntmps175
  go_wp2_with (refine wpList_load_row rfl 25 _ rfl w.heap.size rfl 25 _ _ _ (heap_alloc_new w _) Tryz.underlying25 rfl Tryz.sizeU ?_)
  have L1:=hh (L.out.later (a0d w (.cells #[.int .u64 a,.int .u64 b,.int .u64 c,.int .u64 d] 25)));refine (L1.out.call fun F h=>h0V h HZ.out.1 HZ.out.2 k).mono ?_;rintro e w1 ⟨rfl,L2,_⟩;have L2:=hh L2;clear L L1 q;go_wp2_with fail
  go_end0
  rw [HP.out];exact L2.out.ret
 ·have HP:Hid (s.setAmt k n=s.set k (amtB n)):=hh (by unfold PS.setAmt;rw [if_neg h0]);rw [decide_eq_false h0] at q;clear h0
  go_enter Tryz.func175,Tryz.ntmps175
  go_wp2_with (refine wpList_load_row rfl 25 _ rfl w.heap.size rfl 25 _ _ _ (heap_alloc_new w _) Tryz.underlying25 rfl Tryz.sizeU ?_)
  have L1:=hh (L.out.later (a0d w (.cells #[.int .u64 a,.int .u64 b,.int .u64 c,.int .u64 d] 25)));refine (q0K HU.out _).mono ?_;rintro e w1 ⟨rfl,hb⟩;have L2:=hh (L1.out.later hb);clear hb L1 L q;go_wp2_with fail;refine (L2.out.call fun F h=>f0e h HZ.out.1 HZ.out.2 k (amtB n)).mono ?_;rintro e w2 ⟨rfl,L3,_⟩;have L3:=hh L3;clear L2;go_wp2_with fail
  go_end0
  rw [HP.out];exact L3.out.ret

theorem e0C {w:World} {g:Nat} {s:PS} {F:List Nat} (h:RS w g s F) (hz:s.sz < 1000000000000) (hf:Fit s) (k:Txt) {a b c d:Int} {m:Nat} (hu:UIs a b c d m) :
  Calls Tryz.prog 109 #[.pointer (some ⟨g,0,none⟩),.string (bs k),.agg #[.int .u64 a,.int .u64 b,.int .u64 c,.int .u64 d]] w (RRet w g F (s.addA k m) (.int .i64 (addE (getP s.t) k m))):=by
 have L:=hh (RLiv.start h);have HU:=hh hu;have HF:=hh hf;have HZ:=hh hz;obtain ⟨n,hn⟩:=nm (amtV (getP s.t) k);have HN:=hh hn;clear h hz hu hf hn
 go_enter Tryz.func109,Tryz.ntmps109
 go_upto_region 1 with fail
 obtain ⟨w1,hw1⟩:=nm (w.alloc (.cells #[.int .u64 a,.int .u64 b,.int .u64 c,.int .u64 d] 25));obtain ⟨X,hX⟩:=nm (w.heap.size);rw [← hw1,← hX];have L1:Hid (RLiv w F w1 g s):=hh (L.out.later (by rw [hw1];exact a0d _ _));have HX:Hid (w1.heap[X]? = some (.cells #[.int .u64 a,.int .u64 b,.int .u64 c,.int .u64 d] 25 (0,0))):=hh (by rw [hw1,hX];exact heap_alloc_new _ _);clear hw1 hX L;have L:=L1;clear L1
 go_cut [7,8] from 9 (fun s7 s8 wx=>∃ (P:Nat) (ya:Int) (yb:Int) (yc:Int) (yd:Int) (q:Bool),s7 = .pointer (some ⟨P,0,none⟩)∧s8 = .bool q∧Hid (RLiv w F wx g s)∧Hid (wx.heap[X]? = some (.cells #[.int .u64 a,.int .u64 b,.int .u64 c,.int .u64 d] 25 (0,0)))∧Hid (wx.heap[P]? = some (.cells #[.int .u64 ya,.int .u64 yb,.int .u64 yc,.int .u64 yd] 25 (0,0)))∧Hid (q=decide (n+m < uMax))∧Hid (UIs ya yb yc yd (if q=true then n+m else 0)))
 case first=>
  obtain ⟨a1,hwz,hbz⟩:=dr w1;replace L:=hh (L.out.later hbz);replace HX:=bA hbz HX;clear hbz;refine rg1 11 11 hwz HX fun hS=>?_
  clear hwz;refine tA1 0 10 hS ?_;go_frame;refine tA1 1 11 hS ?_;go_frame;refine tl 3 (some 13) (fun _ h=>h) Tryz.underlying25 Tryz.sizeU hS ?_;go_frame;refine a0B 2 8 rfl rfl (by kernel_rfl) (fun K hK=>?_) (fun K hK=>?_)
  ·simp only [gA,jB,gC];rw [if_pos (by rfl)];go_simp;obtain ⟨Fq,hst⟩:=L.out.get;refine (b0u hst (by have:=HZ.out;omega) HF.out k).mono ?_;rw [← HN.out];rintro e a2 ⟨xa,xb,xc,xd,hu1,rfl,hb⟩;have HxU:=hh hu1;clear hu1 hst;replace L:=hh (L.out.later hb);replace HX:=bA hb HX;clear hb;replace hS:=HX.out;refine hK _ _ (fun _ _=>hS) ?_;clear hK;refine a0B 4 8 rfl rfl (by kernel_rfl) (fun K hK=>?_) (fun K hK=>?_)
   ·simp only [gA,jB,gC];rw [if_pos (by rfl)];go_simp;refine (d0n HxU.out HU.out _).mono ?_;obtain ⟨q,hq⟩:=nm (decide (n+m < uMax));rw [← hq];have HQ:=hh hq;clear hq;rintro e a3 ⟨ya,yb,yc,yd,hu1,rfl,hb⟩;have HyU:=hh hu1;clear hu1;replace L:=hh (L.out.later hb);replace HX:=bA hb HX;clear hb;replace hS:=HX.out;refine hK _ _ (fun _ _=>hS) ?_;clear hK;refine tA1 5 9 hS ?_;go_frame;refine tA1 6 15 hS ?_;go_frame;refine tA1 7 16 hS ?_;go_frame;refine t1 8 fun K hK=>?_
    simp only [gA,jB,gC];refine wA1 25 Tryz.zeroUz ?_;intro P a4 hP;have WP:=mGe hP L.out.keep.size;have NXP:=mNe hP HX;have HP:=hh hP.out.cells;have hbP:=hP.out.below;clear hP;replace L:=hh (L.out.later hbP);replace HX:=bA hbP HX;clear hbP;replace hS:=HX.out;refine hK _ _ (fun _ _=>hS) ?_;clear hK;refine t1 9 fun K hK=>?_
    simp only [gA,jB,gC];refine wR1 25 #[.int .u64 ya,.int .u64 yb,.int .u64 yc,.int .u64 yd] HP Tryz.sizeU ?_;intro a5 hxP kP zP;clear zP;replace L:=hh (b0c L.out HP.out rfl kP WP.out);replace HX:=ka1 kP HX NXP;replace HP:=hh hxP;clear hxP kP;replace hS:=HX.out;refine hK _ _ (fun _ _=>hS) ?_;clear hK;refine tA1 10 8 hS ?_;go_frame;refine tD ?_;clear hS;go_wp2_with fail
    go_meet
    case rel=>exact ⟨P,ya,yb,yc,yd,q,rfl,rfl,L,HX,HP,HQ,HyU⟩
   ·simp only [gA,jB,gC];rw [if_pos (by rfl)];refine wA1 25 Tryz.zeroUz ?_;intro P a3 hP;have WP:=mGe hP L.out.keep.size;have NXP:=mNe hP HX;have HP:=hh hP.out.cells;have hbP:=hP.out.below;clear hP;replace L:=hh (L.out.later hbP);replace HX:=bA hbP HX;clear hbP;replace hS:=HX.out;refine hK _ _ (fun _ _=>hS) ?_;clear hK;refine t1 4 fun K hK=>?_
    simp only [gA,jB,gC];go_simp;refine (d0n HxU.out HU.out _).mono ?_;obtain ⟨q,hq⟩:=nm (decide (n+m < uMax));rw [← hq];have HQ:=hh hq;clear hq;rintro e a4 ⟨ya,yb,yc,yd,hu1,rfl,hb⟩;have HyU:=hh hu1;clear hu1;replace L:=hh (L.out.later hb);replace HX:=bA hb HX;replace HP:=bA hb HP;clear hb;replace hS:=HX.out;refine hK _ _ (fun _ _=>hS) ?_;clear hK;refine tA1 5 9 hS ?_;go_frame;refine tA1 6 15 hS ?_;go_frame;refine tA1 7 16 hS ?_;go_frame;refine t1 9 fun K hK=>?_
    simp only [gA,jB,gC];refine wR1 25 #[.int .u64 ya,.int .u64 yb,.int .u64 yc,.int .u64 yd] HP Tryz.sizeU ?_;intro a5 hxP kP zP;clear zP;replace L:=hh (b0c L.out HP.out rfl kP WP.out);replace HX:=ka1 kP HX NXP;replace HP:=hh hxP;clear hxP kP;replace hS:=HX.out;refine hK _ _ (fun _ _=>hS) ?_;clear hK;refine tA1 10 8 hS ?_;go_frame;refine tD ?_;clear hS;go_wp2_with fail
    go_meet
    case rel=>exact ⟨P,ya,yb,yc,yd,q,rfl,rfl,L,HX,HP,HQ,HyU⟩
  ·simp only [gA,jB,gC];rw [if_pos (by rfl)];refine wA1 25 Tryz.zeroUz ?_;intro P a2 hP;have WP:=mGe hP L.out.keep.size;have NXP:=mNe hP HX;have HP:=hh hP.out.cells;have hbP:=hP.out.below;clear hP;replace L:=hh (L.out.later hbP);replace HX:=bA hbP HX;clear hbP;replace hS:=HX.out;refine hK _ _ (fun _ _=>hS) ?_;clear hK;refine t1 2 fun K hK=>?_
   simp only [gA,jB,gC];go_simp;obtain ⟨Fq,hst⟩:=L.out.get;refine (b0u hst (by have:=HZ.out;omega) HF.out k).mono ?_;rw [← HN.out];rintro e a3 ⟨xa,xb,xc,xd,hu1,rfl,hb⟩;have HxU:=hh hu1;clear hu1 hst;replace L:=hh (L.out.later hb);replace HX:=bA hb HX;replace HP:=bA hb HP;clear hb;replace hS:=HX.out;refine hK _ _ (fun _ _=>hS) ?_;clear hK;refine t1 4 fun K hK=>?_
   simp only [gA,jB,gC];go_simp;refine (d0n HxU.out HU.out _).mono ?_;obtain ⟨q,hq⟩:=nm (decide (n+m < uMax));rw [← hq];have HQ:=hh hq;clear hq;rintro e a4 ⟨ya,yb,yc,yd,hu1,rfl,hb⟩;have HyU:=hh hu1;clear hu1;replace L:=hh (L.out.later hb);replace HX:=bA hb HX;replace HP:=bA hb HP;clear hb;replace hS:=HX.out;refine hK _ _ (fun _ _=>hS) ?_;clear hK;refine tA1 5 9 hS ?_;go_frame;refine tA1 6 15 hS ?_;go_frame;refine tA1 7 16 hS ?_;go_frame;refine t1 9 fun K hK=>?_
   simp only [gA,jB,gC];refine wR1 25 #[.int .u64 ya,.int .u64 yb,.int .u64 yc,.int .u64 yd] HP Tryz.sizeU ?_;intro a5 hxP kP zP;clear zP;replace L:=hh (b0c L.out HP.out rfl kP WP.out);replace HX:=ka1 kP HX NXP;replace HP:=hh hxP;clear hxP kP;replace hS:=HX.out;refine hK _ _ (fun _ _=>hS) ?_;clear hK;refine tA1 10 8 hS ?_;go_frame;refine tD ?_;clear hS;go_wp2_with fail
   go_meet
   case rel=>exact ⟨P,ya,yb,yc,yd,q,rfl,rfl,L,HX,HP,HQ,HyU⟩
 case rest=>
  obtain ⟨P,ya,yb,yc,yd,q,rfl,rfl,L,HX,HP,HQ,HyU⟩:=hcut
  cases q with
  | false=>
   have hno:¬ n+m < uHalf:=by have h9:=of_decide_eq_false HQ.out.symm;unfold uMax at h9;unfold uHalf;omega
   have HEV:Hid (addE (getP s.t) k m=6):=hh (by unfold addE;rw [← HN.out,if_neg hno]);have HSV:Hid (s.addA k m=s):=hh (by unfold PS.addA;rw [← HN.out,if_neg hno]);clear hno HQ HyU;go_wp2_with fail
   go_ret
   rw [HEV.out,HSV.out];exact L.out.ret
  | true=>
   have cP0:wc.cell? ⟨P,0,none⟩=some (.int .u64 ya):=Lib.cell_of_heap HP.out 0;have cP1:wc.cell? ⟨P,1,none⟩=some (.int .u64 yb):=Lib.cell_of_heap HP.out 1;have cP2:wc.cell? ⟨P,2,none⟩=some (.int .u64 yc):=Lib.cell_of_heap HP.out 2;have cP3:wc.cell? ⟨P,3,none⟩=some (.int .u64 yd):=Lib.cell_of_heap HP.out 3;go_wp2_with fail;clear cP0 cP1 cP2 cP3;have hy9:=HyU.out
   first | rw [if_pos trivial] at hy9 | rw [if_pos rfl] at hy9
   have HY:=hh hy9;clear hy9 HyU;refine (b0V HY.out _).mono ?_;rintro e a1 ⟨rfl,hb⟩;replace L:=hh (L.out.later hb);replace HP:=bA hb HP;clear hb
   by_cases hc:n+m < uHalf
   ·rw [decide_eq_true hc];have HEV:Hid (addE (getP s.t) k m=0):=hh (by unfold addE;rw [← HN.out,if_pos hc]);have HSV:Hid (s.addA k m=s.setAmt k (n+m)):=hh (by unfold PS.addA;rw [← HN.out,if_pos hc]);clear hc
    go_wp2_with (refine lR HP Tryz.underlying25 Tryz.sizeU ?_)
    clear HX HP;refine (L.out.call fun F hs=>b0Y hs (by have:=HZ.out;omega) k HY.out).mono ?_;rintro e a2 ⟨rfl,o,hoth⟩;replace L:=hh o;clear o hoth;go_wp2_with fail
    go_ret
    rw [HEV.out,HSV.out];exact L.out.ret
   ·rw [decide_eq_false hc];have HEV:Hid (addE (getP s.t) k m=6):=hh (by unfold addE;rw [← HN.out,if_neg hc]);have HSV:Hid (s.addA k m=s):=hh (by unfold PS.addA;rw [← HN.out,if_neg hc]);clear hc;go_wp2_with fail
    go_ret
    rw [HEV.out,HSV.out];exact L.out.ret

theorem k0e {s:PS} {k l:Txt} {m:Nat} (h:moveE (getP s.t) k l m≠0):s.moveA k l m=s:=by
 unfold PS.moveA;rw [if_neg fun e=>h e.1]
theorem j0Y {w:World} {g:Nat} {s:PS} {F:List Nat} (h:RS w g s F) (hz:s.sz < 1000000000000) (hf:Fit s) (k l:Txt) {a b c d:Int} {m:Nat} (hu:UIs a b c d m) :
  Calls Tryz.prog 178 #[.pointer (some ⟨g,0,none⟩),.string (bs k),.string (bs l),.agg #[.int .u64 a,.int .u64 b,.int .u64 c,.int .u64 d]] w (RRet w g F (s.moveA k l m) (.int .i64 (moveE (getP s.t) k l m))):=by
 have L:=hh (RLiv.start h);have HU:=hh hu;have HF:=hh hf;have HZ:=hh hz;obtain ⟨n,hn⟩:=nm (amtV (getP s.t) k);have HN:=hh hn;obtain ⟨n2,hn2⟩:=nm (amtV (getP s.t) l);have HN2:=hh hn2;clear hn2;clear h hz hu hf hn
 go_enter Tryz.func178,Tryz.ntmps178
 go_upto_region 1 with fail
 obtain ⟨w1,hw1⟩:=nm (w.alloc (.cells #[.int .u64 a,.int .u64 b,.int .u64 c,.int .u64 d] 25));obtain ⟨X,hX⟩:=nm (w.heap.size);rw [← hw1,← hX];have L1:Hid (RLiv w F w1 g s):=hh (L.out.later (by rw [hw1];exact a0d _ _));have HX:Hid (w1.heap[X]? = some (.cells #[.int .u64 a,.int .u64 b,.int .u64 c,.int .u64 d] 25 (0,0))):=hh (by rw [hw1,hX];exact heap_alloc_new _ _);clear hw1 hX L;have L:=L1;clear L1
 go_cut [9,10] from 13 (fun s9 s10 wx=>∃ (P:Nat) (ya:Int) (yb:Int) (yc:Int) (yd:Int) (q1:Bool),s9 = .pointer (some ⟨P,0,none⟩)∧s10 = .bool q1∧Hid (RLiv w F wx g s)∧Hid (wx.heap[X]? = some (.cells #[.int .u64 a,.int .u64 b,.int .u64 c,.int .u64 d] 25 (0,0)))∧Hid (wx.heap[P]? = some (.cells #[.int .u64 ya,.int .u64 yb,.int .u64 yc,.int .u64 yd] 25 (0,0)))∧Hid (q1=decide (m≤n))∧Hid (UIs ya yb yc yd (if q1=true then n - m else 0)))
 case first=>
  obtain ⟨a1,hwz,hbz⟩:=dr w1;replace L:=hh (L.out.later hbz);replace HX:=bA hbz HX;clear hbz;refine rg1 11 11 hwz HX fun hS=>?_
  clear hwz;refine tA1 0 14 hS ?_;go_frame;refine tA1 1 15 hS ?_;go_frame;refine tl 3 (some 17) (fun _ h=>h) Tryz.underlying25 Tryz.sizeU hS ?_;go_frame;refine a0B 2 8 rfl rfl (by kernel_rfl) (fun K hK=>?_) (fun K hK=>?_)
  ·simp only [gA,jB,gC];rw [if_pos (by rfl)];go_simp;obtain ⟨Fq,hst⟩:=L.out.get;refine (b0u hst (by have:=HZ.out;omega) HF.out k).mono ?_;rw [← HN.out];rintro e a2 ⟨xa,xb,xc,xd,hu1,rfl,hb⟩;have HxU:=hh hu1;clear hu1 hst;replace L:=hh (L.out.later hb);replace HX:=bA hb HX;clear hb;replace hS:=HX.out;refine hK _ _ (fun _ _=>hS) ?_;clear hK;refine a0B 4 8 rfl rfl (by kernel_rfl) (fun K hK=>?_) (fun K hK=>?_)
   ·simp only [gA,jB,gC];rw [if_pos (by rfl)];go_simp;refine (h0M HxU.out HU.out _).mono ?_;obtain ⟨q1,hq1⟩:=nm (decide (m≤n));rw [← hq1];have HQ1:=hh hq1;clear hq1;rintro e a3 ⟨ya,yb,yc,yd,hu1,rfl,hb⟩;have HyU:=hh hu1;clear hu1;replace L:=hh (L.out.later hb);replace HX:=bA hb HX;clear hb;replace hS:=HX.out;refine hK _ _ (fun _ _=>hS) ?_;clear hK;refine tA1 5 13 hS ?_;go_frame;refine tA1 6 19 hS ?_;go_frame;refine tA1 7 20 hS ?_;go_frame;refine t1 8 fun K hK=>?_
    simp only [gA,jB,gC];refine wA1 25 Tryz.zeroUz ?_;intro P a4 hP;have WP:=mGe hP L.out.keep.size;have NXP:=mNe hP HX;have HP:=hh hP.out.cells;have hbP:=hP.out.below;clear hP;replace L:=hh (L.out.later hbP);replace HX:=bA hbP HX;clear hbP;replace hS:=HX.out;refine hK _ _ (fun _ _=>hS) ?_;clear hK;refine t1 9 fun K hK=>?_
    simp only [gA,jB,gC];refine wR1 25 #[.int .u64 ya,.int .u64 yb,.int .u64 yc,.int .u64 yd] HP Tryz.sizeU ?_;intro a5 hxP kP zP;clear zP;replace L:=hh (b0c L.out HP.out rfl kP WP.out);replace HX:=ka1 kP HX NXP;replace HP:=hh hxP;clear hxP kP;replace hS:=HX.out;refine hK _ _ (fun _ _=>hS) ?_;clear hK;refine tA1 10 10 hS ?_;go_frame;refine tD ?_;clear hS;go_wp2_with fail
    go_meet
    case rel=>exact ⟨P,ya,yb,yc,yd,q1,rfl,rfl,L,HX,HP,HQ1,HyU⟩
   ·simp only [gA,jB,gC];rw [if_pos (by rfl)];refine wA1 25 Tryz.zeroUz ?_;intro P a3 hP;have WP:=mGe hP L.out.keep.size;have NXP:=mNe hP HX;have HP:=hh hP.out.cells;have hbP:=hP.out.below;clear hP;replace L:=hh (L.out.later hbP);replace HX:=bA hbP HX;clear hbP;replace hS:=HX.out;refine hK _ _ (fun _ _=>hS) ?_;clear hK;refine t1 4 fun K hK=>?_
    simp only [gA,jB,gC];go_simp;refine (h0M HxU.out HU.out _).mono ?_;obtain ⟨q1,hq1⟩:=nm (decide (m≤n));rw [← hq1];have HQ1:=hh hq1;clear hq1;rintro e a4 ⟨ya,yb,yc,yd,hu1,rfl,hb⟩;have HyU:=hh hu1;clear hu1;replace L:=hh (L.out.later hb);replace HX:=bA hb HX;replace HP:=bA hb HP;clear hb;replace hS:=HX.out;refine hK _ _ (fun _ _=>hS) ?_;clear hK;refine tA1 5 13 hS ?_;go_frame;refine tA1 6 19 hS ?_;go_frame;refine tA1 7 20 hS ?_;go_frame;refine t1 9 fun K hK=>?_
    simp only [gA,jB,gC];refine wR1 25 #[.int .u64 ya,.int .u64 yb,.int .u64 yc,.int .u64 yd] HP Tryz.sizeU ?_;intro a5 hxP kP zP;clear zP;replace L:=hh (b0c L.out HP.out rfl kP WP.out);replace HX:=ka1 kP HX NXP;replace HP:=hh hxP;clear hxP kP;replace hS:=HX.out;refine hK _ _ (fun _ _=>hS) ?_;clear hK;refine tA1 10 10 hS ?_;go_frame;refine tD ?_;clear hS;go_wp2_with fail
    go_meet
    case rel=>exact ⟨P,ya,yb,yc,yd,q1,rfl,rfl,L,HX,HP,HQ1,HyU⟩
  ·simp only [gA,jB,gC];rw [if_pos (by rfl)];refine wA1 25 Tryz.zeroUz ?_;intro P a2 hP;have WP:=mGe hP L.out.keep.size;have NXP:=mNe hP HX;have HP:=hh hP.out.cells;have hbP:=hP.out.below;clear hP;replace L:=hh (L.out.later hbP);replace HX:=bA hbP HX;clear hbP;replace hS:=HX.out;refine hK _ _ (fun _ _=>hS) ?_;clear hK;refine t1 2 fun K hK=>?_
   simp only [gA,jB,gC];go_simp;obtain ⟨Fq,hst⟩:=L.out.get;refine (b0u hst (by have:=HZ.out;omega) HF.out k).mono ?_;rw [← HN.out];rintro e a3 ⟨xa,xb,xc,xd,hu1,rfl,hb⟩;have HxU:=hh hu1;clear hu1 hst;replace L:=hh (L.out.later hb);replace HX:=bA hb HX;replace HP:=bA hb HP;clear hb;replace hS:=HX.out;refine hK _ _ (fun _ _=>hS) ?_;clear hK;refine t1 4 fun K hK=>?_
   simp only [gA,jB,gC];go_simp;refine (h0M HxU.out HU.out _).mono ?_;obtain ⟨q1,hq1⟩:=nm (decide (m≤n));rw [← hq1];have HQ1:=hh hq1;clear hq1;rintro e a4 ⟨ya,yb,yc,yd,hu1,rfl,hb⟩;have HyU:=hh hu1;clear hu1;replace L:=hh (L.out.later hb);replace HX:=bA hb HX;replace HP:=bA hb HP;clear hb;replace hS:=HX.out;refine hK _ _ (fun _ _=>hS) ?_;clear hK;refine tA1 5 13 hS ?_;go_frame;refine tA1 6 19 hS ?_;go_frame;refine tA1 7 20 hS ?_;go_frame;refine t1 9 fun K hK=>?_
   simp only [gA,jB,gC];refine wR1 25 #[.int .u64 ya,.int .u64 yb,.int .u64 yc,.int .u64 yd] HP Tryz.sizeU ?_;intro a5 hxP kP zP;clear zP;replace L:=hh (b0c L.out HP.out rfl kP WP.out);replace HX:=ka1 kP HX NXP;replace HP:=hh hxP;clear hxP kP;replace hS:=HX.out;refine hK _ _ (fun _ _=>hS) ?_;clear hK;refine tA1 10 10 hS ?_;go_frame;refine tD ?_;clear hS;go_wp2_with fail
   go_meet
   case rel=>exact ⟨P,ya,yb,yc,yd,q1,rfl,rfl,L,HX,HP,HQ1,HyU⟩
 case rest=>
  obtain ⟨P,ya,yb,yc,yd,q1,rfl,rfl,L,HX,HP,HQ1,HyU⟩:=hcut
  cases q1 with
  | false=>
   have hno:¬ m≤n:=of_decide_eq_false HQ1.out.symm;have HEV:Hid (moveE (getP s.t) k l m=13):=hh (by unfold moveE;rw [← HN.out,if_pos hno]);have HSV:Hid (s.moveA k l m=s):=hh (k0e (by rw [HEV.out];decide));clear hno HQ1 HyU;go_wp2_with fail
   go_ret
   rw [HEV.out,HSV.out];exact L.out.ret
  | true=>
   have HLE:Hid (m≤n):=hh (of_decide_eq_true HQ1.out.symm);have hy9:=HyU.out
   first | rw [if_pos trivial] at hy9 | rw [if_pos rfl] at hy9
   have HY:=hh hy9;clear hy9 HyU HQ1
   by_cases hkl:k=l
   ·have HEV:Hid (moveE (getP s.t) k l m=0):=hh (by unfold moveE;rw [← HN.out,if_neg (fun e=>e HLE.out),if_pos hkl]);have HSV:Hid (s.moveA k l m=s):=hh (by unfold PS.moveA;rw [if_neg (fun e=>e.2 hkl)]);have hb9:=e0M k l;rw [decide_eq_true hkl] at hb9;clear hkl;go_wp2_with fail
    go_ret
    rw [HEV.out,HSV.out];exact L.out.ret
   ·have HKL:=hh hkl;have hb9:=e0M k l;rw [decide_eq_false hkl] at hb9;clear hkl
    go_upto_region 6 with fail
    clear hb9
    go_cut [11,12] from 26 (fun s11 s12 wx=>∃ (Q:Nat) (za:Int) (zb:Int) (zc:Int) (zd:Int) (q2:Bool),s11 = .pointer (some ⟨Q,0,none⟩)∧s12 = .bool q2∧Hid (RLiv w F wx g s)∧Hid (wx.heap[X]? = some (.cells #[.int .u64 a,.int .u64 b,.int .u64 c,.int .u64 d] 25 (0,0)))∧Hid (wx.heap[P]? = some (.cells #[.int .u64 ya,.int .u64 yb,.int .u64 yc,.int .u64 yd] 25 (0,0)))∧Hid (wx.heap[Q]? = some (.cells #[.int .u64 za,.int .u64 zb,.int .u64 zc,.int .u64 zd] 25 (0,0)))∧Hid (q2=decide (n2+m < uMax))∧Hid (UIs za zb zc zd (if q2=true then n2+m else 0)))
    case first=>
     obtain ⟨a1,hwz,hbz⟩:=dr wc;replace L:=hh (L.out.later hbz);replace HX:=bA hbz HX;replace HP:=bA hbz HP;clear hbz;refine rg1 11 11 hwz HX fun hS=>?_
     clear hwz;refine tA1 0 27 hS ?_;go_frame;refine tA1 1 28 hS ?_;go_frame;refine tl 3 (some 30) (fun _ h=>h) Tryz.underlying25 Tryz.sizeU hS ?_;go_frame;refine a0B 2 8 rfl rfl (by kernel_rfl) (fun K hK=>?_) (fun K hK=>?_)
     ·simp only [gA,jB,gC];rw [if_pos (by rfl)];go_simp;obtain ⟨Fq,hst⟩:=L.out.get;refine (b0u hst (by have:=HZ.out;omega) HF.out l).mono ?_;rw [← HN2.out];rintro e a2 ⟨va,vb,vc,vd,hu1,rfl,hb⟩;have HvU:=hh hu1;clear hu1 hst;replace L:=hh (L.out.later hb);replace HX:=bA hb HX;replace HP:=bA hb HP;clear hb;replace hS:=HX.out;refine hK _ _ (fun _ _=>hS) ?_;clear hK;refine a0B 4 8 rfl rfl (by kernel_rfl) (fun K hK=>?_) (fun K hK=>?_)
      ·simp only [gA,jB,gC];rw [if_pos (by rfl)];go_simp;refine (d0n HvU.out HU.out _).mono ?_;obtain ⟨q2,hq2⟩:=nm (decide (n2+m < uMax));rw [← hq2];have HQ2:=hh hq2;clear hq2;rintro e a3 ⟨za,zb,zc,zd,hu1,rfl,hb⟩;have HzU:=hh hu1;clear hu1;replace L:=hh (L.out.later hb);replace HX:=bA hb HX;replace HP:=bA hb HP;clear hb;replace hS:=HX.out;refine hK _ _ (fun _ _=>hS) ?_;clear hK;refine tA1 5 26 hS ?_;go_frame;refine tA1 6 32 hS ?_;go_frame;refine tA1 7 33 hS ?_;go_frame;refine t1 8 fun K hK=>?_
       simp only [gA,jB,gC];refine wA1 25 Tryz.zeroUz ?_;intro Q a4 hQ;have WQ:=mGe hQ L.out.keep.size;have NXQ:=mNe hQ HX;have NPQ:=mNe hQ HP;have HQ:=hh hQ.out.cells;have hbQ:=hQ.out.below;clear hQ;replace L:=hh (L.out.later hbQ);replace HX:=bA hbQ HX;replace HP:=bA hbQ HP;clear hbQ;replace hS:=HX.out;refine hK _ _ (fun _ _=>hS) ?_;clear hK;refine t1 9 fun K hK=>?_
       simp only [gA,jB,gC];refine wR1 25 #[.int .u64 za,.int .u64 zb,.int .u64 zc,.int .u64 zd] HQ Tryz.sizeU ?_;intro a5 hxQ kQ zQ;clear zQ;replace L:=hh (b0c L.out HQ.out rfl kQ WQ.out);replace HX:=ka1 kQ HX NXQ;replace HP:=ka1 kQ HP NPQ;replace HQ:=hh hxQ;clear hxQ kQ;replace hS:=HX.out;refine hK _ _ (fun _ _=>hS) ?_;clear hK;refine tA1 10 12 hS ?_;go_frame;refine tD ?_;clear hS;go_wp2_with fail
       go_meet
       case rel=>exact ⟨Q,za,zb,zc,zd,q2,rfl,rfl,L,HX,HP,HQ,HQ2,HzU⟩
      ·simp only [gA,jB,gC];rw [if_pos (by rfl)];refine wA1 25 Tryz.zeroUz ?_;intro Q a3 hQ;have WQ:=mGe hQ L.out.keep.size;have NXQ:=mNe hQ HX;have NPQ:=mNe hQ HP;have HQ:=hh hQ.out.cells;have hbQ:=hQ.out.below;clear hQ;replace L:=hh (L.out.later hbQ);replace HX:=bA hbQ HX;replace HP:=bA hbQ HP;clear hbQ;replace hS:=HX.out;refine hK _ _ (fun _ _=>hS) ?_;clear hK;refine t1 4 fun K hK=>?_
       simp only [gA,jB,gC];go_simp;refine (d0n HvU.out HU.out _).mono ?_;obtain ⟨q2,hq2⟩:=nm (decide (n2+m < uMax));rw [← hq2];have HQ2:=hh hq2;clear hq2;rintro e a4 ⟨za,zb,zc,zd,hu1,rfl,hb⟩;have HzU:=hh hu1;clear hu1;replace L:=hh (L.out.later hb);replace HX:=bA hb HX;replace HP:=bA hb HP;replace HQ:=bA hb HQ;clear hb;replace hS:=HX.out;refine hK _ _ (fun _ _=>hS) ?_;clear hK;refine tA1 5 26 hS ?_;go_frame;refine tA1 6 32 hS ?_;go_frame;refine tA1 7 33 hS ?_;go_frame;refine t1 9 fun K hK=>?_
       simp only [gA,jB,gC];refine wR1 25 #[.int .u64 za,.int .u64 zb,.int .u64 zc,.int .u64 zd] HQ Tryz.sizeU ?_;intro a5 hxQ kQ zQ;clear zQ;replace L:=hh (b0c L.out HQ.out rfl kQ WQ.out);replace HX:=ka1 kQ HX NXQ;replace HP:=ka1 kQ HP NPQ;replace HQ:=hh hxQ;clear hxQ kQ;replace hS:=HX.out;refine hK _ _ (fun _ _=>hS) ?_;clear hK;refine tA1 10 12 hS ?_;go_frame;refine tD ?_;clear hS;go_wp2_with fail
       go_meet
       case rel=>exact ⟨Q,za,zb,zc,zd,q2,rfl,rfl,L,HX,HP,HQ,HQ2,HzU⟩
     ·simp only [gA,jB,gC];rw [if_pos (by rfl)];refine wA1 25 Tryz.zeroUz ?_;intro Q a2 hQ;have WQ:=mGe hQ L.out.keep.size;have NXQ:=mNe hQ HX;have NPQ:=mNe hQ HP;have HQ:=hh hQ.out.cells;have hbQ:=hQ.out.below;clear hQ;replace L:=hh (L.out.later hbQ);replace HX:=bA hbQ HX;replace HP:=bA hbQ HP;clear hbQ;replace hS:=HX.out;refine hK _ _ (fun _ _=>hS) ?_;clear hK;refine t1 2 fun K hK=>?_
      simp only [gA,jB,gC];go_simp;obtain ⟨Fq,hst⟩:=L.out.get;refine (b0u hst (by have:=HZ.out;omega) HF.out l).mono ?_;rw [← HN2.out];rintro e a3 ⟨va,vb,vc,vd,hu1,rfl,hb⟩;have HvU:=hh hu1;clear hu1 hst;replace L:=hh (L.out.later hb);replace HX:=bA hb HX;replace HP:=bA hb HP;replace HQ:=bA hb HQ;clear hb;replace hS:=HX.out;refine hK _ _ (fun _ _=>hS) ?_;clear hK;refine t1 4 fun K hK=>?_
      simp only [gA,jB,gC];go_simp;refine (d0n HvU.out HU.out _).mono ?_;obtain ⟨q2,hq2⟩:=nm (decide (n2+m < uMax));rw [← hq2];have HQ2:=hh hq2;clear hq2;rintro e a4 ⟨za,zb,zc,zd,hu1,rfl,hb⟩;have HzU:=hh hu1;clear hu1;replace L:=hh (L.out.later hb);replace HX:=bA hb HX;replace HP:=bA hb HP;replace HQ:=bA hb HQ;clear hb;replace hS:=HX.out;refine hK _ _ (fun _ _=>hS) ?_;clear hK;refine tA1 5 26 hS ?_;go_frame;refine tA1 6 32 hS ?_;go_frame;refine tA1 7 33 hS ?_;go_frame;refine t1 9 fun K hK=>?_
      simp only [gA,jB,gC];refine wR1 25 #[.int .u64 za,.int .u64 zb,.int .u64 zc,.int .u64 zd] HQ Tryz.sizeU ?_;intro a5 hxQ kQ zQ;clear zQ;replace L:=hh (b0c L.out HQ.out rfl kQ WQ.out);replace HX:=ka1 kQ HX NXQ;replace HP:=ka1 kQ HP NPQ;replace HQ:=hh hxQ;clear hxQ kQ;replace hS:=HX.out;refine hK _ _ (fun _ _=>hS) ?_;clear hK;refine tA1 10 12 hS ?_;go_frame;refine tD ?_;clear hS;go_wp2_with fail
      go_meet
      case rel=>exact ⟨Q,za,zb,zc,zd,q2,rfl,rfl,L,HX,HP,HQ,HQ2,HzU⟩
    case rest=>
     obtain ⟨Q,za,zb,zc,zd,q2,rfl,rfl,L,HX,HP,HQ,HQ2,HzU⟩:=hcut
     cases q2 with
     | false=>
      have hno:¬ n2+m < uHalf:=by have h9:=of_decide_eq_false HQ2.out.symm;unfold uMax at h9;unfold uHalf;omega
      have HEV:Hid (moveE (getP s.t) k l m=6):=hh (by unfold moveE;rw [if_neg (fun e=>e (HN.out▸HLE.out)),if_neg HKL.out,← HN2.out,if_neg hno]);have HSV:Hid (s.moveA k l m=s):=hh (k0e (by rw [HEV.out];decide));clear hno HQ2 HzU;go_wp2_with fail
      go_ret
      rw [HEV.out,HSV.out];exact L.out.ret
     | true=>
      have cQ0:wc.cell? ⟨Q,0,none⟩=some (.int .u64 za):=Lib.cell_of_heap HQ.out 0;have cQ1:wc.cell? ⟨Q,1,none⟩=some (.int .u64 zb):=Lib.cell_of_heap HQ.out 1;have cQ2:wc.cell? ⟨Q,2,none⟩=some (.int .u64 zc):=Lib.cell_of_heap HQ.out 2;have cQ3:wc.cell? ⟨Q,3,none⟩=some (.int .u64 zd):=Lib.cell_of_heap HQ.out 3;go_wp2_with fail;clear cQ0 cQ1 cQ2 cQ3;have hy9:=HzU.out
      first | rw [if_pos trivial] at hy9 | rw [if_pos rfl] at hy9
      have HZZ:=hh hy9;clear hy9 HzU;refine (b0V HZZ.out _).mono ?_;rintro e a1 ⟨rfl,hb⟩;replace L:=hh (L.out.later hb);replace HP:=bA hb HP;replace HQ:=bA hb HQ;clear hb
      by_cases hno:n2+m < uHalf
      ·rw [decide_eq_true hno];have HEV:Hid (moveE (getP s.t) k l m=0):=hh (by unfold moveE;rw [if_neg (fun e=>e (HN.out▸HLE.out)),if_neg HKL.out,← HN2.out,if_pos hno]);have HSV:Hid (s.moveA k l m=(s.setAmt k (n - m)).setAmt l (n2+m)):=hh (by unfold PS.moveA;rw [if_pos ⟨HEV.out,HKL.out⟩,HN.out,HN2.out]);clear hno
       go_wp2_with (refine lR HP Tryz.underlying25 Tryz.sizeU ?_)
       clear HX HP;refine (L.out.call fun F hs=>b0Y hs (by have:=HZ.out;omega) k HY.out).mono ?_;rintro e a2 ⟨rfl,o,hoth⟩;replace L:=hh o;replace HQ:=oA hoth HQ;clear o hoth
       go_wp2_with (refine lR HQ Tryz.underlying25 Tryz.sizeU ?_)
       clear HQ;refine (L.out.call fun F hs=>b0Y hs (by have h8:=HZ.out;have h9:=a0z s k (n - m);omega) l HZZ.out).mono ?_;rintro e a3 ⟨rfl,o,hoth⟩;replace L:=hh o;clear o hoth;go_wp2_with fail
       go_ret
       rw [HEV.out,HSV.out];exact L.out.ret
      ·rw [decide_eq_false hno];have HEV:Hid (moveE (getP s.t) k l m=6):=hh (by unfold moveE;rw [if_neg (fun e=>e (HN.out▸HLE.out)),if_neg HKL.out,← HN2.out,if_neg hno]);have HSV:Hid (s.moveA k l m=s):=hh (k0e (by rw [HEV.out];decide));clear hno;go_wp2_with fail
       go_ret
       rw [HEV.out,HSV.out];exact L.out.ret
end
end Go.Proofs.YtakkfabaeolbdaaGreat
