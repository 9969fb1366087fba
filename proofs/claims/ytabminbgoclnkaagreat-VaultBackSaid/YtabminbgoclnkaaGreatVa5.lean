/- Long division, bit by bit: plain. No condition. u256.double. No condition. -/
import Derived.Test.YtabminbgoclnkaaGreatVa4
namespace Go.Proofs.YtabminbgoclnkaaGreat
section
open Go.RowKit

def QuI (n d i q r:Nat):Prop:=q=n / 2 ^ i / d∧r=n / 2 ^ i % d
theorem QuI.start {n d i:Nat} (h:n < 2 ^ i):QuI n d i 0 0:=by
 unfold QuI
 rw [Nat.div_eq_of_lt h]
 simp
theorem e0h (n i:Nat):n / 2 ^ i=2*(n / 2 ^ (i+1))+n / 2 ^ i % 2:=by
 have h1:n / 2 ^ (i+1)=n / 2 ^ i / 2:=by rw [Nat.pow_succ,Nat.div_div_eq_div_mul]
 rw [h1];omega
theorem QuI.lt {n d i q r:Nat} (hd:0 < d) (h:QuI n d i q r):r < d:=by rw [h.2];exact Nat.mod_lt _ hd
theorem QuI.eq {n d i q r:Nat} (h:QuI n d i q r):n / 2 ^ i=d*q+r:=by rw [h.1,h.2];exact (Nat.div_add_mod _ _).symm
theorem QuI.mk' {n d i q r:Nat} (h:n / 2 ^ i=d*q+r) (hr:r < d):QuI n d i q r:=by
 unfold QuI
 have hd:0 < d:=by omega
 rw [h];refine ⟨?_,?_⟩
 ·rw [Nat.mul_add_div hd,Nat.div_eq_of_lt hr];omega
 ·rw [Nat.mul_add_mod,Nat.mod_eq_of_lt hr]
theorem QuI.less {n d i q r:Nat} (h:QuI n d (i+1) q r) (hb:2*r+n / 2 ^ i % 2 < d):QuI n d i (2*q) (2*r+n / 2 ^ i % 2):=by
 refine QuI.mk' ?_ hb;have h1:=h.eq;have h2:=e0h n i;rw [h1] at h2;have h3:d*(2*q)=2*(d*q):=by rw [Nat.mul_left_comm]
 omega
theorem QuI.more {n d i q r:Nat} (hd:0 < d) (h:QuI n d (i+1) q r) (hb:d≤2*r+n / 2 ^ i % 2):QuI n d i (2*q+1) (2*r+n / 2 ^ i % 2 - d):=by
 have hr:=h.lt hd;refine QuI.mk' ?_ (by omega);have h1:=h.eq;have h2:=e0h n i;rw [h1] at h2;have h3:d*(2*q+1)=2*(d*q)+d:=by rw [Nat.mul_add,Nat.mul_left_comm,Nat.mul_one]
 omega
theorem QuI.done {n d q r:Nat} (h:QuI n d 0 q r):q=n / d∧r=n % d:=by
 unfold QuI at h
 simpa using h
theorem QuI.place {n d i q r:Nat} (hd:0 < d) (h:QuI n d i q r) (hn:n < d*2 ^ 256):q*2 ^ i < 2 ^ 256:=by
 have h1:q*2 ^ i≤n / d:=by
  rw [h.1,Nat.le_div_iff_mul_le hd,Nat.mul_right_comm]
  exact Nat.le_trans (Nat.mul_le_mul_right _ (Nat.div_mul_le_self _ _)) (Nat.div_mul_le_self _ _)
 have h2:n / d < 2 ^ 256:=Nat.div_lt_of_lt_mul (by rw [Nat.mul_comm] at hn;rw [Nat.mul_comm];exact hn)
 omega
theorem j0R (a b c f t:Nat) :
  2*(a+b*18446744073709551616+c*340282366920938463463374607431768211456+f*6277101735386680763835789423207666416102355444464034512896)+t=(2*a % 18446744073709551616+t)+(2*b % 18446744073709551616+a / 9223372036854775808)*18446744073709551616+(2*c % 18446744073709551616+b / 9223372036854775808)*340282366920938463463374607431768211456+(2*f % 18446744073709551616+c / 9223372036854775808)*6277101735386680763835789423207666416102355444464034512896+f / 9223372036854775808*115792089237316195423570985008687907853269984665640564039457584007913129639936:=by omega
theorem d0e (x t:Nat) (hx:x < 9223372036854775808) (ht:t < 2):bits BinOp.or IntKind.u64 ((2*x:Nat):Int) (t:Int)=((2*x+t:Nat):Int):=by
 rw [u64_or_nat _ _ (by omega) (by omega)];have h:=nat_join 1 (2*x) t (by omega) (by omega);rw [h]
theorem h0H (x:Nat) (hx:x < 18446744073709551616):bits BinOp.and IntKind.u64 (x:Int) 1=((x % 2:Nat):Int):=by
 have h:=u64_and_nat x 1 hx (by omega);rw [show ((1:Nat):Int)=1 from rfl] at h;rw [h,Nat.and_one_is_mod]
end
section
set_option maxHeartbeats 4000000
set_option maxRecDepth 100000
open Go.RowKit

def dblA (A B C F d0 d1 d2 d3:Nat):Nat→Array Value
 | 0=>#[.int .u64 (A:Int),.int .u64 (B:Int),.int .u64 (C:Int),.int .u64 (F:Int)]
 | 1=>#[.int .u64 (d0:Int),.int .u64 (B:Int),.int .u64 (C:Int),.int .u64 (F:Int)]
 | 2=>#[.int .u64 (d0:Int),.int .u64 (d1:Int),.int .u64 (C:Int),.int .u64 (F:Int)]
 | 3=>#[.int .u64 (d0:Int),.int .u64 (d1:Int),.int .u64 (d2:Int),.int .u64 (F:Int)]
 | _=>#[.int .u64 (d0:Int),.int .u64 (d1:Int),.int .u64 (d2:Int),.int .u64 (d3:Int)]
def dblC (t h0 h1 h2 h3:Nat):Nat→Int
 | 0=>(t:Int)
 | 1=>(h0:Int)
 | 2=>(h1:Int)
 | 3=>(h2:Int)
 | _=>(h3:Int)
def DblRet (w:World) (n t:Nat) (e:Ending) (w':World):Prop:=∃ a b c f o:Nat,e = .returned (.tuple #[.agg #[.int .u64 (a:Int),.int .u64 (b:Int),.int .u64 (c:Int),.int .u64 (f:Int)],.int .u64 (o:Int)])∧2*n+t=a+b*18446744073709551616+c*340282366920938463463374607431768211456+f*6277101735386680763835789423207666416102355444464034512896+o*115792089237316195423570985008687907853269984665640564039457584007913129639936∧(a < 18446744073709551616∧b < 18446744073709551616∧c < 18446744073709551616∧f < 18446744073709551616)∧Below w.heap.size w w'
theorem h0v {A B C F t:Nat} (hA:A < 18446744073709551616) (hB:B < 18446744073709551616) (hC:C < 18446744073709551616) (_hF:F < 18446744073709551616) (ht:t < 2) (w:World) :
  Calls Tryz.prog 190 #[.agg #[.int .u64 (A:Int),.int .u64 (B:Int),.int .u64 (C:Int),.int .u64 (F:Int)],.int .u64 (t:Int)] w (DblRet w (A+B*18446744073709551616+C*340282366920938463463374607431768211456+F*6277101735386680763835789423207666416102355444464034512896) t):=by
 obtain ⟨h0,hh0⟩:∃ q,q=A / 9223372036854775808:=⟨_,rfl⟩;obtain ⟨m0,hm0⟩:∃ q,q=2*A % 18446744073709551616:=⟨_,rfl⟩;obtain ⟨d0,hd0⟩:∃ q,q=m0+t:=⟨_,rfl⟩;have s0:IntKind.u64.wrap ((A:Int)*2)=(m0:Int):=by rw [IntKind.wrap_u64];omega
 have o0:bits BinOp.or IntKind.u64 (m0:Int) (t:Int)=(d0:Int):=by
  have h:=d0e (A % 9223372036854775808) t (Nat.mod_lt _ (by decide)) (by omega);rw [show 2*(A % 9223372036854775808)=m0 by omega] at h;rw [hd0];exact h
 have r0:(A:Int) / 9223372036854775808=(h0:Int):=by omega
 obtain ⟨h1,hh1⟩:∃ q,q=B / 9223372036854775808:=⟨_,rfl⟩;obtain ⟨m1,hm1⟩:∃ q,q=2*B % 18446744073709551616:=⟨_,rfl⟩;obtain ⟨d1,hd1⟩:∃ q,q=m1+h0:=⟨_,rfl⟩;have s1:IntKind.u64.wrap ((B:Int)*2)=(m1:Int):=by rw [IntKind.wrap_u64];omega
 have o1:bits BinOp.or IntKind.u64 (m1:Int) (h0:Int)=(d1:Int):=by
  have h:=d0e (B % 9223372036854775808) h0 (Nat.mod_lt _ (by decide)) (by omega);rw [show 2*(B % 9223372036854775808)=m1 by omega] at h;rw [hd1];exact h
 have r1:(B:Int) / 9223372036854775808=(h1:Int):=by omega
 obtain ⟨h2,hh2⟩:∃ q,q=C / 9223372036854775808:=⟨_,rfl⟩;obtain ⟨m2,hm2⟩:∃ q,q=2*C % 18446744073709551616:=⟨_,rfl⟩;obtain ⟨d2,hd2⟩:∃ q,q=m2+h1:=⟨_,rfl⟩;have s2:IntKind.u64.wrap ((C:Int)*2)=(m2:Int):=by rw [IntKind.wrap_u64];omega
 have o2:bits BinOp.or IntKind.u64 (m2:Int) (h1:Int)=(d2:Int):=by
  have h:=d0e (C % 9223372036854775808) h1 (Nat.mod_lt _ (by decide)) (by omega);rw [show 2*(C % 9223372036854775808)=m2 by omega] at h;rw [hd2];exact h
 have r2:(C:Int) / 9223372036854775808=(h2:Int):=by omega
 obtain ⟨h3,hh3⟩:∃ q,q=F / 9223372036854775808:=⟨_,rfl⟩;obtain ⟨m3,hm3⟩:∃ q,q=2*F % 18446744073709551616:=⟨_,rfl⟩;obtain ⟨d3,hd3⟩:∃ q,q=m3+h2:=⟨_,rfl⟩;have s3:IntKind.u64.wrap ((F:Int)*2)=(m3:Int):=by rw [IntKind.wrap_u64];omega
 have o3:bits BinOp.or IntKind.u64 (m3:Int) (h2:Int)=(d3:Int):=by
  have h:=d0e (F % 9223372036854775808) h2 (Nat.mod_lt _ (by decide)) (by omega);rw [show 2*(F % 9223372036854775808)=m3 by omega] at h;rw [hd3];exact h
 have r3:(F:Int) / 9223372036854775808=(h3:Int):=by omega
 have HSUM:=Lib.hid (show 2*(A+B*18446744073709551616+C*340282366920938463463374607431768211456+F*6277101735386680763835789423207666416102355444464034512896)+t=d0+d1*18446744073709551616+d2*340282366920938463463374607431768211456+d3*6277101735386680763835789423207666416102355444464034512896+h3*115792089237316195423570985008687907853269984665640564039457584007913129639936∧d0 < 18446744073709551616∧d1 < 18446744073709551616∧d2 < 18446744073709551616∧d3 < 18446744073709551616 by omega);clear hA hB hC ht hh0 hh1 hh2 hh3 hm0 hm1 hm2 hm3 hd0 hd1 hd2 hd3
 go_enter Tryz.func190,Tryz.ntmps190
 go_wp2_with fail;obtain ⟨w1,hw1⟩:∃ w1,w1=w.alloc (.cells #[.int .u64 (A:Int),.int .u64 (B:Int),.int .u64 (C:Int),.int .u64 (F:Int)] 25):=⟨_,rfl⟩;rw [← hw1];obtain ⟨w2,hw2⟩:∃ w2,w2=w1.alloc (.cells u0 25):=⟨_,rfl⟩;rw [show w1.alloc (.cells #[.int .u64 0,.int .u64 0,.int .u64 0,.int .u64 0] 25)=w2 from hw2.symm];obtain ⟨X,hX⟩:∃ X,X=w.heap.size:=⟨_,rfl⟩;rw [← hX];obtain ⟨R,hRR⟩:∃ R,R=X+1:=⟨_,rfl⟩;rw [← hRR];have hs1:w1.heap.size=X+1:=by rw [hw1,hX];exact Array.size_push _
 have hb1:Below w.heap.size w w1:=by rw [hw1];exact (Below.refl _ _).alloc (Nat.le_refl _) _
 have hb2:Below w1.heap.size w1 w2:=by rw [hw2];exact (Below.refl _ _).alloc (Nat.le_refl _) _
 have hX1:w1.heap[X]? = some (.cells #[.int .u64 (A:Int),.int .u64 (B:Int),.int .u64 (C:Int),.int .u64 (F:Int)] 25 (0,0)):=by rw [hw1,hX];exact heap_alloc_new _ _
 have hR2:w2.heap[R]? = some (.cells u0 25 (0,0)):=by rw [hw2,hRR,← hs1];exact heap_alloc_new _ _
 have HX2:=Lib.hid (g0A hb2 hX1);have HR2:=Lib.hid hR2;have HB2:=Lib.hid (hb1.trans (hb2.mono hb1.size));have WX:=Lib.hid (show w.heap.size≤X∧X < R by omega);clear hw1 hw2 hX hRR hs1 hb1 hb2 hX1 hR2
 go_loopw [1,8] (fun x y wr=>∃ i:Nat,i≤4∧y = .int .i64 i∧x = .int .u64 (dblC t h0 h1 h2 h3 i)∧Hid (wr.heap[X]? = some (.cells (dblA A B C F d0 d1 d2 d3 i) 25 (0,0)))∧Hid (Keep (· = X) w2 wr)) (fun _ y _=>4 - (intOf y).toNat)
 case atStart=>exact ⟨0,by omega,rfl,rfl,HX2,Lib.hid (Keep.refl _ _)⟩
 case round=>
  clear HX2;obtain ⟨i,hi,rfl,rfl,HX,HK⟩:=hrel
  rcases (show i=0∨i=1∨i=2∨i=3∨i=4 by omega) with rfl | rfl | rfl | rfl | rfl
  ·have HXi:=Lib.hid (show wr.heap[X]? = some (.cells #[.int .u64 (A:Int),.int .u64 (B:Int),.int .u64 (C:Int),.int .u64 (F:Int)] 25 (0,0)) from HX.out);have c0:wr.cell? ⟨X,0,none⟩=some (.int .u64 (A:Int)):=Lib.cell_of_heap HXi.out 0;simp only [dblC];have f0:wr.frozen? ⟨X,0,none⟩=false:=Lib.frozen_of_heap HXi.out 0;go_wp2_with fail
   exact ⟨⟨1,by omega,rfl,rfl,Lib.hid (by rw [heap_setCell_same _ _ _ _ _ _ HXi.out];rfl),Lib.hid (HK.out.setCell (p:=⟨X,0,none⟩) (.inl rfl) _)⟩,by simp [intOf]⟩
  ·have HXi:=Lib.hid (show wr.heap[X]? = some (.cells #[.int .u64 (d0:Int),.int .u64 (B:Int),.int .u64 (C:Int),.int .u64 (F:Int)] 25 (0,0)) from HX.out);have c0:wr.cell? ⟨X,1,none⟩=some (.int .u64 (B:Int)):=Lib.cell_of_heap HXi.out 1;simp only [dblC];have f0:wr.frozen? ⟨X,1,none⟩=false:=Lib.frozen_of_heap HXi.out 1;go_wp2_with fail
   exact ⟨⟨2,by omega,rfl,rfl,Lib.hid (by rw [heap_setCell_same _ _ _ _ _ _ HXi.out];rfl),Lib.hid (HK.out.setCell (p:=⟨X,1,none⟩) (.inl rfl) _)⟩,by simp [intOf]⟩
  ·have HXi:=Lib.hid (show wr.heap[X]? = some (.cells #[.int .u64 (d0:Int),.int .u64 (d1:Int),.int .u64 (C:Int),.int .u64 (F:Int)] 25 (0,0)) from HX.out);have c0:wr.cell? ⟨X,2,none⟩=some (.int .u64 (C:Int)):=Lib.cell_of_heap HXi.out 2;simp only [dblC];have f0:wr.frozen? ⟨X,2,none⟩=false:=Lib.frozen_of_heap HXi.out 2;go_wp2_with fail
   exact ⟨⟨3,by omega,rfl,rfl,Lib.hid (by rw [heap_setCell_same _ _ _ _ _ _ HXi.out];rfl),Lib.hid (HK.out.setCell (p:=⟨X,2,none⟩) (.inl rfl) _)⟩,by simp [intOf]⟩
  ·have HXi:=Lib.hid (show wr.heap[X]? = some (.cells #[.int .u64 (d0:Int),.int .u64 (d1:Int),.int .u64 (d2:Int),.int .u64 (F:Int)] 25 (0,0)) from HX.out);have c0:wr.cell? ⟨X,3,none⟩=some (.int .u64 (F:Int)):=Lib.cell_of_heap HXi.out 3;simp only [dblC];have f0:wr.frozen? ⟨X,3,none⟩=false:=Lib.frozen_of_heap HXi.out 3;go_wp2_with fail
   exact ⟨⟨4,by omega,rfl,rfl,Lib.hid (by rw [heap_setCell_same _ _ _ _ _ _ HXi.out];rfl),Lib.hid (HK.out.setCell (p:=⟨X,3,none⟩) (.inl rfl) _)⟩,by simp [intOf]⟩
  ·have HRi:=Lib.hid (HK.out.at HR2.out (fun e=>by have:=WX.out;omega))
   go_wp2_with (first
    | (refine wpList_load_row rfl 25 _ rfl X rfl 25 _ _ _ HX.out Tryz.underlying25 rfl Tryz.sizeU ?_)
    | (refine a0a (t:=25) (old:=u0) rfl 25 _ _ rfl R (dblA A B C F d0 d1 d2 d3 4) rfl rfl HRi.out Tryz.sizeU rfl (by simp [dblA,Value.oneCell']) ?_))
   intro wq hq5 kq5 zq5;have HQ5:=Lib.hid hq5;have HQ6:=Lib.hid (kq5.onto (HK.out.onto HB2.out (Nat.le_refl _) WX.out.1) (Nat.le_refl _) (by have:=WX.out;omega));clear hq5 kq5 zq5;go_wp2_with fail
   exact bodyPost_ret (a0R rfl _ _ R _ (dblA A B C F d0 d1 d2 d3 4) _ _ rfl HQ5.out Tryz.underlying25 rfl Tryz.sizeU _ rfl) rfl ⟨d0,d1,d2,d3,h3,rfl,HSUM.out.1,HSUM.out.2,HQ6.out⟩
end
end Go.Proofs.YtabminbgoclnkaaGreat
