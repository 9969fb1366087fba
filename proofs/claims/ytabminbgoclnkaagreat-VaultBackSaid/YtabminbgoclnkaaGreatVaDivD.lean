/- muldiv: the bits of a product, a bit more of a division (code). No condition. -/
import Derived.Test.YtabminbgoclnkaaGreatVa14
import Derived.Deep.Cut
namespace Go.Proofs.YtabminbgoclnkaaGreat
set_option maxHeartbeats 32000000
set_option maxRecDepth 100000
open Go.RowKit

theorem Tryz.eqWide (h0 h1 h2 h3 l0 l1 l2 l3:Int) (w:World):(Op.equalIn 10000 179 (.agg #[.int .u64 h0,.int .u64 h1,.int .u64 h2,.int .u64 h3,.int .u64 l0,.int .u64 l1,.int .u64 l2,.int .u64 l3]) (.agg #[.int .u64 0,.int .u64 0,.int .u64 0,.int .u64 0,.int .u64 0,.int .u64 0,.int .u64 0,.int .u64 0])).run Tryz.prog w = .ok (decide ([h0,h1,h2,h3] = [0,0,0,0]) && decide ([l0,l1,l2,l3] = [0,0,0,0])) w:=by
 obtain ⟨i,hi,_,hs,_⟩:=info_parts Tryz.infoU64;have hu:∀ a b c d:Int,(Op.equalIn 9999 25 (.agg #[.int .u64 a,.int .u64 b,.int .u64 c,.int .u64 d]) (.agg #[.int .u64 0,.int .u64 0,.int .u64 0,.int .u64 0])).run Tryz.prog w = .ok (decide ([a,b,c,d] = [0,0,0,0])) w:=fun a b c d=>c0A (P:=Tryz.prog) w 9997 25 23 .u64 4 Tryz.underlying25 Tryz.underlying23 i hi hs [a,b,c,d] [0,0,0,0] rfl rfl
 rw [show (10000 : Nat) = 9999 + 1 from rfl, run_equalIn_struct (P := Tryz.prog) w 9999 179 _ _ (by kernel_rfl) (by kernel_rfl)]; have hf : (Tryz.prog.fieldsOf 179).toList = [{ name := "High", type := 25, offset := 0, embedded := false, tag := "", pkgPath := "", byteOffset := 0 }, { name := "Low", type := 25, offset := 4, embedded := false, tag := "", pkgPath := "", byteOffset := 32 }] := by kernel_rfl
 rw [hf];have p1:∀ (x y z u p q r s:Int) w,(Go.part 25 #[.int .u64 x,.int .u64 y,.int .u64 z,.int .u64 u,.int .u64 p,.int .u64 q,.int .u64 r,.int .u64 s] 0).run Tryz.prog w = .ok (.agg #[.int .u64 x,.int .u64 y,.int .u64 z,.int .u64 u]) w:=fun x y z u p q r s w=>by kernel_rfl
 have p2:∀ (x y z u p q r s:Int) w,(Go.part 25 #[.int .u64 x,.int .u64 y,.int .u64 z,.int .u64 u,.int .u64 p,.int .u64 q,.int .u64 r,.int .u64 s] 4).run Tryz.prog w = .ok (.agg #[.int .u64 p,.int .u64 q,.int .u64 r,.int .u64 s]) w:=fun x y z u p q r s w=>by kernel_rfl
 simp only [Op.eqFields,ne_eq,String.reduceEq,not_false_eq_true,if_true,Sem.run_bind,p1,Result.andThen_ok,hu]
 by_cases h:[h0,h1,h2,h3] = [0,0,0,0]
 ·rw [decide_eq_true h];simp only [Bool.not_true,Bool.false_eq_true,if_false,Sem.run_bind,p2,Result.andThen_ok,hu]
  by_cases h':[l0,l1,l2,l3] = [0,0,0,0]
  ·rw [decide_eq_true h'];simp
  ·rw [decide_eq_false h'];simp
 ·rw [decide_eq_false h];simp

theorem l0m {h0 h1 h2 h3 l0 l1 l2 l3:Int} {H:Nat} (hhq:UIs h0 h1 h2 h3 H) (h0':H≠0) (w:World) :
  Calls Tryz.prog 177 #[.agg #[.int .u64 h0,.int .u64 h1,.int .u64 h2,.int .u64 h3,.int .u64 l0,.int .u64 l1,.int .u64 l2,.int .u64 l3]] w (Ret w (.int .i64 (256+(bitsN H:Int)))):=by
 have HU:=hh hhq;have e1:=Tryz.eqUn hhq UIs.zero;rw [decide_eq_false h0'] at e1;have e2:=Tryz.eqWide h0 h1 h2 h3 l0 l1 l2 l3;have hne:decide ([h0,h1,h2,h3] = [0,0,0,0])=false:=by
  apply decide_eq_false
  intro e;simp only [List.cons.injEq,and_true] at e;obtain ⟨rfl,rfl,rfl,rfl⟩:=e
  unfold UIs at hhq
  omega
 rw [hne,Bool.false_and] at e2;obtain ⟨bn,hbn⟩:=nm (bitsN H);have hb6:bn≤256:=by rw [hbn];exact d0N _ _ hhq.lt
 have HBN:=hh hbn;rw [← hbn];clear hhq h0' hne hbn
 go_enter Tryz.func177,Tryz.ntmps177
 go_wp2_with fail;obtain ⟨w1,hw1⟩:=nm (w.alloc (.cells #[.int .u64 h0,.int .u64 h1,.int .u64 h2,.int .u64 h3,.int .u64 l0,.int .u64 l1,.int .u64 l2,.int .u64 l3] 179));obtain ⟨X,hX⟩:=nm (w.heap.size);rw [← hw1,← hX];have HX:Hid (w1.heap[X]? = some (.cells #[.int .u64 h0,.int .u64 h1,.int .u64 h2,.int .u64 h3,.int .u64 l0,.int .u64 l1,.int .u64 l2,.int .u64 l3] 179 (0,0))):=hh (by rw [hw1,hX];exact heap_alloc_new _ _);have HB:Hid (Below w.heap.size w w1):=hh (by rw [hw1];exact a0c _ _);clear hw1 hX
 go_wp2_with (first
  | (refine lR HX Tryz.underlying179 Tryz.sizeWide ?_)
  | (refine wpList_load_mid rfl 25 _ rfl X 0 rfl [.int .u64 h0,.int .u64 h1,.int .u64 h2,.int .u64 h3] _ (a0m HX.out 0 _ rfl) Tryz.underlying25 rfl Tryz.sizeU ?_))
 clear e1 e2;refine (g0K HU.out _).mono ?_;rw [← HBN.out];rintro e a1 ⟨rfl,hb⟩;replace HB:=bT HB hb;clear hb;have hq:IntKind.i64.wrap (256+(bn:Int))=256+(bn:Int):=IntWalk.i64_in _ (by omega);go_wp2_with fail
 go_ret
 exact ⟨rfl,HB.out⟩
theorem l0P {h0 h1 h2 h3 l0 l1 l2 l3:Int} {H L i:Nat} (hhq:UIs h0 h1 h2 h3 H) (hl:UIs l0 l1 l2 l3 L) (hi:i < 512) {t:Nat} (ht:t=(H*uMax+L) / 2 ^ i % 2) (w:World) :
  Calls Tryz.prog 179 #[.agg #[.int .u64 h0,.int .u64 h1,.int .u64 h2,.int .u64 h3,.int .u64 l0,.int .u64 l1,.int .u64 l2,.int .u64 l3],.int .i64 (i:Int)] w (Ret w (.int .u64 (t:Int))):=by
 obtain ⟨E,he⟩:=nm (i % 64);have he64:E < 64:=by omega
 have q2:(i:Int) % 64=(E:Int):=by omega
 obtain ⟨pw,hpw⟩:∃ pw:Nat,pw=2 ^ E:=⟨_,rfl⟩;have q3:(2:Int) ^ E=(pw:Int):=by rw [hpw];simp
 by_cases hc:256≤i
 ·obtain ⟨K,hk⟩:=nm (i / 64 - 4);have hie:i=256+(64*K+E):=by omega
  obtain ⟨W,hW,hWb,hWt⟩:=h0c hhq (k:=K) (e:=E) (by omega) he64;have htt:t=W / 2 ^ E % 2:=by
   rw [hWt,ht,hie,Nat.pow_add,← Nat.div_div_eq_div_mul];have h9:=hl.lt;have h8:(H*uMax+L) / 2 ^ 256=H:=by
    rw [show (2:Nat) ^ 256=uMax from rfl,Nat.mul_comm,Nat.mul_add_div (by decide),Nat.div_eq_of_lt h9,Nat.add_zero]
   rw [h8]
  have hk4:K < 4:=by omega
  obtain ⟨yv,hy⟩:=nm (W / pw);have q4:(W:Int) / (pw:Int)=(yv:Int):=by rw [hy];simp
  have hyb:yv < 18446744073709551616:=by rw [hy];exact Nat.lt_of_le_of_lt (Nat.div_le_self _ _) hWb
  have q5:bits BinOp.and IntKind.u64 (yv:Int) 1=(t:Int):=by rw [h0H yv hyb,htt,← hpw,hy]
  have qk:(i:Int) / 64=(K:Int)+4:=by omega
  have HB:Hid (Below w.heap.size w w):=hh (Below.refl _ _);clear htt hWt hWb hy hyb hpw hie hhq hl hi he he64 hk ht
  rcases (show K=0∨K=1∨K=2∨K=3 by omega) with rfl | rfl | rfl | rfl
  ·have hc1:(i:Int) / 64=4:=by omega
   clear qk hk4;have hW2:h0=(W:Int):=hW;clear hW
   go_enter Tryz.func179,Tryz.ntmps179
   rw [hW2];have hcell:(w.alloc (.cells #[.int .u64 (W:Int),.int .u64 h1,.int .u64 h2,.int .u64 h3,.int .u64 l0,.int .u64 l1,.int .u64 l2,.int .u64 l3] 179)).cell? ⟨w.heap.size,0,none⟩=some (.int .u64 (W:Int)):=Lib.cell_of_heap (heap_alloc_new _ _) 0;go_wp2_with fail
   go_ret
   exact ⟨rfl,a0c _ _⟩
  ·have hc1:(i:Int) / 64=5:=by omega
   clear qk hk4;have hW2:h1=(W:Int):=hW;clear hW
   go_enter Tryz.func179,Tryz.ntmps179
   rw [hW2];have hcell:(w.alloc (.cells #[.int .u64 h0,.int .u64 (W:Int),.int .u64 h2,.int .u64 h3,.int .u64 l0,.int .u64 l1,.int .u64 l2,.int .u64 l3] 179)).cell? ⟨w.heap.size,1,none⟩=some (.int .u64 (W:Int)):=Lib.cell_of_heap (heap_alloc_new _ _) 1;go_wp2_with fail
   go_ret
   exact ⟨rfl,a0c _ _⟩
  ·have hc1:(i:Int) / 64=6:=by omega
   clear qk hk4;have hW2:h2=(W:Int):=hW;clear hW
   go_enter Tryz.func179,Tryz.ntmps179
   rw [hW2];have hcell:(w.alloc (.cells #[.int .u64 h0,.int .u64 h1,.int .u64 (W:Int),.int .u64 h3,.int .u64 l0,.int .u64 l1,.int .u64 l2,.int .u64 l3] 179)).cell? ⟨w.heap.size,2,none⟩=some (.int .u64 (W:Int)):=Lib.cell_of_heap (heap_alloc_new _ _) 2;go_wp2_with fail
   go_ret
   exact ⟨rfl,a0c _ _⟩
  ·have hc1:(i:Int) / 64=7:=by omega
   clear qk hk4;have hW2:h3=(W:Int):=hW;clear hW
   go_enter Tryz.func179,Tryz.ntmps179
   rw [hW2];have hcell:(w.alloc (.cells #[.int .u64 h0,.int .u64 h1,.int .u64 h2,.int .u64 (W:Int),.int .u64 l0,.int .u64 l1,.int .u64 l2,.int .u64 l3] 179)).cell? ⟨w.heap.size,3,none⟩=some (.int .u64 (W:Int)):=Lib.cell_of_heap (heap_alloc_new _ _) 3;go_wp2_with fail
   go_ret
   exact ⟨rfl,a0c _ _⟩
 ·obtain ⟨K,hk⟩:=nm (i / 64);have hie:i=64*K+E:=by omega
  obtain ⟨W,hW,hWb,hWt⟩:=h0c hl (k:=K) (e:=E) (by omega) he64;have htt:t=W / 2 ^ E % 2:=by
   rw [hWt,ht,← hie];have h7:uMax=2 ^ i*(2*2 ^ (256 - i - 1)):=by
    rw [show uMax=2 ^ 256 from rfl,← Nat.pow_succ',← Nat.pow_add,show i+(256 - i - 1).succ=256 by omega]
   rw [h7,Nat.mul_left_comm,Nat.mul_add_div (Nat.pow_pos (by omega)),Nat.mul_left_comm,Nat.mul_add_mod]
  have hk4:K < 4:=by omega
  obtain ⟨yv,hy⟩:=nm (W / pw);have q4:(W:Int) / (pw:Int)=(yv:Int):=by rw [hy];simp
  have hyb:yv < 18446744073709551616:=by rw [hy];exact Nat.lt_of_le_of_lt (Nat.div_le_self _ _) hWb
  have q5:bits BinOp.and IntKind.u64 (yv:Int) 1=(t:Int):=by rw [h0H yv hyb,htt,← hpw,hy]
  have qk:(i:Int) / 64=(K:Int):=by omega
  have HB:Hid (Below w.heap.size w w):=hh (Below.refl _ _);clear htt hWt hWb hy hyb hpw hie hhq hl hi he he64 hk ht
  rcases (show K=0∨K=1∨K=2∨K=3 by omega) with rfl | rfl | rfl | rfl
  ·have hc1:(i:Int) / 64=0:=by omega
   clear qk hk4;have hW2:l0=(W:Int):=hW;clear hW
   go_enter Tryz.func179,Tryz.ntmps179
   rw [hW2];have hcell:(w.alloc (.cells #[.int .u64 h0,.int .u64 h1,.int .u64 h2,.int .u64 h3,.int .u64 (W:Int),.int .u64 l1,.int .u64 l2,.int .u64 l3] 179)).cell? ⟨w.heap.size,4,none⟩=some (.int .u64 (W:Int)):=Lib.cell_of_heap (heap_alloc_new _ _) 4;go_wp2_with fail
   go_ret
   exact ⟨rfl,a0c _ _⟩
  ·have hc1:(i:Int) / 64=1:=by omega
   clear qk hk4;have hW2:l1=(W:Int):=hW;clear hW
   go_enter Tryz.func179,Tryz.ntmps179
   rw [hW2];have hcell:(w.alloc (.cells #[.int .u64 h0,.int .u64 h1,.int .u64 h2,.int .u64 h3,.int .u64 l0,.int .u64 (W:Int),.int .u64 l2,.int .u64 l3] 179)).cell? ⟨w.heap.size,5,none⟩=some (.int .u64 (W:Int)):=Lib.cell_of_heap (heap_alloc_new _ _) 5;go_wp2_with fail
   go_ret
   exact ⟨rfl,a0c _ _⟩
  ·have hc1:(i:Int) / 64=2:=by omega
   clear qk hk4;have hW2:l2=(W:Int):=hW;clear hW
   go_enter Tryz.func179,Tryz.ntmps179
   rw [hW2];have hcell:(w.alloc (.cells #[.int .u64 h0,.int .u64 h1,.int .u64 h2,.int .u64 h3,.int .u64 l0,.int .u64 l1,.int .u64 (W:Int),.int .u64 l3] 179)).cell? ⟨w.heap.size,6,none⟩=some (.int .u64 (W:Int)):=Lib.cell_of_heap (heap_alloc_new _ _) 6;go_wp2_with fail
   go_ret
   exact ⟨rfl,a0c _ _⟩
  ·have hc1:(i:Int) / 64=3:=by omega
   clear qk hk4;have hW2:l3=(W:Int):=hW;clear hW
   go_enter Tryz.func179,Tryz.ntmps179
   rw [hW2];have hcell:(w.alloc (.cells #[.int .u64 h0,.int .u64 h1,.int .u64 h2,.int .u64 h3,.int .u64 l0,.int .u64 l1,.int .u64 l2,.int .u64 (W:Int)] 179)).cell? ⟨w.heap.size,7,none⟩=some (.int .u64 (W:Int)):=Lib.cell_of_heap (heap_alloc_new _ _) 7;go_wp2_with fail
   go_ret
   exact ⟨rfl,a0c _ _⟩

def tkA (A0 A1 A2 A3 d0 d1 d2 d3 o:Nat):Nat→Array Value
 | 4=>#[.int .u64 (A0:Int),.int .u64 (A1:Int),.int .u64 (A2:Int),.int .u64 (A3:Int),.int .u64 (o:Int)]
 | 3=>#[.int .u64 (A0:Int),.int .u64 (A1:Int),.int .u64 (A2:Int),.int .u64 (d3:Int),.int .u64 (o:Int)]
 | 2=>#[.int .u64 (A0:Int),.int .u64 (A1:Int),.int .u64 (d2:Int),.int .u64 (d3:Int),.int .u64 (o:Int)]
 | 1=>#[.int .u64 (A0:Int),.int .u64 (d1:Int),.int .u64 (d2:Int),.int .u64 (d3:Int),.int .u64 (o:Int)]
 | _=>#[.int .u64 (d0:Int),.int .u64 (d1:Int),.int .u64 (d2:Int),.int .u64 (d3:Int),.int .u64 (o:Int)]
def tkS (A0 A1 A2 A3 s0 s1 s2 s3 o:Nat):Nat→Array Value
 | 0=>#[.int .u64 (A0:Int),.int .u64 (A1:Int),.int .u64 (A2:Int),.int .u64 (A3:Int),.int .u64 (o:Int)]
 | 1=>#[.int .u64 (s0:Int),.int .u64 (A1:Int),.int .u64 (A2:Int),.int .u64 (A3:Int),.int .u64 (o:Int)]
 | 2=>#[.int .u64 (s0:Int),.int .u64 (s1:Int),.int .u64 (A2:Int),.int .u64 (A3:Int),.int .u64 (o:Int)]
 | 3=>#[.int .u64 (s0:Int),.int .u64 (s1:Int),.int .u64 (s2:Int),.int .u64 (A3:Int),.int .u64 (o:Int)]
 | _=>#[.int .u64 (s0:Int),.int .u64 (s1:Int),.int .u64 (s2:Int),.int .u64 (s3:Int),.int .u64 (o:Int)]
def TakeRet (w:World) (G:Nat) (v:Nat) (q:Bool) (e:Ending) (w':World):Prop:=∃ a b c f o:Int,e = .returned (.bool q)∧UIs a b c f v∧w'.heap[G]? = some (.cells #[.int .u64 a,.int .u64 b,.int .u64 c,.int .u64 f,.int .u64 o] 194 (0,0))∧Keep (· = G) w w'
theorem m0b {a b c f o a' b' c' f':Int} {r d t:Nat} (h:UIs a b c f r) (h':UIs a' b' c' f' d) (hr:r < d) (ht:t < 2) {w:World} {G:Nat} (hG:w.heap[G]? = some (.cells #[.int .u64 a,.int .u64 b,.int .u64 c,.int .u64 f,.int .u64 o] 194 (0,0))) :
  Calls Tryz.prog 178 #[.pointer (some ⟨G,0,none⟩),.int .u64 (t:Int),.agg #[.int .u64 a',.int .u64 b',.int .u64 c',.int .u64 f']] w (TakeRet w G (if 2*r+t < d then 2*r+t else 2*r+t - d) (decide (d≤2*r+t))):=by
 have HDU:=hh h';obtain ⟨rv,hrv⟩:=nm (if 2*r+t < d then 2*r+t else 2*r+t - d);obtain ⟨bq,hbq⟩:=nm (decide (d≤2*r+t));rw [← hrv,← hbq];have HRV:=hh hrv;have HBQ:=hh hbq;clear hrv hbq;obtain ⟨A0,A1,A2,A3,rfl,rfl,rfl,rfl,hA,hB,hC,hF,hrn⟩:=h.nats;obtain ⟨B0,B1,B2,B3,rfl,rfl,rfl,rfl,hb0,hb1,hb2,hb3,hdn⟩:=h'.nats;obtain ⟨h0,hh0⟩:=nm (A0 / 9223372036854775808);obtain ⟨m0,hm0⟩:=nm (2*A0 % 18446744073709551616);obtain ⟨d0,hd0⟩:=nm (m0+t);have y0:IntKind.u64.wrap ((A0:Int)*2)=(m0:Int):=by rw [IntKind.wrap_u64];omega
 have o0:bits BinOp.or IntKind.u64 (m0:Int) (t:Int)=(d0:Int):=by
  have h:=d0e (A0 % 9223372036854775808) t (Nat.mod_lt _ (by decide)) (by omega);rw [show 2*(A0 % 9223372036854775808)=m0 by omega] at h;rw [hd0];exact h
 have z0:(A0:Int) / 9223372036854775808=(h0:Int):=by omega
 obtain ⟨h1,hh1⟩:=nm (A1 / 9223372036854775808);obtain ⟨m1,hm1⟩:=nm (2*A1 % 18446744073709551616);obtain ⟨d1,hd1⟩:=nm (m1+h0);have y1:IntKind.u64.wrap ((A1:Int)*2)=(m1:Int):=by rw [IntKind.wrap_u64];omega
 have o1:bits BinOp.or IntKind.u64 (m1:Int) (h0:Int)=(d1:Int):=by
  have h:=d0e (A1 % 9223372036854775808) h0 (Nat.mod_lt _ (by decide)) (by omega);rw [show 2*(A1 % 9223372036854775808)=m1 by omega] at h;rw [hd1];exact h
 have z1:(A1:Int) / 9223372036854775808=(h1:Int):=by omega
 obtain ⟨h2,hh2⟩:=nm (A2 / 9223372036854775808);obtain ⟨m2,hm2⟩:=nm (2*A2 % 18446744073709551616);obtain ⟨d2,hd2⟩:=nm (m2+h1);have y2:IntKind.u64.wrap ((A2:Int)*2)=(m2:Int):=by rw [IntKind.wrap_u64];omega
 have o2:bits BinOp.or IntKind.u64 (m2:Int) (h1:Int)=(d2:Int):=by
  have h:=d0e (A2 % 9223372036854775808) h1 (Nat.mod_lt _ (by decide)) (by omega);rw [show 2*(A2 % 9223372036854775808)=m2 by omega] at h;rw [hd2];exact h
 have z2:(A2:Int) / 9223372036854775808=(h2:Int):=by omega
 obtain ⟨h3,hh3⟩:=nm (A3 / 9223372036854775808);obtain ⟨m3,hm3⟩:=nm (2*A3 % 18446744073709551616);obtain ⟨d3,hd3⟩:=nm (m3+h2);have y3:IntKind.u64.wrap ((A3:Int)*2)=(m3:Int):=by rw [IntKind.wrap_u64];omega
 have o3:bits BinOp.or IntKind.u64 (m3:Int) (h2:Int)=(d3:Int):=by
  have h:=d0e (A3 % 9223372036854775808) h2 (Nat.mod_lt _ (by decide)) (by omega);rw [show 2*(A3 % 9223372036854775808)=m3 by omega] at h;rw [hd3];exact h
 have z3:(A3:Int) / 9223372036854775808=(h3:Int):=by omega
 obtain ⟨vq,hvq⟩:=nm (d0+d1*18446744073709551616+d2*340282366920938463463374607431768211456+d3*6277101735386680763835789423207666416102355444464034512896);have hsum:2*r+t=vq+h3*115792089237316195423570985008687907853269984665640564039457584007913129639936:=by
  rw [hrn,hvq,j0R,← hm0,← hm1,← hm2,← hm3,← hh0,← hh1,← hh2,← hh3,← hd0,← hd1,← hd2,← hd3]
 have hd0b:d0 < 18446744073709551616:=by omega
 have hd1b:d1 < 18446744073709551616:=by omega
 have hd2b:d2 < 18446744073709551616:=by omega
 have hd3b:d3 < 18446744073709551616:=by omega
 have HVU:Hid (UIs (d0:Int) d1 d2 d3 vq):=hh (UIs.of_nats hd0b hd1b hd2b hd3b hvq);obtain ⟨s0,k0,hs0,hk0,x0⟩:=a0T hd0b hb0 (Nat.zero_le 1);obtain ⟨s1,k1,hs1,hk1,x1⟩:=a0T hd1b hb1 hk0;obtain ⟨s2,k2,hs2,hk2,x2⟩:=a0T hd2b hb2 hk1;obtain ⟨s3,k3,hs3,hk3,x3⟩:=a0T hd3b hb3 hk2;have hro:=j0N hr ht (by rw [hdn];unfold uMax;omega) hsum HVU.out.lt;have HRO:=hh hro;have HSM:=hh hsum;have HE0:=hh (And.intro hd0b (And.intro hb0 (And.intro hs0 x0)));have HE1:=hh (And.intro hd1b (And.intro hb1 (And.intro hs1 (And.intro hk0 x1))));have HE2:=hh (And.intro hd2b (And.intro hb2 (And.intro hs2 (And.intro hk1 x2))));have HE3:=hh (And.intro hd3b (And.intro hb3 (And.intro hs3 (And.intro hk2 x3))));have HFIN:Hid (d≤2*r+t→UIs s0 s1 s2 s3 (2*r+t - d)):=hh (fun hge=>by
  refine UIs.of_nats hs0 hs1 hs2 hs3 ?_;have h9:=f0s x0 x1 x2 x3;rw [← hvq,← hdn] at h9;have h8:=i0I hs0 hs1 hs2 hs3;have h7:=HVU.out.lt;have h6:=HDU.out.lt;obtain ⟨S,hS⟩:=nm (s0+s1*18446744073709551616+s2*340282366920938463463374607431768211456+s3*6277101735386680763835789423207666416102355444464034512896);rw [← hS] at h9 h8 ⊢;clear hS hrn hdn hvq x0 x1 x2 x3 hA hB hC hF hb0 hb1 hb2 hb3 hd0b hd1b hd2b hd3b hs0 hs1 hs2 hs3
  rcases hro with ⟨e1,e2⟩ | ⟨e1,e2,e3⟩
  ·subst e1;have h5:=h0C h9 hk3 h8 (by omega) h7
   omega
  ·subst e1;have h5:=e0g h9 hk3 h8 e2
   omega)
 have HG:=hh hG;have HB:Hid (Keep (· = G) w w):=hh (Keep.refl _ _);have HGW:Hid (G < w.heap.size):=hh (a0e hG);clear h h' hr ht hA hB hC hF hb0 hb1 hb2 hb3 hrn hdn hd0b hd1b hd2b hd3b hs0 hs1 hs2 hs3 hk0 hk1 hk2 hk3 x0 x1 x2 x3 hvq hsum hro hG hh0 hh1 hh2 hh3 hm0 hm1 hm2 hm3 hd0 hd1 hd2 hd3;have hal:(w.alloc (.cells #[.int .u64 (B0:Int),.int .u64 (B1:Int),.int .u64 (B2:Int),.int .u64 (B3:Int)] 25)).heap[G]? = some (.cells #[.int .u64 (A0:Int),.int .u64 (A1:Int),.int .u64 (A2:Int),.int .u64 (A3:Int),.int .u64 o] 194 (0,0)):=a0d (a0c _ _) HG.out;have g3:(w.alloc (.cells #[.int .u64 (B0:Int),.int .u64 (B1:Int),.int .u64 (B2:Int),.int .u64 (B3:Int)] 25)).cell? ⟨G,3,none⟩=some (.int .u64 (A3:Int)):=Lib.cell_of_heap hal 3;have g4:(w.alloc (.cells #[.int .u64 (B0:Int),.int .u64 (B1:Int),.int .u64 (B2:Int),.int .u64 (B3:Int)] 25)).cell? ⟨G,4,none⟩=some (.int .u64 o):=Lib.cell_of_heap hal 4;have f4:(w.alloc (.cells #[.int .u64 (B0:Int),.int .u64 (B1:Int),.int .u64 (B2:Int),.int .u64 (B3:Int)] 25)).frozen? ⟨G,4,none⟩=false:=Lib.frozen_of_heap hal 4;clear hal
 go_enter Tryz.func178,Tryz.ntmps178
 go_wp2_with fail;obtain ⟨w1,hw1⟩:=nm ((w.alloc (.cells #[.int .u64 (B0:Int),.int .u64 (B1:Int),.int .u64 (B2:Int),.int .u64 (B3:Int)] 25)).setCell ⟨G,4,none⟩ (.int .u64 (h3:Int)));obtain ⟨Y,hY⟩:=nm (w.heap.size);rw [← hw1,← hY];have HG1:Hid (w1.heap[G]? = some (.cells (tkA A0 A1 A2 A3 d0 d1 d2 d3 h3 4) 194 (0,0))):=hh (by rw [hw1,heap_setCell_same _ _ _ _ _ _ (a0d (a0c _ _) HG.out)];rfl);have HY1:Hid (w1.heap[Y]? = some (.cells #[.int .u64 (B0:Int),.int .u64 (B1:Int),.int .u64 (B2:Int),.int .u64 (B3:Int)] 25 (0,0))):=hh (by rw [hw1,heap_setCell_other _ _ _ _ (fun e=>by have h9:=HGW.out;rw [hY] at e;simp at e;omega),hY];exact heap_alloc_new _ _);have HB1:Hid (Keep (· = G) w w1):=hh (by rw [hw1];exact Keep.setCell (S:=(· = G)) (p:=⟨G,4,none⟩) ((Keep.refl _ w).alloc _) (.inl rfl) _);have HGY:Hid (G≠Y):=hh (by have h9:=HGW.out;omega);clear hw1 hY HG HB g3 g4 f4
 go_loopw [7] (fun vi wr=>∃ i:Nat,vi = .int .i64 i∧i≤3∧Hid (wr.heap[G]? = some (.cells (tkA A0 A1 A2 A3 d0 d1 d2 d3 h3 (i+1)) 194 (0,0)))∧Hid (wr.heap[Y]? = some (.cells #[.int .u64 (B0:Int),.int .u64 (B1:Int),.int .u64 (B2:Int),.int .u64 (B3:Int)] 25 (0,0)))∧Hid (Keep (· = G) w wr)) (fun vi _=>(intOf vi).toNat)
 case atStart=>exact ⟨3,rfl,by omega,HG1,HY1,HB1⟩
 case round=>
  clear HG1 HY1 HB1;obtain ⟨i,rfl,hi,HG,HY,HB⟩:=hrel
  rcases (show i=0∨i=1∨i=2∨i=3 by omega) with rfl | rfl | rfl | rfl
  ·rw [show ((0:Nat):Int)=0 from rfl];have HGd:Hid (wr.drew.heap[G]? = _):=HG;have HYd:Hid (wr.drew.heap[Y]? = _):=HY;have HBd:=hh HB.out.drew;have hS:wr.drew.cell? ⟨G,0,none⟩=some (.int .u64 (A0:Int)):=Lib.cell_of_heap HGd.out 0;clear HG HY HB hi;go_wp2_with fail;refine a0b (fun w'=>w'.cell? ⟨G,0,none⟩=some (.int .u64 (A0:Int))) 12 13 (by kernel_rfl) rfl ?_;refine tA1 0 44 hS ?_;go_frame;refine tA1 1 45 hS ?_;go_frame;refine tA1 2 46 hS ?_;go_frame;refine tA1 3 47 hS ?_;go_frame;refine tA1 4 48 hS ?_;go_frame;refine tk 5 (some 49) rfl rfl (.inl ⟨by rfl,fun w' hS'=>(by have hc1:=hS';go_simp;rfl)⟩) hS ?_;go_frame;refine tA1 6 50 hS ?_;go_frame;refine tA1 7 51 hS ?_;go_frame;refine tA1 8 52 hS ?_;go_frame;refine tA1 9 53 hS ?_;go_frame;refine tA1 10 54 hS ?_;go_frame;refine tA1 11 55 hS ?_;go_frame;refine t1 12 fun K hK=>?_
   simp only [gA,jB,gC];refine a0h 23 _ _ rfl G 0 (.int .u64 (d0:Int)) rfl rfl rfl rfl 194 (tkA A0 A1 A2 A3 d0 d1 d2 d3 h3 1) HGd.out Tryz.sizeU64 (by simp [tkA]) (tkA A0 A1 A2 A3 d0 d1 d2 d3 h3 0) (by simp [tkA]) ?_;intro w8 hx8 k8 _;have HG8:=hh hx8;have HY8:=kb1 k8 HYd HGY;have HB8:=hh (HBd.out.then k8 fun x h=>.inl h);refine hK _ _ (fun h=>absurd rfl h) ?_;clear hK hS hx8 k8;refine tD ?_;have HG:Hid (w8.heap[G]? = some (.cells #[.int .u64 (d0:Int),.int .u64 (d1:Int),.int .u64 (d2:Int),.int .u64 (d3:Int),.int .u64 (h3:Int)] 194 (0,0))):=HG8;have HY:=HY8;have HB:=HB8;clear HG8 HY8 HB8 HGd HYd HBd y0 y1 y2 y3 o0 o1 o2 o3 z0 z1 z2 z3
   rcases HRO.out with ⟨h30,hiff⟩ | ⟨h31,hvd,hge⟩
   ·have HIF:=hh hiff;have h3z:((h3:Int) == 0)=true:=by simp;omega
    have H30:=hh h30;clear hiff h30;obtain ⟨cv,hcv⟩:=nm (cmpW vq d);have HCV:=hh hcv;clear hcv;go_wp2_with fail;obtain ⟨e1,hwz,hbz⟩:=dr w8;replace HB:=hh (HB.out.then_below hbz);replace HG:=bA hbz HG;replace HY:=bA hbz HY;clear hbz;refine rg2 14 14 hwz HG HY fun hS=>?_
    clear hwz;refine tA1 0 56 hS ?_;go_frame;refine tA1 1 57 hS ?_;go_frame;refine tA1 2 58 hS ?_;go_frame;refine tk 3 (some 59) rfl rfl (.inl ⟨by rfl,fun w' hS'=>(by have hc:w'.cell? ⟨G,4,none⟩=some (.int .u64 (h3:Int)):=Lib.cell_of_heap (hS'.1) 4;go_simp;rfl)⟩) hS ?_;go_frame;refine tA1 4 60 hS ?_;go_frame;refine tA1 5 61 hS ?_;go_frame;refine tA1 6 62 hS ?_;go_frame;refine tA1 7 63 hS ?_;go_frame;refine tA1 8 64 hS ?_;go_frame;refine tk 9 (some 65) rfl rfl (a0E (by rfl) 25 _ rfl (.pointer (some ⟨G,0,none⟩)) rfl (.agg #[.int .u64 (d0:Int),.int .u64 (d1:Int),.int .u64 (d2:Int),.int .u64 (d3:Int)]) (fun w' hS'=>run_loadAt_mid w' G 0 25 [.int .u64 (d0:Int),.int .u64 (d1:Int),.int .u64 (d2:Int),.int .u64 (d3:Int)] _ (a0m (hS'.1) 0 _ rfl) Tryz.underlying25 rfl Tryz.sizeU)) hS ?_;go_frame;refine tl 10 (some 66) (fun _ h=>h.2) Tryz.underlying25 Tryz.sizeU hS ?_;go_frame;refine t1 11 fun K hK=>?_
    simp only [gA,jB,gC];go_simp;refine (c0w HVU.out HDU.out _).mono ?_;rw [← HCV.out];rintro e e2 ⟨rfl,hb⟩;replace HB:=hh (HB.out.then_below hb);replace HG:=bA hb HG;replace HY:=bA hb HY;clear hb;replace hS:=And.intro HG.out HY.out;refine hK _ _ (fun _ _=>hS) ?_;clear hK;refine tA1 12 68 hS ?_;go_frame;refine tA1 13 69 hS ?_;go_frame;refine tD ?_;clear hS
    by_cases hlt:cv < 0
    ·have HLT:Hid (vq < d):=hh ((c0g vq d).1 (by rw [← HCV.out];exact hlt));have hlt2:decide (cv < 0)=true:=decide_eq_true hlt;have HRT:Hid (2*r+t < d):=hh (HIF.out.2 HLT.out);clear h3z;go_wp2_with fail
     go_ret
     exact ⟨_,_,_,_,_,by rw [HBQ.out,decide_eq_false (p:=d≤2*r+t) (by have:=HRT.out;omega)];rfl,by rw [HRV.out,if_pos HRT.out];have h9:=HSM.out;rw [H30.out,Nat.zero_mul,Nat.add_zero] at h9;rw [h9];exact HVU.out,HG.out,HB.out⟩
    ·have HGE:Hid (d≤2*r+t):=hh (by
      have h9:=HIF.out
      apply Nat.le_of_not_lt
      intro h8
      exact hlt (by rw [HCV.out];exact (c0g vq d).2 (h9.1 h8)))
     have hlt2:decide (cv < 0)=false:=decide_eq_false hlt;clear h3z;go_wp2_with fail;clear hlt hlt2
     go_loopw [8,70] (fun vc vi wr=>∃ i:Nat,vi = .int .i64 i∧i≤4∧vc = .int .u64 (kAt k0 k1 k2 k3 i)∧Hid (wr.heap[G]? = some (.cells (tkS d0 d1 d2 d3 s0 s1 s2 s3 h3 i) 194 (0,0)))∧Hid (wr.heap[Y]? = some (.cells #[.int .u64 (B0:Int),.int .u64 (B1:Int),.int .u64 (B2:Int),.int .u64 (B3:Int)] 25 (0,0)))∧Hid (Keep (· = G) w wr)) (fun _ vi _=>4 - (intOf vi).toNat)
     case atStart=>exact ⟨0,rfl,by omega,rfl,HG,HY,HB⟩
     case round=>
      clear HG HY HB;obtain ⟨i,rfl,hi,rfl,HG,HY,HB⟩:=hrel
      by_cases hlt:i < 4
      ·rcases (show i=0∨i=1∨i=2∨i=3 by omega) with rfl | rfl | rfl | rfl
       ·have HGd:Hid (wr.drew.heap[G]? = _):=HG;have HYd:Hid (wr.drew.heap[Y]? = _):=HY;have HBd:=hh HB.out.drew;have hS:wr.drew.cell? ⟨G,0,none⟩=some (.int .u64 (d0:Int))∧wr.drew.cell? ⟨Y,0,none⟩=some (.int .u64 (B0:Int)):=⟨Lib.cell_of_heap HGd.out 0,Lib.cell_of_heap HYd.out 0⟩;rw [show kAt k0 k1 k2 k3 0=0 from rfl];clear HG HY HB hi hlt;go_wp2_with fail;refine a0b (fun w'=>w'.cell? ⟨G,0,none⟩=some (.int .u64 (d0:Int))∧w'.cell? ⟨Y,0,none⟩=some (.int .u64 (B0:Int))) 19 21 (by kernel_rfl) rfl ?_;refine tA1 0 74 hS ?_;go_frame;refine tA1 1 75 hS ?_;go_frame;refine tA1 2 76 hS ?_;go_frame;refine tA1 3 77 hS ?_;go_frame;refine tA1 4 78 hS ?_;go_frame;refine tA1 5 79 hS ?_;go_frame;refine tA1 6 80 hS ?_;go_frame;refine tk 7 (some 81) rfl rfl (.inl ⟨by rfl,fun w' hS'=>(by obtain ⟨hc1,hc2⟩:=hS';go_simp;rfl)⟩) hS ?_;go_frame;refine tA1 8 82 hS ?_;go_frame;refine tA1 9 83 hS ?_;go_frame;refine tk 10 (some 84) rfl rfl (.inl ⟨by rfl,fun w' hS'=>(by obtain ⟨hc1,hc2⟩:=hS';go_simp;rfl)⟩) hS ?_;go_frame;refine tA1 11 85 hS ?_;go_frame;refine tA1 16 89 hS ?_;go_frame;refine tA1 17 90 hS ?_;go_frame;refine t1 12 fun K hK=>?_
        simp only [gA,jB,gC];go_simp;refine (a0x HE0.out.1 HE0.out.2.1 (Nat.zero_le 1) HE0.out.2.2.1 HE0.out.2.2.2 _).mono ?_;rintro e wc ⟨rfl,rfl⟩;refine hK _ _ (fun _ _=>hS) ?_;clear hK;refine tA1 13 73 hS ?_;go_frame;refine tA1 14 87 hS ?_;go_frame;refine a0p 15 (some 88) rfl rfl (by kernel_rfl) (by kernel_rfl) (by kernel_rfl) (by kernel_rfl) (by decide) (fun _ _ _ h=>h) (.inl ⟨by rfl,fun w' _=>(by go_simp;rfl)⟩) (fun _=>hS) ?_;go_frame;refine tA1 18 91 hS ?_;go_frame;refine t1 19 fun K hK=>?_
        simp only [gA,jB,gC];refine a0h 23 _ _ rfl G 0 (.int .u64 (s0:Int)) rfl rfl rfl rfl 194 (tkS d0 d1 d2 d3 s0 s1 s2 s3 h3 0) HGd.out Tryz.sizeU64 (by simp [tkS]) (tkS d0 d1 d2 d3 s0 s1 s2 s3 h3 1) (by simp [tkS]) ?_;intro w8 hx8 k8 _;have HG8:=hh hx8;have HY8:=kb1 k8 HYd HGY;have HB8:=hh (HBd.out.then k8 fun x h=>.inl h);refine hK _ _ (fun h=>absurd rfl h) ?_;clear hK hS hx8 k8;refine a0p 20 (some 8) rfl rfl (by kernel_rfl) (by kernel_rfl) (by kernel_rfl) (by kernel_rfl) (by decide) (fun _ _ _ h=>h) (.inl ⟨by rfl,fun w' _=>(by go_simp;rfl)⟩) (fun h=>absurd h (by decide)) ?_;go_frame;refine tD ?_;go_wp2_with fail
        go_roundw
        case rel=>exact ⟨1,by go_num,by omega,rfl,HG8,HY8,HB8⟩
        case measure=>simp [intOf]
       ·have HGd:Hid (wr.drew.heap[G]? = _):=HG;have HYd:Hid (wr.drew.heap[Y]? = _):=HY;have HBd:=hh HB.out.drew;have hS:wr.drew.cell? ⟨G,1,none⟩=some (.int .u64 (d1:Int))∧wr.drew.cell? ⟨Y,1,none⟩=some (.int .u64 (B1:Int)):=⟨Lib.cell_of_heap HGd.out 1,Lib.cell_of_heap HYd.out 1⟩;rw [show kAt k0 k1 k2 k3 1=k0 from rfl];clear HG HY HB hi hlt;go_wp2_with fail;refine a0b (fun w'=>w'.cell? ⟨G,1,none⟩=some (.int .u64 (d1:Int))∧w'.cell? ⟨Y,1,none⟩=some (.int .u64 (B1:Int))) 19 21 (by kernel_rfl) rfl ?_;refine tA1 0 74 hS ?_;go_frame;refine tA1 1 75 hS ?_;go_frame;refine tA1 2 76 hS ?_;go_frame;refine tA1 3 77 hS ?_;go_frame;refine tA1 4 78 hS ?_;go_frame;refine tA1 5 79 hS ?_;go_frame;refine tA1 6 80 hS ?_;go_frame;refine tk 7 (some 81) rfl rfl (.inl ⟨by rfl,fun w' hS'=>(by obtain ⟨hc1,hc2⟩:=hS';go_simp;rfl)⟩) hS ?_;go_frame;refine tA1 8 82 hS ?_;go_frame;refine tA1 9 83 hS ?_;go_frame;refine tk 10 (some 84) rfl rfl (.inl ⟨by rfl,fun w' hS'=>(by obtain ⟨hc1,hc2⟩:=hS';go_simp;rfl)⟩) hS ?_;go_frame;refine tA1 11 85 hS ?_;go_frame;refine tA1 16 89 hS ?_;go_frame;refine tA1 17 90 hS ?_;go_frame;refine t1 12 fun K hK=>?_
        simp only [gA,jB,gC];go_simp;refine (a0x HE1.out.1 HE1.out.2.1 HE1.out.2.2.2.1 HE1.out.2.2.1 HE1.out.2.2.2.2 _).mono ?_;rintro e wc ⟨rfl,rfl⟩;refine hK _ _ (fun _ _=>hS) ?_;clear hK;refine tA1 13 73 hS ?_;go_frame;refine tA1 14 87 hS ?_;go_frame;refine a0p 15 (some 88) rfl rfl (by kernel_rfl) (by kernel_rfl) (by kernel_rfl) (by kernel_rfl) (by decide) (fun _ _ _ h=>h) (.inl ⟨by rfl,fun w' _=>(by go_simp;rfl)⟩) (fun _=>hS) ?_;go_frame;refine tA1 18 91 hS ?_;go_frame;refine t1 19 fun K hK=>?_
        simp only [gA,jB,gC];refine a0h 23 _ _ rfl G 1 (.int .u64 (s1:Int)) rfl rfl rfl rfl 194 (tkS d0 d1 d2 d3 s0 s1 s2 s3 h3 1) HGd.out Tryz.sizeU64 (by simp [tkS]) (tkS d0 d1 d2 d3 s0 s1 s2 s3 h3 2) (by simp [tkS]) ?_;intro w8 hx8 k8 _;have HG8:=hh hx8;have HY8:=kb1 k8 HYd HGY;have HB8:=hh (HBd.out.then k8 fun x h=>.inl h);refine hK _ _ (fun h=>absurd rfl h) ?_;clear hK hS hx8 k8;refine a0p 20 (some 8) rfl rfl (by kernel_rfl) (by kernel_rfl) (by kernel_rfl) (by kernel_rfl) (by decide) (fun _ _ _ h=>h) (.inl ⟨by rfl,fun w' _=>(by go_simp;rfl)⟩) (fun h=>absurd h (by decide)) ?_;go_frame;refine tD ?_;go_wp2_with fail
        go_roundw
        case rel=>exact ⟨2,by go_num,by omega,rfl,HG8,HY8,HB8⟩
        case measure=>simp [intOf]
       ·have HGd:Hid (wr.drew.heap[G]? = _):=HG;have HYd:Hid (wr.drew.heap[Y]? = _):=HY;have HBd:=hh HB.out.drew;have hS:wr.drew.cell? ⟨G,2,none⟩=some (.int .u64 (d2:Int))∧wr.drew.cell? ⟨Y,2,none⟩=some (.int .u64 (B2:Int)):=⟨Lib.cell_of_heap HGd.out 2,Lib.cell_of_heap HYd.out 2⟩;rw [show kAt k0 k1 k2 k3 2=k1 from rfl];clear HG HY HB hi hlt;go_wp2_with fail;refine a0b (fun w'=>w'.cell? ⟨G,2,none⟩=some (.int .u64 (d2:Int))∧w'.cell? ⟨Y,2,none⟩=some (.int .u64 (B2:Int))) 19 21 (by kernel_rfl) rfl ?_;refine tA1 0 74 hS ?_;go_frame;refine tA1 1 75 hS ?_;go_frame;refine tA1 2 76 hS ?_;go_frame;refine tA1 3 77 hS ?_;go_frame;refine tA1 4 78 hS ?_;go_frame;refine tA1 5 79 hS ?_;go_frame;refine tA1 6 80 hS ?_;go_frame;refine tk 7 (some 81) rfl rfl (.inl ⟨by rfl,fun w' hS'=>(by obtain ⟨hc1,hc2⟩:=hS';go_simp;rfl)⟩) hS ?_;go_frame;refine tA1 8 82 hS ?_;go_frame;refine tA1 9 83 hS ?_;go_frame;refine tk 10 (some 84) rfl rfl (.inl ⟨by rfl,fun w' hS'=>(by obtain ⟨hc1,hc2⟩:=hS';go_simp;rfl)⟩) hS ?_;go_frame;refine tA1 11 85 hS ?_;go_frame;refine tA1 16 89 hS ?_;go_frame;refine tA1 17 90 hS ?_;go_frame;refine t1 12 fun K hK=>?_
        simp only [gA,jB,gC];go_simp;refine (a0x HE2.out.1 HE2.out.2.1 HE2.out.2.2.2.1 HE2.out.2.2.1 HE2.out.2.2.2.2 _).mono ?_;rintro e wc ⟨rfl,rfl⟩;refine hK _ _ (fun _ _=>hS) ?_;clear hK;refine tA1 13 73 hS ?_;go_frame;refine tA1 14 87 hS ?_;go_frame;refine a0p 15 (some 88) rfl rfl (by kernel_rfl) (by kernel_rfl) (by kernel_rfl) (by kernel_rfl) (by decide) (fun _ _ _ h=>h) (.inl ⟨by rfl,fun w' _=>(by go_simp;rfl)⟩) (fun _=>hS) ?_;go_frame;refine tA1 18 91 hS ?_;go_frame;refine t1 19 fun K hK=>?_
        simp only [gA,jB,gC];refine a0h 23 _ _ rfl G 2 (.int .u64 (s2:Int)) rfl rfl rfl rfl 194 (tkS d0 d1 d2 d3 s0 s1 s2 s3 h3 2) HGd.out Tryz.sizeU64 (by simp [tkS]) (tkS d0 d1 d2 d3 s0 s1 s2 s3 h3 3) (by simp [tkS]) ?_;intro w8 hx8 k8 _;have HG8:=hh hx8;have HY8:=kb1 k8 HYd HGY;have HB8:=hh (HBd.out.then k8 fun x h=>.inl h);refine hK _ _ (fun h=>absurd rfl h) ?_;clear hK hS hx8 k8;refine a0p 20 (some 8) rfl rfl (by kernel_rfl) (by kernel_rfl) (by kernel_rfl) (by kernel_rfl) (by decide) (fun _ _ _ h=>h) (.inl ⟨by rfl,fun w' _=>(by go_simp;rfl)⟩) (fun h=>absurd h (by decide)) ?_;go_frame;refine tD ?_;go_wp2_with fail
        go_roundw
        case rel=>exact ⟨3,by go_num,by omega,rfl,HG8,HY8,HB8⟩
        case measure=>simp [intOf]
       ·have HGd:Hid (wr.drew.heap[G]? = _):=HG;have HYd:Hid (wr.drew.heap[Y]? = _):=HY;have HBd:=hh HB.out.drew;have hS:wr.drew.cell? ⟨G,3,none⟩=some (.int .u64 (d3:Int))∧wr.drew.cell? ⟨Y,3,none⟩=some (.int .u64 (B3:Int)):=⟨Lib.cell_of_heap HGd.out 3,Lib.cell_of_heap HYd.out 3⟩;rw [show kAt k0 k1 k2 k3 3=k2 from rfl];clear HG HY HB hi hlt;go_wp2_with fail;refine a0b (fun w'=>w'.cell? ⟨G,3,none⟩=some (.int .u64 (d3:Int))∧w'.cell? ⟨Y,3,none⟩=some (.int .u64 (B3:Int))) 19 21 (by kernel_rfl) rfl ?_;refine tA1 0 74 hS ?_;go_frame;refine tA1 1 75 hS ?_;go_frame;refine tA1 2 76 hS ?_;go_frame;refine tA1 3 77 hS ?_;go_frame;refine tA1 4 78 hS ?_;go_frame;refine tA1 5 79 hS ?_;go_frame;refine tA1 6 80 hS ?_;go_frame;refine tk 7 (some 81) rfl rfl (.inl ⟨by rfl,fun w' hS'=>(by obtain ⟨hc1,hc2⟩:=hS';go_simp;rfl)⟩) hS ?_;go_frame;refine tA1 8 82 hS ?_;go_frame;refine tA1 9 83 hS ?_;go_frame;refine tk 10 (some 84) rfl rfl (.inl ⟨by rfl,fun w' hS'=>(by obtain ⟨hc1,hc2⟩:=hS';go_simp;rfl)⟩) hS ?_;go_frame;refine tA1 11 85 hS ?_;go_frame;refine tA1 16 89 hS ?_;go_frame;refine tA1 17 90 hS ?_;go_frame;refine t1 12 fun K hK=>?_
        simp only [gA,jB,gC];go_simp;refine (a0x HE3.out.1 HE3.out.2.1 HE3.out.2.2.2.1 HE3.out.2.2.1 HE3.out.2.2.2.2 _).mono ?_;rintro e wc ⟨rfl,rfl⟩;refine hK _ _ (fun _ _=>hS) ?_;clear hK;refine tA1 13 73 hS ?_;go_frame;refine tA1 14 87 hS ?_;go_frame;refine a0p 15 (some 88) rfl rfl (by kernel_rfl) (by kernel_rfl) (by kernel_rfl) (by kernel_rfl) (by decide) (fun _ _ _ h=>h) (.inl ⟨by rfl,fun w' _=>(by go_simp;rfl)⟩) (fun _=>hS) ?_;go_frame;refine tA1 18 91 hS ?_;go_frame;refine t1 19 fun K hK=>?_
        simp only [gA,jB,gC];refine a0h 23 _ _ rfl G 3 (.int .u64 (s3:Int)) rfl rfl rfl rfl 194 (tkS d0 d1 d2 d3 s0 s1 s2 s3 h3 3) HGd.out Tryz.sizeU64 (by simp [tkS]) (tkS d0 d1 d2 d3 s0 s1 s2 s3 h3 4) (by simp [tkS]) ?_;intro w8 hx8 k8 _;have HG8:=hh hx8;have HY8:=kb1 k8 HYd HGY;have HB8:=hh (HBd.out.then k8 fun x h=>.inl h);refine hK _ _ (fun h=>absurd rfl h) ?_;clear hK hS hx8 k8;refine a0p 20 (some 8) rfl rfl (by kernel_rfl) (by kernel_rfl) (by kernel_rfl) (by kernel_rfl) (by decide) (fun _ _ _ h=>h) (.inl ⟨by rfl,fun w' _=>(by go_simp;rfl)⟩) (fun h=>absurd h (by decide)) ?_;go_frame;refine tD ?_;go_wp2_with fail
        go_roundw
        case rel=>exact ⟨4,by go_num,by omega,rfl,HG8,HY8,HB8⟩
        case measure=>simp [intOf]
      ·obtain rfl:i=4:=by omega
       clear hlt hi HY;go_wp2_with fail
       go_ret
       exact ⟨_,_,_,_,_,by rw [HBQ.out,decide_eq_true HGE.out];rfl,by rw [HRV.out,if_neg (by have:=HGE.out;omega)];exact HFIN.out HGE.out,HG.out,HB.out⟩
   ·have h3z:((h3:Int) == 0)=false:=by simp;omega
    have HGE:=hh hge;clear h31 hvd hge;go_wp2_with fail;obtain ⟨e1,hwz,hbz⟩:=dr w8;replace HB:=hh (HB.out.then_below hbz);replace HG:=bA hbz HG;replace HY:=bA hbz HY;clear hbz;refine rg2 14 14 hwz HG HY fun hS=>?_
    clear hwz;refine tA1 0 56 hS ?_;go_frame;refine tA1 1 57 hS ?_;go_frame;refine tA1 2 58 hS ?_;go_frame;refine tk 3 (some 59) rfl rfl (.inl ⟨by rfl,fun w' hS'=>(by have hc:w'.cell? ⟨G,4,none⟩=some (.int .u64 (h3:Int)):=Lib.cell_of_heap (hS'.1) 4;go_simp;rfl)⟩) hS ?_;go_frame;refine tA1 4 60 hS ?_;go_frame;refine tA1 5 61 hS ?_;go_frame;refine tk 6 (some 62) rfl rfl (.inr ⟨by rfl,rfl⟩) hS ?_;go_frame;refine tk 7 (some 63) rfl rfl (.inr ⟨by rfl,rfl⟩) hS ?_;go_frame;refine tk 8 (some 64) rfl rfl (.inr ⟨by rfl,rfl⟩) hS ?_;go_frame;refine tk 9 (some 65) rfl rfl (.inr ⟨by rfl,rfl⟩) hS ?_;go_frame;refine tk 10 (some 66) rfl rfl (.inr ⟨by rfl,rfl⟩) hS ?_;go_frame;refine tk 11 (some 67) rfl rfl (.inr ⟨by rfl,rfl⟩) hS ?_;go_frame;refine tk 12 (some 68) rfl rfl (.inr ⟨by rfl,rfl⟩) hS ?_;go_frame;refine tA1 13 69 hS ?_;go_frame;refine tD ?_;clear hS;go_wp2_with fail;clear h3z
    go_loopw [8,70] (fun vc vi wr=>∃ i:Nat,vi = .int .i64 i∧i≤4∧vc = .int .u64 (kAt k0 k1 k2 k3 i)∧Hid (wr.heap[G]? = some (.cells (tkS d0 d1 d2 d3 s0 s1 s2 s3 h3 i) 194 (0,0)))∧Hid (wr.heap[Y]? = some (.cells #[.int .u64 (B0:Int),.int .u64 (B1:Int),.int .u64 (B2:Int),.int .u64 (B3:Int)] 25 (0,0)))∧Hid (Keep (· = G) w wr)) (fun _ vi _=>4 - (intOf vi).toNat)
    case atStart=>exact ⟨0,rfl,by omega,rfl,HG,HY,HB⟩
    case round=>
     clear HG HY HB;obtain ⟨i,rfl,hi,rfl,HG,HY,HB⟩:=hrel
     by_cases hlt:i < 4
     ·rcases (show i=0∨i=1∨i=2∨i=3 by omega) with rfl | rfl | rfl | rfl
      ·have HGd:Hid (wr.drew.heap[G]? = _):=HG;have HYd:Hid (wr.drew.heap[Y]? = _):=HY;have HBd:=hh HB.out.drew;have hS:wr.drew.cell? ⟨G,0,none⟩=some (.int .u64 (d0:Int))∧wr.drew.cell? ⟨Y,0,none⟩=some (.int .u64 (B0:Int)):=⟨Lib.cell_of_heap HGd.out 0,Lib.cell_of_heap HYd.out 0⟩;rw [show kAt k0 k1 k2 k3 0=0 from rfl];clear HG HY HB hi hlt;go_wp2_with fail;refine a0b (fun w'=>w'.cell? ⟨G,0,none⟩=some (.int .u64 (d0:Int))∧w'.cell? ⟨Y,0,none⟩=some (.int .u64 (B0:Int))) 19 21 (by kernel_rfl) rfl ?_;refine tA1 0 74 hS ?_;go_frame;refine tA1 1 75 hS ?_;go_frame;refine tA1 2 76 hS ?_;go_frame;refine tA1 3 77 hS ?_;go_frame;refine tA1 4 78 hS ?_;go_frame;refine tA1 5 79 hS ?_;go_frame;refine tA1 6 80 hS ?_;go_frame;refine tk 7 (some 81) rfl rfl (.inl ⟨by rfl,fun w' hS'=>(by obtain ⟨hc1,hc2⟩:=hS';go_simp;rfl)⟩) hS ?_;go_frame;refine tA1 8 82 hS ?_;go_frame;refine tA1 9 83 hS ?_;go_frame;refine tk 10 (some 84) rfl rfl (.inl ⟨by rfl,fun w' hS'=>(by obtain ⟨hc1,hc2⟩:=hS';go_simp;rfl)⟩) hS ?_;go_frame;refine tA1 11 85 hS ?_;go_frame;refine tA1 16 89 hS ?_;go_frame;refine tA1 17 90 hS ?_;go_frame;refine t1 12 fun K hK=>?_
       simp only [gA,jB,gC];go_simp;refine (a0x HE0.out.1 HE0.out.2.1 (Nat.zero_le 1) HE0.out.2.2.1 HE0.out.2.2.2 _).mono ?_;rintro e wc ⟨rfl,rfl⟩;refine hK _ _ (fun _ _=>hS) ?_;clear hK;refine tA1 13 73 hS ?_;go_frame;refine tA1 14 87 hS ?_;go_frame;refine a0p 15 (some 88) rfl rfl (by kernel_rfl) (by kernel_rfl) (by kernel_rfl) (by kernel_rfl) (by decide) (fun _ _ _ h=>h) (.inl ⟨by rfl,fun w' _=>(by go_simp;rfl)⟩) (fun _=>hS) ?_;go_frame;refine tA1 18 91 hS ?_;go_frame;refine t1 19 fun K hK=>?_
       simp only [gA,jB,gC];refine a0h 23 _ _ rfl G 0 (.int .u64 (s0:Int)) rfl rfl rfl rfl 194 (tkS d0 d1 d2 d3 s0 s1 s2 s3 h3 0) HGd.out Tryz.sizeU64 (by simp [tkS]) (tkS d0 d1 d2 d3 s0 s1 s2 s3 h3 1) (by simp [tkS]) ?_;intro w8 hx8 k8 _;have HG8:=hh hx8;have HY8:=kb1 k8 HYd HGY;have HB8:=hh (HBd.out.then k8 fun x h=>.inl h);refine hK _ _ (fun h=>absurd rfl h) ?_;clear hK hS hx8 k8;refine a0p 20 (some 8) rfl rfl (by kernel_rfl) (by kernel_rfl) (by kernel_rfl) (by kernel_rfl) (by decide) (fun _ _ _ h=>h) (.inl ⟨by rfl,fun w' _=>(by go_simp;rfl)⟩) (fun h=>absurd h (by decide)) ?_;go_frame;refine tD ?_;go_wp2_with fail
       go_roundw
       case rel=>exact ⟨1,by go_num,by omega,rfl,HG8,HY8,HB8⟩
       case measure=>simp [intOf]
      ·have HGd:Hid (wr.drew.heap[G]? = _):=HG;have HYd:Hid (wr.drew.heap[Y]? = _):=HY;have HBd:=hh HB.out.drew;have hS:wr.drew.cell? ⟨G,1,none⟩=some (.int .u64 (d1:Int))∧wr.drew.cell? ⟨Y,1,none⟩=some (.int .u64 (B1:Int)):=⟨Lib.cell_of_heap HGd.out 1,Lib.cell_of_heap HYd.out 1⟩;rw [show kAt k0 k1 k2 k3 1=k0 from rfl];clear HG HY HB hi hlt;go_wp2_with fail;refine a0b (fun w'=>w'.cell? ⟨G,1,none⟩=some (.int .u64 (d1:Int))∧w'.cell? ⟨Y,1,none⟩=some (.int .u64 (B1:Int))) 19 21 (by kernel_rfl) rfl ?_;refine tA1 0 74 hS ?_;go_frame;refine tA1 1 75 hS ?_;go_frame;refine tA1 2 76 hS ?_;go_frame;refine tA1 3 77 hS ?_;go_frame;refine tA1 4 78 hS ?_;go_frame;refine tA1 5 79 hS ?_;go_frame;refine tA1 6 80 hS ?_;go_frame;refine tk 7 (some 81) rfl rfl (.inl ⟨by rfl,fun w' hS'=>(by obtain ⟨hc1,hc2⟩:=hS';go_simp;rfl)⟩) hS ?_;go_frame;refine tA1 8 82 hS ?_;go_frame;refine tA1 9 83 hS ?_;go_frame;refine tk 10 (some 84) rfl rfl (.inl ⟨by rfl,fun w' hS'=>(by obtain ⟨hc1,hc2⟩:=hS';go_simp;rfl)⟩) hS ?_;go_frame;refine tA1 11 85 hS ?_;go_frame;refine tA1 16 89 hS ?_;go_frame;refine tA1 17 90 hS ?_;go_frame;refine t1 12 fun K hK=>?_
       simp only [gA,jB,gC];go_simp;refine (a0x HE1.out.1 HE1.out.2.1 HE1.out.2.2.2.1 HE1.out.2.2.1 HE1.out.2.2.2.2 _).mono ?_;rintro e wc ⟨rfl,rfl⟩;refine hK _ _ (fun _ _=>hS) ?_;clear hK;refine tA1 13 73 hS ?_;go_frame;refine tA1 14 87 hS ?_;go_frame;refine a0p 15 (some 88) rfl rfl (by kernel_rfl) (by kernel_rfl) (by kernel_rfl) (by kernel_rfl) (by decide) (fun _ _ _ h=>h) (.inl ⟨by rfl,fun w' _=>(by go_simp;rfl)⟩) (fun _=>hS) ?_;go_frame;refine tA1 18 91 hS ?_;go_frame;refine t1 19 fun K hK=>?_
       simp only [gA,jB,gC];refine a0h 23 _ _ rfl G 1 (.int .u64 (s1:Int)) rfl rfl rfl rfl 194 (tkS d0 d1 d2 d3 s0 s1 s2 s3 h3 1) HGd.out Tryz.sizeU64 (by simp [tkS]) (tkS d0 d1 d2 d3 s0 s1 s2 s3 h3 2) (by simp [tkS]) ?_;intro w8 hx8 k8 _;have HG8:=hh hx8;have HY8:=kb1 k8 HYd HGY;have HB8:=hh (HBd.out.then k8 fun x h=>.inl h);refine hK _ _ (fun h=>absurd rfl h) ?_;clear hK hS hx8 k8;refine a0p 20 (some 8) rfl rfl (by kernel_rfl) (by kernel_rfl) (by kernel_rfl) (by kernel_rfl) (by decide) (fun _ _ _ h=>h) (.inl ⟨by rfl,fun w' _=>(by go_simp;rfl)⟩) (fun h=>absurd h (by decide)) ?_;go_frame;refine tD ?_;go_wp2_with fail
       go_roundw
       case rel=>exact ⟨2,by go_num,by omega,rfl,HG8,HY8,HB8⟩
       case measure=>simp [intOf]
      ·have HGd:Hid (wr.drew.heap[G]? = _):=HG;have HYd:Hid (wr.drew.heap[Y]? = _):=HY;have HBd:=hh HB.out.drew;have hS:wr.drew.cell? ⟨G,2,none⟩=some (.int .u64 (d2:Int))∧wr.drew.cell? ⟨Y,2,none⟩=some (.int .u64 (B2:Int)):=⟨Lib.cell_of_heap HGd.out 2,Lib.cell_of_heap HYd.out 2⟩;rw [show kAt k0 k1 k2 k3 2=k1 from rfl];clear HG HY HB hi hlt;go_wp2_with fail;refine a0b (fun w'=>w'.cell? ⟨G,2,none⟩=some (.int .u64 (d2:Int))∧w'.cell? ⟨Y,2,none⟩=some (.int .u64 (B2:Int))) 19 21 (by kernel_rfl) rfl ?_;refine tA1 0 74 hS ?_;go_frame;refine tA1 1 75 hS ?_;go_frame;refine tA1 2 76 hS ?_;go_frame;refine tA1 3 77 hS ?_;go_frame;refine tA1 4 78 hS ?_;go_frame;refine tA1 5 79 hS ?_;go_frame;refine tA1 6 80 hS ?_;go_frame;refine tk 7 (some 81) rfl rfl (.inl ⟨by rfl,fun w' hS'=>(by obtain ⟨hc1,hc2⟩:=hS';go_simp;rfl)⟩) hS ?_;go_frame;refine tA1 8 82 hS ?_;go_frame;refine tA1 9 83 hS ?_;go_frame;refine tk 10 (some 84) rfl rfl (.inl ⟨by rfl,fun w' hS'=>(by obtain ⟨hc1,hc2⟩:=hS';go_simp;rfl)⟩) hS ?_;go_frame;refine tA1 11 85 hS ?_;go_frame;refine tA1 16 89 hS ?_;go_frame;refine tA1 17 90 hS ?_;go_frame;refine t1 12 fun K hK=>?_
       simp only [gA,jB,gC];go_simp;refine (a0x HE2.out.1 HE2.out.2.1 HE2.out.2.2.2.1 HE2.out.2.2.1 HE2.out.2.2.2.2 _).mono ?_;rintro e wc ⟨rfl,rfl⟩;refine hK _ _ (fun _ _=>hS) ?_;clear hK;refine tA1 13 73 hS ?_;go_frame;refine tA1 14 87 hS ?_;go_frame;refine a0p 15 (some 88) rfl rfl (by kernel_rfl) (by kernel_rfl) (by kernel_rfl) (by kernel_rfl) (by decide) (fun _ _ _ h=>h) (.inl ⟨by rfl,fun w' _=>(by go_simp;rfl)⟩) (fun _=>hS) ?_;go_frame;refine tA1 18 91 hS ?_;go_frame;refine t1 19 fun K hK=>?_
       simp only [gA,jB,gC];refine a0h 23 _ _ rfl G 2 (.int .u64 (s2:Int)) rfl rfl rfl rfl 194 (tkS d0 d1 d2 d3 s0 s1 s2 s3 h3 2) HGd.out Tryz.sizeU64 (by simp [tkS]) (tkS d0 d1 d2 d3 s0 s1 s2 s3 h3 3) (by simp [tkS]) ?_;intro w8 hx8 k8 _;have HG8:=hh hx8;have HY8:=kb1 k8 HYd HGY;have HB8:=hh (HBd.out.then k8 fun x h=>.inl h);refine hK _ _ (fun h=>absurd rfl h) ?_;clear hK hS hx8 k8;refine a0p 20 (some 8) rfl rfl (by kernel_rfl) (by kernel_rfl) (by kernel_rfl) (by kernel_rfl) (by decide) (fun _ _ _ h=>h) (.inl ⟨by rfl,fun w' _=>(by go_simp;rfl)⟩) (fun h=>absurd h (by decide)) ?_;go_frame;refine tD ?_;go_wp2_with fail
       go_roundw
       case rel=>exact ⟨3,by go_num,by omega,rfl,HG8,HY8,HB8⟩
       case measure=>simp [intOf]
      ·have HGd:Hid (wr.drew.heap[G]? = _):=HG;have HYd:Hid (wr.drew.heap[Y]? = _):=HY;have HBd:=hh HB.out.drew;have hS:wr.drew.cell? ⟨G,3,none⟩=some (.int .u64 (d3:Int))∧wr.drew.cell? ⟨Y,3,none⟩=some (.int .u64 (B3:Int)):=⟨Lib.cell_of_heap HGd.out 3,Lib.cell_of_heap HYd.out 3⟩;rw [show kAt k0 k1 k2 k3 3=k2 from rfl];clear HG HY HB hi hlt;go_wp2_with fail;refine a0b (fun w'=>w'.cell? ⟨G,3,none⟩=some (.int .u64 (d3:Int))∧w'.cell? ⟨Y,3,none⟩=some (.int .u64 (B3:Int))) 19 21 (by kernel_rfl) rfl ?_;refine tA1 0 74 hS ?_;go_frame;refine tA1 1 75 hS ?_;go_frame;refine tA1 2 76 hS ?_;go_frame;refine tA1 3 77 hS ?_;go_frame;refine tA1 4 78 hS ?_;go_frame;refine tA1 5 79 hS ?_;go_frame;refine tA1 6 80 hS ?_;go_frame;refine tk 7 (some 81) rfl rfl (.inl ⟨by rfl,fun w' hS'=>(by obtain ⟨hc1,hc2⟩:=hS';go_simp;rfl)⟩) hS ?_;go_frame;refine tA1 8 82 hS ?_;go_frame;refine tA1 9 83 hS ?_;go_frame;refine tk 10 (some 84) rfl rfl (.inl ⟨by rfl,fun w' hS'=>(by obtain ⟨hc1,hc2⟩:=hS';go_simp;rfl)⟩) hS ?_;go_frame;refine tA1 11 85 hS ?_;go_frame;refine tA1 16 89 hS ?_;go_frame;refine tA1 17 90 hS ?_;go_frame;refine t1 12 fun K hK=>?_
       simp only [gA,jB,gC];go_simp;refine (a0x HE3.out.1 HE3.out.2.1 HE3.out.2.2.2.1 HE3.out.2.2.1 HE3.out.2.2.2.2 _).mono ?_;rintro e wc ⟨rfl,rfl⟩;refine hK _ _ (fun _ _=>hS) ?_;clear hK;refine tA1 13 73 hS ?_;go_frame;refine tA1 14 87 hS ?_;go_frame;refine a0p 15 (some 88) rfl rfl (by kernel_rfl) (by kernel_rfl) (by kernel_rfl) (by kernel_rfl) (by decide) (fun _ _ _ h=>h) (.inl ⟨by rfl,fun w' _=>(by go_simp;rfl)⟩) (fun _=>hS) ?_;go_frame;refine tA1 18 91 hS ?_;go_frame;refine t1 19 fun K hK=>?_
       simp only [gA,jB,gC];refine a0h 23 _ _ rfl G 3 (.int .u64 (s3:Int)) rfl rfl rfl rfl 194 (tkS d0 d1 d2 d3 s0 s1 s2 s3 h3 3) HGd.out Tryz.sizeU64 (by simp [tkS]) (tkS d0 d1 d2 d3 s0 s1 s2 s3 h3 4) (by simp [tkS]) ?_;intro w8 hx8 k8 _;have HG8:=hh hx8;have HY8:=kb1 k8 HYd HGY;have HB8:=hh (HBd.out.then k8 fun x h=>.inl h);refine hK _ _ (fun h=>absurd rfl h) ?_;clear hK hS hx8 k8;refine a0p 20 (some 8) rfl rfl (by kernel_rfl) (by kernel_rfl) (by kernel_rfl) (by kernel_rfl) (by decide) (fun _ _ _ h=>h) (.inl ⟨by rfl,fun w' _=>(by go_simp;rfl)⟩) (fun h=>absurd h (by decide)) ?_;go_frame;refine tD ?_;go_wp2_with fail
       go_roundw
       case rel=>exact ⟨4,by go_num,by omega,rfl,HG8,HY8,HB8⟩
       case measure=>simp [intOf]
     ·obtain rfl:i=4:=by omega
      clear hlt hi HY;go_wp2_with fail
      go_ret
      exact ⟨_,_,_,_,_,by rw [HBQ.out,decide_eq_true HGE.out];rfl,by rw [HRV.out,if_neg (by have:=HGE.out;omega)];exact HFIN.out HGE.out,HG.out,HB.out⟩
  ·have HGd:Hid (wr.drew.heap[G]? = _):=HG;have HYd:Hid (wr.drew.heap[Y]? = _):=HY;have HBd:=hh HB.out.drew;have hS:wr.drew.cell? ⟨G,1,none⟩=some (.int .u64 (A1:Int))∧wr.drew.cell? ⟨G,0,none⟩=some (.int .u64 (A0:Int)):=⟨Lib.cell_of_heap HGd.out 1,Lib.cell_of_heap HGd.out 0⟩;clear HG HY HB hi;have qw:IntKind.i64.wrap 0=0:=by decide
   go_wp2_with fail;refine a0b (fun w'=>w'.cell? ⟨G,1,none⟩=some (.int .u64 (A1:Int))∧w'.cell? ⟨G,0,none⟩=some (.int .u64 (A0:Int))) 21 22 (by kernel_rfl) rfl ?_;refine tA1 0 23 hS ?_;go_frame;refine tA1 1 24 hS ?_;go_frame;refine tA1 2 25 hS ?_;go_frame;refine tA1 3 26 hS ?_;go_frame;refine tA1 4 27 hS ?_;go_frame;refine tA1 5 28 hS ?_;go_frame;refine tA1 6 29 hS ?_;go_frame;refine tk 7 (some 30) rfl rfl (.inl ⟨by rfl,fun w' hS'=>(by obtain ⟨hc1,hc2⟩:=hS';go_simp;rfl)⟩) hS ?_;go_frame;refine tA1 8 31 hS ?_;go_frame;refine tA1 9 32 hS ?_;go_frame;refine tA1 10 33 hS ?_;go_frame;refine tA1 11 34 hS ?_;go_frame;refine tA1 12 35 hS ?_;go_frame;refine tA1 13 36 hS ?_;go_frame;refine tA1 14 37 hS ?_;go_frame;refine tk 15 (some 38) rfl rfl (.inl ⟨by rfl,fun w' hS'=>(by obtain ⟨hc1,hc2⟩:=hS';go_simp;rfl)⟩) hS ?_;go_frame;refine tA1 16 39 hS ?_;go_frame;refine tA1 17 40 hS ?_;go_frame;refine tA1 18 41 hS ?_;go_frame;refine tA1 19 42 hS ?_;go_frame;refine tA1 20 43 hS ?_;go_frame;refine t1 21 fun K hK=>?_
   simp only [gA,jB,gC];refine a0h 23 _ _ rfl G 1 (.int .u64 (d1:Int)) rfl rfl rfl rfl 194 (tkA A0 A1 A2 A3 d0 d1 d2 d3 h3 2) HGd.out Tryz.sizeU64 (by simp [tkA]) (tkA A0 A1 A2 A3 d0 d1 d2 d3 h3 1) (by simp [tkA]) ?_;intro w8 hx8 k8 _;have HG8:=hh hx8;have HY8:=kb1 k8 HYd HGY;have HB8:=hh (HBd.out.then k8 fun x h=>.inl h);refine hK _ _ (fun h=>absurd rfl h) ?_;clear hK hS hx8 k8;refine tD ?_;clear qw;go_wp2_with fail
   go_roundw
   case rel=>exact ⟨0,by go_num,by omega,HG8,HY8,HB8⟩
   case measure=>simp [intOf]
  ·have HGd:Hid (wr.drew.heap[G]? = _):=HG;have HYd:Hid (wr.drew.heap[Y]? = _):=HY;have HBd:=hh HB.out.drew;have hS:wr.drew.cell? ⟨G,2,none⟩=some (.int .u64 (A2:Int))∧wr.drew.cell? ⟨G,1,none⟩=some (.int .u64 (A1:Int)):=⟨Lib.cell_of_heap HGd.out 2,Lib.cell_of_heap HGd.out 1⟩;clear HG HY HB hi;have qw:IntKind.i64.wrap 1=1:=by decide
   go_wp2_with fail;refine a0b (fun w'=>w'.cell? ⟨G,2,none⟩=some (.int .u64 (A2:Int))∧w'.cell? ⟨G,1,none⟩=some (.int .u64 (A1:Int))) 21 22 (by kernel_rfl) rfl ?_;refine tA1 0 23 hS ?_;go_frame;refine tA1 1 24 hS ?_;go_frame;refine tA1 2 25 hS ?_;go_frame;refine tA1 3 26 hS ?_;go_frame;refine tA1 4 27 hS ?_;go_frame;refine tA1 5 28 hS ?_;go_frame;refine tA1 6 29 hS ?_;go_frame;refine tk 7 (some 30) rfl rfl (.inl ⟨by rfl,fun w' hS'=>(by obtain ⟨hc1,hc2⟩:=hS';go_simp;rfl)⟩) hS ?_;go_frame;refine tA1 8 31 hS ?_;go_frame;refine tA1 9 32 hS ?_;go_frame;refine tA1 10 33 hS ?_;go_frame;refine tA1 11 34 hS ?_;go_frame;refine tA1 12 35 hS ?_;go_frame;refine tA1 13 36 hS ?_;go_frame;refine tA1 14 37 hS ?_;go_frame;refine tk 15 (some 38) rfl rfl (.inl ⟨by rfl,fun w' hS'=>(by obtain ⟨hc1,hc2⟩:=hS';go_simp;rfl)⟩) hS ?_;go_frame;refine tA1 16 39 hS ?_;go_frame;refine tA1 17 40 hS ?_;go_frame;refine tA1 18 41 hS ?_;go_frame;refine tA1 19 42 hS ?_;go_frame;refine tA1 20 43 hS ?_;go_frame;refine t1 21 fun K hK=>?_
   simp only [gA,jB,gC];refine a0h 23 _ _ rfl G 2 (.int .u64 (d2:Int)) rfl rfl rfl rfl 194 (tkA A0 A1 A2 A3 d0 d1 d2 d3 h3 3) HGd.out Tryz.sizeU64 (by simp [tkA]) (tkA A0 A1 A2 A3 d0 d1 d2 d3 h3 2) (by simp [tkA]) ?_;intro w8 hx8 k8 _;have HG8:=hh hx8;have HY8:=kb1 k8 HYd HGY;have HB8:=hh (HBd.out.then k8 fun x h=>.inl h);refine hK _ _ (fun h=>absurd rfl h) ?_;clear hK hS hx8 k8;refine tD ?_;clear qw;go_wp2_with fail
   go_roundw
   case rel=>exact ⟨1,by go_num,by omega,HG8,HY8,HB8⟩
   case measure=>simp [intOf]
  ·have HGd:Hid (wr.drew.heap[G]? = _):=HG;have HYd:Hid (wr.drew.heap[Y]? = _):=HY;have HBd:=hh HB.out.drew;have hS:wr.drew.cell? ⟨G,3,none⟩=some (.int .u64 (A3:Int))∧wr.drew.cell? ⟨G,2,none⟩=some (.int .u64 (A2:Int)):=⟨Lib.cell_of_heap HGd.out 3,Lib.cell_of_heap HGd.out 2⟩;clear HG HY HB hi;have qw:IntKind.i64.wrap 2=2:=by decide
   go_wp2_with fail;refine a0b (fun w'=>w'.cell? ⟨G,3,none⟩=some (.int .u64 (A3:Int))∧w'.cell? ⟨G,2,none⟩=some (.int .u64 (A2:Int))) 21 22 (by kernel_rfl) rfl ?_;refine tA1 0 23 hS ?_;go_frame;refine tA1 1 24 hS ?_;go_frame;refine tA1 2 25 hS ?_;go_frame;refine tA1 3 26 hS ?_;go_frame;refine tA1 4 27 hS ?_;go_frame;refine tA1 5 28 hS ?_;go_frame;refine tA1 6 29 hS ?_;go_frame;refine tk 7 (some 30) rfl rfl (.inl ⟨by rfl,fun w' hS'=>(by obtain ⟨hc1,hc2⟩:=hS';go_simp;rfl)⟩) hS ?_;go_frame;refine tA1 8 31 hS ?_;go_frame;refine tA1 9 32 hS ?_;go_frame;refine tA1 10 33 hS ?_;go_frame;refine tA1 11 34 hS ?_;go_frame;refine tA1 12 35 hS ?_;go_frame;refine tA1 13 36 hS ?_;go_frame;refine tA1 14 37 hS ?_;go_frame;refine tk 15 (some 38) rfl rfl (.inl ⟨by rfl,fun w' hS'=>(by obtain ⟨hc1,hc2⟩:=hS';go_simp;rfl)⟩) hS ?_;go_frame;refine tA1 16 39 hS ?_;go_frame;refine tA1 17 40 hS ?_;go_frame;refine tA1 18 41 hS ?_;go_frame;refine tA1 19 42 hS ?_;go_frame;refine tA1 20 43 hS ?_;go_frame;refine t1 21 fun K hK=>?_
   simp only [gA,jB,gC];refine a0h 23 _ _ rfl G 3 (.int .u64 (d3:Int)) rfl rfl rfl rfl 194 (tkA A0 A1 A2 A3 d0 d1 d2 d3 h3 4) HGd.out Tryz.sizeU64 (by simp [tkA]) (tkA A0 A1 A2 A3 d0 d1 d2 d3 h3 3) (by simp [tkA]) ?_;intro w8 hx8 k8 _;have HG8:=hh hx8;have HY8:=kb1 k8 HYd HGY;have HB8:=hh (HBd.out.then k8 fun x h=>.inl h);refine hK _ _ (fun h=>absurd rfl h) ?_;clear hK hS hx8 k8;refine tD ?_;clear qw;go_wp2_with fail
   go_roundw
   case rel=>exact ⟨2,by go_num,by omega,HG8,HY8,HB8⟩
   case measure=>simp [intOf]
end Go.Proofs.YtabminbgoclnkaaGreat
