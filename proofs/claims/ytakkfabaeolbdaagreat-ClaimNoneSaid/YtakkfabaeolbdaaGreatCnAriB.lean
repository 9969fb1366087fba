/- u256: sum and difference; amounts of the program. No condition. -/
import Derived.Test.YtakkfabaeolbdaaGreatCn28
import Derived.Test.YtakkfabaeolbdaaGreatCn27
namespace Go.Proofs.YtakkfabaeolbdaaGreat
set_option maxHeartbeats 16000000
set_option maxRecDepth 100000
open Go.RowKit

theorem UIs.nats {a b c d:Int} {n:Nat} (h:UIs a b c d n):∃ A B C E:Nat,a=A∧b=B∧c=C∧d=E∧A < 18446744073709551616∧B < 18446744073709551616∧C < 18446744073709551616∧E < 18446744073709551616∧n=A+B*18446744073709551616+C*340282366920938463463374607431768211456+E*6277101735386680763835789423207666416102355444464034512896:=by
 unfold UIs at h
 exact ⟨a.toNat,b.toNat,c.toNat,d.toNat,by omega,by omega,by omega,by omega,by omega,by omega,by omega,by omega,by omega⟩
theorem UIs.of_nats {A B C E n:Nat} (h1:A < 18446744073709551616) (h2:B < 18446744073709551616) (h3:C < 18446744073709551616) (h4:E < 18446744073709551616) (h:n=A+B*18446744073709551616+C*340282366920938463463374607431768211456+E*6277101735386680763835789423207666416102355444464034512896):UIs A B C E n:=by
 unfold UIs;omega
theorem f0a {a b c:Nat} (ha:a < 18446744073709551616) (hb:b < 18446744073709551616) (hc:c≤1):∃ s k:Nat,s < 18446744073709551616∧k≤1∧s+18446744073709551616*k=a+b+c:=
 ⟨(a+b+c) % 18446744073709551616,(a+b+c) / 18446744073709551616,by omega,by omega,by omega⟩
theorem d0H {a b c:Nat} (ha:a < 18446744073709551616) (hb:b < 18446744073709551616) (hc:c≤1):∃ s k:Nat,s < 18446744073709551616∧k≤1∧s+b+c=a+18446744073709551616*k:=by
 by_cases h:b+c≤a
 ·exact ⟨a - b - c,0,by omega,by omega,by omega⟩
 ·exact ⟨a+18446744073709551616 - b - c,1,by omega,by omega,by omega⟩
def kAt (k0 k1 k2 k3:Nat):Nat→Nat
 | 0=>0 | 1=>k0 | 2=>k1 | 3=>k2 | _=>k3
def oAt (s0 s1 s2 s3:Nat):Nat→Array Value
 | 0=>u0
 | 1=>#[.int .u64 s0,.int .u64 0,.int .u64 0,.int .u64 0]
 | 2=>#[.int .u64 s0,.int .u64 s1,.int .u64 0,.int .u64 0]
 | 3=>#[.int .u64 s0,.int .u64 s1,.int .u64 s2,.int .u64 0]
 | _=>#[.int .u64 s0,.int .u64 s1,.int .u64 s2,.int .u64 s3]
def UOk (w:World) (n:Nat) (ok:Bool) (e:Ending) (w':World):Prop:=∃ a b c d:Int,UIs a b c d (if ok then n else 0)∧e = .returned (.tuple #[.agg #[.int .u64 a,.int .u64 b,.int .u64 c,.int .u64 d],.bool ok])∧Below w.heap.size w w'
def URet (w:World) (n:Nat) (e:Ending) (w':World):Prop:=∃ a b c d:Int,UIs a b c d n∧e = .returned (.agg #[.int .u64 a,.int .u64 b,.int .u64 c,.int .u64 d])∧Below w.heap.size w w'
theorem Tryz.zeroUz (w:World):(zeroValue 25).run Tryz.prog w = .ok (.agg u0) w:=by kernel_rfl
theorem box2 (w:World) (c0 c1:Array Value) (T0 T1:TypeId) (w1:World) (hw:w1=(w.alloc (.cells c0 T0)).alloc (.cells c1 T1)) :
  w1.heap[w.heap.size]? = some (.cells c0 T0 (0,0))∧w1.heap[w.heap.size+1]? = some (.cells c1 T1 (0,0))∧Below w.heap.size w w1∧w1.heap.size=w.heap.size+2:=by
 obtain ⟨wa,ha⟩:=nm (w.alloc (.cells c0 T0));rw [← ha] at hw;have sa:wa.heap.size=w.heap.size+1:=by rw [ha,World.size_alloc]
 have ba:Below w.heap.size w wa:=by rw [ha];exact a0d _ _
 have bb:Below wa.heap.size wa w1:=by rw [hw];exact a0d _ _
 have ea:wa.heap[w.heap.size]? = some (.cells c0 T0 (0,0)):=by rw [ha];exact heap_alloc_new _ _
 have eb:w1.heap[wa.heap.size]? = some (.cells c1 T1 (0,0)):=by rw [hw];exact heap_alloc_new _ _
 rw [sa] at eb
 exact ⟨a0e bb ea,eb,ba.trans (bb.mono (by omega)),by rw [hw,World.size_alloc,sa]⟩
theorem Tryz.sizeU64:(Tryz.prog.info? 23).map (·.size)=some 1:=by kernel_rfl

theorem q0l {a b c d a' b' c' d':Int} {n m:Nat} (h:UIs a b c d n) (h':UIs a' b' c' d' m) (w:World) :
  Calls Tryz.prog 210 #[.agg #[.int .u64 a,.int .u64 b,.int .u64 c,.int .u64 d],.agg #[.int .u64 a',.int .u64 b',.int .u64 c',.int .u64 d']] w (UOk w (n+m) (decide (n+m < uMax))):=by
 obtain ⟨A0,A1,A2,A3,rfl,rfl,rfl,rfl,ha0,ha1,ha2,ha3,hn⟩:=h.nats;obtain ⟨B0,B1,B2,B3,rfl,rfl,rfl,rfl,hb0,hb1,hb2,hb3,hm⟩:=h'.nats;obtain ⟨s0,k0,hs0,hk0,e0⟩:=f0a ha0 hb0 (Nat.zero_le 1);obtain ⟨s1,k1,hs1,hk1,e1⟩:=f0a ha1 hb1 hk0;obtain ⟨s2,k2,hs2,hk2,e2⟩:=f0a ha2 hb2 hk1;obtain ⟨s3,k3,hs3,hk3,e3⟩:=f0a ha3 hb3 hk2;have HE0:=hh (And.intro ha0 (And.intro hb0 (And.intro hs0 e0)));have HE1:=hh (And.intro ha1 (And.intro hb1 (And.intro hs1 (And.intro hk0 e1))));have HE2:=hh (And.intro ha2 (And.intro hb2 (And.intro hs2 (And.intro hk1 e2))));have HE3:=hh (And.intro ha3 (And.intro hb3 (And.intro hs3 (And.intro hk2 e3))));have HFIN:Hid ((k3=0→(n+m < uMax)∧UIs s0 s1 s2 s3 (n+m))∧(k3≠0→¬ (n+m < uMax))):=hh (by
  constructor
  ·intro hz;have hok:n+m < uMax:=by unfold uMax;omega
   exact ⟨hok,UIs.of_nats hs0 hs1 hs2 hs3 (by omega)⟩
  ·intro hz
   unfold uMax;omega)
 clear h h' ha0 ha1 ha2 ha3 hb0 hb1 hb2 hb3 hn hm hs0 hs1 hs2 hs3 e0 e1 e2 e3 hk0 hk1 hk2 hk3
 go_enter Tryz.func210,Tryz.ntmps210
 go_wp2_with (refine sA _ Tryz.zeroUz ?_)
 obtain ⟨w1,hw1⟩:=nm ((w.alloc (.cells #[.int .u64 (A0:Int),.int .u64 (A1:Int),.int .u64 (A2:Int),.int .u64 (A3:Int)] 25)).alloc (.cells #[.int .u64 (B0:Int),.int .u64 (B1:Int),.int .u64 (B2:Int),.int .u64 (B3:Int)] 25));obtain ⟨X,hX⟩:=nm (w.heap.size);obtain ⟨Y,hY⟩:=nm (w.heap.size+1);rw [← hw1,← hY,← hX];have hbx:=box2 w _ _ _ _ w1 hw1;rw [← hY,← hX] at hbx;have HX1:=hh hbx.1;have HY1:=hh hbx.2.1;have HB1:Hid (Below w.heap.size w w1):=hh (by rw [← hX];exact hbx.2.2.1);clear hbx hw1 hX hY;intro R w2 h2;have HR2:=hh h2.out.cells;have HB2:=hh (HB1.out.trans (h2.out.below.mono HB1.out.size));have HRW:Hid (w.heap.size≤R):=hh (by rw [h2.out.eq];exact HB1.out.size);have HX2:=hh (a0e h2.out.below HX1.out);have HY2:=hh (a0e h2.out.below HY1.out);clear h2 HX1 HY1 HB1
 go_wp2_with (refine sA _ Tryz.zeroUz ?_)
 intro O w3 h3;have HO3:=hh h3.out.cells;have HB3:=hh (HB2.out.trans (h3.out.below.mono HB2.out.size));have HX3:=hh (a0e h3.out.below HX2.out);have HY3:=hh (a0e h3.out.below HY2.out);have HR3:=hh (a0e h3.out.below HR2.out);have HOD:Hid (w.heap.size≤O∧O≠X∧O≠Y∧O≠R):=hh (by
  have:=h3.out.eq;have:=a0b HX2.out;have:=a0b HY2.out;have:=a0b HR2.out;have:=HB2.out.size
  exact ⟨by omega,by omega,by omega,by omega⟩)
 clear h3 HX2 HY2 HR2 HB2;go_wp2_with fail
 go_loopw [7,9] (fun vc vi wr=>∃ i:Nat,vi = .int .i64 i∧i≤4∧vc = .int .u64 (kAt k0 k1 k2 k3 i)∧Hid (wr.heap[O]? = some (.cells (oAt s0 s1 s2 s3 i) 25 (0,0)))∧Hid (wr.heap[X]? = some (.cells #[.int .u64 A0,.int .u64 A1,.int .u64 A2,.int .u64 A3] 25 (0,0)))∧Hid (wr.heap[Y]? = some (.cells #[.int .u64 B0,.int .u64 B1,.int .u64 B2,.int .u64 B3] 25 (0,0)))∧Hid (wr.heap[R]? = some (.cells u0 25 (0,0)))∧Hid (Below w.heap.size w wr)) (fun _ vi _=>4 - (intOf vi).toNat)
 case atStart=>exact ⟨0,rfl,by omega,rfl,HO3,HX3,HY3,HR3,HB3⟩
 case round=>
  clear HO3 HX3 HY3 HR3 HB3;obtain ⟨i,rfl,hi,rfl,HO,HX,HY,HR,HB⟩:=hrel
  by_cases hlt:i < 4
  ·rcases (show i=0∨i=1∨i=2∨i=3 by omega) with rfl | rfl | rfl | rfl
   ·have HXd:Hid (wr.drew.heap[X]? = _):=HX;have HYd:Hid (wr.drew.heap[Y]? = _):=HY;have HRd:Hid (wr.drew.heap[R]? = _):=HR;have HOd:Hid (wr.drew.heap[O]? = _):=HO;have HBd:=hh HB.out.drew;have hS:wr.drew.cell? ⟨X,0,none⟩=some (.int .u64 (A0:Int))∧wr.drew.cell? ⟨Y,0,none⟩=some (.int .u64 (B0:Int)):=⟨Lib.cell_of_heap HXd.out 0,Lib.cell_of_heap HYd.out 0⟩;rw [show kAt k0 k1 k2 k3 0=0 from rfl];clear HO HX HY HR HB hi hlt;go_wp2_with fail;refine a0f (fun w'=>w'.cell? ⟨X,0,none⟩=some (.int .u64 (A0:Int))∧w'.cell? ⟨Y,0,none⟩=some (.int .u64 (B0:Int))) 15 15 (by kernel_rfl) rfl ?_;refine tA1 0 13 hS ?_;go_frame;refine tA1 1 14 hS ?_;go_frame;refine tA1 2 15 hS ?_;go_frame;refine tk 3 (some 16) rfl rfl (.inl ⟨by rfl,fun w' hS'=>(by obtain ⟨hc1,hc2⟩:=hS';go_simp;rfl)⟩) hS ?_;go_frame;refine tA1 4 17 hS ?_;go_frame;refine tA1 5 18 hS ?_;go_frame;refine tk 6 (some 19) rfl rfl (.inl ⟨by rfl,fun w' hS'=>(by obtain ⟨hc1,hc2⟩:=hS';go_simp;rfl)⟩) hS ?_;go_frame;refine tA1 7 20 hS ?_;go_frame;refine t1 8 fun K hK=>?_
    simp only [gA,jB,gC];go_simp;refine (e0c HE0.out.1 HE0.out.2.1 (Nat.zero_le 1) HE0.out.2.2.1 HE0.out.2.2.2 _).mono ?_;rintro e wc ⟨rfl,rfl⟩;refine hK _ _ (fun _ _=>hS) ?_;clear hK;refine tA1 9 12 hS ?_;go_frame;refine tA1 10 22 hS ?_;go_frame;refine tA1 11 23 hS ?_;go_frame;refine tA1 12 24 hS ?_;go_frame;refine t1 13 fun K hK=>?_
    simp only [gA,jB,gC];refine a0q 23 _ _ rfl O 0 (.int .u64 s0) rfl rfl rfl rfl 25 (oAt s0 s1 s2 s3 0) HOd.out Tryz.sizeU64 (by simp [oAt,u0]) (oAt s0 s1 s2 s3 1) (by simp [oAt,u0]) ?_;intro w8 hx8 k8 _;have HO8:=hh hx8;have HX8:=hh (k8.at HXd.out (fun e=>HOD.out.2.1 e.symm));have HY8:=hh (k8.at HYd.out (fun e=>HOD.out.2.2.1 e.symm));have HR8:=hh (k8.at HRd.out (fun e=>HOD.out.2.2.2 e.symm));have HB8:=hh (HBd.out.trans (k8.below (B:=w.heap.size) (fun y hy e=>by have:=HOD.out.1;omega) HBd.out.size));have hS2:w8.cell? ⟨X,0,none⟩=some (.int .u64 (A0:Int))∧w8.cell? ⟨Y,0,none⟩=some (.int .u64 (B0:Int)):=⟨Lib.cell_of_heap HX8.out 0,Lib.cell_of_heap HY8.out 0⟩;refine hK _ _ (fun _ _=>hS2) ?_;clear hK hS hx8 k8;have hS:=hS2;clear hS2;refine tA1 14 7 hS ?_;go_frame;refine tD ?_;clear hS;go_wp2_with fail
    go_roundw
    case rel=>exact ⟨1,by go_num,by omega,rfl,HO8,HX8,HY8,HR8,HB8⟩
    case measure=>simp [intOf]
   ·have HXd:Hid (wr.drew.heap[X]? = _):=HX;have HYd:Hid (wr.drew.heap[Y]? = _):=HY;have HRd:Hid (wr.drew.heap[R]? = _):=HR;have HOd:Hid (wr.drew.heap[O]? = _):=HO;have HBd:=hh HB.out.drew;have hS:wr.drew.cell? ⟨X,1,none⟩=some (.int .u64 (A1:Int))∧wr.drew.cell? ⟨Y,1,none⟩=some (.int .u64 (B1:Int)):=⟨Lib.cell_of_heap HXd.out 1,Lib.cell_of_heap HYd.out 1⟩;rw [show kAt k0 k1 k2 k3 1=k0 from rfl];clear HO HX HY HR HB hi hlt;go_wp2_with fail;refine a0f (fun w'=>w'.cell? ⟨X,1,none⟩=some (.int .u64 (A1:Int))∧w'.cell? ⟨Y,1,none⟩=some (.int .u64 (B1:Int))) 15 15 (by kernel_rfl) rfl ?_;refine tA1 0 13 hS ?_;go_frame;refine tA1 1 14 hS ?_;go_frame;refine tA1 2 15 hS ?_;go_frame;refine tk 3 (some 16) rfl rfl (.inl ⟨by rfl,fun w' hS'=>(by obtain ⟨hc1,hc2⟩:=hS';go_simp;rfl)⟩) hS ?_;go_frame;refine tA1 4 17 hS ?_;go_frame;refine tA1 5 18 hS ?_;go_frame;refine tk 6 (some 19) rfl rfl (.inl ⟨by rfl,fun w' hS'=>(by obtain ⟨hc1,hc2⟩:=hS';go_simp;rfl)⟩) hS ?_;go_frame;refine tA1 7 20 hS ?_;go_frame;refine t1 8 fun K hK=>?_
    simp only [gA,jB,gC];go_simp;refine (e0c HE1.out.1 HE1.out.2.1 HE1.out.2.2.2.1 HE1.out.2.2.1 HE1.out.2.2.2.2 _).mono ?_;rintro e wc ⟨rfl,rfl⟩;refine hK _ _ (fun _ _=>hS) ?_;clear hK;refine tA1 9 12 hS ?_;go_frame;refine tA1 10 22 hS ?_;go_frame;refine tA1 11 23 hS ?_;go_frame;refine tA1 12 24 hS ?_;go_frame;refine t1 13 fun K hK=>?_
    simp only [gA,jB,gC];refine a0q 23 _ _ rfl O 1 (.int .u64 s1) rfl rfl rfl rfl 25 (oAt s0 s1 s2 s3 1) HOd.out Tryz.sizeU64 (by simp [oAt]) (oAt s0 s1 s2 s3 2) (by simp [oAt]) ?_;intro w8 hx8 k8 _;have HO8:=hh hx8;have HX8:=hh (k8.at HXd.out (fun e=>HOD.out.2.1 e.symm));have HY8:=hh (k8.at HYd.out (fun e=>HOD.out.2.2.1 e.symm));have HR8:=hh (k8.at HRd.out (fun e=>HOD.out.2.2.2 e.symm));have HB8:=hh (HBd.out.trans (k8.below (B:=w.heap.size) (fun y hy e=>by have:=HOD.out.1;omega) HBd.out.size));have hS2:w8.cell? ⟨X,1,none⟩=some (.int .u64 (A1:Int))∧w8.cell? ⟨Y,1,none⟩=some (.int .u64 (B1:Int)):=⟨Lib.cell_of_heap HX8.out 1,Lib.cell_of_heap HY8.out 1⟩;refine hK _ _ (fun _ _=>hS2) ?_;clear hK hS hx8 k8;have hS:=hS2;clear hS2;refine tA1 14 7 hS ?_;go_frame;refine tD ?_;clear hS;go_wp2_with fail
    go_roundw
    case rel=>exact ⟨2,by go_num,by omega,rfl,HO8,HX8,HY8,HR8,HB8⟩
    case measure=>simp [intOf]
   ·have HXd:Hid (wr.drew.heap[X]? = _):=HX;have HYd:Hid (wr.drew.heap[Y]? = _):=HY;have HRd:Hid (wr.drew.heap[R]? = _):=HR;have HOd:Hid (wr.drew.heap[O]? = _):=HO;have HBd:=hh HB.out.drew;have hS:wr.drew.cell? ⟨X,2,none⟩=some (.int .u64 (A2:Int))∧wr.drew.cell? ⟨Y,2,none⟩=some (.int .u64 (B2:Int)):=⟨Lib.cell_of_heap HXd.out 2,Lib.cell_of_heap HYd.out 2⟩;rw [show kAt k0 k1 k2 k3 2=k1 from rfl];clear HO HX HY HR HB hi hlt;go_wp2_with fail;refine a0f (fun w'=>w'.cell? ⟨X,2,none⟩=some (.int .u64 (A2:Int))∧w'.cell? ⟨Y,2,none⟩=some (.int .u64 (B2:Int))) 15 15 (by kernel_rfl) rfl ?_;refine tA1 0 13 hS ?_;go_frame;refine tA1 1 14 hS ?_;go_frame;refine tA1 2 15 hS ?_;go_frame;refine tk 3 (some 16) rfl rfl (.inl ⟨by rfl,fun w' hS'=>(by obtain ⟨hc1,hc2⟩:=hS';go_simp;rfl)⟩) hS ?_;go_frame;refine tA1 4 17 hS ?_;go_frame;refine tA1 5 18 hS ?_;go_frame;refine tk 6 (some 19) rfl rfl (.inl ⟨by rfl,fun w' hS'=>(by obtain ⟨hc1,hc2⟩:=hS';go_simp;rfl)⟩) hS ?_;go_frame;refine tA1 7 20 hS ?_;go_frame;refine t1 8 fun K hK=>?_
    simp only [gA,jB,gC];go_simp;refine (e0c HE2.out.1 HE2.out.2.1 HE2.out.2.2.2.1 HE2.out.2.2.1 HE2.out.2.2.2.2 _).mono ?_;rintro e wc ⟨rfl,rfl⟩;refine hK _ _ (fun _ _=>hS) ?_;clear hK;refine tA1 9 12 hS ?_;go_frame;refine tA1 10 22 hS ?_;go_frame;refine tA1 11 23 hS ?_;go_frame;refine tA1 12 24 hS ?_;go_frame;refine t1 13 fun K hK=>?_
    simp only [gA,jB,gC];refine a0q 23 _ _ rfl O 2 (.int .u64 s2) rfl rfl rfl rfl 25 (oAt s0 s1 s2 s3 2) HOd.out Tryz.sizeU64 (by simp [oAt]) (oAt s0 s1 s2 s3 3) (by simp [oAt]) ?_;intro w8 hx8 k8 _;have HO8:=hh hx8;have HX8:=hh (k8.at HXd.out (fun e=>HOD.out.2.1 e.symm));have HY8:=hh (k8.at HYd.out (fun e=>HOD.out.2.2.1 e.symm));have HR8:=hh (k8.at HRd.out (fun e=>HOD.out.2.2.2 e.symm));have HB8:=hh (HBd.out.trans (k8.below (B:=w.heap.size) (fun y hy e=>by have:=HOD.out.1;omega) HBd.out.size));have hS2:w8.cell? ⟨X,2,none⟩=some (.int .u64 (A2:Int))∧w8.cell? ⟨Y,2,none⟩=some (.int .u64 (B2:Int)):=⟨Lib.cell_of_heap HX8.out 2,Lib.cell_of_heap HY8.out 2⟩;refine hK _ _ (fun _ _=>hS2) ?_;clear hK hS hx8 k8;have hS:=hS2;clear hS2;refine tA1 14 7 hS ?_;go_frame;refine tD ?_;clear hS;go_wp2_with fail
    go_roundw
    case rel=>exact ⟨3,by go_num,by omega,rfl,HO8,HX8,HY8,HR8,HB8⟩
    case measure=>simp [intOf]
   ·have HXd:Hid (wr.drew.heap[X]? = _):=HX;have HYd:Hid (wr.drew.heap[Y]? = _):=HY;have HRd:Hid (wr.drew.heap[R]? = _):=HR;have HOd:Hid (wr.drew.heap[O]? = _):=HO;have HBd:=hh HB.out.drew;have hS:wr.drew.cell? ⟨X,3,none⟩=some (.int .u64 (A3:Int))∧wr.drew.cell? ⟨Y,3,none⟩=some (.int .u64 (B3:Int)):=⟨Lib.cell_of_heap HXd.out 3,Lib.cell_of_heap HYd.out 3⟩;rw [show kAt k0 k1 k2 k3 3=k2 from rfl];clear HO HX HY HR HB hi hlt;go_wp2_with fail;refine a0f (fun w'=>w'.cell? ⟨X,3,none⟩=some (.int .u64 (A3:Int))∧w'.cell? ⟨Y,3,none⟩=some (.int .u64 (B3:Int))) 15 15 (by kernel_rfl) rfl ?_;refine tA1 0 13 hS ?_;go_frame;refine tA1 1 14 hS ?_;go_frame;refine tA1 2 15 hS ?_;go_frame;refine tk 3 (some 16) rfl rfl (.inl ⟨by rfl,fun w' hS'=>(by obtain ⟨hc1,hc2⟩:=hS';go_simp;rfl)⟩) hS ?_;go_frame;refine tA1 4 17 hS ?_;go_frame;refine tA1 5 18 hS ?_;go_frame;refine tk 6 (some 19) rfl rfl (.inl ⟨by rfl,fun w' hS'=>(by obtain ⟨hc1,hc2⟩:=hS';go_simp;rfl)⟩) hS ?_;go_frame;refine tA1 7 20 hS ?_;go_frame;refine t1 8 fun K hK=>?_
    simp only [gA,jB,gC];go_simp;refine (e0c HE3.out.1 HE3.out.2.1 HE3.out.2.2.2.1 HE3.out.2.2.1 HE3.out.2.2.2.2 _).mono ?_;rintro e wc ⟨rfl,rfl⟩;refine hK _ _ (fun _ _=>hS) ?_;clear hK;refine tA1 9 12 hS ?_;go_frame;refine tA1 10 22 hS ?_;go_frame;refine tA1 11 23 hS ?_;go_frame;refine tA1 12 24 hS ?_;go_frame;refine t1 13 fun K hK=>?_
    simp only [gA,jB,gC];refine a0q 23 _ _ rfl O 3 (.int .u64 s3) rfl rfl rfl rfl 25 (oAt s0 s1 s2 s3 3) HOd.out Tryz.sizeU64 (by simp [oAt]) (oAt s0 s1 s2 s3 4) (by simp [oAt]) ?_;intro w8 hx8 k8 _;have HO8:=hh hx8;have HX8:=hh (k8.at HXd.out (fun e=>HOD.out.2.1 e.symm));have HY8:=hh (k8.at HYd.out (fun e=>HOD.out.2.2.1 e.symm));have HR8:=hh (k8.at HRd.out (fun e=>HOD.out.2.2.2 e.symm));have HB8:=hh (HBd.out.trans (k8.below (B:=w.heap.size) (fun y hy e=>by have:=HOD.out.1;omega) HBd.out.size));have hS2:w8.cell? ⟨X,3,none⟩=some (.int .u64 (A3:Int))∧w8.cell? ⟨Y,3,none⟩=some (.int .u64 (B3:Int)):=⟨Lib.cell_of_heap HX8.out 3,Lib.cell_of_heap HY8.out 3⟩;refine hK _ _ (fun _ _=>hS2) ?_;clear hK hS hx8 k8;have hS:=hS2;clear hS2;refine tA1 14 7 hS ?_;go_frame;refine tD ?_;clear hS;go_wp2_with fail
    go_roundw
    case rel=>exact ⟨4,by go_num,by omega,rfl,HO8,HX8,HY8,HR8,HB8⟩
    case measure=>simp [intOf]
  ·obtain rfl:i=4:=by omega
   have HO4:Hid (wr.heap[O]? = some (.cells #[.int .u64 s0,.int .u64 s1,.int .u64 s2,.int .u64 s3] 25 (0,0))):=HO;rw [show kAt k0 k1 k2 k3 4=k3 from rfl];clear HO HX HY hi hlt
   by_cases hk:k3=0
   ·obtain ⟨g1,g2⟩:=HFIN.out.1 hk;have G1:=hh g1;have G2:=hh g2;clear g1 g2;subst hk
    go_wp2_with (first
     | (refine lR HO4 Tryz.underlying25 Tryz.sizeU ?_)
     | (refine sR 25 #[.int .u64 s0,.int .u64 s1,.int .u64 s2,.int .u64 s3] HR Tryz.sizeU ?_))
    intro w8 hx8 k8 _;have HX8:=hh hx8;have HB8:=hh (HB.out.trans (k8.below (B:=w.heap.size) (fun y hy e=>by have:=HRW.out;omega) HB.out.size));clear hx8 k8;go_wp2_with fail
    exact bR rfl rfl HX8 Tryz.underlying25 Tryz.sizeU ⟨_,_,_,_,by rw [decide_eq_true G1.out];exact G2.out,by rw [decide_eq_true G1.out];rfl,HB8.out⟩
   ·have g1:=HFIN.out.2 hk;have G1:=hh g1;have hk2:((k3:Int) == 0)=false:=by simpa using hk
    clear g1
    go_wp2_with (refine a0a (t:=25) (old:=u0) rfl 25 _ _ rfl R u0 rfl rfl HR.out Tryz.sizeU rfl (a0Y _ _ _ _) ?_)
    intro w8 hx8 k8 _;have HX8:=hh hx8;have HB8:=hh (HB.out.trans (k8.below (B:=w.heap.size) (fun y hy e=>by have:=HRW.out;omega) HB.out.size));clear hx8 k8;go_wp2_with fail
    exact bodyPost_ret (a0l rfl _ _ R _ u0 _ _ rfl HX8.out Tryz.underlying25 rfl Tryz.sizeU _ rfl) rfl ⟨0,0,0,0,by rw [decide_eq_false G1.out];exact UIs.zero,by rw [decide_eq_false G1.out];rfl,HB8.out⟩

theorem e0T {a b c d a' b' c' d':Int} {n m:Nat} (h:UIs a b c d n) (h':UIs a' b' c' d' m) (w:World) :
  Calls Tryz.prog 86 #[.agg #[.int .u64 a,.int .u64 b,.int .u64 c,.int .u64 d],.agg #[.int .u64 a',.int .u64 b',.int .u64 c',.int .u64 d']] w (UOk w (n - m) (decide (m≤n))):=by
 obtain ⟨A0,A1,A2,A3,rfl,rfl,rfl,rfl,ha0,ha1,ha2,ha3,hn⟩:=h.nats;obtain ⟨B0,B1,B2,B3,rfl,rfl,rfl,rfl,hb0,hb1,hb2,hb3,hm⟩:=h'.nats;obtain ⟨s0,k0,hs0,hk0,e0⟩:=d0H ha0 hb0 (Nat.zero_le 1);obtain ⟨s1,k1,hs1,hk1,e1⟩:=d0H ha1 hb1 hk0;obtain ⟨s2,k2,hs2,hk2,e2⟩:=d0H ha2 hb2 hk1;obtain ⟨s3,k3,hs3,hk3,e3⟩:=d0H ha3 hb3 hk2;have HE0:=hh (And.intro ha0 (And.intro hb0 (And.intro hs0 e0)));have HE1:=hh (And.intro ha1 (And.intro hb1 (And.intro hs1 (And.intro hk0 e1))));have HE2:=hh (And.intro ha2 (And.intro hb2 (And.intro hs2 (And.intro hk1 e2))));have HE3:=hh (And.intro ha3 (And.intro hb3 (And.intro hs3 (And.intro hk2 e3))));have HFIN:Hid ((k3=0→(m≤n)∧UIs s0 s1 s2 s3 (n - m))∧(k3≠0→¬ (m≤n))):=hh (by
  constructor
  ·intro hz;have hok:m≤n:=by omega
   exact ⟨hok,UIs.of_nats hs0 hs1 hs2 hs3 (by omega)⟩
  ·intro hz
   omega)
 clear h h' ha0 ha1 ha2 ha3 hb0 hb1 hb2 hb3 hn hm hs0 hs1 hs2 hs3 e0 e1 e2 e3 hk0 hk1 hk2 hk3
 go_enter Tryz.func86,Tryz.ntmps86
 go_wp2_with (refine sA _ Tryz.zeroUz ?_)
 obtain ⟨w1,hw1⟩:=nm ((w.alloc (.cells #[.int .u64 (A0:Int),.int .u64 (A1:Int),.int .u64 (A2:Int),.int .u64 (A3:Int)] 25)).alloc (.cells #[.int .u64 (B0:Int),.int .u64 (B1:Int),.int .u64 (B2:Int),.int .u64 (B3:Int)] 25));obtain ⟨X,hX⟩:=nm (w.heap.size);obtain ⟨Y,hY⟩:=nm (w.heap.size+1);rw [← hw1,← hY,← hX];have hbx:=box2 w _ _ _ _ w1 hw1;rw [← hY,← hX] at hbx;have HX1:=hh hbx.1;have HY1:=hh hbx.2.1;have HB1:Hid (Below w.heap.size w w1):=hh (by rw [← hX];exact hbx.2.2.1);clear hbx hw1 hX hY;intro R w2 h2;have HR2:=hh h2.out.cells;have HB2:=hh (HB1.out.trans (h2.out.below.mono HB1.out.size));have HRW:Hid (w.heap.size≤R):=hh (by rw [h2.out.eq];exact HB1.out.size);have HX2:=hh (a0e h2.out.below HX1.out);have HY2:=hh (a0e h2.out.below HY1.out);clear h2 HX1 HY1 HB1
 go_wp2_with (refine sA _ Tryz.zeroUz ?_)
 intro O w3 h3;have HO3:=hh h3.out.cells;have HB3:=hh (HB2.out.trans (h3.out.below.mono HB2.out.size));have HX3:=hh (a0e h3.out.below HX2.out);have HY3:=hh (a0e h3.out.below HY2.out);have HR3:=hh (a0e h3.out.below HR2.out);have HOD:Hid (w.heap.size≤O∧O≠X∧O≠Y∧O≠R):=hh (by
  have:=h3.out.eq;have:=a0b HX2.out;have:=a0b HY2.out;have:=a0b HR2.out;have:=HB2.out.size
  exact ⟨by omega,by omega,by omega,by omega⟩)
 clear h3 HX2 HY2 HR2 HB2;go_wp2_with fail
 go_loopw [7,9] (fun vc vi wr=>∃ i:Nat,vi = .int .i64 i∧i≤4∧vc = .int .u64 (kAt k0 k1 k2 k3 i)∧Hid (wr.heap[O]? = some (.cells (oAt s0 s1 s2 s3 i) 25 (0,0)))∧Hid (wr.heap[X]? = some (.cells #[.int .u64 A0,.int .u64 A1,.int .u64 A2,.int .u64 A3] 25 (0,0)))∧Hid (wr.heap[Y]? = some (.cells #[.int .u64 B0,.int .u64 B1,.int .u64 B2,.int .u64 B3] 25 (0,0)))∧Hid (wr.heap[R]? = some (.cells u0 25 (0,0)))∧Hid (Below w.heap.size w wr)) (fun _ vi _=>4 - (intOf vi).toNat)
 case atStart=>exact ⟨0,rfl,by omega,rfl,HO3,HX3,HY3,HR3,HB3⟩
 case round=>
  clear HO3 HX3 HY3 HR3 HB3;obtain ⟨i,rfl,hi,rfl,HO,HX,HY,HR,HB⟩:=hrel
  by_cases hlt:i < 4
  ·rcases (show i=0∨i=1∨i=2∨i=3 by omega) with rfl | rfl | rfl | rfl
   ·have HXd:Hid (wr.drew.heap[X]? = _):=HX;have HYd:Hid (wr.drew.heap[Y]? = _):=HY;have HRd:Hid (wr.drew.heap[R]? = _):=HR;have HOd:Hid (wr.drew.heap[O]? = _):=HO;have HBd:=hh HB.out.drew;have hS:wr.drew.cell? ⟨X,0,none⟩=some (.int .u64 (A0:Int))∧wr.drew.cell? ⟨Y,0,none⟩=some (.int .u64 (B0:Int)):=⟨Lib.cell_of_heap HXd.out 0,Lib.cell_of_heap HYd.out 0⟩;rw [show kAt k0 k1 k2 k3 0=0 from rfl];clear HO HX HY HR HB hi hlt;go_wp2_with fail;refine a0f (fun w'=>w'.cell? ⟨X,0,none⟩=some (.int .u64 (A0:Int))∧w'.cell? ⟨Y,0,none⟩=some (.int .u64 (B0:Int))) 15 15 (by kernel_rfl) rfl ?_;refine tA1 0 13 hS ?_;go_frame;refine tA1 1 14 hS ?_;go_frame;refine tA1 2 15 hS ?_;go_frame;refine tk 3 (some 16) rfl rfl (.inl ⟨by rfl,fun w' hS'=>(by obtain ⟨hc1,hc2⟩:=hS';go_simp;rfl)⟩) hS ?_;go_frame;refine tA1 4 17 hS ?_;go_frame;refine tA1 5 18 hS ?_;go_frame;refine tk 6 (some 19) rfl rfl (.inl ⟨by rfl,fun w' hS'=>(by obtain ⟨hc1,hc2⟩:=hS';go_simp;rfl)⟩) hS ?_;go_frame;refine tA1 7 20 hS ?_;go_frame;refine t1 8 fun K hK=>?_
    simp only [gA,jB,gC];go_simp;refine (d0k HE0.out.1 HE0.out.2.1 (Nat.zero_le 1) HE0.out.2.2.1 HE0.out.2.2.2 _).mono ?_;rintro e wc ⟨rfl,rfl⟩;refine hK _ _ (fun _ _=>hS) ?_;clear hK;refine tA1 9 12 hS ?_;go_frame;refine tA1 10 22 hS ?_;go_frame;refine tA1 11 23 hS ?_;go_frame;refine tA1 12 24 hS ?_;go_frame;refine t1 13 fun K hK=>?_
    simp only [gA,jB,gC];refine a0q 23 _ _ rfl O 0 (.int .u64 s0) rfl rfl rfl rfl 25 (oAt s0 s1 s2 s3 0) HOd.out Tryz.sizeU64 (by simp [oAt,u0]) (oAt s0 s1 s2 s3 1) (by simp [oAt,u0]) ?_;intro w8 hx8 k8 _;have HO8:=hh hx8;have HX8:=hh (k8.at HXd.out (fun e=>HOD.out.2.1 e.symm));have HY8:=hh (k8.at HYd.out (fun e=>HOD.out.2.2.1 e.symm));have HR8:=hh (k8.at HRd.out (fun e=>HOD.out.2.2.2 e.symm));have HB8:=hh (HBd.out.trans (k8.below (B:=w.heap.size) (fun y hy e=>by have:=HOD.out.1;omega) HBd.out.size));have hS2:w8.cell? ⟨X,0,none⟩=some (.int .u64 (A0:Int))∧w8.cell? ⟨Y,0,none⟩=some (.int .u64 (B0:Int)):=⟨Lib.cell_of_heap HX8.out 0,Lib.cell_of_heap HY8.out 0⟩;refine hK _ _ (fun _ _=>hS2) ?_;clear hK hS hx8 k8;have hS:=hS2;clear hS2;refine tA1 14 7 hS ?_;go_frame;refine tD ?_;clear hS;go_wp2_with fail
    go_roundw
    case rel=>exact ⟨1,by go_num,by omega,rfl,HO8,HX8,HY8,HR8,HB8⟩
    case measure=>simp [intOf]
   ·have HXd:Hid (wr.drew.heap[X]? = _):=HX;have HYd:Hid (wr.drew.heap[Y]? = _):=HY;have HRd:Hid (wr.drew.heap[R]? = _):=HR;have HOd:Hid (wr.drew.heap[O]? = _):=HO;have HBd:=hh HB.out.drew;have hS:wr.drew.cell? ⟨X,1,none⟩=some (.int .u64 (A1:Int))∧wr.drew.cell? ⟨Y,1,none⟩=some (.int .u64 (B1:Int)):=⟨Lib.cell_of_heap HXd.out 1,Lib.cell_of_heap HYd.out 1⟩;rw [show kAt k0 k1 k2 k3 1=k0 from rfl];clear HO HX HY HR HB hi hlt;go_wp2_with fail;refine a0f (fun w'=>w'.cell? ⟨X,1,none⟩=some (.int .u64 (A1:Int))∧w'.cell? ⟨Y,1,none⟩=some (.int .u64 (B1:Int))) 15 15 (by kernel_rfl) rfl ?_;refine tA1 0 13 hS ?_;go_frame;refine tA1 1 14 hS ?_;go_frame;refine tA1 2 15 hS ?_;go_frame;refine tk 3 (some 16) rfl rfl (.inl ⟨by rfl,fun w' hS'=>(by obtain ⟨hc1,hc2⟩:=hS';go_simp;rfl)⟩) hS ?_;go_frame;refine tA1 4 17 hS ?_;go_frame;refine tA1 5 18 hS ?_;go_frame;refine tk 6 (some 19) rfl rfl (.inl ⟨by rfl,fun w' hS'=>(by obtain ⟨hc1,hc2⟩:=hS';go_simp;rfl)⟩) hS ?_;go_frame;refine tA1 7 20 hS ?_;go_frame;refine t1 8 fun K hK=>?_
    simp only [gA,jB,gC];go_simp;refine (d0k HE1.out.1 HE1.out.2.1 HE1.out.2.2.2.1 HE1.out.2.2.1 HE1.out.2.2.2.2 _).mono ?_;rintro e wc ⟨rfl,rfl⟩;refine hK _ _ (fun _ _=>hS) ?_;clear hK;refine tA1 9 12 hS ?_;go_frame;refine tA1 10 22 hS ?_;go_frame;refine tA1 11 23 hS ?_;go_frame;refine tA1 12 24 hS ?_;go_frame;refine t1 13 fun K hK=>?_
    simp only [gA,jB,gC];refine a0q 23 _ _ rfl O 1 (.int .u64 s1) rfl rfl rfl rfl 25 (oAt s0 s1 s2 s3 1) HOd.out Tryz.sizeU64 (by simp [oAt]) (oAt s0 s1 s2 s3 2) (by simp [oAt]) ?_;intro w8 hx8 k8 _;have HO8:=hh hx8;have HX8:=hh (k8.at HXd.out (fun e=>HOD.out.2.1 e.symm));have HY8:=hh (k8.at HYd.out (fun e=>HOD.out.2.2.1 e.symm));have HR8:=hh (k8.at HRd.out (fun e=>HOD.out.2.2.2 e.symm));have HB8:=hh (HBd.out.trans (k8.below (B:=w.heap.size) (fun y hy e=>by have:=HOD.out.1;omega) HBd.out.size));have hS2:w8.cell? ⟨X,1,none⟩=some (.int .u64 (A1:Int))∧w8.cell? ⟨Y,1,none⟩=some (.int .u64 (B1:Int)):=⟨Lib.cell_of_heap HX8.out 1,Lib.cell_of_heap HY8.out 1⟩;refine hK _ _ (fun _ _=>hS2) ?_;clear hK hS hx8 k8;have hS:=hS2;clear hS2;refine tA1 14 7 hS ?_;go_frame;refine tD ?_;clear hS;go_wp2_with fail
    go_roundw
    case rel=>exact ⟨2,by go_num,by omega,rfl,HO8,HX8,HY8,HR8,HB8⟩
    case measure=>simp [intOf]
   ·have HXd:Hid (wr.drew.heap[X]? = _):=HX;have HYd:Hid (wr.drew.heap[Y]? = _):=HY;have HRd:Hid (wr.drew.heap[R]? = _):=HR;have HOd:Hid (wr.drew.heap[O]? = _):=HO;have HBd:=hh HB.out.drew;have hS:wr.drew.cell? ⟨X,2,none⟩=some (.int .u64 (A2:Int))∧wr.drew.cell? ⟨Y,2,none⟩=some (.int .u64 (B2:Int)):=⟨Lib.cell_of_heap HXd.out 2,Lib.cell_of_heap HYd.out 2⟩;rw [show kAt k0 k1 k2 k3 2=k1 from rfl];clear HO HX HY HR HB hi hlt;go_wp2_with fail;refine a0f (fun w'=>w'.cell? ⟨X,2,none⟩=some (.int .u64 (A2:Int))∧w'.cell? ⟨Y,2,none⟩=some (.int .u64 (B2:Int))) 15 15 (by kernel_rfl) rfl ?_;refine tA1 0 13 hS ?_;go_frame;refine tA1 1 14 hS ?_;go_frame;refine tA1 2 15 hS ?_;go_frame;refine tk 3 (some 16) rfl rfl (.inl ⟨by rfl,fun w' hS'=>(by obtain ⟨hc1,hc2⟩:=hS';go_simp;rfl)⟩) hS ?_;go_frame;refine tA1 4 17 hS ?_;go_frame;refine tA1 5 18 hS ?_;go_frame;refine tk 6 (some 19) rfl rfl (.inl ⟨by rfl,fun w' hS'=>(by obtain ⟨hc1,hc2⟩:=hS';go_simp;rfl)⟩) hS ?_;go_frame;refine tA1 7 20 hS ?_;go_frame;refine t1 8 fun K hK=>?_
    simp only [gA,jB,gC];go_simp;refine (d0k HE2.out.1 HE2.out.2.1 HE2.out.2.2.2.1 HE2.out.2.2.1 HE2.out.2.2.2.2 _).mono ?_;rintro e wc ⟨rfl,rfl⟩;refine hK _ _ (fun _ _=>hS) ?_;clear hK;refine tA1 9 12 hS ?_;go_frame;refine tA1 10 22 hS ?_;go_frame;refine tA1 11 23 hS ?_;go_frame;refine tA1 12 24 hS ?_;go_frame;refine t1 13 fun K hK=>?_
    simp only [gA,jB,gC];refine a0q 23 _ _ rfl O 2 (.int .u64 s2) rfl rfl rfl rfl 25 (oAt s0 s1 s2 s3 2) HOd.out Tryz.sizeU64 (by simp [oAt]) (oAt s0 s1 s2 s3 3) (by simp [oAt]) ?_;intro w8 hx8 k8 _;have HO8:=hh hx8;have HX8:=hh (k8.at HXd.out (fun e=>HOD.out.2.1 e.symm));have HY8:=hh (k8.at HYd.out (fun e=>HOD.out.2.2.1 e.symm));have HR8:=hh (k8.at HRd.out (fun e=>HOD.out.2.2.2 e.symm));have HB8:=hh (HBd.out.trans (k8.below (B:=w.heap.size) (fun y hy e=>by have:=HOD.out.1;omega) HBd.out.size));have hS2:w8.cell? ⟨X,2,none⟩=some (.int .u64 (A2:Int))∧w8.cell? ⟨Y,2,none⟩=some (.int .u64 (B2:Int)):=⟨Lib.cell_of_heap HX8.out 2,Lib.cell_of_heap HY8.out 2⟩;refine hK _ _ (fun _ _=>hS2) ?_;clear hK hS hx8 k8;have hS:=hS2;clear hS2;refine tA1 14 7 hS ?_;go_frame;refine tD ?_;clear hS;go_wp2_with fail
    go_roundw
    case rel=>exact ⟨3,by go_num,by omega,rfl,HO8,HX8,HY8,HR8,HB8⟩
    case measure=>simp [intOf]
   ·have HXd:Hid (wr.drew.heap[X]? = _):=HX;have HYd:Hid (wr.drew.heap[Y]? = _):=HY;have HRd:Hid (wr.drew.heap[R]? = _):=HR;have HOd:Hid (wr.drew.heap[O]? = _):=HO;have HBd:=hh HB.out.drew;have hS:wr.drew.cell? ⟨X,3,none⟩=some (.int .u64 (A3:Int))∧wr.drew.cell? ⟨Y,3,none⟩=some (.int .u64 (B3:Int)):=⟨Lib.cell_of_heap HXd.out 3,Lib.cell_of_heap HYd.out 3⟩;rw [show kAt k0 k1 k2 k3 3=k2 from rfl];clear HO HX HY HR HB hi hlt;go_wp2_with fail;refine a0f (fun w'=>w'.cell? ⟨X,3,none⟩=some (.int .u64 (A3:Int))∧w'.cell? ⟨Y,3,none⟩=some (.int .u64 (B3:Int))) 15 15 (by kernel_rfl) rfl ?_;refine tA1 0 13 hS ?_;go_frame;refine tA1 1 14 hS ?_;go_frame;refine tA1 2 15 hS ?_;go_frame;refine tk 3 (some 16) rfl rfl (.inl ⟨by rfl,fun w' hS'=>(by obtain ⟨hc1,hc2⟩:=hS';go_simp;rfl)⟩) hS ?_;go_frame;refine tA1 4 17 hS ?_;go_frame;refine tA1 5 18 hS ?_;go_frame;refine tk 6 (some 19) rfl rfl (.inl ⟨by rfl,fun w' hS'=>(by obtain ⟨hc1,hc2⟩:=hS';go_simp;rfl)⟩) hS ?_;go_frame;refine tA1 7 20 hS ?_;go_frame;refine t1 8 fun K hK=>?_
    simp only [gA,jB,gC];go_simp;refine (d0k HE3.out.1 HE3.out.2.1 HE3.out.2.2.2.1 HE3.out.2.2.1 HE3.out.2.2.2.2 _).mono ?_;rintro e wc ⟨rfl,rfl⟩;refine hK _ _ (fun _ _=>hS) ?_;clear hK;refine tA1 9 12 hS ?_;go_frame;refine tA1 10 22 hS ?_;go_frame;refine tA1 11 23 hS ?_;go_frame;refine tA1 12 24 hS ?_;go_frame;refine t1 13 fun K hK=>?_
    simp only [gA,jB,gC];refine a0q 23 _ _ rfl O 3 (.int .u64 s3) rfl rfl rfl rfl 25 (oAt s0 s1 s2 s3 3) HOd.out Tryz.sizeU64 (by simp [oAt]) (oAt s0 s1 s2 s3 4) (by simp [oAt]) ?_;intro w8 hx8 k8 _;have HO8:=hh hx8;have HX8:=hh (k8.at HXd.out (fun e=>HOD.out.2.1 e.symm));have HY8:=hh (k8.at HYd.out (fun e=>HOD.out.2.2.1 e.symm));have HR8:=hh (k8.at HRd.out (fun e=>HOD.out.2.2.2 e.symm));have HB8:=hh (HBd.out.trans (k8.below (B:=w.heap.size) (fun y hy e=>by have:=HOD.out.1;omega) HBd.out.size));have hS2:w8.cell? ⟨X,3,none⟩=some (.int .u64 (A3:Int))∧w8.cell? ⟨Y,3,none⟩=some (.int .u64 (B3:Int)):=⟨Lib.cell_of_heap HX8.out 3,Lib.cell_of_heap HY8.out 3⟩;refine hK _ _ (fun _ _=>hS2) ?_;clear hK hS hx8 k8;have hS:=hS2;clear hS2;refine tA1 14 7 hS ?_;go_frame;refine tD ?_;clear hS;go_wp2_with fail
    go_roundw
    case rel=>exact ⟨4,by go_num,by omega,rfl,HO8,HX8,HY8,HR8,HB8⟩
    case measure=>simp [intOf]
  ·obtain rfl:i=4:=by omega
   have HO4:Hid (wr.heap[O]? = some (.cells #[.int .u64 s0,.int .u64 s1,.int .u64 s2,.int .u64 s3] 25 (0,0))):=HO;rw [show kAt k0 k1 k2 k3 4=k3 from rfl];clear HO HX HY hi hlt
   by_cases hk:k3=0
   ·obtain ⟨g1,g2⟩:=HFIN.out.1 hk;have G1:=hh g1;have G2:=hh g2;clear g1 g2;subst hk
    go_wp2_with (first
     | (refine lR HO4 Tryz.underlying25 Tryz.sizeU ?_)
     | (refine sR 25 #[.int .u64 s0,.int .u64 s1,.int .u64 s2,.int .u64 s3] HR Tryz.sizeU ?_))
    intro w8 hx8 k8 _;have HX8:=hh hx8;have HB8:=hh (HB.out.trans (k8.below (B:=w.heap.size) (fun y hy e=>by have:=HRW.out;omega) HB.out.size));clear hx8 k8;go_wp2_with fail
    exact bR rfl rfl HX8 Tryz.underlying25 Tryz.sizeU ⟨_,_,_,_,by rw [decide_eq_true G1.out];exact G2.out,by rw [decide_eq_true G1.out];rfl,HB8.out⟩
   ·have g1:=HFIN.out.2 hk;have G1:=hh g1;have hk2:((k3:Int) == 0)=false:=by simpa using hk
    clear g1
    go_wp2_with (refine a0a (t:=25) (old:=u0) rfl 25 _ _ rfl R u0 rfl rfl HR.out Tryz.sizeU rfl (a0Y _ _ _ _) ?_)
    intro w8 hx8 k8 _;have HX8:=hh hx8;have HB8:=hh (HB.out.trans (k8.below (B:=w.heap.size) (fun y hy e=>by have:=HRW.out;omega) HB.out.size));clear hx8 k8;go_wp2_with fail
    exact bodyPost_ret (a0l rfl _ _ R _ u0 _ _ rfl HX8.out Tryz.underlying25 rfl Tryz.sizeU _ rfl) rfl ⟨0,0,0,0,by rw [decide_eq_false G1.out];exact UIs.zero,by rw [decide_eq_false G1.out];rfl,HB8.out⟩

abbrev uHalf:Nat:=340282366920938463463374607431768211456
theorem g0c (a b:Nat):(a ||| b=0)↔(a=0∧b=0):=by
 constructor
 ·intro h;have h1:=Nat.left_le_or (n:=a) (m:=b);have h2:=Nat.right_le_or (n:=a) (m:=b)
  omega
 ·rintro ⟨rfl,rfl⟩;rfl
theorem d0A {a b c d:Int} {n:Nat} (h:UIs a b c d n) (w:World):Calls Tryz.prog 101 #[.agg #[.int .u64 a,.int .u64 b,.int .u64 c,.int .u64 d]] w (Ret w (.bool (decide (n < uHalf)))):=by
 obtain ⟨A,B,C,E,rfl,rfl,rfl,rfl,ha,hb,hc,he,hn⟩:=h.nats;have hor:bits BinOp.or IntKind.u64 (C:Int) (E:Int)=((C ||| E:Nat):Int):=u64_or_nat C E hc he;have hz:(((C ||| E:Nat):Int) == 0)=decide (n < uHalf):=by
  by_cases h0:C ||| E=0
  ·have:=(g0c C E).1 h0;rw [h0,decide_eq_true (by unfold uHalf;omega)];rfl
  ·have h1:¬ (C=0∧E=0):=fun e=>h0 ((g0c C E).2 e)
   rw [decide_eq_false (by unfold uHalf;omega)]
   simpa using h0
 obtain ⟨z,hz2⟩:=nm ((((C ||| E:Nat):Int) == 0));have HZ:=hh (hz2.trans hz);have hz3:=hz2.symm;obtain ⟨q,hq⟩:∃ q:Int,q=((C ||| E:Nat):Int):=⟨_,rfl⟩;rw [← hq] at hor hz3;clear h ha hb hc he hn hz hz2 hq
 go_enter Tryz.func101,Tryz.ntmps101
 go_wp2_with fail
 go_ret
 exact ⟨by rw [HZ.out];rfl,a0d _ _⟩
end Go.Proofs.YtakkfabaeolbdaaGreat
