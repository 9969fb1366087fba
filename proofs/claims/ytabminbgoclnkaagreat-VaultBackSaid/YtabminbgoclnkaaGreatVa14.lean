/- u256.wrap. No condition. Bits of words of 64: plain. No condition. -/
import Derived.Test.YtabminbgoclnkaaGreatVaAriB
import Derived.Test.YtabminbgoclnkaaGreatVa5
import Derived.Test.YtabminbgoclnkaaGreatVaMulJ
import Derived.Test.YtabminbgoclnkaaGreatVaTimJ
namespace Go.Proofs.YtabminbgoclnkaaGreat
section
set_option maxHeartbeats 16000000
set_option maxRecDepth 100000
open Go.RowKit

section
variable {P:Program} {ops:Array Oper} {Q:Exit→Act→World→Prop} {md:Region.Mode} {S:World→Prop} {z:Nat}
theorem AnyTill.firstF {i:Nat} {oi:Oper} {v:Value} (hi:ops[i]? = some oi) (hsel:∀ (j:Nat) (o:Oper) cs b,ops[j]? = some o→o.op≠.select cs b) (hiz:i≠z)
  (hQ:∀ c a w,Q (.panic c) (a.put oi.dst v) w→Q (.panic c) a w) :
  ∀ (fuel:Nat) (listed:Array Bool) (a:Act) (w:World),Closed md ops listed →
   (∀ j oj,ops[j]? = some oj→j≠i→listed.getD j true=false→(∀ e∈oj.after,Region.binds md e=true→e.on≠i)→oi.apart ops oj=true) →
   i∈Region.ready md ops listed→YieldsIf P ops (fun _=>True) oi v a→(listed.getD z false=false→S w) →
   AnyTill P md ops Q S z fuel (listed.setIfInBounds i true) (a.put oi.dst v) w→AnyTill P md ops Q S z (fuel+1) listed a w:=by
 intro fuel
 induction fuel with
 | zero=>
  intro listed a w _ _ hr hy hS H;refine ⟨fun h=>(by rw [h] at hr;cases hr),fun j hj=>?_⟩
  by_cases hji:j=i
  ·subst hji;exact hy.wpOp hi trivial ⟨fun _ h=>hS h,H⟩
  ·have:=ready_mono hj hji;rw [H.1] at this
   cases this
 | succ fuel ih=>
  intro listed a w hcl hfree hr hy hS H;refine ⟨fun h=>(by rw [h] at hr;cases hr),fun j hj=>?_⟩
  by_cases hji:j=i
  ·subst hji;exact hy.wpOp hi trivial ⟨fun _ h=>hS h,H⟩
  ·have hun:listed.getD i true=false:=(mem_ready.1 hr).1;have hun2:listed.getD i false≠true:=by
    intro h2
    rcases Nat.lt_or_ge i listed.size with h3 | h3
    ·simp [h3] at hun h2;rw [hun] at h2;cases h2
    ·simp [Array.getElem?_eq_none h3] at h2
   obtain ⟨hjun,oj,hoj,hall⟩:=mem_ready.1 hj;have hnot:∀ e∈oj.after,Region.binds md e=true→e.on≠i:=fun e he hb heq=>hun2 (heq▸hall e he hb)
   have h2:=wpOp_putIf hoj (hfree j oj hoj hji hjun hnot) (fun cs b=>hsel i oi cs b hi) (fun cs b=>hsel j oj cs b hoj) hQ hy (H.2 j (ready_mono hj hji));have hfree':∀ k ok,ops[k]? = some ok→k≠i→(listed.setIfInBounds j true).getD k true=false →
     (∀ e∈ok.after,Region.binds md e=true→e.on≠i)→oi.apart ops ok=true:=fun k ok hk hki hku hno=>by
    refine hfree k ok hk hki ?_ hno
    by_cases hjk:j=k
    ·subst hjk;exact hjun
    ·rw [getD_set_ne true hjk] at hku;exact hku
   have hz1:(listed.setIfInBounds i true).getD z false=listed.getD z false:=getD_set_ne false hiz;have hlt:j < listed.size:=by
    rcases Nat.lt_or_ge j listed.size with h3 | h3
    ·exact h3
    ·have h4:=(mem_ready.1 hj).1
     simp [Array.getElem?_eq_none h3] at h4
   have hzj:(listed.setIfInBounds j true).getD z false=false→j≠z∧listed.getD z false=false:=by
    intro h
    by_cases hjz:j=z
    ·subst hjz;simp [hlt] at h
    ·rw [getD_set_ne false hjz] at h;exact ⟨hjz,h⟩
   refine wpOp_mono (fun a' w' h3=>⟨fun e1 e2=>h3.2.1 e1 (by rw [hz1];exact e2),ih (listed.setIfInBounds j true) a' w' (hcl.set hj) hfree' (ready_mono hr (Ne.symm hji)) h3.1 (fun e=>h3.2.1 (hzj e).1 (by rw [hz1];exact (hzj e).2)) ?_⟩) h2;rw [Array.setIfInBounds_comm _ _ hji]
   exact h3.2.2
theorem a0p (i:Nat) (d:Option Tmp) {oi:Oper} {v:Value} {fuel:Nat} {listed:Array Bool} {a:Act} {w:World} (hi:ops[i]? = some oi) (hd:oi.dst=d)
  (hs:Region.noSelect ops=true) (hf:Region.free md ops listed i=true) (hr:(Region.ready md ops listed).contains i=true) (hcl:closedB md ops listed=true) (hiz:i≠z)
  (hQ:∀ c a w,Q (.panic c) (a.put d v) w→Q (.panic c) a w) (hy:YieldsIf P ops (fun _=>True) oi v a) (hS:listed.getD z false=false→S w)
  (h:AnyTill P md ops Q S z fuel (listed.setIfInBounds i true) (a.put d v) w):AnyTill P md ops Q S z (fuel+1) listed a w:=by
 subst hd
 exact AnyTill.firstF hi (Region.noSelect_spec hs) hiz hQ fuel listed a w (d0D hcl) (Region.free_spec hi hf) (by simpa using hr) hy hS h
end

theorem f0s {A0 A1 A2 A3 B0 B1 B2 B3 s0 s1 s2 s3 k0 k1 k2 k3:Nat} (e0:s0+B0+0=A0+18446744073709551616*k0) (e1:s1+B1+k0=A1+18446744073709551616*k1) (e2:s2+B2+k1=A2+18446744073709551616*k2) (e3:s3+B3+k2=A3+18446744073709551616*k3) :
  (s0+s1*18446744073709551616+s2*340282366920938463463374607431768211456+s3*6277101735386680763835789423207666416102355444464034512896)+(B0+B1*18446744073709551616+B2*340282366920938463463374607431768211456+B3*6277101735386680763835789423207666416102355444464034512896)=(A0+A1*18446744073709551616+A2*340282366920938463463374607431768211456+A3*6277101735386680763835789423207666416102355444464034512896)+k3*115792089237316195423570985008687907853269984665640564039457584007913129639936:=by omega
theorem e0g {n m s k M:Nat} (h:s+m=n+k*M) (hk:k≤1) (_hs:s < M) (hn:n < m):s=n+M - m:=by
 rcases (show k=0∨k=1 by omega) with rfl | rfl<;>omega
theorem h0C {n m s k M:Nat} (h:s+m=n+k*M) (hk:k≤1) (hs:s < M) (hn:m≤n) (_hM:n < M):s=n - m:=by
 rcases (show k=0∨k=1 by omega) with rfl | rfl<;>omega
theorem i0I {A B C E:Nat} (h1:A < 18446744073709551616) (h2:B < 18446744073709551616) (h3:C < 18446744073709551616) (h4:E < 18446744073709551616):A+B*18446744073709551616+C*340282366920938463463374607431768211456+E*6277101735386680763835789423207666416102355444464034512896 < 115792089237316195423570985008687907853269984665640564039457584007913129639936:=by omega
def wrpA (A0 A1 A2 A3 s0 s1 s2 s3:Nat):Nat→Array Value
 | 0=>#[.int .u64 (A0:Int),.int .u64 (A1:Int),.int .u64 (A2:Int),.int .u64 (A3:Int)]
 | 1=>#[.int .u64 (s0:Int),.int .u64 (A1:Int),.int .u64 (A2:Int),.int .u64 (A3:Int)]
 | 2=>#[.int .u64 (s0:Int),.int .u64 (s1:Int),.int .u64 (A2:Int),.int .u64 (A3:Int)]
 | 3=>#[.int .u64 (s0:Int),.int .u64 (s1:Int),.int .u64 (s2:Int),.int .u64 (A3:Int)]
 | _=>#[.int .u64 (s0:Int),.int .u64 (s1:Int),.int .u64 (s2:Int),.int .u64 (s3:Int)]
theorem k0b {a b c d a' b' c' d':Int} {n m:Nat} (h:UIs a b c d n) (h':UIs a' b' c' d' m) (hnm:n < m) (w:World) :
  Calls Tryz.prog 191 #[.agg #[.int .u64 a,.int .u64 b,.int .u64 c,.int .u64 d],.agg #[.int .u64 a',.int .u64 b',.int .u64 c',.int .u64 d']] w (URet w (n+uMax - m)):=by
 obtain ⟨A0,A1,A2,A3,rfl,rfl,rfl,rfl,ha0,ha1,ha2,ha3,hn⟩:=h.nats;obtain ⟨B0,B1,B2,B3,rfl,rfl,rfl,rfl,hb0,hb1,hb2,hb3,hm⟩:=h'.nats;obtain ⟨s0,k0,hs0,hk0,e0⟩:=a0T ha0 hb0 (Nat.zero_le 1);obtain ⟨s1,k1,hs1,hk1,e1⟩:=a0T ha1 hb1 hk0;obtain ⟨s2,k2,hs2,hk2,e2⟩:=a0T ha2 hb2 hk1;obtain ⟨s3,k3,hs3,hk3,e3⟩:=a0T ha3 hb3 hk2;have HE0:=hh (And.intro ha0 (And.intro hb0 (And.intro hs0 e0)));have HE1:=hh (And.intro ha1 (And.intro hb1 (And.intro hs1 (And.intro hk0 e1))));have HE2:=hh (And.intro ha2 (And.intro hb2 (And.intro hs2 (And.intro hk1 e2))));have HE3:=hh (And.intro ha3 (And.intro hb3 (And.intro hs3 (And.intro hk2 e3))));have HFIN:Hid (UIs s0 s1 s2 s3 (n+uMax - m)):=hh (UIs.of_nats hs0 hs1 hs2 hs3 ((e0g (by have h9:=f0s e0 e1 e2 e3;rw [← hn,← hm] at h9;exact h9) hk3 (i0I hs0 hs1 hs2 hs3) hnm).symm));clear h h' ha0 ha1 ha2 ha3 hb0 hb1 hb2 hb3 hn hm hs0 hs1 hs2 hs3 e0 e1 e2 e3 hk0 hk1 hk2 hk3 hnm
 go_enter Tryz.func191,Tryz.ntmps191
 go_wp2_with (refine sA _ Tryz.zeroUz ?_)
 obtain ⟨w1,hw1⟩:=nm ((w.alloc (.cells #[.int .u64 (A0:Int),.int .u64 (A1:Int),.int .u64 (A2:Int),.int .u64 (A3:Int)] 25)).alloc (.cells #[.int .u64 (B0:Int),.int .u64 (B1:Int),.int .u64 (B2:Int),.int .u64 (B3:Int)] 25));obtain ⟨X,hX⟩:=nm (w.heap.size);obtain ⟨Y,hY⟩:=nm (w.heap.size+1);rw [← hw1,← hY,← hX];have hbx:=box2 w _ _ _ _ w1 hw1;rw [← hY,← hX] at hbx;have HX1:=hh hbx.1;have HY1:=hh hbx.2.1;have HB1:Hid (Below w.heap.size w w1):=hh (by rw [← hX];exact hbx.2.2.1);have HXY:Hid (w.heap.size≤X∧X≠Y):=hh (by omega);clear hbx hw1 hX hY;intro R w2 h2;have HR2:=hh h2.out.cells;have HB2:=hh (HB1.out.trans (h2.out.below.mono HB1.out.size));have HX2:=hh (a0d h2.out.below HX1.out);have HY2:=hh (a0d h2.out.below HY1.out);have HOD:Hid (w.heap.size≤R∧R≠X∧R≠Y):=hh (by
  have:=h2.out.eq;have:=a0e HX1.out;have:=a0e HY1.out;have:=HB1.out.size
  exact ⟨by omega,by omega,by omega⟩)
 clear h2 HX1 HY1 HB1;go_wp2_with fail
 go_loopw [5,7] (fun vc vi wr=>∃ i:Nat,vi = .int .i64 i∧i≤4∧vc = .int .u64 (kAt k0 k1 k2 k3 i)∧Hid (wr.heap[X]? = some (.cells (wrpA A0 A1 A2 A3 s0 s1 s2 s3 i) 25 (0,0)))∧Hid (wr.heap[Y]? = some (.cells #[.int .u64 (B0:Int),.int .u64 (B1:Int),.int .u64 (B2:Int),.int .u64 (B3:Int)] 25 (0,0)))∧Hid (wr.heap[R]? = some (.cells u0 25 (0,0)))∧Hid (Below w.heap.size w wr)) (fun _ vi _=>4 - (intOf vi).toNat)
 case atStart=>exact ⟨0,rfl,by omega,rfl,HX2,HY2,HR2,HB2⟩
 case round=>
  clear HX2 HY2 HR2 HB2;obtain ⟨i,rfl,hi,rfl,HX,HY,HR,HB⟩:=hrel
  by_cases hlt:i < 4
  ·rcases (show i=0∨i=1∨i=2∨i=3 by omega) with rfl | rfl | rfl | rfl
   ·have HXd:Hid (wr.drew.heap[X]? = _):=HX;have HYd:Hid (wr.drew.heap[Y]? = _):=HY;have HRd:Hid (wr.drew.heap[R]? = _):=HR;have HBd:=hh HB.out.drew;have hS:wr.drew.cell? ⟨X,0,none⟩=some (.int .u64 (A0:Int))∧wr.drew.cell? ⟨Y,0,none⟩=some (.int .u64 (B0:Int)):=⟨Lib.cell_of_heap HXd.out 0,Lib.cell_of_heap HYd.out 0⟩;rw [show kAt k0 k1 k2 k3 0=0 from rfl];clear HX HY HR HB hi hlt;go_wp2_with fail;refine a0b (fun w'=>w'.cell? ⟨X,0,none⟩=some (.int .u64 (A0:Int))∧w'.cell? ⟨Y,0,none⟩=some (.int .u64 (B0:Int))) 13 15 (by kernel_rfl) rfl ?_;refine tA1 0 11 hS ?_;go_frame;refine tA1 1 12 hS ?_;go_frame;refine tA1 2 13 hS ?_;go_frame;refine tk 3 (some 14) rfl rfl (.inl ⟨by rfl,fun w' hS'=>(by obtain ⟨hc1,hc2⟩:=hS';go_simp;rfl)⟩) hS ?_;go_frame;refine tA1 4 15 hS ?_;go_frame;refine tA1 5 16 hS ?_;go_frame;refine tk 6 (some 17) rfl rfl (.inl ⟨by rfl,fun w' hS'=>(by obtain ⟨hc1,hc2⟩:=hS';go_simp;rfl)⟩) hS ?_;go_frame;refine tA1 7 18 hS ?_;go_frame;refine t1 8 fun K hK=>?_
    simp only [gA,jB,gC];go_simp;refine (a0x HE0.out.1 HE0.out.2.1 (Nat.zero_le 1) HE0.out.2.2.1 HE0.out.2.2.2 _).mono ?_;rintro e wc ⟨rfl,rfl⟩;refine hK _ _ (fun _ _=>hS) ?_;clear hK;refine tA1 9 10 hS ?_;go_frame;refine tA1 10 20 hS ?_;go_frame;refine a0p 11 (some 21) rfl rfl (by kernel_rfl) (by kernel_rfl) (by kernel_rfl) (by kernel_rfl) (by decide) (fun _ _ _ h=>h) (.inl ⟨by rfl,fun w' _=>(by go_simp;rfl)⟩) (fun _=>hS) ?_;go_frame;refine tA1 12 22 hS ?_;go_frame;refine t1 13 fun K hK=>?_
    simp only [gA,jB,gC];refine a0h 23 _ _ rfl X 0 (.int .u64 s0) rfl rfl rfl rfl 25 (wrpA A0 A1 A2 A3 s0 s1 s2 s3 0) HXd.out Tryz.sizeU64 (by simp [wrpA]) (wrpA A0 A1 A2 A3 s0 s1 s2 s3 1) (by simp [wrpA]) ?_;intro w8 hx8 k8 _;have HX8:=hh hx8;have HY8:=hh (k8.at HYd.out (fun e=>HXY.out.2 e.symm));have HR8:=hh (k8.at HRd.out HOD.out.2.1);have HB8:=hh (HBd.out.trans (k8.below (B:=w.heap.size) (fun y hy e=>by have:=HXY.out;omega) HBd.out.size));refine hK _ _ (fun h=>absurd rfl h) ?_;clear hK hS hx8 k8;refine a0p 14 (some 5) rfl rfl (by kernel_rfl) (by kernel_rfl) (by kernel_rfl) (by kernel_rfl) (by decide) (fun _ _ _ h=>h) (.inl ⟨by rfl,fun w' _=>(by go_simp;rfl)⟩) (fun h=>absurd h (by decide)) ?_;go_frame;refine tD ?_;go_wp2_with fail
    go_roundw
    case rel=>exact ⟨1,by go_num,by omega,rfl,HX8,HY8,HR8,HB8⟩
    case measure=>simp [intOf]
   ·have HXd:Hid (wr.drew.heap[X]? = _):=HX;have HYd:Hid (wr.drew.heap[Y]? = _):=HY;have HRd:Hid (wr.drew.heap[R]? = _):=HR;have HBd:=hh HB.out.drew;have hS:wr.drew.cell? ⟨X,1,none⟩=some (.int .u64 (A1:Int))∧wr.drew.cell? ⟨Y,1,none⟩=some (.int .u64 (B1:Int)):=⟨Lib.cell_of_heap HXd.out 1,Lib.cell_of_heap HYd.out 1⟩;rw [show kAt k0 k1 k2 k3 1=k0 from rfl];clear HX HY HR HB hi hlt;go_wp2_with fail;refine a0b (fun w'=>w'.cell? ⟨X,1,none⟩=some (.int .u64 (A1:Int))∧w'.cell? ⟨Y,1,none⟩=some (.int .u64 (B1:Int))) 13 15 (by kernel_rfl) rfl ?_;refine tA1 0 11 hS ?_;go_frame;refine tA1 1 12 hS ?_;go_frame;refine tA1 2 13 hS ?_;go_frame;refine tk 3 (some 14) rfl rfl (.inl ⟨by rfl,fun w' hS'=>(by obtain ⟨hc1,hc2⟩:=hS';go_simp;rfl)⟩) hS ?_;go_frame;refine tA1 4 15 hS ?_;go_frame;refine tA1 5 16 hS ?_;go_frame;refine tk 6 (some 17) rfl rfl (.inl ⟨by rfl,fun w' hS'=>(by obtain ⟨hc1,hc2⟩:=hS';go_simp;rfl)⟩) hS ?_;go_frame;refine tA1 7 18 hS ?_;go_frame;refine t1 8 fun K hK=>?_
    simp only [gA,jB,gC];go_simp;refine (a0x HE1.out.1 HE1.out.2.1 HE1.out.2.2.2.1 HE1.out.2.2.1 HE1.out.2.2.2.2 _).mono ?_;rintro e wc ⟨rfl,rfl⟩;refine hK _ _ (fun _ _=>hS) ?_;clear hK;refine tA1 9 10 hS ?_;go_frame;refine tA1 10 20 hS ?_;go_frame;refine a0p 11 (some 21) rfl rfl (by kernel_rfl) (by kernel_rfl) (by kernel_rfl) (by kernel_rfl) (by decide) (fun _ _ _ h=>h) (.inl ⟨by rfl,fun w' _=>(by go_simp;rfl)⟩) (fun _=>hS) ?_;go_frame;refine tA1 12 22 hS ?_;go_frame;refine t1 13 fun K hK=>?_
    simp only [gA,jB,gC];refine a0h 23 _ _ rfl X 1 (.int .u64 s1) rfl rfl rfl rfl 25 (wrpA A0 A1 A2 A3 s0 s1 s2 s3 1) HXd.out Tryz.sizeU64 (by simp [wrpA]) (wrpA A0 A1 A2 A3 s0 s1 s2 s3 2) (by simp [wrpA]) ?_;intro w8 hx8 k8 _;have HX8:=hh hx8;have HY8:=hh (k8.at HYd.out (fun e=>HXY.out.2 e.symm));have HR8:=hh (k8.at HRd.out HOD.out.2.1);have HB8:=hh (HBd.out.trans (k8.below (B:=w.heap.size) (fun y hy e=>by have:=HXY.out;omega) HBd.out.size));refine hK _ _ (fun h=>absurd rfl h) ?_;clear hK hS hx8 k8;refine a0p 14 (some 5) rfl rfl (by kernel_rfl) (by kernel_rfl) (by kernel_rfl) (by kernel_rfl) (by decide) (fun _ _ _ h=>h) (.inl ⟨by rfl,fun w' _=>(by go_simp;rfl)⟩) (fun h=>absurd h (by decide)) ?_;go_frame;refine tD ?_;go_wp2_with fail
    go_roundw
    case rel=>exact ⟨2,by go_num,by omega,rfl,HX8,HY8,HR8,HB8⟩
    case measure=>simp [intOf]
   ·have HXd:Hid (wr.drew.heap[X]? = _):=HX;have HYd:Hid (wr.drew.heap[Y]? = _):=HY;have HRd:Hid (wr.drew.heap[R]? = _):=HR;have HBd:=hh HB.out.drew;have hS:wr.drew.cell? ⟨X,2,none⟩=some (.int .u64 (A2:Int))∧wr.drew.cell? ⟨Y,2,none⟩=some (.int .u64 (B2:Int)):=⟨Lib.cell_of_heap HXd.out 2,Lib.cell_of_heap HYd.out 2⟩;rw [show kAt k0 k1 k2 k3 2=k1 from rfl];clear HX HY HR HB hi hlt;go_wp2_with fail;refine a0b (fun w'=>w'.cell? ⟨X,2,none⟩=some (.int .u64 (A2:Int))∧w'.cell? ⟨Y,2,none⟩=some (.int .u64 (B2:Int))) 13 15 (by kernel_rfl) rfl ?_;refine tA1 0 11 hS ?_;go_frame;refine tA1 1 12 hS ?_;go_frame;refine tA1 2 13 hS ?_;go_frame;refine tk 3 (some 14) rfl rfl (.inl ⟨by rfl,fun w' hS'=>(by obtain ⟨hc1,hc2⟩:=hS';go_simp;rfl)⟩) hS ?_;go_frame;refine tA1 4 15 hS ?_;go_frame;refine tA1 5 16 hS ?_;go_frame;refine tk 6 (some 17) rfl rfl (.inl ⟨by rfl,fun w' hS'=>(by obtain ⟨hc1,hc2⟩:=hS';go_simp;rfl)⟩) hS ?_;go_frame;refine tA1 7 18 hS ?_;go_frame;refine t1 8 fun K hK=>?_
    simp only [gA,jB,gC];go_simp;refine (a0x HE2.out.1 HE2.out.2.1 HE2.out.2.2.2.1 HE2.out.2.2.1 HE2.out.2.2.2.2 _).mono ?_;rintro e wc ⟨rfl,rfl⟩;refine hK _ _ (fun _ _=>hS) ?_;clear hK;refine tA1 9 10 hS ?_;go_frame;refine tA1 10 20 hS ?_;go_frame;refine a0p 11 (some 21) rfl rfl (by kernel_rfl) (by kernel_rfl) (by kernel_rfl) (by kernel_rfl) (by decide) (fun _ _ _ h=>h) (.inl ⟨by rfl,fun w' _=>(by go_simp;rfl)⟩) (fun _=>hS) ?_;go_frame;refine tA1 12 22 hS ?_;go_frame;refine t1 13 fun K hK=>?_
    simp only [gA,jB,gC];refine a0h 23 _ _ rfl X 2 (.int .u64 s2) rfl rfl rfl rfl 25 (wrpA A0 A1 A2 A3 s0 s1 s2 s3 2) HXd.out Tryz.sizeU64 (by simp [wrpA]) (wrpA A0 A1 A2 A3 s0 s1 s2 s3 3) (by simp [wrpA]) ?_;intro w8 hx8 k8 _;have HX8:=hh hx8;have HY8:=hh (k8.at HYd.out (fun e=>HXY.out.2 e.symm));have HR8:=hh (k8.at HRd.out HOD.out.2.1);have HB8:=hh (HBd.out.trans (k8.below (B:=w.heap.size) (fun y hy e=>by have:=HXY.out;omega) HBd.out.size));refine hK _ _ (fun h=>absurd rfl h) ?_;clear hK hS hx8 k8;refine a0p 14 (some 5) rfl rfl (by kernel_rfl) (by kernel_rfl) (by kernel_rfl) (by kernel_rfl) (by decide) (fun _ _ _ h=>h) (.inl ⟨by rfl,fun w' _=>(by go_simp;rfl)⟩) (fun h=>absurd h (by decide)) ?_;go_frame;refine tD ?_;go_wp2_with fail
    go_roundw
    case rel=>exact ⟨3,by go_num,by omega,rfl,HX8,HY8,HR8,HB8⟩
    case measure=>simp [intOf]
   ·have HXd:Hid (wr.drew.heap[X]? = _):=HX;have HYd:Hid (wr.drew.heap[Y]? = _):=HY;have HRd:Hid (wr.drew.heap[R]? = _):=HR;have HBd:=hh HB.out.drew;have hS:wr.drew.cell? ⟨X,3,none⟩=some (.int .u64 (A3:Int))∧wr.drew.cell? ⟨Y,3,none⟩=some (.int .u64 (B3:Int)):=⟨Lib.cell_of_heap HXd.out 3,Lib.cell_of_heap HYd.out 3⟩;rw [show kAt k0 k1 k2 k3 3=k2 from rfl];clear HX HY HR HB hi hlt;go_wp2_with fail;refine a0b (fun w'=>w'.cell? ⟨X,3,none⟩=some (.int .u64 (A3:Int))∧w'.cell? ⟨Y,3,none⟩=some (.int .u64 (B3:Int))) 13 15 (by kernel_rfl) rfl ?_;refine tA1 0 11 hS ?_;go_frame;refine tA1 1 12 hS ?_;go_frame;refine tA1 2 13 hS ?_;go_frame;refine tk 3 (some 14) rfl rfl (.inl ⟨by rfl,fun w' hS'=>(by obtain ⟨hc1,hc2⟩:=hS';go_simp;rfl)⟩) hS ?_;go_frame;refine tA1 4 15 hS ?_;go_frame;refine tA1 5 16 hS ?_;go_frame;refine tk 6 (some 17) rfl rfl (.inl ⟨by rfl,fun w' hS'=>(by obtain ⟨hc1,hc2⟩:=hS';go_simp;rfl)⟩) hS ?_;go_frame;refine tA1 7 18 hS ?_;go_frame;refine t1 8 fun K hK=>?_
    simp only [gA,jB,gC];go_simp;refine (a0x HE3.out.1 HE3.out.2.1 HE3.out.2.2.2.1 HE3.out.2.2.1 HE3.out.2.2.2.2 _).mono ?_;rintro e wc ⟨rfl,rfl⟩;refine hK _ _ (fun _ _=>hS) ?_;clear hK;refine tA1 9 10 hS ?_;go_frame;refine tA1 10 20 hS ?_;go_frame;refine a0p 11 (some 21) rfl rfl (by kernel_rfl) (by kernel_rfl) (by kernel_rfl) (by kernel_rfl) (by decide) (fun _ _ _ h=>h) (.inl ⟨by rfl,fun w' _=>(by go_simp;rfl)⟩) (fun _=>hS) ?_;go_frame;refine tA1 12 22 hS ?_;go_frame;refine t1 13 fun K hK=>?_
    simp only [gA,jB,gC];refine a0h 23 _ _ rfl X 3 (.int .u64 s3) rfl rfl rfl rfl 25 (wrpA A0 A1 A2 A3 s0 s1 s2 s3 3) HXd.out Tryz.sizeU64 (by simp [wrpA]) (wrpA A0 A1 A2 A3 s0 s1 s2 s3 4) (by simp [wrpA]) ?_;intro w8 hx8 k8 _;have HX8:=hh hx8;have HY8:=hh (k8.at HYd.out (fun e=>HXY.out.2 e.symm));have HR8:=hh (k8.at HRd.out HOD.out.2.1);have HB8:=hh (HBd.out.trans (k8.below (B:=w.heap.size) (fun y hy e=>by have:=HXY.out;omega) HBd.out.size));refine hK _ _ (fun h=>absurd rfl h) ?_;clear hK hS hx8 k8;refine a0p 14 (some 5) rfl rfl (by kernel_rfl) (by kernel_rfl) (by kernel_rfl) (by kernel_rfl) (by decide) (fun _ _ _ h=>h) (.inl ⟨by rfl,fun w' _=>(by go_simp;rfl)⟩) (fun h=>absurd h (by decide)) ?_;go_frame;refine tD ?_;go_wp2_with fail
    go_roundw
    case rel=>exact ⟨4,by go_num,by omega,rfl,HX8,HY8,HR8,HB8⟩
    case measure=>simp [intOf]
  ·obtain rfl:i=4:=by omega
   have HX4:Hid (wr.heap[X]? = some (.cells #[.int .u64 (s0:Int),.int .u64 (s1:Int),.int .u64 (s2:Int),.int .u64 (s3:Int)] 25 (0,0))):=HX;clear HX HY hi hlt
   go_wp2_with (first
    | (refine lR HX4 Tryz.underlying25 Tryz.sizeU ?_)
    | (refine sR 25 #[.int .u64 (s0:Int),.int .u64 (s1:Int),.int .u64 (s2:Int),.int .u64 (s3:Int)] HR Tryz.sizeU ?_))
   intro w8 hx8 k8 _;have HX8:=hh hx8;have HB8:=hh (HB.out.trans (k8.below (B:=w.heap.size) (fun y hy e=>by have:=HOD.out.1;omega) HB.out.size));clear hx8 k8;go_wp2_with fail
   exact bodyPost_ret (results_cell_row rfl _ _ _ _ _ _ _ rfl HX8.out Tryz.underlying25 rfl Tryz.sizeU) rfl ⟨_,_,_,_,HFIN.out,rfl,HB8.out⟩
end
section
open Go.RowKit

theorem pow64 (k:Nat):(18446744073709551616:Nat) ^ k=2 ^ (64*k):=by rw [show (18446744073709551616:Nat)=2 ^ 64 from rfl,← Nat.pow_mul]
theorem h0h {l:List Nat} (h:D64 l) {k e:Nat} (hk:k < l.length) (he:e < 64):l[k] / 2 ^ e % 2=wv l / 2 ^ (64*k+e) % 2:=by
 rw [wv_at h hk,pow64,Nat.pow_add,← Nat.div_div_eq_div_mul]
 generalize wv l / 2 ^ (64*k)=m
 have h1:(18446744073709551616:Nat)=2 ^ e*2 ^ (64 - e):=by rw [← Nat.pow_add,show e+(64 - e)=64 by omega]
 rw [h1,Nat.mod_mul_right_div_self];have h2:(2:Nat) ^ (64 - e)=2*2 ^ (64 - e - 1):=by rw [← Nat.pow_succ',show (64 - e - 1).succ=64 - e by omega]
 rw [h2,Nat.mod_mul_right_mod]
theorem l0U {q:List Nat} (h:D64 q) {k e m:Nat} (hk:k < q.length) (he:e < 64) (hq:wv q=m*2 ^ (64*k+e+1)):q[k] % 2 ^ (e+1)=0:=by
 rw [wv_at h hk,hq,pow64,show 64*k+e+1=64*k+(e+1) by omega,Nat.pow_add,Nat.mul_left_comm,Nat.mul_div_cancel_left _ (Nat.pow_pos (by omega))];have h1:(18446744073709551616:Nat)=2 ^ (e+1)*2 ^ (64 - (e+1)):=by rw [← Nat.pow_add,show e+1+(64 - (e+1))=64 by omega]
 rw [h1,Nat.mod_mul_right_mod,Nat.mul_mod_left]
theorem j0v {x e:Nat} (hx:x < 18446744073709551616) (he:e < 64) (h:x % 2 ^ (e+1)=0):x+2 ^ e < 18446744073709551616∧x / 2 ^ e % 2=0:=by
 have hp:0 < 2 ^ e:=Nat.pow_pos (by omega);have h1:=Nat.div_add_mod x (2 ^ (e+1));rw [h,Nat.add_zero,Nat.pow_succ] at h1;refine ⟨?_,?_⟩
 ·have h2:(18446744073709551616:Nat)=2 ^ e*2*2 ^ (63 - e):=by rw [← Nat.pow_succ,← Nat.pow_add,show e+1+(63 - e)=64 by omega]
  obtain ⟨y,hy⟩:=nm (x / (2 ^ e*2));rw [← hy] at h1;have h3:y < 2 ^ (63 - e):=by
   apply Nat.lt_of_mul_lt_mul_left (a:=2 ^ e*2)
   rw [h1,← h2];exact hx
  have h4:2 ^ e*2*(y+1)≤18446744073709551616:=by rw [h2];exact Nat.mul_le_mul_left _ h3
  rw [Nat.mul_add,h1] at h4
  omega
 ·rw [← h1,Nat.mul_assoc,Nat.mul_div_cancel_left _ hp];omega
theorem j0l {x e:Nat} (he:e < 64) (hx:x < 18446744073709551616) (h:x / 2 ^ e % 2=0):bits BinOp.or IntKind.u64 (x:Int) ((2 ^ e:Nat):Int)=((x+2 ^ e:Nat):Int):=by
 rw [u64_or_nat _ _ hx (Nat.pow_lt_pow_right (by omega) he:2 ^ e < 2 ^ 64),f0e h]
theorem h0c {a b c f:Int} {n k e:Nat} (h:UIs a b c f n) (hk:k < 4) (he:e < 64):∃ W:Nat,w4 a b c f k=(W:Int)∧W < 18446744073709551616∧W / 2 ^ e % 2=n / 2 ^ (64*k+e) % 2:=by
 obtain ⟨A0,A1,A2,A3,rfl,rfl,rfl,rfl,ha0,ha1,ha2,ha3,hn⟩:=h.nats;have hD:D64 [A0,A1,A2,A3]:=by
  intro d hd;simp only [List.mem_cons,List.not_mem_nil,or_false] at hd
  rcases hd with rfl | rfl | rfl | rfl<;>assumption
 have hv:wv [A0,A1,A2,A3]=n:=by unfold wv wv wv wv wv;omega
 have h1:=h0h hD (k:=k) (e:=e) (by simpa using hk) he;rw [hv] at h1;refine ⟨[A0,A1,A2,A3][k]'(by simpa using hk),?_,hD _ (List.getElem_mem _),h1⟩
 rcases (show k=0∨k=1∨k=2∨k=3 by omega) with rfl | rfl | rfl | rfl<;>rfl
theorem j0N {d r t r2 o:Nat} (hr:r < d) (ht:t < 2) (hd:d < uMax) (h:2*r+t=r2+o*115792089237316195423570985008687907853269984665640564039457584007913129639936) (h2:r2 < uMax):(o=0∧(2*r+t < d↔r2 < d))∨(o=1∧r2 < d∧d≤2*r+t):=by
 unfold uMax at hd h2
 omega
theorem n0r {d r t v ov M:Nat} {okb:Bool} (h1:(ov=0∧(2*r+t < d↔v < d))∨(ov=1∧v < d∧d≤2*r+t)) (h2:okb=decide (d≤v)) (h3:2*r+t=v+ov*M) :
  (2*r+t < d∧ov=0∧okb=false∧v=2*r+t)∨(d≤2*r+t∧okb=true∧v=2*r+t)∨(d≤2*r+t∧ov=1∧okb=false∧v < d∧v+M=2*r+t):=by
 by_cases h4:d≤v
 ·rw [decide_eq_true h4] at h2
  rcases h1 with ⟨rfl,h5⟩ | ⟨rfl,h5,h6⟩
  ·rw [Nat.zero_mul] at h3
   exact .inr (.inl ⟨by omega,h2,by omega⟩)
  ·omega
 ·rw [decide_eq_false h4] at h2
  rcases h1 with ⟨rfl,h5⟩ | ⟨rfl,h5,h6⟩
  ·rw [Nat.zero_mul] at h3
   exact .inl ⟨by omega,rfl,h2,by omega⟩
  ·rw [Nat.one_mul] at h3
   exact .inr (.inr ⟨h6,rfl,h2,h5,by omega⟩)
end
end Go.Proofs.YtabminbgoclnkaaGreat
