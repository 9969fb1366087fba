/- Div by great numbers (code). No condition. -/
import Derived.Test.YtabminbgoclnkaaGreatVa14
import Derived.Deep.Cut
namespace Go.Proofs.YtabminbgoclnkaaGreat
set_option maxHeartbeats 32000000
set_option maxRecDepth 100000
open Go.RowKit

theorem udoubleU {a b c f:Int} {n t:Nat} (h:UIs a b c f n) (ht:t < 2) (w:World) :
  Calls Tryz.prog 190 #[.agg #[.int .u64 a,.int .u64 b,.int .u64 c,.int .u64 f],.int .u64 (t:Int)] w (DblRet w n t):=by
 obtain ⟨A0,A1,A2,A3,rfl,rfl,rfl,rfl,ha0,ha1,ha2,ha3,hn⟩:=h.nats;rw [hn]
 exact h0v ha0 ha1 ha2 ha3 ht w
def DblU (w:World) (n t:Nat) (e:Ending) (w':World):Prop:=∃ (a b c f:Int) (v o:Nat),e = .returned (.tuple #[.agg #[.int .u64 a,.int .u64 b,.int .u64 c,.int .u64 f],.int .u64 (o:Int)])∧UIs a b c f v∧2*n+t=v+o*115792089237316195423570985008687907853269984665640564039457584007913129639936∧Below w.heap.size w w'
theorem udoubleV {a b c f:Int} {n t:Nat} (h:UIs a b c f n) (ht:t < 2) (w:World) :
  Calls Tryz.prog 190 #[.agg #[.int .u64 a,.int .u64 b,.int .u64 c,.int .u64 f],.int .u64 (t:Int)] w (DblU w n t):=
 (udoubleU h ht w).mono fun e w' h=>by
  obtain ⟨x,y,z,u,o,he,hv,⟨h1,h2,h3,h4⟩,hb⟩:=h
  exact ⟨_,_,_,_,x+y*18446744073709551616+z*340282366920938463463374607431768211456+u*6277101735386680763835789423207666416102355444464034512896,o,he,UIs.of_nats h1 h2 h3 h4 rfl,by omega,hb⟩
theorem k0P {a b c f:Int} {n:Nat} (h:UIs a b c f n) (w:World) :
  Calls Tryz.prog 190 #[.agg #[.int .u64 a,.int .u64 b,.int .u64 c,.int .u64 f],.int .u64 0] w (DblU w n 0):=udoubleV (t:=0) h (by decide) w
theorem m0A {a b c f:Int} {q:Nat} (h:UIs a b c f (2*q)):bits BinOp.or IntKind.u64 a 1=a+1∧UIs (a+1) b c f (2*q+1):=by
 obtain ⟨A0,A1,A2,A3,rfl,rfl,rfl,rfl,ha0,ha1,ha2,ha3,hn⟩:=h.nats;obtain ⟨x,hx⟩:∃ x,A0=2*x:=⟨A0 / 2,by omega⟩;refine ⟨?_,?_⟩
 ·have h1:=d0e x 1 (by omega) (by decide);rw [← hx] at h1
  exact h1
 ·unfold UIs;omega

theorem j0O {a b c f a' b' c' f':Int} {n d:Nat} (h:UIs a b c f n) (h':UIs a' b' c' f' d) (hd:4294967296≤d) (w:World) :
  Calls Tryz.prog 176 #[.agg #[.int .u64 a,.int .u64 b,.int .u64 c,.int .u64 f],.agg #[.int .u64 a',.int .u64 b',.int .u64 c',.int .u64 f']] w (DivRet w n d):=by
 have HU:=hh h;have HD:=hh hd;have HUD:=hh h';have e0:=Tryz.eqUn HUD.out UIs.zero;rw [decide_eq_false (by omega)] at e0;have hcase:(∃ e1:d=a'.toNat,UIs a' 0 0 0 d)∨(d≠a'.toNat∧UIs a' 0 0 0 a'.toNat):=by
  have h9:UIs a' 0 0 0 a'.toNat:=by unfold UIs at h' ⊢;omega
  by_cases hq:d=a'.toNat
  ·exact .inl ⟨hq,by rw [hq];exact h9⟩
  ·exact .inr ⟨hq,h9⟩
 clear h hd h'
 go_enter Tryz.func176,Tryz.ntmps176
 go_wp2_with (refine sA _ Tryz.zeroUz ?_)
 obtain ⟨w1,hw1⟩:=nm ((w.alloc (.cells #[.int .u64 a,.int .u64 b,.int .u64 c,.int .u64 f] 25)).alloc (.cells #[.int .u64 a',.int .u64 b',.int .u64 c',.int .u64 f'] 25));obtain ⟨X,hX⟩:=nm (w.heap.size);obtain ⟨Y,hY⟩:=nm (w.heap.size+1);rw [← hw1,← hY,← hX];have hbx:=box2 w _ _ _ _ w1 hw1;rw [← hY,← hX] at hbx;have HX:=hh hbx.1;have HY:=hh hbx.2.1;have HB:Hid (Below w.heap.size w w1):=hh (by rw [← hX];exact hbx.2.2.1);clear hbx hw1 hX hY;intro P w2 hP';have WP:=mGe hP' HB.out.size;have NXP:=mNe hP' HX;have NYP:=mNe hP' HY;have HP:=hh hP'.out.cells;have hb:=hP'.out.below;clear hP';replace HB:=bT HB hb;replace HX:=bA hb HX;replace HY:=bA hb HY;clear hb
 go_wp2_with (refine sA _ Tryz.zeroUz ?_)
 intro R a1 hR;have WR:=mGe hR HB.out.size;have NXR:=mNe hR HX;have NYR:=mNe hR HY;have NPR:=mNe hR HP;have HR:=hh hR.out.cells;have hbR:=hR.out.below;clear hR;replace HB:=bT HB hbR;replace HX:=bA hbR HX;replace HY:=bA hbR HY;replace HP:=bA hbR HP;clear hbR
 go_wp2_with (first
  | (refine lR HY Tryz.underlying25 Tryz.sizeU ?_)
  | (refine lR HX Tryz.underlying25 Tryz.sizeU ?_))
 obtain ⟨cv,hcv⟩:=nm (cmpW n d);have HCV:=hh hcv;refine (c0w HU.out HUD.out _).mono ?_;rw [← hcv];clear hcv;rintro e a2 ⟨rfl,hb⟩;replace HB:=bT HB hb;replace HX:=bA hb HX;replace HY:=bA hb HY;replace HP:=bA hb HP;replace HR:=bA hb HR;clear hb
 by_cases hlt:cv < 0
 ·have HLT:Hid (n < d):=hh ((c0g n d).1 (by rw [← HCV.out];exact hlt));have hl2:decide (cv < 0)=true:=decide_eq_true hlt;clear hcase;go_wp2_with fail;obtain ⟨a3,hwz,hbz⟩:=dr a2;replace HB:=bT HB hbz;replace HX:=bA hbz HX;replace HP:=bA hbz HP;replace HR:=bA hbz HR;clear hbz;refine rg1 5 5 hwz HX fun hS=>?_
  clear hwz;refine tA1 0 26 hS ?_;go_frame;refine tl 1 (some 27) (fun _ h=>h) Tryz.underlying25 Tryz.sizeU hS ?_;go_frame;refine t1 2 fun K hK=>?_
  simp only [gA,jB,gC];refine b0v (t:=25) (old:=u0) 25 _ _ rfl P u0 rfl rfl HP.out Tryz.sizeU rfl (a0j _ _ _ _) ?_;intro a4 hxP kP zP;clear zP;replace HB:=bS HB kP WP;replace HX:=ka1 kP HX NXP;replace HR:=kb1 kP HR NPR;replace HP:=hh hxP;clear hxP kP;replace hS:=HX.out;refine hK _ _ (fun _ _=>hS) ?_;clear hK;refine t1 3 fun K hK=>?_
  simp only [gA,jB,gC];refine wR1 25 #[.int .u64 a,.int .u64 b,.int .u64 c,.int .u64 f] HR Tryz.sizeU ?_;intro a5 hxR kR zR;clear zR;replace HB:=bS HB kR WR;replace HX:=ka1 kR HX NXR;replace HP:=ka1 kR HP NPR;replace HR:=hh hxR;clear hxR kR;replace hS:=HX.out;refine hK _ _ (fun _ _=>hS) ?_;clear hK;refine tA1 4 6 hS ?_;go_frame;refine tD ?_;clear hS;go_wp2_with fail
  exact bodyPost_ret (b0L rfl _ _ P R _ _ u0 _ _ _ _ rfl HP.out rfl HR.out Tryz.underlying25 rfl Tryz.sizeU Tryz.sizeU _ rfl) rfl ⟨0,0,0,0,_,_,_,_,by rw [Nat.div_eq_of_lt HLT.out];exact UIs.zero,by rw [Nat.mod_eq_of_lt HLT.out];exact HU.out,rfl,HB.out⟩
 ·have HGE:Hid (d≤n):=hh (by have h9:=(c0g n d).2;have h8:=HCV.out;apply Nat.le_of_not_lt;intro h7;have:=h9 h7;rw [h8] at hlt;exact hlt this);have hl2:decide (cv < 0)=false:=decide_eq_false hlt;have c0:a2.cell? ⟨Y,0,none⟩=some (.int .u64 a'):=Lib.cell_of_heap HY.out 0
  rcases hcase with ⟨hq,h9⟩ | ⟨hq,h9⟩
  case' inl=>
   have e1:=Tryz.eqUn HUD.out h9;rw [decide_eq_true rfl] at e1;have hdl:¬ a'≤4294967295:=by have h7:=HD.out;have h8:=h9.1;omega
   have hdl2:decide (a'≤4294967295)=false:=decide_eq_false hdl
   go_wp2_with (first
    | (refine lR HY Tryz.underlying25 Tryz.sizeU ?_)
    | (refine lR HX Tryz.underlying25 Tryz.sizeU ?_)
    | (refine sA _ Tryz.zeroUz ?_))
   clear e1 hdl hdl2
  case' inr=>
   have e1:=Tryz.eqUn HUD.out h9;rw [decide_eq_false hq] at e1
   go_wp2_with (first
    | (refine lR HY Tryz.underlying25 Tryz.sizeU ?_)
    | (refine lR HX Tryz.underlying25 Tryz.sizeU ?_)
    | (refine sA _ Tryz.zeroUz ?_))
   clear e1
  all_goals
   clear hq h9 c0 e0 hl2 hlt;intro Q a3 hQ;have WQ:=mGe hQ HB.out.size;have NXQ:=mNe hQ HX;have NYQ:=mNe hQ HY;have NPQ:=mNe hQ HP;have NRQ:=mNe hQ HR;have HQ:=hh hQ.out.cells;have hbQ:=hQ.out.below;clear hQ;replace HB:=bT HB hbQ;replace HX:=bA hbQ HX;replace HY:=bA hbQ HY;replace HP:=bA hbQ HP;replace HR:=bA hbQ HR;clear hbQ
   go_wp2_with (refine sA _ Tryz.zeroUz ?_)
   intro M a4 hM;have WM:=mGe hM HB.out.size;have NXM:=mNe hM HX;have NYM:=mNe hM HY;have NPM:=mNe hM HP;have NRM:=mNe hM HR;have NQM:=mNe hM HQ;have HM:=hh hM.out.cells;have hbM:=hM.out.below;clear hM;replace HB:=bT HB hbM;replace HX:=bA hbM HX;replace HY:=bA hbM HY;replace HP:=bA hbM HP;replace HR:=bA hbM HR;replace HQ:=bA hbM HQ;clear hbM
   go_wp2_with (refine lR HX Tryz.underlying25 Tryz.sizeU ?_)
   obtain ⟨bn,hbn⟩:=nm (bitsN n);have HBN:=hh hbn;refine (g0K HU.out _).mono ?_;rw [← hbn];clear hbn;rintro e a5 ⟨rfl,hb⟩;replace HB:=bT HB hb;replace HX:=bA hb HX;replace HY:=bA hb HY;replace HP:=bA hb HP;replace HR:=bA hb HR;replace HQ:=bA hb HQ;replace HM:=bA hb HM;clear hb;have HB6:Hid (bn≤256∧n < 2 ^ bn):=hh (by rw [HBN.out];exact ⟨d0N _ _ HU.out.lt,f0Y n⟩);have HUL:=hh HUD.out.lt;have hb6:bn≤256:=HB6.out.1;go_wp2_with fail;clear hb6
   go_loopw [11] (fun vi wr=>∃ (j:Nat) (ii:Int) (q r:Nat) (qa qb qc qd ra rb rc rd:Int),vi = .int .i64 ii∧Hid (ii=(j:Int) - 1)∧Hid (j≤256)∧Hid (QuI n d j q r)∧Hid (UIs qa qb qc qd q)∧Hid (UIs ra rb rc rd r)∧Hid (wr.heap[Q]? = some (.cells #[.int .u64 qa,.int .u64 qb,.int .u64 qc,.int .u64 qd] 25 (0,0)))∧Hid (wr.heap[M]? = some (.cells #[.int .u64 ra,.int .u64 rb,.int .u64 rc,.int .u64 rd] 25 (0,0)))∧Hid (wr.heap[X]? = some (.cells #[.int .u64 a,.int .u64 b,.int .u64 c,.int .u64 f] 25 (0,0)))∧Hid (wr.heap[Y]? = some (.cells #[.int .u64 a',.int .u64 b',.int .u64 c',.int .u64 f'] 25 (0,0)))∧Hid (wr.heap[P]? = some (.cells u0 25 (0,0)))∧Hid (wr.heap[R]? = some (.cells u0 25 (0,0)))∧Hid (Below w.heap.size w wr)) (fun vi _=>(intOf vi+1).toNat)
   case atStart=>exact ⟨bn,_,0,0,0,0,0,0,0,0,0,0,rfl,hh rfl,hh HB6.out.1,hh (QuI.start HB6.out.2),hh UIs.zero,hh UIs.zero,HQ,HM,HX,HY,HP,HR,HB⟩
   case round=>
    clear HQ HM HX HY HP HR HB;obtain ⟨j,ii,q,r,qa,qb,qc,qd,ra,rb,rc,rd,rfl,hii,hj,HI,HQU,HRU,HQ,HM,HX,HY,HP,HR,HB⟩:=hrel
    rcases j with _ | i
    ·obtain rfl:ii = -1:=by have:=hii.out;omega
     clear hii hj;have HDN:=hh HI.out.done;clear HI;go_wp2_with fail;obtain ⟨e1,hwz,hbz⟩:=dr wr;replace HB:=bT HB hbz;replace HP:=bA hbz HP;replace HR:=bA hbz HR;replace HQ:=bA hbz HQ;replace HM:=bA hbz HM;clear hbz;refine rg2 5 5 hwz HQ HM fun hS=>?_
     clear hwz;refine tl 0 (some 95) (fun _ h=>h.1) Tryz.underlying25 Tryz.sizeU hS ?_;go_frame;refine tl 1 (some 96) (fun _ h=>h.2) Tryz.underlying25 Tryz.sizeU hS ?_;go_frame;refine t1 2 fun K hK=>?_
     simp only [gA,jB,gC];refine wR1 25 #[.int .u64 qa,.int .u64 qb,.int .u64 qc,.int .u64 qd] HP Tryz.sizeU ?_;intro e2 hxP kP zP;clear zP;replace HB:=bS HB kP WP;replace HR:=kb1 kP HR NPR;replace HQ:=kb1 kP HQ NPQ;replace HM:=kb1 kP HM NPM;replace HP:=hh hxP;clear hxP kP;replace hS:=And.intro HQ.out HM.out;refine hK _ _ (fun _ _=>hS) ?_;clear hK;refine t1 3 fun K hK=>?_
     simp only [gA,jB,gC];refine wR1 25 #[.int .u64 ra,.int .u64 rb,.int .u64 rc,.int .u64 rd] HR Tryz.sizeU ?_;intro e3 hxR kR zR;clear zR;replace HB:=bS HB kR WR;replace HP:=ka1 kR HP NPR;replace HQ:=kb1 kR HQ NRQ;replace HM:=kb1 kR HM NRM;replace HR:=hh hxR;clear hxR kR;replace hS:=And.intro HQ.out HM.out;refine hK _ _ (fun _ _=>hS) ?_;clear hK;refine tA1 4 6 hS ?_;go_frame;refine tD ?_;clear hS;go_wp2_with fail
     exact bodyPost_ret (b0L rfl _ _ P R _ _ _ _ _ _ _ rfl HP.out rfl HR.out Tryz.underlying25 rfl Tryz.sizeU Tryz.sizeU _ rfl) rfl ⟨_,_,_,_,_,_,_,_,by rw [← HDN.out.1];exact HQU.out,by rw [← HDN.out.2];exact HRU.out,rfl,HB.out⟩
    ·obtain rfl:(i:Int)=ii:=by have:=hii.out;omega
     clear hii;have hi:i < 256:=by have:=hj.out;omega
     obtain ⟨K,hk⟩:=nm (i / 64);obtain ⟨E,he⟩:=nm (i % 64);have hie:i=64*K+E:=by omega
     have he64:E < 64:=by omega
     have hk4:K < 4:=by omega
     have q1:(i:Int) / 64=(K:Int):=by omega
     have q2:(i:Int) % 64=(E:Int):=by omega
     have q6:IntKind.i64.wrap (K:Int)=(K:Int):=IntWalk.i64_in _ (by omega);have hk4i:(K:Int) < 4:=by omega
     have q7:IntKind.i64.wrap (E:Int)=(E:Int):=IntWalk.i64_in _ (by omega);obtain ⟨pw,hpw⟩:∃ pw:Nat,pw=2 ^ E:=⟨_,rfl⟩;have q3:(2:Int) ^ E=(pw:Int):=by rw [hpw];simp
     obtain ⟨W,hW,hWb,hWt⟩:=h0c HU.out hk4 he64;rw [← hpw,← hie] at hWt;have HW:=hh hW;obtain ⟨yv,hy⟩:=nm (W / pw);have q4:(W:Int) / (pw:Int)=(yv:Int):=by rw [hy];simp
     have hyb:yv < 18446744073709551616:=by rw [hy];exact Nat.lt_of_le_of_lt (Nat.div_le_self _ _) hWb
     obtain ⟨t,ht⟩:=nm (yv % 2);have q8:(i:Int).tmod 64=(E:Int):=by rw [Int.tmod_eq_emod_of_nonneg (by omega)];exact q2
     have q9:min E 64=E:=Nat.min_eq_left (by omega);have q10:(W:Int).fdiv (pw:Int)=(yv:Int):=by rw [Int.fdiv_eq_ediv_of_nonneg _ (by omega)];exact q4
     have q5:bits BinOp.and IntKind.u64 (yv:Int) 1=(t:Int):=by rw [h0H yv hyb,ht]
     have HT:Hid (t < 2∧t=n / 2 ^ i % 2):=hh ⟨by omega,by rw [ht,hy];exact hWt⟩;have HK4:=hh hk4;have HI256:=hh hi;clear hk he hie he64 hpw hW hWb hWt hy hyb ht hj;go_wp2_with fail;obtain ⟨e1,hwz,hbz⟩:=dr wr;replace HB:=bT HB hbz;replace HX:=bA hbz HX;replace HY:=bA hbz HY;replace HP:=bA hbz HP;replace HR:=bA hbz HR;replace HQ:=bA hbz HQ;replace HM:=bA hbz HM;clear hbz;refine rg2 13 15 hwz HM HX fun hS=>?_
     clear hwz;refine tl 0 (some 57) (fun _ h=>h.1) Tryz.underlying25 Tryz.sizeU hS ?_;go_frame;refine tA1 1 58 hS ?_;go_frame;refine tA1 2 59 hS ?_;go_frame;refine tA1 3 60 hS ?_;go_frame;refine tk 4 (some 61) rfl rfl (.inl ⟨by rfl,fun w' hS'=>(by have hc:w'.cell? ⟨X,K,none⟩=some (.int .u64 (W:Int)):=(h0e (hS'.2) K HK4.out).trans (by rw [HW.out]);go_simp;rfl)⟩) hS ?_;go_frame;refine tA1 5 62 hS ?_;go_frame;refine tA1 6 63 hS ?_;go_frame;refine tA1 7 64 hS ?_;go_frame;refine tA1 8 65 hS ?_;go_frame;refine t1 9 fun K hK=>?_
     simp only [gA,jB,gC];go_simp;refine (udoubleV HRU.out HT.out.1 _).mono ?_;rintro e e2 ⟨ma,mb,mc,md,v,ov,rfl,hv,hov,hb⟩;have HV:=hh hv;have HOV:=hh hov;clear hv hov;replace HB:=bT HB hb;replace HX:=bA hb HX;replace HY:=bA hb HY;replace HP:=bA hb HP;replace HR:=bA hb HR;replace HQ:=bA hb HQ;replace HM:=bA hb HM;clear hb;replace hS:=And.intro HM.out HX.out;refine hK _ _ (fun _ _=>hS) ?_;clear hK;refine tA1 10 56 hS ?_;go_frame;refine tA1 11 67 hS ?_;go_frame;refine a0p 12 (some 68) rfl rfl (by kernel_rfl) (by kernel_rfl) (by kernel_rfl) (by kernel_rfl) (by decide) (fun _ _ _ h=>h) (.inl ⟨by rfl,fun w' _=>(by go_simp;rfl)⟩) (fun _=>hS) ?_;go_frame;refine t1 13 fun K hK=>?_
     simp only [gA,jB,gC];refine wR1 25 #[.int .u64 ma,.int .u64 mb,.int .u64 mc,.int .u64 md] HM Tryz.sizeU ?_;intro e3 hxM kM zM;clear zM;replace HB:=bS HB kM WM;replace HX:=ka1 kM HX NXM;replace HY:=ka1 kM HY NYM;replace HP:=ka1 kM HP NPM;replace HR:=ka1 kM HR NRM;replace HQ:=ka1 kM HQ NQM;replace HM:=hh hxM;clear hxM kM;refine hK _ _ (fun h=>absurd rfl h) ?_;clear hK;refine a0p 14 (some 12) rfl rfl (by kernel_rfl) (by kernel_rfl) (by kernel_rfl) (by kernel_rfl) (by decide) (fun _ _ _ h=>h) (.inl ⟨by rfl,fun w' _=>(by go_simp;rfl)⟩) (fun h=>absurd h (by decide)) ?_;go_frame;refine tD ?_;clear hS;clear q1 q2 q3 q4 q5 q6 q7 q8 q9 q10 hk4 hk4i HRU HW HK4;have hro:=j0N (HI.out.lt (by have:=HD.out;omega)) HT.out.1 HUL.out HOV.out HV.out.lt;have HRO:=hh hro;clear hro
     go_wp2_with (refine lR HQ Tryz.underlying25 Tryz.sizeU ?_)
     refine (k0P HQU.out _).mono ?_;rintro e e4 ⟨ka,kb,kc,kd,v2,o2,rfl,hv,hov,hb⟩;have hq2:v2=2*q:=by
      have h1:=hv.lt;have h2:2*q < uMax:=by
       have h3:=e0h n i;have h4:=HI.out.1;have h5:2*(n / 2 ^ (i+1))≤n:=Nat.le_trans (by omega) (Nat.div_le_self n (2 ^ i));have h6:q≤n / 2 ^ (i+1):=by rw [h4];exact Nat.div_le_self _ _
       have h7:=HU.out.lt
       omega
      unfold uMax at h1 h2
      omega
     subst hq2;have HQU2:=hh hv;clear hv hov HQU;replace HB:=bT HB hb;replace HX:=bA hb HX;replace HY:=bA hb HY;replace HP:=bA hb HP;replace HR:=bA hb HR;replace HQ:=bA hb HQ;replace HM:=bA hb HM;clear hb
     go_wp2_with (refine sR 25 #[.int .u64 ka,.int .u64 kb,.int .u64 kc,.int .u64 kd] HQ Tryz.sizeU ?_)
     intro e5 hxQ kQ zQ;clear zQ;replace HB:=bS HB kQ WQ;replace HX:=ka1 kQ HX NXQ;replace HY:=ka1 kQ HY NYQ;replace HP:=ka1 kQ HP NPQ;replace HR:=ka1 kQ HR NRQ;replace HM:=kb1 kQ HM NQM;replace HQ:=hh hxQ;clear hxQ kQ
     go_wp2_with (first
      | (refine lR HM Tryz.underlying25 Tryz.sizeU ?_)
      | (refine lR HY Tryz.underlying25 Tryz.sizeU ?_))
     obtain ⟨okb,hokb⟩:=nm (decide (d≤v));have HOK:=hh hokb;refine (i0g HV.out HUD.out _).mono ?_;rw [← hokb];clear hokb;rintro e e6 ⟨la,lb,lc,ld,hl,rfl,hb⟩;have HLU:=hh hl;clear hl;replace HB:=bT HB hb;replace HX:=bA hb HX;replace HY:=bA hb HY;replace HP:=bA hb HP;replace HR:=bA hb HR;replace HQ:=bA hb HQ;replace HM:=bA hb HM;clear hb
     go_wp2_with (refine sA _ Tryz.zeroUz ?_)
     intro L e7 hL;have WL:=mGe hL HB.out.size;have NXL:=mNe hL HX;have NYL:=mNe hL HY;have NPL:=mNe hL HP;have NRL:=mNe hL HR;have NQL:=mNe hL HQ;have NML:=mNe hL HM;have HL:=hh hL.out.cells;have hbL:=hL.out.below;clear hL;replace HB:=bT HB hbL;replace HX:=bA hbL HX;replace HY:=bA hbL HY;replace HP:=bA hbL HP;replace HR:=bA hbL HR;replace HQ:=bA hbL HQ;replace HM:=bA hbL HM;clear hbL
     go_wp2_with (refine sR 25 #[.int .u64 la,.int .u64 lb,.int .u64 lc,.int .u64 ld] HL Tryz.sizeU ?_)
     intro e8 hxL kL zL;clear zL;replace HB:=bS HB kL WL;replace HX:=ka1 kL HX NXL;replace HY:=ka1 kL HY NYL;replace HP:=ka1 kL HP NPL;replace HR:=ka1 kL HR NRL;replace HQ:=ka1 kL HQ NQL;replace HM:=ka1 kL HM NML;replace HL:=hh hxL;clear hxL kL
     rcases n0r HRO.out HOK.out HOV.out with ⟨hlt,rfl,rfl,hvv⟩ | ⟨hge,rfl,hvv⟩ | ⟨hge,rfl,rfl,hvd,hvv⟩
     ·have HN2:Hid (QuI n d i (2*q) v):=hh (by
       have h1:=HI.out.less (by rw [← HT.out.2];exact hlt);rw [← HT.out.2] at h1;rw [hvv];exact h1)
      clear hlt hvv HI;go_wp2_with fail
      go_roundw
      case rel=>exact ⟨i,_,_,_,_,_,_,_,_,_,_,_,rfl,hh rfl,hh (by have:=HI256.out;omega),HN2,HQU2,HV,HQ,HM,HX,HY,HP,HR,HB⟩
      case measure=>have:=HI256.out;simp [intOf]<;>omega
     ·have HN2:Hid (QuI n d i (2*q+1) (v - d)):=hh (by
       have h1:=HI.out.more (by have:=HD.out;omega) (by rw [← HT.out.2];exact hge);rw [← HT.out.2] at h1;rw [hvv];exact h1)
      clear hge hvv HI HRO HOV;have HLV:Hid (UIs la lb lc ld (v - d)):=hh (by have h9:=HLU.out;rw [if_pos rfl] at h9;exact h9)
      go_wp2_with (first
       | (refine lR HL Tryz.underlying25 Tryz.sizeU ?_)
       | (refine sR 25 #[.int .u64 la,.int .u64 lb,.int .u64 lc,.int .u64 ld] HM Tryz.sizeU ?_))
      intro e9 hxM kM zM;clear zM;replace HB:=bS HB kM WM;replace HX:=ka1 kM HX NXM;replace HY:=ka1 kM HY NYM;replace HP:=ka1 kM HP NPM;replace HR:=ka1 kM HR NRM;replace HQ:=ka1 kM HQ NQM;replace HM:=hh hxM;clear hxM kM;have hor:=m0A HQU2.out;have hor1:=hor.1;have HOR:=hh hor.2;clear hor;obtain ⟨kz,hkz⟩:=nm (ka+1);rw [← hkz] at hor1 HOR;clear hkz;have k0:e9.cell? ⟨Q,0,none⟩=some (.int .u64 ka):=Lib.cell_of_heap HQ.out 0;have k1:e9.frozen? ⟨Q,0,none⟩=false:=Lib.frozen_of_heap HQ.out 0;go_wp2_with fail;clear k0 k1 hor1;obtain ⟨e10,hwn⟩:=nm (e9.setCell ⟨Q,0,none⟩ (.int .u64 kz));have kQ:Keep (· = Q) e9 e10:=by rw [hwn];exact Keep.setCell (S:=(· = Q)) (p:=⟨Q,0,none⟩) (Keep.refl _ _) (.inl rfl) _
      have hxQ:e10.heap[Q]? = some (.cells #[.int .u64 kz,.int .u64 kb,.int .u64 kc,.int .u64 kd] 25 (0,0)):=by rw [hwn,heap_setCell_same _ _ _ _ _ _ HQ.out];rfl
      rw [← hwn];clear hwn;replace HB:=bS HB kQ WQ;replace HX:=ka1 kQ HX NXQ;replace HY:=ka1 kQ HY NYQ;replace HP:=ka1 kQ HP NPQ;replace HR:=ka1 kQ HR NRQ;replace HM:=kb1 kQ HM NQM;replace HQ:=hh hxQ;clear hxQ kQ;go_wp2_with fail
      go_roundw
      case rel=>exact ⟨i,_,_,_,_,_,_,_,_,_,_,_,rfl,hh rfl,hh (by have:=HI256.out;omega),HN2,HOR,HLV,HQ,HM,HX,HY,HP,HR,HB⟩
      case measure=>have:=HI256.out;simp [intOf]<;>omega
     ·have HN2:Hid (QuI n d i (2*q+1) (v+uMax - d)):=hh (by
       have h1:=HI.out.more (by have:=HD.out;omega) (by rw [← HT.out.2];exact hge);rw [← HT.out.2] at h1;rw [hvv];exact h1)
      have HVD:=hh hvd;clear hge hvv hvd HI HRO HOV
      go_wp2_with (first
       | (refine lR HM Tryz.underlying25 Tryz.sizeU ?_)
       | (refine lR HY Tryz.underlying25 Tryz.sizeU ?_))
      refine (k0b HV.out HUD.out HVD.out _).mono ?_;rintro e e9 ⟨na,nb,nc,nd,hl,rfl,hb⟩;have HL2:=hh hl;clear hl;replace HB:=bT HB hb;replace HX:=bA hb HX;replace HY:=bA hb HY;replace HP:=bA hb HP;replace HR:=bA hb HR;replace HQ:=bA hb HQ;replace HM:=bA hb HM;replace HL:=bA hb HL;clear hb
      go_wp2_with (refine sR 25 #[.int .u64 na,.int .u64 nb,.int .u64 nc,.int .u64 nd] HL Tryz.sizeU ?_)
      intro e10 hxL kL zL;clear zL;replace HB:=bS HB kL WL;replace HX:=ka1 kL HX NXL;replace HY:=ka1 kL HY NYL;replace HP:=ka1 kL HP NPL;replace HR:=ka1 kL HR NRL;replace HQ:=ka1 kL HQ NQL;replace HM:=ka1 kL HM NML;replace HL:=hh hxL;clear hxL kL
      go_wp2_with (first
       | (refine lR HL Tryz.underlying25 Tryz.sizeU ?_)
       | (refine sR 25 #[.int .u64 na,.int .u64 nb,.int .u64 nc,.int .u64 nd] HM Tryz.sizeU ?_))
      intro e11 hxM kM zM;clear zM;replace HB:=bS HB kM WM;replace HX:=ka1 kM HX NXM;replace HY:=ka1 kM HY NYM;replace HP:=ka1 kM HP NPM;replace HR:=ka1 kM HR NRM;replace HQ:=ka1 kM HQ NQM;replace HM:=hh hxM;clear hxM kM;have hor:=m0A HQU2.out;have hor1:=hor.1;have HOR:=hh hor.2;clear hor;obtain ⟨kz,hkz⟩:=nm (ka+1);rw [← hkz] at hor1 HOR;clear hkz;have k0:e11.cell? ⟨Q,0,none⟩=some (.int .u64 ka):=Lib.cell_of_heap HQ.out 0;have k1:e11.frozen? ⟨Q,0,none⟩=false:=Lib.frozen_of_heap HQ.out 0;go_wp2_with fail;clear k0 k1 hor1;obtain ⟨e12,hwn⟩:=nm (e11.setCell ⟨Q,0,none⟩ (.int .u64 kz));have kQ:Keep (· = Q) e11 e12:=by rw [hwn];exact Keep.setCell (S:=(· = Q)) (p:=⟨Q,0,none⟩) (Keep.refl _ _) (.inl rfl) _
      have hxQ:e12.heap[Q]? = some (.cells #[.int .u64 kz,.int .u64 kb,.int .u64 kc,.int .u64 kd] 25 (0,0)):=by rw [hwn,heap_setCell_same _ _ _ _ _ _ HQ.out];rfl
      rw [← hwn];clear hwn;replace HB:=bS HB kQ WQ;replace HX:=ka1 kQ HX NXQ;replace HY:=ka1 kQ HY NYQ;replace HP:=ka1 kQ HP NPQ;replace HR:=ka1 kQ HR NRQ;replace HM:=kb1 kQ HM NQM;replace HQ:=hh hxQ;clear hxQ kQ;go_wp2_with fail
      go_roundw
      case rel=>exact ⟨i,_,_,_,_,_,_,_,_,_,_,_,rfl,hh rfl,hh (by have:=HI256.out;omega),HN2,HOR,HL2,HQ,HM,HX,HY,HP,HR,HB⟩
      case measure=>have:=HI256.out;simp [intOf]<;>omega
end Go.Proofs.YtabminbgoclnkaaGreat
