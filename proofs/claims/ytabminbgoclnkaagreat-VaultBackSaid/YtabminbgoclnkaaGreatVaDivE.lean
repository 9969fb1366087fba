/- Quo, Down by any number (code). No condition. -/
import Derived.Test.YtabminbgoclnkaaGreatVaDivC
import Derived.Test.YtabminbgoclnkaaGreatVaDivD
import Derived.Deep.Cut
namespace Go.Proofs.YtabminbgoclnkaaGreat
set_option maxHeartbeats 32000000
set_option maxRecDepth 100000
open Go.RowKit

theorem box3 (w:World) (c0 c1 c2:Array Value) (T0 T1 T2:TypeId) (w1:World) (hw:w1=((w.alloc (.cells c0 T0)).alloc (.cells c1 T1)).alloc (.cells c2 T2)) :
  w1.heap[w.heap.size]? = some (.cells c0 T0 (0,0))∧w1.heap[w.heap.size+1]? = some (.cells c1 T1 (0,0))∧w1.heap[w.heap.size+1+1]? = some (.cells c2 T2 (0,0))∧Below w.heap.size w w1:=by
 obtain ⟨wa,ha⟩:=nm ((w.alloc (.cells c0 T0)).alloc (.cells c1 T1));obtain ⟨h1,h2,h3,h4⟩:=box2 w c0 c1 T0 T1 wa ha;rw [← ha] at hw;have hb:Below wa.heap.size wa w1:=by rw [hw];exact a0c _ _
 refine ⟨a0d hb h1,a0d hb h2,?_,h3.trans (hb.mono h3.size)⟩;rw [hw,show w.heap.size+1+1=wa.heap.size by omega]
 exact heap_alloc_new _ _

theorem k0U {a b c f p0 p1 p2 p3:Int} {n d:Nat} (h:UIs a b c f n) (h':UIs p0 p1 p2 p3 d) (hd0:0 < d) (w:World) :
  Calls Tryz.prog 176 #[.agg #[.int .u64 a,.int .u64 b,.int .u64 c,.int .u64 f],.agg #[.int .u64 p0,.int .u64 p1,.int .u64 p2,.int .u64 p3]] w (DivRet w n d):=by
 by_cases hd:d < 4294967296
 ·have h9:p0=(d:Int)∧p1=0∧p2=0∧p3=0:=by
   have hw:=h'.words;obtain ⟨e0,e1,e2,e3⟩:=hw
   omega
  obtain ⟨rfl,rfl,rfl,rfl⟩:=h9
  exact l0L h hd0 hd w
 ·exact j0O h h' (by omega) w
def QuoRet (w:World) (q:Nat) (e:Ending) (w':World):Prop:=∃ q0 q1 q2 q3 r0 r1 r2 r3:Int,UIs q0 q1 q2 q3 (if decide (q < uMax) then q else 0)∧e = .returned (.tuple #[.agg #[.int .u64 q0,.int .u64 q1,.int .u64 q2,.int .u64 q3],.agg #[.int .u64 r0,.int .u64 r1,.int .u64 r2,.int .u64 r3],.bool (decide (q < uMax))])∧Below w.heap.size w w'
theorem m0c {H L d M:Nat} (hd:0 < d) (hL:L < M):(H*M+L) / d < M↔H < d:=by
 rw [Nat.div_lt_iff_lt_mul hd]
 constructor
 ·intro h
  apply Nat.lt_of_mul_lt_mul_right (a:=M)
  rw [Nat.mul_comm d]
  omega
 ·intro h;have h1:(H+1)*M≤d*M:=Nat.mul_le_mul_right _ h;rw [Nat.add_mul,Nat.one_mul] at h1;rw [Nat.mul_comm M]
  omega
theorem i0Y {l:List Nat} (h:l.length=4):∃ a b c f,l = [a,b,c,f]:=by
 match l,h with
 | [a,b,c,f],_=>exact ⟨a,b,c,f,rfl⟩
structure QuW (l:List Nat) (q j:Nat):Prop where
 len:l.length=4
 d64:D64 l
 eq:wv l=q*2 ^ j
theorem QuW.start (j:Nat):QuW [0,0,0,0] 0 j:=⟨rfl,by intro d hd;simp at hd;omega,by simp [wv]⟩
theorem QuW.less {l:List Nat} {q i:Nat} (h:QuW l q (i+1)):QuW l (2*q) i:=⟨h.len,h.d64,by rw [h.eq,Nat.pow_succ',Nat.mul_left_comm,Nat.mul_assoc]⟩
theorem QuW.more {l:List Nat} {q i K E:Nat} (h:QuW l q (i+1)) (hi:i=64*K+E) (hE:E < 64) (hK:K < 4):∃ (hk:K < l.length),l[K]+2 ^ E < 18446744073709551616∧l[K] / 2 ^ E % 2=0∧QuW (l.set K (l[K]+2 ^ E)) (2*q+1) i:=by
 have hk:K < l.length:=by rw [h.len];exact hK
 have h1:=l0U h.d64 hk hE (m:=q) (by rw [h.eq,hi]);have h2:=j0v (h.d64.at hk) hE h1;refine ⟨hk,h2.1,h2.2,by rw [List.length_set];exact h.len,h.d64.set _ h2.1,?_⟩;have h3:=k0C (l:=l) (k:=K) (d:=l[K]+2 ^ E) hk;rw [Nat.mul_add,← Nat.add_assoc,h.eq] at h3;have h4:(18446744073709551616:Nat) ^ K*2 ^ E=2 ^ i:=by rw [pow64,← Nat.pow_add,hi]
 rw [h4] at h3;have h5:(2*q+1)*2 ^ i=q*2 ^ (i+1)+2 ^ i:=by rw [Nat.pow_succ',Nat.add_mul,Nat.one_mul,Nat.mul_assoc,Nat.mul_left_comm]
 rw [h5]
 omega
theorem QuW.uis {a b c f q:Nat} (h:QuW [a,b,c,f] q 0):UIs (a:Int) b c f q:=by
 have h1:=h.d64;have h2:=UIs.of_words (h1 a (by simp)) (h1 b (by simp)) (h1 c (by simp)) (h1 f (by simp));rw [h.eq,Nat.pow_zero,Nat.mul_one] at h2
 exact h2
theorem Tryz.zeroRest (w:World):(zeroValue 194).run Tryz.prog w = .ok (.agg #[.int .u64 0,.int .u64 0,.int .u64 0,.int .u64 0,.int .u64 0]) w:=by kernel_rfl
theorem b0n {h0 h1 h2 h3 l0 l1 l2 l3 p0 p1 p2 p3:Int} {H L d:Nat} (hhq:UIs h0 h1 h2 h3 H) (hl:UIs l0 l1 l2 l3 L) (h':UIs p0 p1 p2 p3 d) (hd0:0 < d) (w:World) :
  Calls Tryz.prog 160 #[.agg #[.int .u64 h0,.int .u64 h1,.int .u64 h2,.int .u64 h3,.int .u64 l0,.int .u64 l1,.int .u64 l2,.int .u64 l3],.agg #[.int .u64 p0,.int .u64 p1,.int .u64 p2,.int .u64 p3]] w (QuoRet w ((H*uMax+L) / d)):=by
 obtain ⟨qv,hqv⟩:=nm ((H*uMax+L) / d);obtain ⟨qk,hqk⟩:=nm (decide (qv < uMax));have HQK:Hid (qk=decide (H < d)):=hh (by rw [hqk,hqv];exact decide_eq_decide.2 (m0c hd0 hl.lt));have HQ1:=hh hqk;have HQV:=hh hqv;rw [← hqv];have HH:=hh hhq;have HL:=hh hl;have HUD:=hh h';have HD:=hh hd0;have e0:=Tryz.eqUn hhq UIs.zero;clear hhq hl h' hd0 hqv hqk
 go_enter Tryz.func160,Tryz.ntmps160
 go_wp2_with (refine sA _ Tryz.zeroUz ?_)
 obtain ⟨w1,hw1⟩:=nm ((w.alloc (.cells #[.int .u64 h0,.int .u64 h1,.int .u64 h2,.int .u64 h3,.int .u64 l0,.int .u64 l1,.int .u64 l2,.int .u64 l3] 179)).alloc (.cells #[.int .u64 p0,.int .u64 p1,.int .u64 p2,.int .u64 p3] 25));obtain ⟨X,hX⟩:=nm (w.heap.size);obtain ⟨Y,hY⟩:=nm (w.heap.size+1);rw [← hw1,← hY,← hX];have hbx:=box2 w _ _ _ _ w1 hw1;rw [← hY,← hX] at hbx;have HX:=hh hbx.1;have HY:=hh hbx.2.1;have HB:Hid (Below w.heap.size w w1):=hh (by rw [← hX];exact hbx.2.2.1);clear hbx hw1 hX hY;intro P w2 hP';have WP:=mGe hP' HB.out.size;have NXP:=mNe hP' HX;have NYP:=mNe hP' HY;have HP:=hh hP'.out.cells;have hb:=hP'.out.below;clear hP';replace HB:=bT HB hb;replace HX:=bA hb HX;replace HY:=bA hb HY;clear hb
 go_wp2_with (refine sA _ Tryz.zeroUz ?_)
 intro R a1 hR;have WR:=mGe hR HB.out.size;have NXR:=mNe hR HX;have NYR:=mNe hR HY;have NPR:=mNe hR HP;have HR:=hh hR.out.cells;have hbR:=hR.out.below;clear hR;replace HB:=bT HB hbR;replace HX:=bA hbR HX;replace HY:=bA hbR HY;replace HP:=bA hbR HP;clear hbR
 by_cases hz0:H=0
 ·rw [decide_eq_true hz0] at e0;have HQT:Hid (qk=true∧qv=L / d):=hh ⟨by rw [HQK.out,decide_eq_true (by have:=HD.out;omega)],by rw [HQV.out,hz0,Nat.zero_mul,Nat.zero_add]⟩;clear hz0
  go_wp2_with (first
   | (refine wpList_load_mid rfl 25 _ rfl X 0 rfl [.int .u64 h0,.int .u64 h1,.int .u64 h2,.int .u64 h3] _ (a0m HX.out 0 _ rfl) Tryz.underlying25 rfl Tryz.sizeU ?_)
   | (refine wpList_load_mid rfl 25 _ rfl X 4 rfl [.int .u64 l0,.int .u64 l1,.int .u64 l2,.int .u64 l3] _ (a0m HX.out 4 _ rfl) Tryz.underlying25 rfl Tryz.sizeU ?_)
   | (refine lR HY Tryz.underlying25 Tryz.sizeU ?_))
  refine (k0U HL.out HUD.out HD.out _).mono ?_;rintro e a2 ⟨qa,qb,qc,qd,ra,rb,rc,rd,hq,hr,rfl,hb⟩;have HQU:=hh hq;clear hq hr e0;replace HB:=bT HB hb;replace HP:=bA hb HP;replace HR:=bA hb HR;clear hb
  go_wp2_with (refine sR 25 #[.int .u64 qa,.int .u64 qb,.int .u64 qc,.int .u64 qd] HP Tryz.sizeU ?_)
  intro a3 hxP kP zP;clear zP;replace HB:=bS HB kP WP;replace HR:=kb1 kP HR NPR;replace HP:=hh hxP;clear hxP kP
  go_wp2_with (refine sR 25 #[.int .u64 ra,.int .u64 rb,.int .u64 rc,.int .u64 rd] HR Tryz.sizeU ?_)
  intro a4 hxR kR zR;clear zR;replace HB:=bS HB kR WR;replace HP:=ka1 kR HP NPR;replace HR:=hh hxR;clear hxR kR;go_wp2_with fail
  exact bodyPost_ret (b0L rfl _ _ P R _ _ _ _ _ _ _ rfl HP.out rfl HR.out Tryz.underlying25 rfl Tryz.sizeU Tryz.sizeU _ rfl) rfl ⟨_,_,_,_,_,_,_,_,by rw [← HQ1.out,HQT.out.1,if_pos rfl,HQT.out.2];exact HQU.out,by rw [← HQ1.out,HQT.out.1];rfl,HB.out⟩
 ·rw [decide_eq_false hz0] at e0;have HZ0:=hh hz0;clear hz0
  go_wp2_with (first
   | (refine wpList_load_mid rfl 25 _ rfl X 0 rfl [.int .u64 h0,.int .u64 h1,.int .u64 h2,.int .u64 h3] _ (a0m HX.out 0 _ rfl) Tryz.underlying25 rfl Tryz.sizeU ?_)
   | (refine lR HY Tryz.underlying25 Tryz.sizeU ?_))
  obtain ⟨cv,hcv⟩:=nm (cmpW H d);have HCV:=hh hcv;refine (c0w HH.out HUD.out _).mono ?_;rw [← hcv];clear hcv;rintro e a2 ⟨rfl,hb⟩;replace HB:=bT HB hb;replace HX:=bA hb HX;replace HY:=bA hb HY;replace HP:=bA hb HP;replace HR:=bA hb HR;clear hb
  by_cases hlt:cv < 0
  ·have hl2:decide (0≤cv)=false:=decide_eq_false (by omega);have HLT:Hid (H < d):=hh ((c0g H d).1 (by rw [← HCV.out];exact hlt));have HQT:Hid (qk=true):=hh (by rw [HQK.out];exact decide_eq_true HLT.out);clear e0
   go_wp2_with (refine sA _ Tryz.zeroUz ?_)
   intro Q a3 hQ;have WQ:=mGe hQ HB.out.size;have NXQ:=mNe hQ HX;have NYQ:=mNe hQ HY;have NPQ:=mNe hQ HP;have NRQ:=mNe hQ HR;have HQ:=hh hQ.out.cells;have hbQ:=hQ.out.below;clear hQ;replace HB:=bT HB hbQ;replace HX:=bA hbQ HX;replace HY:=bA hbQ HY;replace HP:=bA hbQ HP;replace HR:=bA hbQ HR;clear hbQ;clear hl2 hlt
   go_wp2_with (refine sA _ Tryz.zeroRest ?_)
   intro M a4 hM;have WM:=mGe hM HB.out.size;have NXM:=mNe hM HX;have NYM:=mNe hM HY;have NPM:=mNe hM HP;have NRM:=mNe hM HR;have NQM:=mNe hM HQ;have HM:=hh hM.out.cells;have hbM:=hM.out.below;clear hM;replace HB:=bT HB hbM;replace HX:=bA hbM HX;replace HY:=bA hbM HY;replace HP:=bA hbM HP;replace HR:=bA hbM HR;replace HQ:=bA hbM HQ;clear hbM
   go_wp2_with (refine lR HX Tryz.underlying179 Tryz.sizeWide ?_)
   obtain ⟨bh,hbh⟩:=nm (bitsN H);have HBH:=hh hbh;refine (l0m (l0:=l0) (l1:=l1) (l2:=l2) (l3:=l3) HH.out HZ0.out _).mono ?_;rw [← hbh];clear hbh;rintro e a5 ⟨rfl,hb⟩;replace HB:=bT HB hb;replace HX:=bA hb HX;replace HY:=bA hb HY;replace HP:=bA hb HP;replace HR:=bA hb HR;replace HQ:=bA hb HQ;replace HM:=bA hb HM;clear hb;obtain ⟨NN,hNN⟩:=nm (H*uMax+L);have HNN:=hh hNN;have hb6:bh≤256:=by rw [HBH.out];exact d0N _ _ HH.out.lt
   have HST:Hid (NN < 2 ^ (256+bh)):=hh (by
    rw [hNN,Nat.pow_add,show (2:Nat) ^ 256=uMax from rfl,Nat.mul_comm uMax];have h8:(H+1)*uMax≤2 ^ bh*uMax:=Nat.mul_le_mul_right _ (by rw [HBH.out];exact f0Y H);rw [Nat.add_mul,Nat.one_mul] at h8;have h9:=HL.out.lt
    omega)
   have HND:Hid (NN < d*2 ^ 256):=hh (by
    rw [hNN,show (2:Nat) ^ 256=uMax from rfl];have h8:(H+1)*uMax≤d*uMax:=Nat.mul_le_mul_right _ HLT.out;rw [Nat.add_mul,Nat.one_mul] at h8;have h9:=HL.out.lt
    omega)
   have HB5:=hh hb6;clear hNN;go_wp2_with fail;clear hb6
   go_loopw [9] (fun vi wr=>∃ (j:Nat) (ii:Int) (q r:Nat) (ql:List Nat) (ra rb rc rd ro:Int),vi = .int .i64 ii∧Hid (ii=(j:Int) - 1)∧Hid (j≤512)∧Hid (QuI NN d j q r)∧Hid (QuW ql q j)∧Hid (UIs ra rb rc rd r)∧Hid (wr.heap[Q]? = some (.cells (rowW ql) 25 (0,0)))∧Hid (wr.heap[M]? = some (.cells #[.int .u64 ra,.int .u64 rb,.int .u64 rc,.int .u64 rd,.int .u64 ro] 194 (0,0)))∧Hid (wr.heap[X]? = some (.cells #[.int .u64 h0,.int .u64 h1,.int .u64 h2,.int .u64 h3,.int .u64 l0,.int .u64 l1,.int .u64 l2,.int .u64 l3] 179 (0,0)))∧Hid (wr.heap[Y]? = some (.cells #[.int .u64 p0,.int .u64 p1,.int .u64 p2,.int .u64 p3] 25 (0,0)))∧Hid (wr.heap[P]? = some (.cells u0 25 (0,0)))∧Hid (wr.heap[R]? = some (.cells u0 25 (0,0)))∧Hid (Below w.heap.size w wr)) (fun vi _=>(intOf vi+1).toNat)
   case atStart=>exact ⟨256+bh,_,0,0,_,0,0,0,0,0,rfl,hh (by omega),hh (by have:=HB5.out;omega),hh (QuI.start HST.out),hh (QuW.start _),hh UIs.zero,HQ,HM,HX,HY,HP,HR,HB⟩
   case round=>
    clear HQ HM HX HY HP HR HB;obtain ⟨j,ii,q,r,ql,ra,rb,rc,rd,ro,rfl,hii,hj,HI,HQW,HRU,HQ,HM,HX,HY,HP,HR,HB⟩:=hrel
    rcases j with _ | i
    ·obtain rfl:ii = -1:=by have:=hii.out;omega
     clear hii hj;obtain ⟨qa,qb,qc,qd,rfl⟩:=i0Y HQW.out.len;have HQ':Hid (wr.heap[Q]? = some (.cells #[.int .u64 (qa:Int),.int .u64 (qb:Int),.int .u64 (qc:Int),.int .u64 (qd:Int)] 25 (0,0))):=HQ;clear HQ;have HQ:=HQ';clear HQ';have HDN:Hid (UIs (qa:Int) qb qc qd qv):=hh (by rw [HQV.out,← HNN.out,← HI.out.done.1];exact HQW.out.uis);clear HI HQW;go_wp2_with fail;obtain ⟨e1,hwz,hbz⟩:=dr wr;replace HB:=bT HB hbz;replace HP:=bA hbz HP;replace HR:=bA hbz HR;replace HQ:=bA hbz HQ;replace HM:=bA hbz HM;clear hbz;refine rg2 6 6 hwz HQ HM fun hS=>?_
     clear hwz;refine tl 0 (some 49) (fun _ h=>h.1) Tryz.underlying25 Tryz.sizeU hS ?_;go_frame;refine tA1 1 50 hS ?_;go_frame;refine tk 2 (some 51) rfl rfl (a0E (by rfl) 25 _ rfl (.pointer (some ⟨M,0,none⟩)) rfl (.agg #[.int .u64 ra,.int .u64 rb,.int .u64 rc,.int .u64 rd]) (fun w' hS'=>run_loadAt_mid w' M 0 25 [.int .u64 ra,.int .u64 rb,.int .u64 rc,.int .u64 rd] _ (a0m (hS'.2) 0 _ rfl) Tryz.underlying25 rfl Tryz.sizeU)) hS ?_;go_frame;refine t1 3 fun K hK=>?_
     simp only [gA,jB,gC];refine wR1 25 #[.int .u64 (qa:Int),.int .u64 (qb:Int),.int .u64 (qc:Int),.int .u64 (qd:Int)] HP Tryz.sizeU ?_;intro e2 hxP kP zP;clear zP;replace HB:=bS HB kP WP;replace HR:=kb1 kP HR NPR;replace HQ:=kb1 kP HQ NPQ;replace HM:=kb1 kP HM NPM;replace HP:=hh hxP;clear hxP kP;replace hS:=And.intro HQ.out HM.out;refine hK _ _ (fun _ _=>hS) ?_;clear hK;refine t1 4 fun K hK=>?_
     simp only [gA,jB,gC];refine wR1 25 #[.int .u64 ra,.int .u64 rb,.int .u64 rc,.int .u64 rd] HR Tryz.sizeU ?_;intro e3 hxR kR zR;clear zR;replace HB:=bS HB kR WR;replace HP:=ka1 kR HP NPR;replace HQ:=kb1 kR HQ NRQ;replace HM:=kb1 kR HM NRM;replace HR:=hh hxR;clear hxR kR;replace hS:=And.intro HQ.out HM.out;refine hK _ _ (fun _ _=>hS) ?_;clear hK;refine tA1 5 6 hS ?_;go_frame;refine tD ?_;clear hS;go_wp2_with fail
     exact bodyPost_ret (b0L rfl _ _ P R _ _ _ _ _ _ _ rfl HP.out rfl HR.out Tryz.underlying25 rfl Tryz.sizeU Tryz.sizeU _ rfl) rfl ⟨_,_,_,_,_,_,_,_,by rw [← HQ1.out,HQT.out,if_pos rfl];exact HDN.out,by rw [← HQ1.out,HQT.out];rfl,HB.out⟩
    ·obtain rfl:(i:Int)=ii:=by have:=hii.out;omega
     clear hii;have HI5:Hid (i < 512):=hh (by have:=hj.out;omega);obtain ⟨t,ht⟩:=nm (NN / 2 ^ i % 2);have HT:Hid (t < 2∧t=NN / 2 ^ i % 2):=hh ⟨by omega,ht⟩;obtain ⟨bq,hbq⟩:=nm (decide (d≤2*r+t));obtain ⟨rv,hrv⟩:=nm (if 2*r+t < d then 2*r+t else 2*r+t - d);have HBQ:=hh hbq;have HRV:=hh hrv;have HRD:=hh (HI.out.lt HD.out);clear ht hbq hrv hj;go_wp2_with fail;obtain ⟨e1,hwz,hbz⟩:=dr wr;replace HB:=bT HB hbz;replace HX:=bA hbz HX;replace HY:=bA hbz HY;replace HP:=bA hbz HP;replace HR:=bA hbz HR;replace HQ:=bA hbz HQ;replace HM:=bA hbz HM;clear hbz;refine rg2 5 5 hwz HX HY fun hS=>?_
     clear hwz;refine tl 0 (some 35) (fun _ h=>h.1) Tryz.underlying179 Tryz.sizeWide hS ?_;go_frame;refine tA1 1 36 hS ?_;go_frame;refine tl 3 (some 38) (fun _ h=>h.2) Tryz.underlying25 Tryz.sizeU hS ?_;go_frame;refine t1 2 fun K hK=>?_
     simp only [gA,jB,gC];go_simp;refine (l0P HH.out HL.out HI5.out (t:=t) (by rw [← HNN.out];exact HT.out.2) _).mono ?_;rintro e e2 ⟨rfl,hb⟩;replace HB:=bT HB hb;replace HX:=bA hb HX;replace HY:=bA hb HY;replace HP:=bA hb HP;replace HR:=bA hb HR;replace HQ:=bA hb HQ;replace HM:=bA hb HM;clear hb;replace hS:=And.intro HX.out HY.out;refine hK _ _ (fun _ _=>hS) ?_;clear hK;refine t1 4 fun K hK=>?_
     simp only [gA,jB,gC];go_simp;refine (m0b HRU.out HUD.out HRD.out HT.out.1 HM.out).mono ?_;rw [← HBQ.out,← HRV.out];rintro e e3 ⟨ma,mb,mc,md,mo,rfl,hmu,hxM,kM⟩;have HMU:=hh hmu;clear hmu;replace HB:=bS HB kM WM;replace HX:=ka1 kM HX NXM;replace HY:=ka1 kM HY NYM;replace HP:=ka1 kM HP NPM;replace HR:=ka1 kM HR NRM;replace HQ:=ka1 kM HQ NQM;replace HM:=hh hxM;clear hxM kM;replace hS:=And.intro HX.out HY.out;refine hK _ _ (fun _ _=>hS) ?_;clear hK;refine tD ?_;clear hS
     by_cases hge:d≤2*r+t
     ·have hbf:bq=true:=by rw [HBQ.out];exact decide_eq_true hge
      subst hbf;have hN2:QuI NN d i (2*q+1) rv:=by
       have h1:=HI.out.more HD.out (by rw [← HT.out.2];exact hge);rw [← HT.out.2] at h1;rw [HRV.out,if_neg (by omega)];exact h1
      have hpl:=hN2.place HD.out HND.out;have HN2:=hh hN2;have hi:i < 256:=by
       apply Classical.byContradiction
       intro h9;have h8:2 ^ 256≤2 ^ i:=Nat.pow_le_pow_right (by decide) (by omega);have h7:1*2 ^ i≤(2*q+1)*2 ^ i:=Nat.mul_le_mul_right _ (by omega)
       omega
      obtain ⟨V,hk⟩:=nm (i / 64);obtain ⟨E,he⟩:=nm (i % 64);have hie:i=64*V+E:=by omega
      have he64:E < 64:=by omega
      have hk4:V < 4:=by omega
      have q1:(i:Int) / 64=(V:Int):=by omega
      have q2:(i:Int) % 64=(E:Int):=by omega
      have q6:IntKind.i64.wrap (V:Int)=(V:Int):=IntWalk.i64_in _ (by omega);have hk4i:(V:Int) < 4:=by omega
      have q7:IntKind.i64.wrap (E:Int)=(E:Int):=IntWalk.i64_in _ (by omega);have q8:(i:Int).tmod 64=(E:Int):=by rw [Int.tmod_eq_emod_of_nonneg (by omega)];exact q2
      have q9:min E 64=E:=Nat.min_eq_left (by omega);obtain ⟨pw,hpw⟩:∃ pw:Nat,pw=2 ^ E:=⟨_,rfl⟩;have q3:(2:Int) ^ E=(pw:Int):=by rw [hpw];simp
      have hpwb:pw < 18446744073709551616:=by rw [hpw];exact (Nat.pow_lt_pow_right (by omega) he64:2 ^ E < 2 ^ 64)
      have q10:IntKind.u64.wrap (pw:Int)=(pw:Int):=by rw [IntKind.wrap_u64];omega
      obtain ⟨hkl,hb1,hb2,hw2⟩:=HQW.out.more hie he64 hk4;have q11:=j0l he64 (HQW.out.d64.at hkl) hb2;obtain ⟨x,hx⟩:=nm (ql[V]);have hcx:=k0G hkl;rw [← hx] at q11 hw2 hb1 hcx;rw [← hpw] at q11 hw2 hb1;have HCX:=hh hcx;obtain ⟨xn,hxn⟩:=nm (x+pw);rw [← hxn] at q11 hw2;have HW2:=hh hw2;have HKL:=hh hkl;clear hge HI hN2 hpl hi hk he hie he64 hpw hpwb hkl hb1 hb2 hw2 hx hcx hxn HQW;go_wp2_with fail;obtain ⟨e4,hwz,hbz⟩:=dr e3;replace HB:=bT HB hbz;replace HX:=bA hbz HX;replace HY:=bA hbz HY;replace HP:=bA hbz HP;replace HR:=bA hbz HR;replace HQ:=bA hbz HQ;replace HM:=bA hbz HM;clear hbz;refine rg1 9 10 hwz HQ fun hS=>?_
      clear hwz;refine tA1 0 40 hS ?_;go_frame;refine tA1 1 41 hS ?_;go_frame;refine tA1 2 42 hS ?_;go_frame;refine tk 3 (some 43) rfl rfl (.inl ⟨by rfl,fun w' hS'=>(by have hc:=(Lib.cell_of_heap hS' V).trans HCX.out;go_simp;rfl)⟩) hS ?_;go_frame;refine tA1 4 44 hS ?_;go_frame;refine tA1 5 45 hS ?_;go_frame;refine tA1 6 46 hS ?_;go_frame;refine tA1 7 47 hS ?_;go_frame;refine tA1 8 48 hS ?_;go_frame;refine t1 9 fun K hK=>?_
      simp only [gA,jB,gC];refine a0h 23 _ _ rfl Q V (.int .u64 (xn:Int)) rfl rfl rfl rfl 25 (rowW ql) HQ.out Tryz.sizeU64 (by rw [e0t];exact HKL.out) (rowW (ql.set V xn)) (g0b ql V xn) ?_;intro e5 hxQ kQ zQ;clear zQ;replace HB:=bS HB kQ WQ;replace HX:=ka1 kQ HX NXQ;replace HY:=ka1 kQ HY NYQ;replace HP:=ka1 kQ HP NPQ;replace HR:=ka1 kQ HR NRQ;replace HM:=kb1 kQ HM NQM;replace HQ:=hh hxQ;clear hxQ kQ;refine hK _ _ (fun h=>absurd rfl h) ?_;clear hK;refine tD ?_;clear hS;clear q1 q2 q3 q6 q7 q8 q9 q10 q11 hk4 hk4i;have hi5:=HI5.out;go_wp2_with fail
      go_roundw
      case rel=>exact ⟨i,_,_,_,_,_,_,_,_,_,rfl,hh rfl,hh (by have:=HI5.out;omega),HN2,HW2,HMU,HQ,HM,HX,HY,HP,HR,HB⟩
      case measure=>have:=HI5.out;simp [intOf]<;>omega
     ·have hbf:bq=false:=by rw [HBQ.out];exact decide_eq_false hge
      subst hbf;have HN2:Hid (QuI NN d i (2*q) rv):=hh (by
       have h1:=HI.out.less (by rw [← HT.out.2];omega);rw [← HT.out.2] at h1;rw [HRV.out,if_pos (by omega)];exact h1)
      have HW2:=hh HQW.out.less;clear hge HI;have hi5:=HI5.out;go_wp2_with fail
      go_roundw
      case rel=>exact ⟨i,_,_,_,_,_,_,_,_,_,rfl,hh rfl,hh (by have:=HI5.out;omega),HN2,HW2,HMU,HQ,HM,HX,HY,HP,HR,HB⟩
      case measure=>have:=HI5.out;simp [intOf]<;>omega
  ·have hl2:decide (0≤cv)=true:=decide_eq_true (by omega);have HQT:Hid (qk=false):=hh (by rw [HQK.out];exact decide_eq_false fun h9=>hlt (by rw [HCV.out];exact (c0g H d).2 h9));clear e0
   go_wp2_with (refine a0a (t:=25) (old:=u0) rfl 25 _ _ rfl P u0 rfl rfl HP.out Tryz.sizeU rfl (a0j _ _ _ _) ?_)
   intro a3 hxP kP zP;clear zP;replace HB:=bS HB kP WP;replace HR:=kb1 kP HR NPR;replace HP:=hh hxP;clear hxP kP
   go_wp2_with (refine a0a (t:=25) (old:=u0) rfl 25 _ _ rfl R u0 rfl rfl HR.out Tryz.sizeU rfl (a0j _ _ _ _) ?_)
   intro a4 hxR kR zR;clear zR;replace HB:=bS HB kR WR;replace HP:=ka1 kR HP NPR;replace HR:=hh hxR;clear hxR kR;go_wp2_with fail
   exact bodyPost_ret (b0L rfl _ _ P R _ _ _ _ _ _ _ rfl HP.out rfl HR.out Tryz.underlying25 rfl Tryz.sizeU Tryz.sizeU _ rfl) rfl ⟨_,_,_,_,_,_,_,_,by rw [← HQ1.out,HQT.out,if_neg (by decide)];exact UIs.zero,by rw [← HQ1.out,HQT.out];rfl,HB.out⟩

theorem g0D {a b c f a' b' c' f' p0 p1 p2 p3:Int} {n m d:Nat} (h:UIs a b c f n) (h':UIs a' b' c' f' m) (hd:UIs p0 p1 p2 p3 d) (hd0:0 < d) (w:World) :
  Calls Tryz.prog 139 #[.agg #[.int .u64 a,.int .u64 b,.int .u64 c,.int .u64 f],.agg #[.int .u64 a',.int .u64 b',.int .u64 c',.int .u64 f'],.agg #[.int .u64 p0,.int .u64 p1,.int .u64 p2,.int .u64 p3]] w (UOk w (n*m / d) (decide (n*m / d < uMax))):=by
 have HU:=hh h;have HVV:=hh h';have HUD:=hh hd;have HD:=hh hd0;obtain ⟨qv,hqv⟩:=nm (n*m / d);have HQV:Hid ((n*m / uMax*uMax+n*m % uMax) / d=qv):=hh (by rw [Nat.mul_comm (n*m / uMax),Nat.div_add_mod,hqv]);rw [← hqv];clear h h' hd hd0 hqv
 go_enter Tryz.func139,Tryz.ntmps139
 go_wp2_with (refine sA _ Tryz.zeroUz ?_)
 obtain ⟨w1,hw1⟩:=nm (((w.alloc (.cells #[.int .u64 a,.int .u64 b,.int .u64 c,.int .u64 f] 25)).alloc (.cells #[.int .u64 a',.int .u64 b',.int .u64 c',.int .u64 f'] 25)).alloc (.cells #[.int .u64 p0,.int .u64 p1,.int .u64 p2,.int .u64 p3] 25));obtain ⟨X,hX⟩:=nm (w.heap.size);obtain ⟨Y,hY⟩:=nm (w.heap.size+1);obtain ⟨Z,hZ⟩:=nm (w.heap.size+1+1);rw [← hw1,← hZ,← hY,← hX];have hbx:=box3 w _ _ _ _ _ _ w1 hw1;rw [← hZ,← hY,← hX] at hbx;have HX:=hh hbx.1;have HY:=hh hbx.2.1;have HZ:=hh hbx.2.2.1;have HB:Hid (Below w.heap.size w w1):=hh (by rw [← hX];exact hbx.2.2.2);clear hbx hw1 hX hY hZ;intro P w2 hP';have WP:=mGe hP' HB.out.size;have HP:=hh hP'.out.cells;have hb:=hP'.out.below;have NXP:=mNe hP' HX;have NYP:=mNe hP' HY;have NZP:=mNe hP' HZ;clear hP';replace HB:=bT HB hb;replace HX:=bA hb HX;replace HY:=bA hb HY;replace HZ:=bA hb HZ;clear hb;go_wp2_with fail;obtain ⟨a1,hwz,hbz⟩:=dr w2;replace HB:=bT HB hbz;replace HX:=bA hbz HX;replace HY:=bA hbz HY;replace HZ:=bA hbz HZ;replace HP:=bA hbz HP;clear hbz;refine rg3 14 14 hwz HX HY HZ fun hS=>?_
 clear hwz;refine tl 0 (some 12) (fun _ h=>h.1) Tryz.underlying25 Tryz.sizeU hS ?_;go_frame;refine tl 1 (some 13) (fun _ h=>h.2.1) Tryz.underlying25 Tryz.sizeU hS ?_;go_frame;refine tl 3 (some 15) (fun _ h=>h.2.2) Tryz.underlying25 Tryz.sizeU hS ?_;go_frame;refine f0k 2 9 10 rfl rfl rfl (by kernel_rfl) (fun K hK=>?_) (fun K hK=>?_) (fun K hK=>?_)
 ·simp only [gA,jB,gC];rw [if_pos (by rfl)];go_simp;refine (e0p HU.out HVV.out _).mono ?_;rintro e a2 ⟨h0,h1,h2,h3,l0,l1,l2,l3,hhq,hl,rfl,hb⟩;have HHH:=hh hhq;have HLL:=hh hl;clear hhq hl;replace HB:=bT HB hb;replace HX:=bA hb HX;replace HY:=bA hb HY;replace HZ:=bA hb HZ;replace HP:=bA hb HP;clear hb;replace hS:=And.intro HX.out (And.intro HY.out HZ.out);refine hK _ _ (fun _ _=>hS) ?_;clear hK;refine f0k 4 9 10 rfl rfl rfl (by kernel_rfl) (fun K hK=>?_) (fun K hK=>?_) (fun K hK=>?_)
  ·simp only [gA,jB,gC];rw [if_pos (by rfl)];go_simp;refine (b0n HHH.out HLL.out HUD.out HD.out _).mono ?_;rw [HQV.out];rintro e a3 ⟨qa,qb,qc,qd,ra,rb,rc,rd,hq,rfl,hb⟩;have HQU:=hh hq;clear hq;replace HB:=bT HB hb;replace HX:=bA hb HX;replace HY:=bA hb HY;replace HZ:=bA hb HZ;replace HP:=bA hb HP;clear hb;replace hS:=And.intro HX.out (And.intro HY.out HZ.out);refine hK _ _ (fun _ _=>hS) ?_;clear hK;refine tA1 5 11 hS ?_;go_frame;refine tA1 6 17 hS ?_;go_frame;refine tA1 7 18 hS ?_;go_frame;refine tA1 8 19 hS ?_;go_frame;refine a0k 9 10 rfl rfl (by kernel_rfl) (fun K hK=>?_) (fun K hK=>?_)
   ·simp only [gA,jB,gC];rw [if_pos (by rfl)];refine wA1 25 Tryz.zeroUz ?_;intro Q a4 hQ;have WQ:=mGe hQ HB.out.size;have NXQ:=mNe hQ HX;have NYQ:=mNe hQ HY;have NZQ:=mNe hQ HZ;have NPQ:=mNe hQ HP;have HQ:=hh hQ.out.cells;have hbQ:=hQ.out.below;clear hQ;replace HB:=bT HB hbQ;replace HX:=bA hbQ HX;replace HY:=bA hbQ HY;replace HZ:=bA hbQ HZ;replace HP:=bA hbQ HP;clear hbQ;replace hS:=And.intro HX.out (And.intro HY.out HZ.out);refine hK _ _ (fun _ _=>hS) ?_;clear hK;refine t1 10 fun K hK=>?_
    simp only [gA,jB,gC];refine wA1 25 Tryz.zeroUz ?_;intro V a5 hV;have WV:=mGe hV HB.out.size;have NXV:=mNe hV HX;have NYV:=mNe hV HY;have NZV:=mNe hV HZ;have NPV:=mNe hV HP;have NQV:=mNe hV HQ;have HV:=hh hV.out.cells;have hbV:=hV.out.below;clear hV;replace HB:=bT HB hbV;replace HX:=bA hbV HX;replace HY:=bA hbV HY;replace HZ:=bA hbV HZ;replace HP:=bA hbV HP;replace HQ:=bA hbV HQ;clear hbV;replace hS:=And.intro HX.out (And.intro HY.out HZ.out);refine hK _ _ (fun _ _=>hS) ?_;clear hK;refine t1 11 fun K hK=>?_
    simp only [gA,jB,gC];refine wR1 25 #[.int .u64 qa,.int .u64 qb,.int .u64 qc,.int .u64 qd] HQ Tryz.sizeU ?_;intro a6 hxQ kQ zQ;clear zQ;replace HB:=bS HB kQ WQ;replace HX:=ka1 kQ HX NXQ;replace HY:=ka1 kQ HY NYQ;replace HZ:=ka1 kQ HZ NZQ;replace HP:=ka1 kQ HP NPQ;replace HV:=kb1 kQ HV NQV;replace HQ:=hh hxQ;clear hxQ kQ;replace hS:=And.intro HX.out (And.intro HY.out HZ.out);refine hK _ _ (fun _ _=>hS) ?_;clear hK;refine t1 12 fun K hK=>?_
    simp only [gA,jB,gC];refine wR1 25 #[.int .u64 ra,.int .u64 rb,.int .u64 rc,.int .u64 rd] HV Tryz.sizeU ?_;intro a7 hxV kV zV;clear zV;replace HB:=bS HB kV WV;replace HX:=ka1 kV HX NXV;replace HY:=ka1 kV HY NYV;replace HZ:=ka1 kV HZ NZV;replace HP:=ka1 kV HP NPV;replace HQ:=ka1 kV HQ NQV;clear hxV kV;replace hS:=And.intro HX.out (And.intro HY.out HZ.out);refine hK _ _ (fun _ _=>hS) ?_;clear hK;refine tA1 13 10 hS ?_;go_frame;refine tD ?_;clear hS
    go_wp2_with (first
     | (refine lR HQ Tryz.underlying25 Tryz.sizeU ?_)
     | (refine sR 25 #[.int .u64 qa,.int .u64 qb,.int .u64 qc,.int .u64 qd] HP Tryz.sizeU ?_))
    intro a8 hxP kP zP;clear zP;replace HB:=bS HB kP WP;replace HP:=hh hxP;clear hxP kP;go_wp2_with fail
    exact bR rfl rfl HP Tryz.underlying25 Tryz.sizeU ⟨_,_,_,_,HQU.out,rfl,HB.out⟩
   ·simp only [gA,jB,gC];rw [if_pos (by rfl)];refine wA1 25 Tryz.zeroUz ?_;intro V a4 hV;have WV:=mGe hV HB.out.size;have NXV:=mNe hV HX;have NYV:=mNe hV HY;have NZV:=mNe hV HZ;have NPV:=mNe hV HP;have HV:=hh hV.out.cells;have hbV:=hV.out.below;clear hV;replace HB:=bT HB hbV;replace HX:=bA hbV HX;replace HY:=bA hbV HY;replace HZ:=bA hbV HZ;replace HP:=bA hbV HP;clear hbV;replace hS:=And.intro HX.out (And.intro HY.out HZ.out);refine hK _ _ (fun _ _=>hS) ?_;clear hK;refine t1 9 fun K hK=>?_
    simp only [gA,jB,gC];refine wA1 25 Tryz.zeroUz ?_;intro Q a5 hQ;have WQ:=mGe hQ HB.out.size;have NXQ:=mNe hQ HX;have NYQ:=mNe hQ HY;have NZQ:=mNe hQ HZ;have NPQ:=mNe hQ HP;have NVQ:=mNe hQ HV;have HQ:=hh hQ.out.cells;have hbQ:=hQ.out.below;clear hQ;replace HB:=bT HB hbQ;replace HX:=bA hbQ HX;replace HY:=bA hbQ HY;replace HZ:=bA hbQ HZ;replace HP:=bA hbQ HP;replace HV:=bA hbQ HV;clear hbQ;replace hS:=And.intro HX.out (And.intro HY.out HZ.out);refine hK _ _ (fun _ _=>hS) ?_;clear hK;refine t1 11 fun K hK=>?_
    simp only [gA,jB,gC];refine wR1 25 #[.int .u64 qa,.int .u64 qb,.int .u64 qc,.int .u64 qd] HQ Tryz.sizeU ?_;intro a6 hxQ kQ zQ;clear zQ;replace HB:=bS HB kQ WQ;replace HX:=ka1 kQ HX NXQ;replace HY:=ka1 kQ HY NYQ;replace HZ:=ka1 kQ HZ NZQ;replace HP:=ka1 kQ HP NPQ;replace HV:=ka1 kQ HV NVQ;replace HQ:=hh hxQ;clear hxQ kQ;replace hS:=And.intro HX.out (And.intro HY.out HZ.out);refine hK _ _ (fun _ _=>hS) ?_;clear hK;refine t1 12 fun K hK=>?_
    simp only [gA,jB,gC];refine wR1 25 #[.int .u64 ra,.int .u64 rb,.int .u64 rc,.int .u64 rd] HV Tryz.sizeU ?_;intro a7 hxV kV zV;clear zV;replace HB:=bS HB kV WV;replace HX:=ka1 kV HX NXV;replace HY:=ka1 kV HY NYV;replace HZ:=ka1 kV HZ NZV;replace HP:=ka1 kV HP NPV;replace HQ:=kb1 kV HQ NVQ;clear hxV kV;replace hS:=And.intro HX.out (And.intro HY.out HZ.out);refine hK _ _ (fun _ _=>hS) ?_;clear hK;refine tA1 13 10 hS ?_;go_frame;refine tD ?_;clear hS
    go_wp2_with (first
     | (refine lR HQ Tryz.underlying25 Tryz.sizeU ?_)
     | (refine sR 25 #[.int .u64 qa,.int .u64 qb,.int .u64 qc,.int .u64 qd] HP Tryz.sizeU ?_))
    intro a8 hxP kP zP;clear zP;replace HB:=bS HB kP WP;replace HP:=hh hxP;clear hxP kP;go_wp2_with fail
    exact bR rfl rfl HP Tryz.underlying25 Tryz.sizeU ⟨_,_,_,_,HQU.out,rfl,HB.out⟩
  ·simp only [gA,jB,gC];rw [if_pos (by rfl)];refine wA1 25 Tryz.zeroUz ?_;intro Q a3 hQ;have WQ:=mGe hQ HB.out.size;have NXQ:=mNe hQ HX;have NYQ:=mNe hQ HY;have NZQ:=mNe hQ HZ;have NPQ:=mNe hQ HP;have HQ:=hh hQ.out.cells;have hbQ:=hQ.out.below;clear hQ;replace HB:=bT HB hbQ;replace HX:=bA hbQ HX;replace HY:=bA hbQ HY;replace HZ:=bA hbQ HZ;replace HP:=bA hbQ HP;clear hbQ;replace hS:=And.intro HX.out (And.intro HY.out HZ.out);refine hK _ _ (fun _ _=>hS) ?_;clear hK;refine a0k 4 10 rfl rfl (by kernel_rfl) (fun K hK=>?_) (fun K hK=>?_)
   ·simp only [gA,jB,gC];rw [if_pos (by rfl)];go_simp;refine (b0n HHH.out HLL.out HUD.out HD.out _).mono ?_;rw [HQV.out];rintro e a4 ⟨qa,qb,qc,qd,ra,rb,rc,rd,hq,rfl,hb⟩;have HQU:=hh hq;clear hq;replace HB:=bT HB hb;replace HX:=bA hb HX;replace HY:=bA hb HY;replace HZ:=bA hb HZ;replace HP:=bA hb HP;replace HQ:=bA hb HQ;clear hb;replace hS:=And.intro HX.out (And.intro HY.out HZ.out);refine hK _ _ (fun _ _=>hS) ?_;clear hK;refine tA1 5 11 hS ?_;go_frame;refine tA1 6 17 hS ?_;go_frame;refine tA1 7 18 hS ?_;go_frame;refine tA1 8 19 hS ?_;go_frame;refine t1 10 fun K hK=>?_
    simp only [gA,jB,gC];refine wA1 25 Tryz.zeroUz ?_;intro V a5 hV;have WV:=mGe hV HB.out.size;have NXV:=mNe hV HX;have NYV:=mNe hV HY;have NZV:=mNe hV HZ;have NPV:=mNe hV HP;have NQV:=mNe hV HQ;have HV:=hh hV.out.cells;have hbV:=hV.out.below;clear hV;replace HB:=bT HB hbV;replace HX:=bA hbV HX;replace HY:=bA hbV HY;replace HZ:=bA hbV HZ;replace HP:=bA hbV HP;replace HQ:=bA hbV HQ;clear hbV;replace hS:=And.intro HX.out (And.intro HY.out HZ.out);refine hK _ _ (fun _ _=>hS) ?_;clear hK;refine t1 11 fun K hK=>?_
    simp only [gA,jB,gC];refine wR1 25 #[.int .u64 qa,.int .u64 qb,.int .u64 qc,.int .u64 qd] HQ Tryz.sizeU ?_;intro a6 hxQ kQ zQ;clear zQ;replace HB:=bS HB kQ WQ;replace HX:=ka1 kQ HX NXQ;replace HY:=ka1 kQ HY NYQ;replace HZ:=ka1 kQ HZ NZQ;replace HP:=ka1 kQ HP NPQ;replace HV:=kb1 kQ HV NQV;replace HQ:=hh hxQ;clear hxQ kQ;replace hS:=And.intro HX.out (And.intro HY.out HZ.out);refine hK _ _ (fun _ _=>hS) ?_;clear hK;refine t1 12 fun K hK=>?_
    simp only [gA,jB,gC];refine wR1 25 #[.int .u64 ra,.int .u64 rb,.int .u64 rc,.int .u64 rd] HV Tryz.sizeU ?_;intro a7 hxV kV zV;clear zV;replace HB:=bS HB kV WV;replace HX:=ka1 kV HX NXV;replace HY:=ka1 kV HY NYV;replace HZ:=ka1 kV HZ NZV;replace HP:=ka1 kV HP NPV;replace HQ:=ka1 kV HQ NQV;clear hxV kV;replace hS:=And.intro HX.out (And.intro HY.out HZ.out);refine hK _ _ (fun _ _=>hS) ?_;clear hK;refine tA1 13 10 hS ?_;go_frame;refine tD ?_;clear hS
    go_wp2_with (first
     | (refine lR HQ Tryz.underlying25 Tryz.sizeU ?_)
     | (refine sR 25 #[.int .u64 qa,.int .u64 qb,.int .u64 qc,.int .u64 qd] HP Tryz.sizeU ?_))
    intro a8 hxP kP zP;clear zP;replace HB:=bS HB kP WP;replace HP:=hh hxP;clear hxP kP;go_wp2_with fail
    exact bR rfl rfl HP Tryz.underlying25 Tryz.sizeU ⟨_,_,_,_,HQU.out,rfl,HB.out⟩
   ·simp only [gA,jB,gC];rw [if_pos (by rfl)];refine wA1 25 Tryz.zeroUz ?_;intro V a4 hV;have WV:=mGe hV HB.out.size;have NXV:=mNe hV HX;have NYV:=mNe hV HY;have NZV:=mNe hV HZ;have NPV:=mNe hV HP;have NQV:=mNe hV HQ;have HV:=hh hV.out.cells;have hbV:=hV.out.below;clear hV;replace HB:=bT HB hbV;replace HX:=bA hbV HX;replace HY:=bA hbV HY;replace HZ:=bA hbV HZ;replace HP:=bA hbV HP;replace HQ:=bA hbV HQ;clear hbV;replace hS:=And.intro HX.out (And.intro HY.out HZ.out);refine hK _ _ (fun _ _=>hS) ?_;clear hK;refine t1 4 fun K hK=>?_
    simp only [gA,jB,gC];go_simp;refine (b0n HHH.out HLL.out HUD.out HD.out _).mono ?_;rw [HQV.out];rintro e a5 ⟨qa,qb,qc,qd,ra,rb,rc,rd,hq,rfl,hb⟩;have HQU:=hh hq;clear hq;replace HB:=bT HB hb;replace HX:=bA hb HX;replace HY:=bA hb HY;replace HZ:=bA hb HZ;replace HP:=bA hb HP;replace HQ:=bA hb HQ;replace HV:=bA hb HV;clear hb;replace hS:=And.intro HX.out (And.intro HY.out HZ.out);refine hK _ _ (fun _ _=>hS) ?_;clear hK;refine tA1 5 11 hS ?_;go_frame;refine tA1 6 17 hS ?_;go_frame;refine tA1 7 18 hS ?_;go_frame;refine tA1 8 19 hS ?_;go_frame;refine t1 11 fun K hK=>?_
    simp only [gA,jB,gC];refine wR1 25 #[.int .u64 qa,.int .u64 qb,.int .u64 qc,.int .u64 qd] HQ Tryz.sizeU ?_;intro a6 hxQ kQ zQ;clear zQ;replace HB:=bS HB kQ WQ;replace HX:=ka1 kQ HX NXQ;replace HY:=ka1 kQ HY NYQ;replace HZ:=ka1 kQ HZ NZQ;replace HP:=ka1 kQ HP NPQ;replace HV:=kb1 kQ HV NQV;replace HQ:=hh hxQ;clear hxQ kQ;replace hS:=And.intro HX.out (And.intro HY.out HZ.out);refine hK _ _ (fun _ _=>hS) ?_;clear hK;refine t1 12 fun K hK=>?_
    simp only [gA,jB,gC];refine wR1 25 #[.int .u64 ra,.int .u64 rb,.int .u64 rc,.int .u64 rd] HV Tryz.sizeU ?_;intro a7 hxV kV zV;clear zV;replace HB:=bS HB kV WV;replace HX:=ka1 kV HX NXV;replace HY:=ka1 kV HY NYV;replace HZ:=ka1 kV HZ NZV;replace HP:=ka1 kV HP NPV;replace HQ:=ka1 kV HQ NQV;clear hxV kV;replace hS:=And.intro HX.out (And.intro HY.out HZ.out);refine hK _ _ (fun _ _=>hS) ?_;clear hK;refine tA1 13 10 hS ?_;go_frame;refine tD ?_;clear hS
    go_wp2_with (first
     | (refine lR HQ Tryz.underlying25 Tryz.sizeU ?_)
     | (refine sR 25 #[.int .u64 qa,.int .u64 qb,.int .u64 qc,.int .u64 qd] HP Tryz.sizeU ?_))
    intro a8 hxP kP zP;clear zP;replace HB:=bS HB kP WP;replace HP:=hh hxP;clear hxP kP;go_wp2_with fail
    exact bR rfl rfl HP Tryz.underlying25 Tryz.sizeU ⟨_,_,_,_,HQU.out,rfl,HB.out⟩
  ·simp only [gA,jB,gC];rw [if_pos (by rfl)];refine wA1 25 Tryz.zeroUz ?_;intro V a3 hV;have WV:=mGe hV HB.out.size;have NXV:=mNe hV HX;have NYV:=mNe hV HY;have NZV:=mNe hV HZ;have NPV:=mNe hV HP;have HV:=hh hV.out.cells;have hbV:=hV.out.below;clear hV;replace HB:=bT HB hbV;replace HX:=bA hbV HX;replace HY:=bA hbV HY;replace HZ:=bA hbV HZ;replace HP:=bA hbV HP;clear hbV;replace hS:=And.intro HX.out (And.intro HY.out HZ.out);refine hK _ _ (fun _ _=>hS) ?_;clear hK;refine a0k 4 9 rfl rfl (by kernel_rfl) (fun K hK=>?_) (fun K hK=>?_)
   ·simp only [gA,jB,gC];rw [if_pos (by rfl)];go_simp;refine (b0n HHH.out HLL.out HUD.out HD.out _).mono ?_;rw [HQV.out];rintro e a4 ⟨qa,qb,qc,qd,ra,rb,rc,rd,hq,rfl,hb⟩;have HQU:=hh hq;clear hq;replace HB:=bT HB hb;replace HX:=bA hb HX;replace HY:=bA hb HY;replace HZ:=bA hb HZ;replace HP:=bA hb HP;replace HV:=bA hb HV;clear hb;replace hS:=And.intro HX.out (And.intro HY.out HZ.out);refine hK _ _ (fun _ _=>hS) ?_;clear hK;refine tA1 5 11 hS ?_;go_frame;refine tA1 6 17 hS ?_;go_frame;refine tA1 7 18 hS ?_;go_frame;refine tA1 8 19 hS ?_;go_frame;refine t1 9 fun K hK=>?_
    simp only [gA,jB,gC];refine wA1 25 Tryz.zeroUz ?_;intro Q a5 hQ;have WQ:=mGe hQ HB.out.size;have NXQ:=mNe hQ HX;have NYQ:=mNe hQ HY;have NZQ:=mNe hQ HZ;have NPQ:=mNe hQ HP;have NVQ:=mNe hQ HV;have HQ:=hh hQ.out.cells;have hbQ:=hQ.out.below;clear hQ;replace HB:=bT HB hbQ;replace HX:=bA hbQ HX;replace HY:=bA hbQ HY;replace HZ:=bA hbQ HZ;replace HP:=bA hbQ HP;replace HV:=bA hbQ HV;clear hbQ;replace hS:=And.intro HX.out (And.intro HY.out HZ.out);refine hK _ _ (fun _ _=>hS) ?_;clear hK;refine t1 11 fun K hK=>?_
    simp only [gA,jB,gC];refine wR1 25 #[.int .u64 qa,.int .u64 qb,.int .u64 qc,.int .u64 qd] HQ Tryz.sizeU ?_;intro a6 hxQ kQ zQ;clear zQ;replace HB:=bS HB kQ WQ;replace HX:=ka1 kQ HX NXQ;replace HY:=ka1 kQ HY NYQ;replace HZ:=ka1 kQ HZ NZQ;replace HP:=ka1 kQ HP NPQ;replace HV:=ka1 kQ HV NVQ;replace HQ:=hh hxQ;clear hxQ kQ;replace hS:=And.intro HX.out (And.intro HY.out HZ.out);refine hK _ _ (fun _ _=>hS) ?_;clear hK;refine t1 12 fun K hK=>?_
    simp only [gA,jB,gC];refine wR1 25 #[.int .u64 ra,.int .u64 rb,.int .u64 rc,.int .u64 rd] HV Tryz.sizeU ?_;intro a7 hxV kV zV;clear zV;replace HB:=bS HB kV WV;replace HX:=ka1 kV HX NXV;replace HY:=ka1 kV HY NYV;replace HZ:=ka1 kV HZ NZV;replace HP:=ka1 kV HP NPV;replace HQ:=kb1 kV HQ NVQ;clear hxV kV;replace hS:=And.intro HX.out (And.intro HY.out HZ.out);refine hK _ _ (fun _ _=>hS) ?_;clear hK;refine tA1 13 10 hS ?_;go_frame;refine tD ?_;clear hS
    go_wp2_with (first
     | (refine lR HQ Tryz.underlying25 Tryz.sizeU ?_)
     | (refine sR 25 #[.int .u64 qa,.int .u64 qb,.int .u64 qc,.int .u64 qd] HP Tryz.sizeU ?_))
    intro a8 hxP kP zP;clear zP;replace HB:=bS HB kP WP;replace HP:=hh hxP;clear hxP kP;go_wp2_with fail
    exact bR rfl rfl HP Tryz.underlying25 Tryz.sizeU ⟨_,_,_,_,HQU.out,rfl,HB.out⟩
   ·simp only [gA,jB,gC];rw [if_pos (by rfl)];refine wA1 25 Tryz.zeroUz ?_;intro Q a4 hQ;have WQ:=mGe hQ HB.out.size;have NXQ:=mNe hQ HX;have NYQ:=mNe hQ HY;have NZQ:=mNe hQ HZ;have NPQ:=mNe hQ HP;have NVQ:=mNe hQ HV;have HQ:=hh hQ.out.cells;have hbQ:=hQ.out.below;clear hQ;replace HB:=bT HB hbQ;replace HX:=bA hbQ HX;replace HY:=bA hbQ HY;replace HZ:=bA hbQ HZ;replace HP:=bA hbQ HP;replace HV:=bA hbQ HV;clear hbQ;replace hS:=And.intro HX.out (And.intro HY.out HZ.out);refine hK _ _ (fun _ _=>hS) ?_;clear hK;refine t1 4 fun K hK=>?_
    simp only [gA,jB,gC];go_simp;refine (b0n HHH.out HLL.out HUD.out HD.out _).mono ?_;rw [HQV.out];rintro e a5 ⟨qa,qb,qc,qd,ra,rb,rc,rd,hq,rfl,hb⟩;have HQU:=hh hq;clear hq;replace HB:=bT HB hb;replace HX:=bA hb HX;replace HY:=bA hb HY;replace HZ:=bA hb HZ;replace HP:=bA hb HP;replace HV:=bA hb HV;replace HQ:=bA hb HQ;clear hb;replace hS:=And.intro HX.out (And.intro HY.out HZ.out);refine hK _ _ (fun _ _=>hS) ?_;clear hK;refine tA1 5 11 hS ?_;go_frame;refine tA1 6 17 hS ?_;go_frame;refine tA1 7 18 hS ?_;go_frame;refine tA1 8 19 hS ?_;go_frame;refine t1 11 fun K hK=>?_
    simp only [gA,jB,gC];refine wR1 25 #[.int .u64 qa,.int .u64 qb,.int .u64 qc,.int .u64 qd] HQ Tryz.sizeU ?_;intro a6 hxQ kQ zQ;clear zQ;replace HB:=bS HB kQ WQ;replace HX:=ka1 kQ HX NXQ;replace HY:=ka1 kQ HY NYQ;replace HZ:=ka1 kQ HZ NZQ;replace HP:=ka1 kQ HP NPQ;replace HV:=ka1 kQ HV NVQ;replace HQ:=hh hxQ;clear hxQ kQ;replace hS:=And.intro HX.out (And.intro HY.out HZ.out);refine hK _ _ (fun _ _=>hS) ?_;clear hK;refine t1 12 fun K hK=>?_
    simp only [gA,jB,gC];refine wR1 25 #[.int .u64 ra,.int .u64 rb,.int .u64 rc,.int .u64 rd] HV Tryz.sizeU ?_;intro a7 hxV kV zV;clear zV;replace HB:=bS HB kV WV;replace HX:=ka1 kV HX NXV;replace HY:=ka1 kV HY NYV;replace HZ:=ka1 kV HZ NZV;replace HP:=ka1 kV HP NPV;replace HQ:=kb1 kV HQ NVQ;clear hxV kV;replace hS:=And.intro HX.out (And.intro HY.out HZ.out);refine hK _ _ (fun _ _=>hS) ?_;clear hK;refine tA1 13 10 hS ?_;go_frame;refine tD ?_;clear hS
    go_wp2_with (first
     | (refine lR HQ Tryz.underlying25 Tryz.sizeU ?_)
     | (refine sR 25 #[.int .u64 qa,.int .u64 qb,.int .u64 qc,.int .u64 qd] HP Tryz.sizeU ?_))
    intro a8 hxP kP zP;clear zP;replace HB:=bS HB kP WP;replace HP:=hh hxP;clear hxP kP;go_wp2_with fail
    exact bR rfl rfl HP Tryz.underlying25 Tryz.sizeU ⟨_,_,_,_,HQU.out,rfl,HB.out⟩
 ·simp only [gA,jB,gC];rw [if_pos (by rfl)];refine wA1 25 Tryz.zeroUz ?_;intro Q a2 hQ;have WQ:=mGe hQ HB.out.size;have NXQ:=mNe hQ HX;have NYQ:=mNe hQ HY;have NZQ:=mNe hQ HZ;have NPQ:=mNe hQ HP;have HQ:=hh hQ.out.cells;have hbQ:=hQ.out.below;clear hQ;replace HB:=bT HB hbQ;replace HX:=bA hbQ HX;replace HY:=bA hbQ HY;replace HZ:=bA hbQ HZ;replace HP:=bA hbQ HP;clear hbQ;replace hS:=And.intro HX.out (And.intro HY.out HZ.out);refine hK _ _ (fun _ _=>hS) ?_;clear hK;refine a0k 2 10 rfl rfl (by kernel_rfl) (fun K hK=>?_) (fun K hK=>?_)
  ·simp only [gA,jB,gC];rw [if_pos (by rfl)];go_simp;refine (e0p HU.out HVV.out _).mono ?_;rintro e a3 ⟨h0,h1,h2,h3,l0,l1,l2,l3,hhq,hl,rfl,hb⟩;have HHH:=hh hhq;have HLL:=hh hl;clear hhq hl;replace HB:=bT HB hb;replace HX:=bA hb HX;replace HY:=bA hb HY;replace HZ:=bA hb HZ;replace HP:=bA hb HP;replace HQ:=bA hb HQ;clear hb;replace hS:=And.intro HX.out (And.intro HY.out HZ.out);refine hK _ _ (fun _ _=>hS) ?_;clear hK;refine a0k 4 10 rfl rfl (by kernel_rfl) (fun K hK=>?_) (fun K hK=>?_)
   ·simp only [gA,jB,gC];rw [if_pos (by rfl)];go_simp;refine (b0n HHH.out HLL.out HUD.out HD.out _).mono ?_;rw [HQV.out];rintro e a4 ⟨qa,qb,qc,qd,ra,rb,rc,rd,hq,rfl,hb⟩;have HQU:=hh hq;clear hq;replace HB:=bT HB hb;replace HX:=bA hb HX;replace HY:=bA hb HY;replace HZ:=bA hb HZ;replace HP:=bA hb HP;replace HQ:=bA hb HQ;clear hb;replace hS:=And.intro HX.out (And.intro HY.out HZ.out);refine hK _ _ (fun _ _=>hS) ?_;clear hK;refine tA1 5 11 hS ?_;go_frame;refine tA1 6 17 hS ?_;go_frame;refine tA1 7 18 hS ?_;go_frame;refine tA1 8 19 hS ?_;go_frame;refine t1 10 fun K hK=>?_
    simp only [gA,jB,gC];refine wA1 25 Tryz.zeroUz ?_;intro V a5 hV;have WV:=mGe hV HB.out.size;have NXV:=mNe hV HX;have NYV:=mNe hV HY;have NZV:=mNe hV HZ;have NPV:=mNe hV HP;have NQV:=mNe hV HQ;have HV:=hh hV.out.cells;have hbV:=hV.out.below;clear hV;replace HB:=bT HB hbV;replace HX:=bA hbV HX;replace HY:=bA hbV HY;replace HZ:=bA hbV HZ;replace HP:=bA hbV HP;replace HQ:=bA hbV HQ;clear hbV;replace hS:=And.intro HX.out (And.intro HY.out HZ.out);refine hK _ _ (fun _ _=>hS) ?_;clear hK;refine t1 11 fun K hK=>?_
    simp only [gA,jB,gC];refine wR1 25 #[.int .u64 qa,.int .u64 qb,.int .u64 qc,.int .u64 qd] HQ Tryz.sizeU ?_;intro a6 hxQ kQ zQ;clear zQ;replace HB:=bS HB kQ WQ;replace HX:=ka1 kQ HX NXQ;replace HY:=ka1 kQ HY NYQ;replace HZ:=ka1 kQ HZ NZQ;replace HP:=ka1 kQ HP NPQ;replace HV:=kb1 kQ HV NQV;replace HQ:=hh hxQ;clear hxQ kQ;replace hS:=And.intro HX.out (And.intro HY.out HZ.out);refine hK _ _ (fun _ _=>hS) ?_;clear hK;refine t1 12 fun K hK=>?_
    simp only [gA,jB,gC];refine wR1 25 #[.int .u64 ra,.int .u64 rb,.int .u64 rc,.int .u64 rd] HV Tryz.sizeU ?_;intro a7 hxV kV zV;clear zV;replace HB:=bS HB kV WV;replace HX:=ka1 kV HX NXV;replace HY:=ka1 kV HY NYV;replace HZ:=ka1 kV HZ NZV;replace HP:=ka1 kV HP NPV;replace HQ:=ka1 kV HQ NQV;clear hxV kV;replace hS:=And.intro HX.out (And.intro HY.out HZ.out);refine hK _ _ (fun _ _=>hS) ?_;clear hK;refine tA1 13 10 hS ?_;go_frame;refine tD ?_;clear hS
    go_wp2_with (first
     | (refine lR HQ Tryz.underlying25 Tryz.sizeU ?_)
     | (refine sR 25 #[.int .u64 qa,.int .u64 qb,.int .u64 qc,.int .u64 qd] HP Tryz.sizeU ?_))
    intro a8 hxP kP zP;clear zP;replace HB:=bS HB kP WP;replace HP:=hh hxP;clear hxP kP;go_wp2_with fail
    exact bR rfl rfl HP Tryz.underlying25 Tryz.sizeU ⟨_,_,_,_,HQU.out,rfl,HB.out⟩
   ·simp only [gA,jB,gC];rw [if_pos (by rfl)];refine wA1 25 Tryz.zeroUz ?_;intro V a4 hV;have WV:=mGe hV HB.out.size;have NXV:=mNe hV HX;have NYV:=mNe hV HY;have NZV:=mNe hV HZ;have NPV:=mNe hV HP;have NQV:=mNe hV HQ;have HV:=hh hV.out.cells;have hbV:=hV.out.below;clear hV;replace HB:=bT HB hbV;replace HX:=bA hbV HX;replace HY:=bA hbV HY;replace HZ:=bA hbV HZ;replace HP:=bA hbV HP;replace HQ:=bA hbV HQ;clear hbV;replace hS:=And.intro HX.out (And.intro HY.out HZ.out);refine hK _ _ (fun _ _=>hS) ?_;clear hK;refine t1 4 fun K hK=>?_
    simp only [gA,jB,gC];go_simp;refine (b0n HHH.out HLL.out HUD.out HD.out _).mono ?_;rw [HQV.out];rintro e a5 ⟨qa,qb,qc,qd,ra,rb,rc,rd,hq,rfl,hb⟩;have HQU:=hh hq;clear hq;replace HB:=bT HB hb;replace HX:=bA hb HX;replace HY:=bA hb HY;replace HZ:=bA hb HZ;replace HP:=bA hb HP;replace HQ:=bA hb HQ;replace HV:=bA hb HV;clear hb;replace hS:=And.intro HX.out (And.intro HY.out HZ.out);refine hK _ _ (fun _ _=>hS) ?_;clear hK;refine tA1 5 11 hS ?_;go_frame;refine tA1 6 17 hS ?_;go_frame;refine tA1 7 18 hS ?_;go_frame;refine tA1 8 19 hS ?_;go_frame;refine t1 11 fun K hK=>?_
    simp only [gA,jB,gC];refine wR1 25 #[.int .u64 qa,.int .u64 qb,.int .u64 qc,.int .u64 qd] HQ Tryz.sizeU ?_;intro a6 hxQ kQ zQ;clear zQ;replace HB:=bS HB kQ WQ;replace HX:=ka1 kQ HX NXQ;replace HY:=ka1 kQ HY NYQ;replace HZ:=ka1 kQ HZ NZQ;replace HP:=ka1 kQ HP NPQ;replace HV:=kb1 kQ HV NQV;replace HQ:=hh hxQ;clear hxQ kQ;replace hS:=And.intro HX.out (And.intro HY.out HZ.out);refine hK _ _ (fun _ _=>hS) ?_;clear hK;refine t1 12 fun K hK=>?_
    simp only [gA,jB,gC];refine wR1 25 #[.int .u64 ra,.int .u64 rb,.int .u64 rc,.int .u64 rd] HV Tryz.sizeU ?_;intro a7 hxV kV zV;clear zV;replace HB:=bS HB kV WV;replace HX:=ka1 kV HX NXV;replace HY:=ka1 kV HY NYV;replace HZ:=ka1 kV HZ NZV;replace HP:=ka1 kV HP NPV;replace HQ:=ka1 kV HQ NQV;clear hxV kV;replace hS:=And.intro HX.out (And.intro HY.out HZ.out);refine hK _ _ (fun _ _=>hS) ?_;clear hK;refine tA1 13 10 hS ?_;go_frame;refine tD ?_;clear hS
    go_wp2_with (first
     | (refine lR HQ Tryz.underlying25 Tryz.sizeU ?_)
     | (refine sR 25 #[.int .u64 qa,.int .u64 qb,.int .u64 qc,.int .u64 qd] HP Tryz.sizeU ?_))
    intro a8 hxP kP zP;clear zP;replace HB:=bS HB kP WP;replace HP:=hh hxP;clear hxP kP;go_wp2_with fail
    exact bR rfl rfl HP Tryz.underlying25 Tryz.sizeU ⟨_,_,_,_,HQU.out,rfl,HB.out⟩
  ·simp only [gA,jB,gC];rw [if_pos (by rfl)];refine wA1 25 Tryz.zeroUz ?_;intro V a3 hV;have WV:=mGe hV HB.out.size;have NXV:=mNe hV HX;have NYV:=mNe hV HY;have NZV:=mNe hV HZ;have NPV:=mNe hV HP;have NQV:=mNe hV HQ;have HV:=hh hV.out.cells;have hbV:=hV.out.below;clear hV;replace HB:=bT HB hbV;replace HX:=bA hbV HX;replace HY:=bA hbV HY;replace HZ:=bA hbV HZ;replace HP:=bA hbV HP;replace HQ:=bA hbV HQ;clear hbV;replace hS:=And.intro HX.out (And.intro HY.out HZ.out);refine hK _ _ (fun _ _=>hS) ?_;clear hK;refine t1 2 fun K hK=>?_
   simp only [gA,jB,gC];go_simp;refine (e0p HU.out HVV.out _).mono ?_;rintro e a4 ⟨h0,h1,h2,h3,l0,l1,l2,l3,hhq,hl,rfl,hb⟩;have HHH:=hh hhq;have HLL:=hh hl;clear hhq hl;replace HB:=bT HB hb;replace HX:=bA hb HX;replace HY:=bA hb HY;replace HZ:=bA hb HZ;replace HP:=bA hb HP;replace HQ:=bA hb HQ;replace HV:=bA hb HV;clear hb;replace hS:=And.intro HX.out (And.intro HY.out HZ.out);refine hK _ _ (fun _ _=>hS) ?_;clear hK;refine t1 4 fun K hK=>?_
   simp only [gA,jB,gC];go_simp;refine (b0n HHH.out HLL.out HUD.out HD.out _).mono ?_;rw [HQV.out];rintro e a5 ⟨qa,qb,qc,qd,ra,rb,rc,rd,hq,rfl,hb⟩;have HQU:=hh hq;clear hq;replace HB:=bT HB hb;replace HX:=bA hb HX;replace HY:=bA hb HY;replace HZ:=bA hb HZ;replace HP:=bA hb HP;replace HQ:=bA hb HQ;replace HV:=bA hb HV;clear hb;replace hS:=And.intro HX.out (And.intro HY.out HZ.out);refine hK _ _ (fun _ _=>hS) ?_;clear hK;refine tA1 5 11 hS ?_;go_frame;refine tA1 6 17 hS ?_;go_frame;refine tA1 7 18 hS ?_;go_frame;refine tA1 8 19 hS ?_;go_frame;refine t1 11 fun K hK=>?_
   simp only [gA,jB,gC];refine wR1 25 #[.int .u64 qa,.int .u64 qb,.int .u64 qc,.int .u64 qd] HQ Tryz.sizeU ?_;intro a6 hxQ kQ zQ;clear zQ;replace HB:=bS HB kQ WQ;replace HX:=ka1 kQ HX NXQ;replace HY:=ka1 kQ HY NYQ;replace HZ:=ka1 kQ HZ NZQ;replace HP:=ka1 kQ HP NPQ;replace HV:=kb1 kQ HV NQV;replace HQ:=hh hxQ;clear hxQ kQ;replace hS:=And.intro HX.out (And.intro HY.out HZ.out);refine hK _ _ (fun _ _=>hS) ?_;clear hK;refine t1 12 fun K hK=>?_
   simp only [gA,jB,gC];refine wR1 25 #[.int .u64 ra,.int .u64 rb,.int .u64 rc,.int .u64 rd] HV Tryz.sizeU ?_;intro a7 hxV kV zV;clear zV;replace HB:=bS HB kV WV;replace HX:=ka1 kV HX NXV;replace HY:=ka1 kV HY NYV;replace HZ:=ka1 kV HZ NZV;replace HP:=ka1 kV HP NPV;replace HQ:=ka1 kV HQ NQV;clear hxV kV;replace hS:=And.intro HX.out (And.intro HY.out HZ.out);refine hK _ _ (fun _ _=>hS) ?_;clear hK;refine tA1 13 10 hS ?_;go_frame;refine tD ?_;clear hS
   go_wp2_with (first
    | (refine lR HQ Tryz.underlying25 Tryz.sizeU ?_)
    | (refine sR 25 #[.int .u64 qa,.int .u64 qb,.int .u64 qc,.int .u64 qd] HP Tryz.sizeU ?_))
   intro a8 hxP kP zP;clear zP;replace HB:=bS HB kP WP;replace HP:=hh hxP;clear hxP kP;go_wp2_with fail
   exact bR rfl rfl HP Tryz.underlying25 Tryz.sizeU ⟨_,_,_,_,HQU.out,rfl,HB.out⟩
 ·simp only [gA,jB,gC];rw [if_pos (by rfl)];refine wA1 25 Tryz.zeroUz ?_;intro V a2 hV;have WV:=mGe hV HB.out.size;have NXV:=mNe hV HX;have NYV:=mNe hV HY;have NZV:=mNe hV HZ;have NPV:=mNe hV HP;have HV:=hh hV.out.cells;have hbV:=hV.out.below;clear hV;replace HB:=bT HB hbV;replace HX:=bA hbV HX;replace HY:=bA hbV HY;replace HZ:=bA hbV HZ;replace HP:=bA hbV HP;clear hbV;replace hS:=And.intro HX.out (And.intro HY.out HZ.out);refine hK _ _ (fun _ _=>hS) ?_;clear hK;refine a0k 2 9 rfl rfl (by kernel_rfl) (fun K hK=>?_) (fun K hK=>?_)
  ·simp only [gA,jB,gC];rw [if_pos (by rfl)];go_simp;refine (e0p HU.out HVV.out _).mono ?_;rintro e a3 ⟨h0,h1,h2,h3,l0,l1,l2,l3,hhq,hl,rfl,hb⟩;have HHH:=hh hhq;have HLL:=hh hl;clear hhq hl;replace HB:=bT HB hb;replace HX:=bA hb HX;replace HY:=bA hb HY;replace HZ:=bA hb HZ;replace HP:=bA hb HP;replace HV:=bA hb HV;clear hb;replace hS:=And.intro HX.out (And.intro HY.out HZ.out);refine hK _ _ (fun _ _=>hS) ?_;clear hK;refine a0k 4 9 rfl rfl (by kernel_rfl) (fun K hK=>?_) (fun K hK=>?_)
   ·simp only [gA,jB,gC];rw [if_pos (by rfl)];go_simp;refine (b0n HHH.out HLL.out HUD.out HD.out _).mono ?_;rw [HQV.out];rintro e a4 ⟨qa,qb,qc,qd,ra,rb,rc,rd,hq,rfl,hb⟩;have HQU:=hh hq;clear hq;replace HB:=bT HB hb;replace HX:=bA hb HX;replace HY:=bA hb HY;replace HZ:=bA hb HZ;replace HP:=bA hb HP;replace HV:=bA hb HV;clear hb;replace hS:=And.intro HX.out (And.intro HY.out HZ.out);refine hK _ _ (fun _ _=>hS) ?_;clear hK;refine tA1 5 11 hS ?_;go_frame;refine tA1 6 17 hS ?_;go_frame;refine tA1 7 18 hS ?_;go_frame;refine tA1 8 19 hS ?_;go_frame;refine t1 9 fun K hK=>?_
    simp only [gA,jB,gC];refine wA1 25 Tryz.zeroUz ?_;intro Q a5 hQ;have WQ:=mGe hQ HB.out.size;have NXQ:=mNe hQ HX;have NYQ:=mNe hQ HY;have NZQ:=mNe hQ HZ;have NPQ:=mNe hQ HP;have NVQ:=mNe hQ HV;have HQ:=hh hQ.out.cells;have hbQ:=hQ.out.below;clear hQ;replace HB:=bT HB hbQ;replace HX:=bA hbQ HX;replace HY:=bA hbQ HY;replace HZ:=bA hbQ HZ;replace HP:=bA hbQ HP;replace HV:=bA hbQ HV;clear hbQ;replace hS:=And.intro HX.out (And.intro HY.out HZ.out);refine hK _ _ (fun _ _=>hS) ?_;clear hK;refine t1 11 fun K hK=>?_
    simp only [gA,jB,gC];refine wR1 25 #[.int .u64 qa,.int .u64 qb,.int .u64 qc,.int .u64 qd] HQ Tryz.sizeU ?_;intro a6 hxQ kQ zQ;clear zQ;replace HB:=bS HB kQ WQ;replace HX:=ka1 kQ HX NXQ;replace HY:=ka1 kQ HY NYQ;replace HZ:=ka1 kQ HZ NZQ;replace HP:=ka1 kQ HP NPQ;replace HV:=ka1 kQ HV NVQ;replace HQ:=hh hxQ;clear hxQ kQ;replace hS:=And.intro HX.out (And.intro HY.out HZ.out);refine hK _ _ (fun _ _=>hS) ?_;clear hK;refine t1 12 fun K hK=>?_
    simp only [gA,jB,gC];refine wR1 25 #[.int .u64 ra,.int .u64 rb,.int .u64 rc,.int .u64 rd] HV Tryz.sizeU ?_;intro a7 hxV kV zV;clear zV;replace HB:=bS HB kV WV;replace HX:=ka1 kV HX NXV;replace HY:=ka1 kV HY NYV;replace HZ:=ka1 kV HZ NZV;replace HP:=ka1 kV HP NPV;replace HQ:=kb1 kV HQ NVQ;clear hxV kV;replace hS:=And.intro HX.out (And.intro HY.out HZ.out);refine hK _ _ (fun _ _=>hS) ?_;clear hK;refine tA1 13 10 hS ?_;go_frame;refine tD ?_;clear hS
    go_wp2_with (first
     | (refine lR HQ Tryz.underlying25 Tryz.sizeU ?_)
     | (refine sR 25 #[.int .u64 qa,.int .u64 qb,.int .u64 qc,.int .u64 qd] HP Tryz.sizeU ?_))
    intro a8 hxP kP zP;clear zP;replace HB:=bS HB kP WP;replace HP:=hh hxP;clear hxP kP;go_wp2_with fail
    exact bR rfl rfl HP Tryz.underlying25 Tryz.sizeU ⟨_,_,_,_,HQU.out,rfl,HB.out⟩
   ·simp only [gA,jB,gC];rw [if_pos (by rfl)];refine wA1 25 Tryz.zeroUz ?_;intro Q a4 hQ;have WQ:=mGe hQ HB.out.size;have NXQ:=mNe hQ HX;have NYQ:=mNe hQ HY;have NZQ:=mNe hQ HZ;have NPQ:=mNe hQ HP;have NVQ:=mNe hQ HV;have HQ:=hh hQ.out.cells;have hbQ:=hQ.out.below;clear hQ;replace HB:=bT HB hbQ;replace HX:=bA hbQ HX;replace HY:=bA hbQ HY;replace HZ:=bA hbQ HZ;replace HP:=bA hbQ HP;replace HV:=bA hbQ HV;clear hbQ;replace hS:=And.intro HX.out (And.intro HY.out HZ.out);refine hK _ _ (fun _ _=>hS) ?_;clear hK;refine t1 4 fun K hK=>?_
    simp only [gA,jB,gC];go_simp;refine (b0n HHH.out HLL.out HUD.out HD.out _).mono ?_;rw [HQV.out];rintro e a5 ⟨qa,qb,qc,qd,ra,rb,rc,rd,hq,rfl,hb⟩;have HQU:=hh hq;clear hq;replace HB:=bT HB hb;replace HX:=bA hb HX;replace HY:=bA hb HY;replace HZ:=bA hb HZ;replace HP:=bA hb HP;replace HV:=bA hb HV;replace HQ:=bA hb HQ;clear hb;replace hS:=And.intro HX.out (And.intro HY.out HZ.out);refine hK _ _ (fun _ _=>hS) ?_;clear hK;refine tA1 5 11 hS ?_;go_frame;refine tA1 6 17 hS ?_;go_frame;refine tA1 7 18 hS ?_;go_frame;refine tA1 8 19 hS ?_;go_frame;refine t1 11 fun K hK=>?_
    simp only [gA,jB,gC];refine wR1 25 #[.int .u64 qa,.int .u64 qb,.int .u64 qc,.int .u64 qd] HQ Tryz.sizeU ?_;intro a6 hxQ kQ zQ;clear zQ;replace HB:=bS HB kQ WQ;replace HX:=ka1 kQ HX NXQ;replace HY:=ka1 kQ HY NYQ;replace HZ:=ka1 kQ HZ NZQ;replace HP:=ka1 kQ HP NPQ;replace HV:=ka1 kQ HV NVQ;replace HQ:=hh hxQ;clear hxQ kQ;replace hS:=And.intro HX.out (And.intro HY.out HZ.out);refine hK _ _ (fun _ _=>hS) ?_;clear hK;refine t1 12 fun K hK=>?_
    simp only [gA,jB,gC];refine wR1 25 #[.int .u64 ra,.int .u64 rb,.int .u64 rc,.int .u64 rd] HV Tryz.sizeU ?_;intro a7 hxV kV zV;clear zV;replace HB:=bS HB kV WV;replace HX:=ka1 kV HX NXV;replace HY:=ka1 kV HY NYV;replace HZ:=ka1 kV HZ NZV;replace HP:=ka1 kV HP NPV;replace HQ:=kb1 kV HQ NVQ;clear hxV kV;replace hS:=And.intro HX.out (And.intro HY.out HZ.out);refine hK _ _ (fun _ _=>hS) ?_;clear hK;refine tA1 13 10 hS ?_;go_frame;refine tD ?_;clear hS
    go_wp2_with (first
     | (refine lR HQ Tryz.underlying25 Tryz.sizeU ?_)
     | (refine sR 25 #[.int .u64 qa,.int .u64 qb,.int .u64 qc,.int .u64 qd] HP Tryz.sizeU ?_))
    intro a8 hxP kP zP;clear zP;replace HB:=bS HB kP WP;replace HP:=hh hxP;clear hxP kP;go_wp2_with fail
    exact bR rfl rfl HP Tryz.underlying25 Tryz.sizeU ⟨_,_,_,_,HQU.out,rfl,HB.out⟩
  ·simp only [gA,jB,gC];rw [if_pos (by rfl)];refine wA1 25 Tryz.zeroUz ?_;intro Q a3 hQ;have WQ:=mGe hQ HB.out.size;have NXQ:=mNe hQ HX;have NYQ:=mNe hQ HY;have NZQ:=mNe hQ HZ;have NPQ:=mNe hQ HP;have NVQ:=mNe hQ HV;have HQ:=hh hQ.out.cells;have hbQ:=hQ.out.below;clear hQ;replace HB:=bT HB hbQ;replace HX:=bA hbQ HX;replace HY:=bA hbQ HY;replace HZ:=bA hbQ HZ;replace HP:=bA hbQ HP;replace HV:=bA hbQ HV;clear hbQ;replace hS:=And.intro HX.out (And.intro HY.out HZ.out);refine hK _ _ (fun _ _=>hS) ?_;clear hK;refine t1 2 fun K hK=>?_
   simp only [gA,jB,gC];go_simp;refine (e0p HU.out HVV.out _).mono ?_;rintro e a4 ⟨h0,h1,h2,h3,l0,l1,l2,l3,hhq,hl,rfl,hb⟩;have HHH:=hh hhq;have HLL:=hh hl;clear hhq hl;replace HB:=bT HB hb;replace HX:=bA hb HX;replace HY:=bA hb HY;replace HZ:=bA hb HZ;replace HP:=bA hb HP;replace HV:=bA hb HV;replace HQ:=bA hb HQ;clear hb;replace hS:=And.intro HX.out (And.intro HY.out HZ.out);refine hK _ _ (fun _ _=>hS) ?_;clear hK;refine t1 4 fun K hK=>?_
   simp only [gA,jB,gC];go_simp;refine (b0n HHH.out HLL.out HUD.out HD.out _).mono ?_;rw [HQV.out];rintro e a5 ⟨qa,qb,qc,qd,ra,rb,rc,rd,hq,rfl,hb⟩;have HQU:=hh hq;clear hq;replace HB:=bT HB hb;replace HX:=bA hb HX;replace HY:=bA hb HY;replace HZ:=bA hb HZ;replace HP:=bA hb HP;replace HV:=bA hb HV;replace HQ:=bA hb HQ;clear hb;replace hS:=And.intro HX.out (And.intro HY.out HZ.out);refine hK _ _ (fun _ _=>hS) ?_;clear hK;refine tA1 5 11 hS ?_;go_frame;refine tA1 6 17 hS ?_;go_frame;refine tA1 7 18 hS ?_;go_frame;refine tA1 8 19 hS ?_;go_frame;refine t1 11 fun K hK=>?_
   simp only [gA,jB,gC];refine wR1 25 #[.int .u64 qa,.int .u64 qb,.int .u64 qc,.int .u64 qd] HQ Tryz.sizeU ?_;intro a6 hxQ kQ zQ;clear zQ;replace HB:=bS HB kQ WQ;replace HX:=ka1 kQ HX NXQ;replace HY:=ka1 kQ HY NYQ;replace HZ:=ka1 kQ HZ NZQ;replace HP:=ka1 kQ HP NPQ;replace HV:=ka1 kQ HV NVQ;replace HQ:=hh hxQ;clear hxQ kQ;replace hS:=And.intro HX.out (And.intro HY.out HZ.out);refine hK _ _ (fun _ _=>hS) ?_;clear hK;refine t1 12 fun K hK=>?_
   simp only [gA,jB,gC];refine wR1 25 #[.int .u64 ra,.int .u64 rb,.int .u64 rc,.int .u64 rd] HV Tryz.sizeU ?_;intro a7 hxV kV zV;clear zV;replace HB:=bS HB kV WV;replace HX:=ka1 kV HX NXV;replace HY:=ka1 kV HY NYV;replace HZ:=ka1 kV HZ NZV;replace HP:=ka1 kV HP NPV;replace HQ:=kb1 kV HQ NVQ;clear hxV kV;replace hS:=And.intro HX.out (And.intro HY.out HZ.out);refine hK _ _ (fun _ _=>hS) ?_;clear hK;refine tA1 13 10 hS ?_;go_frame;refine tD ?_;clear hS
   go_wp2_with (first
    | (refine lR HQ Tryz.underlying25 Tryz.sizeU ?_)
    | (refine sR 25 #[.int .u64 qa,.int .u64 qb,.int .u64 qc,.int .u64 qd] HP Tryz.sizeU ?_))
   intro a8 hxP kP zP;clear zP;replace HB:=bS HB kP WP;replace HP:=hh hxP;clear hxP kP;go_wp2_with fail
   exact bR rfl rfl HP Tryz.underlying25 Tryz.sizeU ⟨_,_,_,_,HQU.out,rfl,HB.out⟩
end Go.Proofs.YtabminbgoclnkaaGreat
