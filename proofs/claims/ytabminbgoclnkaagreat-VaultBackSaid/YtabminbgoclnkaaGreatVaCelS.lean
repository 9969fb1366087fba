/- The reference's cells: amounts (code). No condition. -/
import Derived.Test.YtabminbgoclnkaaGreatVaCelR
import Derived.Test.YtabminbgoclnkaaGreatVaCelD
import Derived.Deep.Cut
namespace Go.Proofs.YtabminbgoclnkaaGreat
set_option maxHeartbeats 16000000
set_option maxRecDepth 100000
open Go.RowKit

theorem a0i {w0 w w':World} {F0:List Nat} {g:Nat} {s:PS} {X:Nat} {cs:Array Value} {T:TypeId} (L:RLiv w0 F0 w g s) (hX:w.heap[X]? = some (.cells cs T (0,0))) (hT:rstKind (.cells cs T (0,0))=false) (hk:Keep (· = X) w w') (hw:w0.heap.size≤X):RLiv w0 F0 w' g s:=by
 obtain ⟨F,h1,h2,h3⟩:=L;refine ⟨F,h1.keep hk fun x hx hu=>?_,h2.trans (hk.mono fun y _ hy=>.inr (hy▸hw)),h3⟩;obtain ⟨o,ho,k1⟩:=h1.kind x hx;subst hu;rw [hX] at ho
 cases ho
 rw [hT] at k1;cases k1
theorem RLiv.get {w0 w:World} {F0:List Nat} {g:Nat} {s:PS} (L:RLiv w0 F0 w g s):∃ F,RS w g s F:=by obtain ⟨F,h1,_,_⟩:=L;exact ⟨F,h1⟩

theorem a0M {w:World} {g:Nat} {s:PS} {F:List Nat} (h:RS w g s F) (hz:s.sz < 1099511627776) (hfit:Fit s) (k:Txt) :
  Calls Tryz.prog 62 #[.pointer (some ⟨g,0,none⟩),.string (bs k)] w (URet w (amtV (getP s.t) k)):=by
 have H:=hh h;have hfv:=hfit.f k;have HZ:Hid (s.t.length < 4611686018427387904):=hh (by unfold PS.sz at hz;omega);obtain ⟨v,hv⟩:=nm (valF (getP s.t) k);rw [← hv] at hfv;have HV:=hh hv;have HFV:=hh hfv;have HA:Hid (amtV (getP s.t) k=amtF v):=hh (by rw [hv];rfl);clear h hz hfit hv hfv
 go_enter Tryz.func62,Tryz.ntmps62
 go_wp2_with (refine sA _ Tryz.zeroUz ?_)
 intro R w1 h1;have HR1:=hh h1.out.cells;have HB1:=hh h1.out.below;have HRW:Hid (w.heap.size≤R):=hh (Nat.le_of_eq h1.out.eq.symm);clear h1;go_wp2_with fail;refine (c0M (H.out.later HB1.out) HZ.out k).mono ?_;rintro e w2 ⟨rfl,rfl⟩;rw [show (getP s.t k).getD []=v from HV.out.symm];go_wp2_with fail;refine (j0b v _ (by have:=HFV.out;omega)).mono ?_;rintro e w3 ⟨a,b,c,d,hu,rfl,hb⟩;have HU:=hh hu;have HR3:=bA hb HR1;have HB3:=bT HB1 hb;clear hu hb HR1 HB1
 go_wp2_with (refine sA _ Tryz.zeroUz ?_)
 intro X w4 h4;have HX4:=hh h4.out.cells;have HR4:=hh (a0d h4.out.below HR3.out);have HB4:=hh (HB3.out.trans (h4.out.below.mono HB3.out.size));have HXR:Hid (w.heap.size≤X∧R≠X):=hh (by have:=h4.out.eq;have:=a0e HR3.out;have:=HB3.out.size;exact ⟨by omega,by omega⟩);clear h4 HR3 HB3
 go_wp2_with (refine sR 25 #[.int .u64 a,.int .u64 b,.int .u64 c,.int .u64 d] HX4 Tryz.sizeU ?_)
 intro w5 hx5 k5 _;have HX5:=hh hx5;have HR5:=hh (k5.at HR4.out (fun e=>HXR.out.2 e));have HB5:=hh (HB4.out.trans (k5.below (B:=w.heap.size) (fun y hy e=>by have:=HXR.out;omega) HB4.out.size));clear hx5 k5 HX4 HR4 HB4
 go_wp2_with (first
  | (refine lR HX5 Tryz.underlying25 Tryz.sizeU ?_)
  | (refine sR 25 #[.int .u64 a,.int .u64 b,.int .u64 c,.int .u64 d] HR5 Tryz.sizeU ?_))
 intro w6 hx6 k6 _;have HX6:=hh hx6;have HB6:=hh (HB5.out.trans (k6.below (B:=w.heap.size) (fun y hy e=>by have:=HRW.out;omega) HB5.out.size));clear hx6 k6;go_wp2_with fail
 exact bodyPost_ret (results_cell_row rfl _ _ _ _ _ _ _ rfl HX6.out Tryz.underlying25 rfl Tryz.sizeU) rfl ⟨a,b,c,d,by rw [HA.out];exact HU.out,rfl,HB6.out⟩

theorem b0s {w:World} {g:Nat} {s:PS} {F:List Nat} (h:RS w g s F) (hz:s.sz < 1099511627776) (k:Txt) {a b c d:Int} {n:Nat} (hu:UIs a b c d n) :
  Calls Tryz.prog 129 #[.pointer (some ⟨g,0,none⟩),.string (bs k),.agg #[.int .u64 a,.int .u64 b,.int .u64 c,.int .u64 d]] w (RRet w g F (s.setAmt k n) (.tuple #[])):=by
 have L:=hh (RLiv.start h);have HU:=hh hu;have HZ:Hid (s.t.length < 1099511627776∧s.past.length < 1099511627776):=hh (by unfold PS.sz at hz;omega);have q:=Tryz.eqUn hu UIs.zero;clear h hz hu
 by_cases h0:n=0
 ·have HP:Hid (s.setAmt k n=s.del k):=hh (by unfold PS.setAmt;rw [if_pos h0]);rw [decide_eq_true h0] at q;clear h0
  go_enter Tryz.func129,Tryz.ntmps129
  go_wp2_with (refine wpList_load_row rfl 25 _ rfl w.heap.size rfl 25 _ _ _ (heap_alloc_new w _) Tryz.underlying25 rfl Tryz.sizeU ?_)
  have L1:=hh (L.out.later (a0c w (.cells #[.int .u64 a,.int .u64 b,.int .u64 c,.int .u64 d] 25)));refine (L1.out.call fun F h=>g0g h HZ.out.1 HZ.out.2 k).mono ?_;rintro e w1 ⟨rfl,L2,_⟩;have L2:=hh L2;clear L L1 q;go_wp2_with fail
  go_end0
  rw [HP.out];exact L2.out.ret
 ·have HP:Hid (s.setAmt k n=s.set k (amtB n)):=hh (by unfold PS.setAmt;rw [if_neg h0]);rw [decide_eq_false h0] at q;clear h0
  go_enter Tryz.func129,Tryz.ntmps129
  go_wp2_with (refine wpList_load_row rfl 25 _ rfl w.heap.size rfl 25 _ _ _ (heap_alloc_new w _) Tryz.underlying25 rfl Tryz.sizeU ?_)
  have L1:=hh (L.out.later (a0c w (.cells #[.int .u64 a,.int .u64 b,.int .u64 c,.int .u64 d] 25)));refine (l0C HU.out _).mono ?_;rintro e w1 ⟨rfl,hb⟩;have L2:=hh (L1.out.later hb);clear hb L1 L q;go_wp2_with fail;refine (L2.out.call fun F h=>f0S h HZ.out.1 HZ.out.2 k (amtB n)).mono ?_;rintro e w2 ⟨rfl,L3,_⟩;have L3:=hh L3;clear L2;go_wp2_with fail
  go_end0
  rw [HP.out];exact L3.out.ret

theorem d0w {w:World} {g:Nat} {s:PS} {F:List Nat} (h:RS w g s F) (hz:s.sz < 1000000000000) (hf:Fit s) (k:Txt) {a b c d:Int} {m:Nat} (hu:UIs a b c d m) :
  Calls Tryz.prog 83 #[.pointer (some ⟨g,0,none⟩),.string (bs k),.agg #[.int .u64 a,.int .u64 b,.int .u64 c,.int .u64 d]] w (RRet w g F (s.addA k m) (.int .i64 (addE (getP s.t) k m))):=by
 have L:=hh (RLiv.start h);have HU:=hh hu;have HF:=hh hf;have HZ:=hh hz;obtain ⟨n,hn⟩:=nm (amtV (getP s.t) k);have HN:=hh hn;clear h hz hu hf hn
 go_enter Tryz.func83,Tryz.ntmps83
 go_upto_region 1 with fail
 obtain ⟨w1,hw1⟩:=nm (w.alloc (.cells #[.int .u64 a,.int .u64 b,.int .u64 c,.int .u64 d] 25));obtain ⟨X,hX⟩:=nm (w.heap.size);rw [← hw1,← hX];have L1:Hid (RLiv w F w1 g s):=hh (L.out.later (by rw [hw1];exact a0c _ _));have HX:Hid (w1.heap[X]? = some (.cells #[.int .u64 a,.int .u64 b,.int .u64 c,.int .u64 d] 25 (0,0))):=hh (by rw [hw1,hX];exact heap_alloc_new _ _);clear hw1 hX L;have L:=L1;clear L1
 go_cut [7,8] from 9 (fun s7 s8 wx=>∃ (P:Nat) (ya:Int) (yb:Int) (yc:Int) (yd:Int) (q:Bool),s7 = .pointer (some ⟨P,0,none⟩)∧s8 = .bool q∧Hid (RLiv w F wx g s)∧Hid (wx.heap[X]? = some (.cells #[.int .u64 a,.int .u64 b,.int .u64 c,.int .u64 d] 25 (0,0)))∧Hid (wx.heap[P]? = some (.cells #[.int .u64 ya,.int .u64 yb,.int .u64 yc,.int .u64 yd] 25 (0,0)))∧Hid (q=decide (n+m < uMax))∧Hid (UIs ya yb yc yd (if q=true then n+m else 0)))
 case first=>
  obtain ⟨a1,hwz,hbz⟩:=dr w1;replace L:=hh (L.out.later hbz);replace HX:=bA hbz HX;clear hbz;refine rg1 11 11 hwz HX fun hS=>?_
  clear hwz;refine tA1 0 10 hS ?_;go_frame;refine tA1 1 11 hS ?_;go_frame;refine tl 3 (some 13) (fun _ h=>h) Tryz.underlying25 Tryz.sizeU hS ?_;go_frame;refine a0k 2 8 rfl rfl (by kernel_rfl) (fun K hK=>?_) (fun K hK=>?_)
  ·simp only [gA,jB,gC];rw [if_pos (by rfl)];go_simp;obtain ⟨Fq,hst⟩:=L.out.get;refine (a0M hst (by have:=HZ.out;omega) HF.out k).mono ?_;rw [← HN.out];rintro e a2 ⟨xa,xb,xc,xd,hu1,rfl,hb⟩;have HxU:=hh hu1;clear hu1 hst;replace L:=hh (L.out.later hb);replace HX:=bA hb HX;clear hb;replace hS:=HX.out;refine hK _ _ (fun _ _=>hS) ?_;clear hK;refine a0k 4 8 rfl rfl (by kernel_rfl) (fun K hK=>?_) (fun K hK=>?_)
   ·simp only [gA,jB,gC];rw [if_pos (by rfl)];go_simp;refine (b0B HxU.out HU.out _).mono ?_;obtain ⟨q,hq⟩:=nm (decide (n+m < uMax));rw [← hq];have HQ:=hh hq;clear hq;rintro e a3 ⟨ya,yb,yc,yd,hu1,rfl,hb⟩;have HyU:=hh hu1;clear hu1;replace L:=hh (L.out.later hb);replace HX:=bA hb HX;clear hb;replace hS:=HX.out;refine hK _ _ (fun _ _=>hS) ?_;clear hK;refine tA1 5 9 hS ?_;go_frame;refine tA1 6 15 hS ?_;go_frame;refine tA1 7 16 hS ?_;go_frame;refine t1 8 fun K hK=>?_
    simp only [gA,jB,gC];refine wA1 25 Tryz.zeroUz ?_;intro P a4 hP;have WP:=mGe hP L.out.keep.size;have NXP:=mNe hP HX;have HP:=hh hP.out.cells;have hbP:=hP.out.below;clear hP;replace L:=hh (L.out.later hbP);replace HX:=bA hbP HX;clear hbP;replace hS:=HX.out;refine hK _ _ (fun _ _=>hS) ?_;clear hK;refine t1 9 fun K hK=>?_
    simp only [gA,jB,gC];refine wR1 25 #[.int .u64 ya,.int .u64 yb,.int .u64 yc,.int .u64 yd] HP Tryz.sizeU ?_;intro a5 hxP kP zP;clear zP;replace L:=hh (a0i L.out HP.out rfl kP WP.out);replace HX:=ka1 kP HX NXP;replace HP:=hh hxP;clear hxP kP;replace hS:=HX.out;refine hK _ _ (fun _ _=>hS) ?_;clear hK;refine tA1 10 8 hS ?_;go_frame;refine tD ?_;clear hS;go_wp2_with fail
    go_meet
    case rel=>exact ⟨P,ya,yb,yc,yd,q,rfl,rfl,L,HX,HP,HQ,HyU⟩
   ·simp only [gA,jB,gC];rw [if_pos (by rfl)];refine wA1 25 Tryz.zeroUz ?_;intro P a3 hP;have WP:=mGe hP L.out.keep.size;have NXP:=mNe hP HX;have HP:=hh hP.out.cells;have hbP:=hP.out.below;clear hP;replace L:=hh (L.out.later hbP);replace HX:=bA hbP HX;clear hbP;replace hS:=HX.out;refine hK _ _ (fun _ _=>hS) ?_;clear hK;refine t1 4 fun K hK=>?_
    simp only [gA,jB,gC];go_simp;refine (b0B HxU.out HU.out _).mono ?_;obtain ⟨q,hq⟩:=nm (decide (n+m < uMax));rw [← hq];have HQ:=hh hq;clear hq;rintro e a4 ⟨ya,yb,yc,yd,hu1,rfl,hb⟩;have HyU:=hh hu1;clear hu1;replace L:=hh (L.out.later hb);replace HX:=bA hb HX;replace HP:=bA hb HP;clear hb;replace hS:=HX.out;refine hK _ _ (fun _ _=>hS) ?_;clear hK;refine tA1 5 9 hS ?_;go_frame;refine tA1 6 15 hS ?_;go_frame;refine tA1 7 16 hS ?_;go_frame;refine t1 9 fun K hK=>?_
    simp only [gA,jB,gC];refine wR1 25 #[.int .u64 ya,.int .u64 yb,.int .u64 yc,.int .u64 yd] HP Tryz.sizeU ?_;intro a5 hxP kP zP;clear zP;replace L:=hh (a0i L.out HP.out rfl kP WP.out);replace HX:=ka1 kP HX NXP;replace HP:=hh hxP;clear hxP kP;replace hS:=HX.out;refine hK _ _ (fun _ _=>hS) ?_;clear hK;refine tA1 10 8 hS ?_;go_frame;refine tD ?_;clear hS;go_wp2_with fail
    go_meet
    case rel=>exact ⟨P,ya,yb,yc,yd,q,rfl,rfl,L,HX,HP,HQ,HyU⟩
  ·simp only [gA,jB,gC];rw [if_pos (by rfl)];refine wA1 25 Tryz.zeroUz ?_;intro P a2 hP;have WP:=mGe hP L.out.keep.size;have NXP:=mNe hP HX;have HP:=hh hP.out.cells;have hbP:=hP.out.below;clear hP;replace L:=hh (L.out.later hbP);replace HX:=bA hbP HX;clear hbP;replace hS:=HX.out;refine hK _ _ (fun _ _=>hS) ?_;clear hK;refine t1 2 fun K hK=>?_
   simp only [gA,jB,gC];go_simp;obtain ⟨Fq,hst⟩:=L.out.get;refine (a0M hst (by have:=HZ.out;omega) HF.out k).mono ?_;rw [← HN.out];rintro e a3 ⟨xa,xb,xc,xd,hu1,rfl,hb⟩;have HxU:=hh hu1;clear hu1 hst;replace L:=hh (L.out.later hb);replace HX:=bA hb HX;replace HP:=bA hb HP;clear hb;replace hS:=HX.out;refine hK _ _ (fun _ _=>hS) ?_;clear hK;refine t1 4 fun K hK=>?_
   simp only [gA,jB,gC];go_simp;refine (b0B HxU.out HU.out _).mono ?_;obtain ⟨q,hq⟩:=nm (decide (n+m < uMax));rw [← hq];have HQ:=hh hq;clear hq;rintro e a4 ⟨ya,yb,yc,yd,hu1,rfl,hb⟩;have HyU:=hh hu1;clear hu1;replace L:=hh (L.out.later hb);replace HX:=bA hb HX;replace HP:=bA hb HP;clear hb;replace hS:=HX.out;refine hK _ _ (fun _ _=>hS) ?_;clear hK;refine tA1 5 9 hS ?_;go_frame;refine tA1 6 15 hS ?_;go_frame;refine tA1 7 16 hS ?_;go_frame;refine t1 9 fun K hK=>?_
   simp only [gA,jB,gC];refine wR1 25 #[.int .u64 ya,.int .u64 yb,.int .u64 yc,.int .u64 yd] HP Tryz.sizeU ?_;intro a5 hxP kP zP;clear zP;replace L:=hh (a0i L.out HP.out rfl kP WP.out);replace HX:=ka1 kP HX NXP;replace HP:=hh hxP;clear hxP kP;replace hS:=HX.out;refine hK _ _ (fun _ _=>hS) ?_;clear hK;refine tA1 10 8 hS ?_;go_frame;refine tD ?_;clear hS;go_wp2_with fail
   go_meet
   case rel=>exact ⟨P,ya,yb,yc,yd,q,rfl,rfl,L,HX,HP,HQ,HyU⟩
 case rest=>
  obtain ⟨P,ya,yb,yc,yd,q,rfl,rfl,L,HX,HP,HQ,HyU⟩:=hcut
  cases q with
  | false=>
   have hno:¬ n+m < uHalf:=by have h9:=of_decide_eq_false HQ.out.symm;unfold uMax at h9;unfold uHalf;omega
   have HEV:Hid (addE (getP s.t) k m=6):=hh (by unfold addE;rw [← HN.out,if_neg hno]);have HSV:Hid (s.addA k m=s):=hh (by unfold PS.addA;rw [← HN.out,if_neg hno]);clear hno HQ HyU;go_wp2_with fail
   go_ret
   rw [HEV.out,HSV.out];exact L.out.ret
  | true=>
   have cP0:wc.cell? ⟨P,0,none⟩=some (.int .u64 ya):=Lib.cell_of_heap HP.out 0;have cP1:wc.cell? ⟨P,1,none⟩=some (.int .u64 yb):=Lib.cell_of_heap HP.out 1;have cP2:wc.cell? ⟨P,2,none⟩=some (.int .u64 yc):=Lib.cell_of_heap HP.out 2;have cP3:wc.cell? ⟨P,3,none⟩=some (.int .u64 yd):=Lib.cell_of_heap HP.out 3;go_wp2_with fail;clear cP0 cP1 cP2 cP3;have hy9:=HyU.out
   first | rw [if_pos trivial] at hy9 | rw [if_pos rfl] at hy9
   have HY:=hh hy9;clear hy9 HyU;refine (a0P HY.out _).mono ?_;rintro e a1 ⟨rfl,hb⟩;replace L:=hh (L.out.later hb);replace HP:=bA hb HP;clear hb
   by_cases hc:n+m < uHalf
   ·rw [decide_eq_true hc];have HEV:Hid (addE (getP s.t) k m=0):=hh (by unfold addE;rw [← HN.out,if_pos hc]);have HSV:Hid (s.addA k m=s.setAmt k (n+m)):=hh (by unfold PS.addA;rw [← HN.out,if_pos hc]);clear hc
    go_wp2_with (refine lR HP Tryz.underlying25 Tryz.sizeU ?_)
    clear HX HP;refine (L.out.call fun F hs=>b0s hs (by have:=HZ.out;omega) k HY.out).mono ?_;rintro e a2 ⟨rfl,o,hoth⟩;replace L:=hh o;clear o hoth;go_wp2_with fail
    go_ret
    rw [HEV.out,HSV.out];exact L.out.ret
   ·rw [decide_eq_false hc];have HEV:Hid (addE (getP s.t) k m=6):=hh (by unfold addE;rw [← HN.out,if_neg hc]);have HSV:Hid (s.addA k m=s):=hh (by unfold PS.addA;rw [← HN.out,if_neg hc]);clear hc;go_wp2_with fail
    go_ret
    rw [HEV.out,HSV.out];exact L.out.ret

theorem j0m {w:World} {g:Nat} {s:PS} {F:List Nat} (h:RS w g s F) (hz:s.sz < 1000000000000) (hf:Fit s) (k:Txt) {a b c d:Int} {m:Nat} (hu:UIs a b c d m) :
  Calls Tryz.prog 135 #[.pointer (some ⟨g,0,none⟩),.string (bs k),.agg #[.int .u64 a,.int .u64 b,.int .u64 c,.int .u64 d]] w (RRet w g F (s.subA k m) (.int .i64 (subE (getP s.t) k m))):=by
 have L:=hh (RLiv.start h);have HU:=hh hu;have HF:=hh hf;have HZ:=hh hz;obtain ⟨n,hn⟩:=nm (amtV (getP s.t) k);have HN:=hh hn;clear h hz hu hf hn
 go_enter Tryz.func135,Tryz.ntmps135
 go_upto_region 1 with fail
 obtain ⟨w1,hw1⟩:=nm (w.alloc (.cells #[.int .u64 a,.int .u64 b,.int .u64 c,.int .u64 d] 25));obtain ⟨X,hX⟩:=nm (w.heap.size);rw [← hw1,← hX];have L1:Hid (RLiv w F w1 g s):=hh (L.out.later (by rw [hw1];exact a0c _ _));have HX:Hid (w1.heap[X]? = some (.cells #[.int .u64 a,.int .u64 b,.int .u64 c,.int .u64 d] 25 (0,0))):=hh (by rw [hw1,hX];exact heap_alloc_new _ _);clear hw1 hX L;have L:=L1;clear L1
 go_cut [7,8] from 9 (fun s7 s8 wx=>∃ (P:Nat) (ya:Int) (yb:Int) (yc:Int) (yd:Int) (q:Bool),s7 = .pointer (some ⟨P,0,none⟩)∧s8 = .bool q∧Hid (RLiv w F wx g s)∧Hid (wx.heap[X]? = some (.cells #[.int .u64 a,.int .u64 b,.int .u64 c,.int .u64 d] 25 (0,0)))∧Hid (wx.heap[P]? = some (.cells #[.int .u64 ya,.int .u64 yb,.int .u64 yc,.int .u64 yd] 25 (0,0)))∧Hid (q=decide (m≤n))∧Hid (UIs ya yb yc yd (if q=true then n - m else 0)))
 case first=>
  obtain ⟨a1,hwz,hbz⟩:=dr w1;replace L:=hh (L.out.later hbz);replace HX:=bA hbz HX;clear hbz;refine rg1 11 11 hwz HX fun hS=>?_
  clear hwz;refine tA1 0 10 hS ?_;go_frame;refine tA1 1 11 hS ?_;go_frame;refine tl 3 (some 13) (fun _ h=>h) Tryz.underlying25 Tryz.sizeU hS ?_;go_frame;refine a0k 2 8 rfl rfl (by kernel_rfl) (fun K hK=>?_) (fun K hK=>?_)
  ·simp only [gA,jB,gC];rw [if_pos (by rfl)];go_simp;obtain ⟨Fq,hst⟩:=L.out.get;refine (a0M hst (by have:=HZ.out;omega) HF.out k).mono ?_;rw [← HN.out];rintro e a2 ⟨xa,xb,xc,xd,hu1,rfl,hb⟩;have HxU:=hh hu1;clear hu1 hst;replace L:=hh (L.out.later hb);replace HX:=bA hb HX;clear hb;replace hS:=HX.out;refine hK _ _ (fun _ _=>hS) ?_;clear hK;refine a0k 4 8 rfl rfl (by kernel_rfl) (fun K hK=>?_) (fun K hK=>?_)
   ·simp only [gA,jB,gC];rw [if_pos (by rfl)];go_simp;refine (c0N HxU.out HU.out _).mono ?_;obtain ⟨q,hq⟩:=nm (decide (m≤n));rw [← hq];have HQ:=hh hq;clear hq;rintro e a3 ⟨ya,yb,yc,yd,hu1,rfl,hb⟩;have HyU:=hh hu1;clear hu1;replace L:=hh (L.out.later hb);replace HX:=bA hb HX;clear hb;replace hS:=HX.out;refine hK _ _ (fun _ _=>hS) ?_;clear hK;refine tA1 5 9 hS ?_;go_frame;refine tA1 6 15 hS ?_;go_frame;refine tA1 7 16 hS ?_;go_frame;refine t1 8 fun K hK=>?_
    simp only [gA,jB,gC];refine wA1 25 Tryz.zeroUz ?_;intro P a4 hP;have WP:=mGe hP L.out.keep.size;have NXP:=mNe hP HX;have HP:=hh hP.out.cells;have hbP:=hP.out.below;clear hP;replace L:=hh (L.out.later hbP);replace HX:=bA hbP HX;clear hbP;replace hS:=HX.out;refine hK _ _ (fun _ _=>hS) ?_;clear hK;refine t1 9 fun K hK=>?_
    simp only [gA,jB,gC];refine wR1 25 #[.int .u64 ya,.int .u64 yb,.int .u64 yc,.int .u64 yd] HP Tryz.sizeU ?_;intro a5 hxP kP zP;clear zP;replace L:=hh (a0i L.out HP.out rfl kP WP.out);replace HX:=ka1 kP HX NXP;replace HP:=hh hxP;clear hxP kP;replace hS:=HX.out;refine hK _ _ (fun _ _=>hS) ?_;clear hK;refine tA1 10 8 hS ?_;go_frame;refine tD ?_;clear hS;go_wp2_with fail
    go_meet
    case rel=>exact ⟨P,ya,yb,yc,yd,q,rfl,rfl,L,HX,HP,HQ,HyU⟩
   ·simp only [gA,jB,gC];rw [if_pos (by rfl)];refine wA1 25 Tryz.zeroUz ?_;intro P a3 hP;have WP:=mGe hP L.out.keep.size;have NXP:=mNe hP HX;have HP:=hh hP.out.cells;have hbP:=hP.out.below;clear hP;replace L:=hh (L.out.later hbP);replace HX:=bA hbP HX;clear hbP;replace hS:=HX.out;refine hK _ _ (fun _ _=>hS) ?_;clear hK;refine t1 4 fun K hK=>?_
    simp only [gA,jB,gC];go_simp;refine (c0N HxU.out HU.out _).mono ?_;obtain ⟨q,hq⟩:=nm (decide (m≤n));rw [← hq];have HQ:=hh hq;clear hq;rintro e a4 ⟨ya,yb,yc,yd,hu1,rfl,hb⟩;have HyU:=hh hu1;clear hu1;replace L:=hh (L.out.later hb);replace HX:=bA hb HX;replace HP:=bA hb HP;clear hb;replace hS:=HX.out;refine hK _ _ (fun _ _=>hS) ?_;clear hK;refine tA1 5 9 hS ?_;go_frame;refine tA1 6 15 hS ?_;go_frame;refine tA1 7 16 hS ?_;go_frame;refine t1 9 fun K hK=>?_
    simp only [gA,jB,gC];refine wR1 25 #[.int .u64 ya,.int .u64 yb,.int .u64 yc,.int .u64 yd] HP Tryz.sizeU ?_;intro a5 hxP kP zP;clear zP;replace L:=hh (a0i L.out HP.out rfl kP WP.out);replace HX:=ka1 kP HX NXP;replace HP:=hh hxP;clear hxP kP;replace hS:=HX.out;refine hK _ _ (fun _ _=>hS) ?_;clear hK;refine tA1 10 8 hS ?_;go_frame;refine tD ?_;clear hS;go_wp2_with fail
    go_meet
    case rel=>exact ⟨P,ya,yb,yc,yd,q,rfl,rfl,L,HX,HP,HQ,HyU⟩
  ·simp only [gA,jB,gC];rw [if_pos (by rfl)];refine wA1 25 Tryz.zeroUz ?_;intro P a2 hP;have WP:=mGe hP L.out.keep.size;have NXP:=mNe hP HX;have HP:=hh hP.out.cells;have hbP:=hP.out.below;clear hP;replace L:=hh (L.out.later hbP);replace HX:=bA hbP HX;clear hbP;replace hS:=HX.out;refine hK _ _ (fun _ _=>hS) ?_;clear hK;refine t1 2 fun K hK=>?_
   simp only [gA,jB,gC];go_simp;obtain ⟨Fq,hst⟩:=L.out.get;refine (a0M hst (by have:=HZ.out;omega) HF.out k).mono ?_;rw [← HN.out];rintro e a3 ⟨xa,xb,xc,xd,hu1,rfl,hb⟩;have HxU:=hh hu1;clear hu1 hst;replace L:=hh (L.out.later hb);replace HX:=bA hb HX;replace HP:=bA hb HP;clear hb;replace hS:=HX.out;refine hK _ _ (fun _ _=>hS) ?_;clear hK;refine t1 4 fun K hK=>?_
   simp only [gA,jB,gC];go_simp;refine (c0N HxU.out HU.out _).mono ?_;obtain ⟨q,hq⟩:=nm (decide (m≤n));rw [← hq];have HQ:=hh hq;clear hq;rintro e a4 ⟨ya,yb,yc,yd,hu1,rfl,hb⟩;have HyU:=hh hu1;clear hu1;replace L:=hh (L.out.later hb);replace HX:=bA hb HX;replace HP:=bA hb HP;clear hb;replace hS:=HX.out;refine hK _ _ (fun _ _=>hS) ?_;clear hK;refine tA1 5 9 hS ?_;go_frame;refine tA1 6 15 hS ?_;go_frame;refine tA1 7 16 hS ?_;go_frame;refine t1 9 fun K hK=>?_
   simp only [gA,jB,gC];refine wR1 25 #[.int .u64 ya,.int .u64 yb,.int .u64 yc,.int .u64 yd] HP Tryz.sizeU ?_;intro a5 hxP kP zP;clear zP;replace L:=hh (a0i L.out HP.out rfl kP WP.out);replace HX:=ka1 kP HX NXP;replace HP:=hh hxP;clear hxP kP;replace hS:=HX.out;refine hK _ _ (fun _ _=>hS) ?_;clear hK;refine tA1 10 8 hS ?_;go_frame;refine tD ?_;clear hS;go_wp2_with fail
   go_meet
   case rel=>exact ⟨P,ya,yb,yc,yd,q,rfl,rfl,L,HX,HP,HQ,HyU⟩
 case rest=>
  obtain ⟨P,ya,yb,yc,yd,q,rfl,rfl,L,HX,HP,HQ,HyU⟩:=hcut
  cases q with
  | false=>
   have hno:¬ m≤n:=of_decide_eq_false HQ.out.symm;have HEV:Hid (subE (getP s.t) k m=13):=hh (by unfold subE;rw [← HN.out,if_neg hno]);have HSV:Hid (s.subA k m=s):=hh (by unfold PS.subA;rw [← HN.out,if_neg hno]);clear hno HQ HyU;go_wp2_with fail
   go_ret
   rw [HEV.out,HSV.out];exact L.out.ret
  | true=>
   have hc:m≤n:=of_decide_eq_true HQ.out.symm;have hy9:=HyU.out
   first | rw [if_pos trivial] at hy9 | rw [if_pos rfl] at hy9
   have HY:=hh hy9;have HEV:Hid (subE (getP s.t) k m=0):=hh (by unfold subE;rw [← HN.out,if_pos hc]);have HSV:Hid (s.subA k m=s.setAmt k (n - m)):=hh (by unfold PS.subA;rw [← HN.out,if_pos hc]);clear hc hy9 HyU
   go_wp2_with (refine lR HP Tryz.underlying25 Tryz.sizeU ?_)
   clear HX HP;refine (L.out.call fun F hs=>b0s hs (by have:=HZ.out;omega) k HY.out).mono ?_;rintro e a1 ⟨rfl,o,hoth⟩;replace L:=hh o;clear o hoth;go_wp2_with fail
   go_ret
   rw [HEV.out,HSV.out];exact L.out.ret

theorem d0q {s:PS} {k l:Txt} {m:Nat} (h:moveE (getP s.t) k l m≠0):s.moveA k l m=s:=by
 unfold PS.moveA;rw [if_neg fun e=>h e.1]
theorem c0T {w:World} {g:Nat} {s:PS} {F:List Nat} (h:RS w g s F) (hz:s.sz < 1000000000000) (hf:Fit s) (k l:Txt) {a b c d:Int} {m:Nat} (hu:UIs a b c d m) :
  Calls Tryz.prog 91 #[.pointer (some ⟨g,0,none⟩),.string (bs k),.string (bs l),.agg #[.int .u64 a,.int .u64 b,.int .u64 c,.int .u64 d]] w (RRet w g F (s.moveA k l m) (.int .i64 (moveE (getP s.t) k l m))):=by
 have L:=hh (RLiv.start h);have HU:=hh hu;have HF:=hh hf;have HZ:=hh hz;obtain ⟨n,hn⟩:=nm (amtV (getP s.t) k);have HN:=hh hn;obtain ⟨n2,hn2⟩:=nm (amtV (getP s.t) l);have HN2:=hh hn2;clear hn2;clear h hz hu hf hn
 go_enter Tryz.func91,Tryz.ntmps91
 go_upto_region 1 with fail
 obtain ⟨w1,hw1⟩:=nm (w.alloc (.cells #[.int .u64 a,.int .u64 b,.int .u64 c,.int .u64 d] 25));obtain ⟨X,hX⟩:=nm (w.heap.size);rw [← hw1,← hX];have L1:Hid (RLiv w F w1 g s):=hh (L.out.later (by rw [hw1];exact a0c _ _));have HX:Hid (w1.heap[X]? = some (.cells #[.int .u64 a,.int .u64 b,.int .u64 c,.int .u64 d] 25 (0,0))):=hh (by rw [hw1,hX];exact heap_alloc_new _ _);clear hw1 hX L;have L:=L1;clear L1
 go_cut [9,10] from 13 (fun s9 s10 wx=>∃ (P:Nat) (ya:Int) (yb:Int) (yc:Int) (yd:Int) (q1:Bool),s9 = .pointer (some ⟨P,0,none⟩)∧s10 = .bool q1∧Hid (RLiv w F wx g s)∧Hid (wx.heap[X]? = some (.cells #[.int .u64 a,.int .u64 b,.int .u64 c,.int .u64 d] 25 (0,0)))∧Hid (wx.heap[P]? = some (.cells #[.int .u64 ya,.int .u64 yb,.int .u64 yc,.int .u64 yd] 25 (0,0)))∧Hid (q1=decide (m≤n))∧Hid (UIs ya yb yc yd (if q1=true then n - m else 0)))
 case first=>
  obtain ⟨a1,hwz,hbz⟩:=dr w1;replace L:=hh (L.out.later hbz);replace HX:=bA hbz HX;clear hbz;refine rg1 11 11 hwz HX fun hS=>?_
  clear hwz;refine tA1 0 14 hS ?_;go_frame;refine tA1 1 15 hS ?_;go_frame;refine tl 3 (some 17) (fun _ h=>h) Tryz.underlying25 Tryz.sizeU hS ?_;go_frame;refine a0k 2 8 rfl rfl (by kernel_rfl) (fun K hK=>?_) (fun K hK=>?_)
  ·simp only [gA,jB,gC];rw [if_pos (by rfl)];go_simp;obtain ⟨Fq,hst⟩:=L.out.get;refine (a0M hst (by have:=HZ.out;omega) HF.out k).mono ?_;rw [← HN.out];rintro e a2 ⟨xa,xb,xc,xd,hu1,rfl,hb⟩;have HxU:=hh hu1;clear hu1 hst;replace L:=hh (L.out.later hb);replace HX:=bA hb HX;clear hb;replace hS:=HX.out;refine hK _ _ (fun _ _=>hS) ?_;clear hK;refine a0k 4 8 rfl rfl (by kernel_rfl) (fun K hK=>?_) (fun K hK=>?_)
   ·simp only [gA,jB,gC];rw [if_pos (by rfl)];go_simp;refine (c0N HxU.out HU.out _).mono ?_;obtain ⟨q1,hq1⟩:=nm (decide (m≤n));rw [← hq1];have HQ1:=hh hq1;clear hq1;rintro e a3 ⟨ya,yb,yc,yd,hu1,rfl,hb⟩;have HyU:=hh hu1;clear hu1;replace L:=hh (L.out.later hb);replace HX:=bA hb HX;clear hb;replace hS:=HX.out;refine hK _ _ (fun _ _=>hS) ?_;clear hK;refine tA1 5 13 hS ?_;go_frame;refine tA1 6 19 hS ?_;go_frame;refine tA1 7 20 hS ?_;go_frame;refine t1 8 fun K hK=>?_
    simp only [gA,jB,gC];refine wA1 25 Tryz.zeroUz ?_;intro P a4 hP;have WP:=mGe hP L.out.keep.size;have NXP:=mNe hP HX;have HP:=hh hP.out.cells;have hbP:=hP.out.below;clear hP;replace L:=hh (L.out.later hbP);replace HX:=bA hbP HX;clear hbP;replace hS:=HX.out;refine hK _ _ (fun _ _=>hS) ?_;clear hK;refine t1 9 fun K hK=>?_
    simp only [gA,jB,gC];refine wR1 25 #[.int .u64 ya,.int .u64 yb,.int .u64 yc,.int .u64 yd] HP Tryz.sizeU ?_;intro a5 hxP kP zP;clear zP;replace L:=hh (a0i L.out HP.out rfl kP WP.out);replace HX:=ka1 kP HX NXP;replace HP:=hh hxP;clear hxP kP;replace hS:=HX.out;refine hK _ _ (fun _ _=>hS) ?_;clear hK;refine tA1 10 10 hS ?_;go_frame;refine tD ?_;clear hS;go_wp2_with fail
    go_meet
    case rel=>exact ⟨P,ya,yb,yc,yd,q1,rfl,rfl,L,HX,HP,HQ1,HyU⟩
   ·simp only [gA,jB,gC];rw [if_pos (by rfl)];refine wA1 25 Tryz.zeroUz ?_;intro P a3 hP;have WP:=mGe hP L.out.keep.size;have NXP:=mNe hP HX;have HP:=hh hP.out.cells;have hbP:=hP.out.below;clear hP;replace L:=hh (L.out.later hbP);replace HX:=bA hbP HX;clear hbP;replace hS:=HX.out;refine hK _ _ (fun _ _=>hS) ?_;clear hK;refine t1 4 fun K hK=>?_
    simp only [gA,jB,gC];go_simp;refine (c0N HxU.out HU.out _).mono ?_;obtain ⟨q1,hq1⟩:=nm (decide (m≤n));rw [← hq1];have HQ1:=hh hq1;clear hq1;rintro e a4 ⟨ya,yb,yc,yd,hu1,rfl,hb⟩;have HyU:=hh hu1;clear hu1;replace L:=hh (L.out.later hb);replace HX:=bA hb HX;replace HP:=bA hb HP;clear hb;replace hS:=HX.out;refine hK _ _ (fun _ _=>hS) ?_;clear hK;refine tA1 5 13 hS ?_;go_frame;refine tA1 6 19 hS ?_;go_frame;refine tA1 7 20 hS ?_;go_frame;refine t1 9 fun K hK=>?_
    simp only [gA,jB,gC];refine wR1 25 #[.int .u64 ya,.int .u64 yb,.int .u64 yc,.int .u64 yd] HP Tryz.sizeU ?_;intro a5 hxP kP zP;clear zP;replace L:=hh (a0i L.out HP.out rfl kP WP.out);replace HX:=ka1 kP HX NXP;replace HP:=hh hxP;clear hxP kP;replace hS:=HX.out;refine hK _ _ (fun _ _=>hS) ?_;clear hK;refine tA1 10 10 hS ?_;go_frame;refine tD ?_;clear hS;go_wp2_with fail
    go_meet
    case rel=>exact ⟨P,ya,yb,yc,yd,q1,rfl,rfl,L,HX,HP,HQ1,HyU⟩
  ·simp only [gA,jB,gC];rw [if_pos (by rfl)];refine wA1 25 Tryz.zeroUz ?_;intro P a2 hP;have WP:=mGe hP L.out.keep.size;have NXP:=mNe hP HX;have HP:=hh hP.out.cells;have hbP:=hP.out.below;clear hP;replace L:=hh (L.out.later hbP);replace HX:=bA hbP HX;clear hbP;replace hS:=HX.out;refine hK _ _ (fun _ _=>hS) ?_;clear hK;refine t1 2 fun K hK=>?_
   simp only [gA,jB,gC];go_simp;obtain ⟨Fq,hst⟩:=L.out.get;refine (a0M hst (by have:=HZ.out;omega) HF.out k).mono ?_;rw [← HN.out];rintro e a3 ⟨xa,xb,xc,xd,hu1,rfl,hb⟩;have HxU:=hh hu1;clear hu1 hst;replace L:=hh (L.out.later hb);replace HX:=bA hb HX;replace HP:=bA hb HP;clear hb;replace hS:=HX.out;refine hK _ _ (fun _ _=>hS) ?_;clear hK;refine t1 4 fun K hK=>?_
   simp only [gA,jB,gC];go_simp;refine (c0N HxU.out HU.out _).mono ?_;obtain ⟨q1,hq1⟩:=nm (decide (m≤n));rw [← hq1];have HQ1:=hh hq1;clear hq1;rintro e a4 ⟨ya,yb,yc,yd,hu1,rfl,hb⟩;have HyU:=hh hu1;clear hu1;replace L:=hh (L.out.later hb);replace HX:=bA hb HX;replace HP:=bA hb HP;clear hb;replace hS:=HX.out;refine hK _ _ (fun _ _=>hS) ?_;clear hK;refine tA1 5 13 hS ?_;go_frame;refine tA1 6 19 hS ?_;go_frame;refine tA1 7 20 hS ?_;go_frame;refine t1 9 fun K hK=>?_
   simp only [gA,jB,gC];refine wR1 25 #[.int .u64 ya,.int .u64 yb,.int .u64 yc,.int .u64 yd] HP Tryz.sizeU ?_;intro a5 hxP kP zP;clear zP;replace L:=hh (a0i L.out HP.out rfl kP WP.out);replace HX:=ka1 kP HX NXP;replace HP:=hh hxP;clear hxP kP;replace hS:=HX.out;refine hK _ _ (fun _ _=>hS) ?_;clear hK;refine tA1 10 10 hS ?_;go_frame;refine tD ?_;clear hS;go_wp2_with fail
   go_meet
   case rel=>exact ⟨P,ya,yb,yc,yd,q1,rfl,rfl,L,HX,HP,HQ1,HyU⟩
 case rest=>
  obtain ⟨P,ya,yb,yc,yd,q1,rfl,rfl,L,HX,HP,HQ1,HyU⟩:=hcut
  cases q1 with
  | false=>
   have hno:¬ m≤n:=of_decide_eq_false HQ1.out.symm;have HEV:Hid (moveE (getP s.t) k l m=13):=hh (by unfold moveE;rw [← HN.out,if_pos hno]);have HSV:Hid (s.moveA k l m=s):=hh (d0q (by rw [HEV.out];decide));clear hno HQ1 HyU;go_wp2_with fail
   go_ret
   rw [HEV.out,HSV.out];exact L.out.ret
  | true=>
   have HLE:Hid (m≤n):=hh (of_decide_eq_true HQ1.out.symm);have hy9:=HyU.out
   first | rw [if_pos trivial] at hy9 | rw [if_pos rfl] at hy9
   have HY:=hh hy9;clear hy9 HyU HQ1
   by_cases hkl:k=l
   ·have HEV:Hid (moveE (getP s.t) k l m=0):=hh (by unfold moveE;rw [← HN.out,if_neg (fun e=>e HLE.out),if_pos hkl]);have HSV:Hid (s.moveA k l m=s):=hh (by unfold PS.moveA;rw [if_neg (fun e=>e.2 hkl)]);have hb9:=d0I k l;rw [decide_eq_true hkl] at hb9;clear hkl;go_wp2_with fail
    go_ret
    rw [HEV.out,HSV.out];exact L.out.ret
   ·have HKL:=hh hkl;have hb9:=d0I k l;rw [decide_eq_false hkl] at hb9;clear hkl
    go_upto_region 6 with fail
    clear hb9
    go_cut [11,12] from 26 (fun s11 s12 wx=>∃ (Q:Nat) (za:Int) (zb:Int) (zc:Int) (zd:Int) (q2:Bool),s11 = .pointer (some ⟨Q,0,none⟩)∧s12 = .bool q2∧Hid (RLiv w F wx g s)∧Hid (wx.heap[X]? = some (.cells #[.int .u64 a,.int .u64 b,.int .u64 c,.int .u64 d] 25 (0,0)))∧Hid (wx.heap[P]? = some (.cells #[.int .u64 ya,.int .u64 yb,.int .u64 yc,.int .u64 yd] 25 (0,0)))∧Hid (wx.heap[Q]? = some (.cells #[.int .u64 za,.int .u64 zb,.int .u64 zc,.int .u64 zd] 25 (0,0)))∧Hid (q2=decide (n2+m < uMax))∧Hid (UIs za zb zc zd (if q2=true then n2+m else 0)))
    case first=>
     obtain ⟨a1,hwz,hbz⟩:=dr wc;replace L:=hh (L.out.later hbz);replace HX:=bA hbz HX;replace HP:=bA hbz HP;clear hbz;refine rg1 11 11 hwz HX fun hS=>?_
     clear hwz;refine tA1 0 27 hS ?_;go_frame;refine tA1 1 28 hS ?_;go_frame;refine tl 3 (some 30) (fun _ h=>h) Tryz.underlying25 Tryz.sizeU hS ?_;go_frame;refine a0k 2 8 rfl rfl (by kernel_rfl) (fun K hK=>?_) (fun K hK=>?_)
     ·simp only [gA,jB,gC];rw [if_pos (by rfl)];go_simp;obtain ⟨Fq,hst⟩:=L.out.get;refine (a0M hst (by have:=HZ.out;omega) HF.out l).mono ?_;rw [← HN2.out];rintro e a2 ⟨va,vb,vc,vd,hu1,rfl,hb⟩;have HvU:=hh hu1;clear hu1 hst;replace L:=hh (L.out.later hb);replace HX:=bA hb HX;replace HP:=bA hb HP;clear hb;replace hS:=HX.out;refine hK _ _ (fun _ _=>hS) ?_;clear hK;refine a0k 4 8 rfl rfl (by kernel_rfl) (fun K hK=>?_) (fun K hK=>?_)
      ·simp only [gA,jB,gC];rw [if_pos (by rfl)];go_simp;refine (b0B HvU.out HU.out _).mono ?_;obtain ⟨q2,hq2⟩:=nm (decide (n2+m < uMax));rw [← hq2];have HQ2:=hh hq2;clear hq2;rintro e a3 ⟨za,zb,zc,zd,hu1,rfl,hb⟩;have HzU:=hh hu1;clear hu1;replace L:=hh (L.out.later hb);replace HX:=bA hb HX;replace HP:=bA hb HP;clear hb;replace hS:=HX.out;refine hK _ _ (fun _ _=>hS) ?_;clear hK;refine tA1 5 26 hS ?_;go_frame;refine tA1 6 32 hS ?_;go_frame;refine tA1 7 33 hS ?_;go_frame;refine t1 8 fun K hK=>?_
       simp only [gA,jB,gC];refine wA1 25 Tryz.zeroUz ?_;intro Q a4 hQ;have WQ:=mGe hQ L.out.keep.size;have NXQ:=mNe hQ HX;have NPQ:=mNe hQ HP;have HQ:=hh hQ.out.cells;have hbQ:=hQ.out.below;clear hQ;replace L:=hh (L.out.later hbQ);replace HX:=bA hbQ HX;replace HP:=bA hbQ HP;clear hbQ;replace hS:=HX.out;refine hK _ _ (fun _ _=>hS) ?_;clear hK;refine t1 9 fun K hK=>?_
       simp only [gA,jB,gC];refine wR1 25 #[.int .u64 za,.int .u64 zb,.int .u64 zc,.int .u64 zd] HQ Tryz.sizeU ?_;intro a5 hxQ kQ zQ;clear zQ;replace L:=hh (a0i L.out HQ.out rfl kQ WQ.out);replace HX:=ka1 kQ HX NXQ;replace HP:=ka1 kQ HP NPQ;replace HQ:=hh hxQ;clear hxQ kQ;replace hS:=HX.out;refine hK _ _ (fun _ _=>hS) ?_;clear hK;refine tA1 10 12 hS ?_;go_frame;refine tD ?_;clear hS;go_wp2_with fail
       go_meet
       case rel=>exact ⟨Q,za,zb,zc,zd,q2,rfl,rfl,L,HX,HP,HQ,HQ2,HzU⟩
      ·simp only [gA,jB,gC];rw [if_pos (by rfl)];refine wA1 25 Tryz.zeroUz ?_;intro Q a3 hQ;have WQ:=mGe hQ L.out.keep.size;have NXQ:=mNe hQ HX;have NPQ:=mNe hQ HP;have HQ:=hh hQ.out.cells;have hbQ:=hQ.out.below;clear hQ;replace L:=hh (L.out.later hbQ);replace HX:=bA hbQ HX;replace HP:=bA hbQ HP;clear hbQ;replace hS:=HX.out;refine hK _ _ (fun _ _=>hS) ?_;clear hK;refine t1 4 fun K hK=>?_
       simp only [gA,jB,gC];go_simp;refine (b0B HvU.out HU.out _).mono ?_;obtain ⟨q2,hq2⟩:=nm (decide (n2+m < uMax));rw [← hq2];have HQ2:=hh hq2;clear hq2;rintro e a4 ⟨za,zb,zc,zd,hu1,rfl,hb⟩;have HzU:=hh hu1;clear hu1;replace L:=hh (L.out.later hb);replace HX:=bA hb HX;replace HP:=bA hb HP;replace HQ:=bA hb HQ;clear hb;replace hS:=HX.out;refine hK _ _ (fun _ _=>hS) ?_;clear hK;refine tA1 5 26 hS ?_;go_frame;refine tA1 6 32 hS ?_;go_frame;refine tA1 7 33 hS ?_;go_frame;refine t1 9 fun K hK=>?_
       simp only [gA,jB,gC];refine wR1 25 #[.int .u64 za,.int .u64 zb,.int .u64 zc,.int .u64 zd] HQ Tryz.sizeU ?_;intro a5 hxQ kQ zQ;clear zQ;replace L:=hh (a0i L.out HQ.out rfl kQ WQ.out);replace HX:=ka1 kQ HX NXQ;replace HP:=ka1 kQ HP NPQ;replace HQ:=hh hxQ;clear hxQ kQ;replace hS:=HX.out;refine hK _ _ (fun _ _=>hS) ?_;clear hK;refine tA1 10 12 hS ?_;go_frame;refine tD ?_;clear hS;go_wp2_with fail
       go_meet
       case rel=>exact ⟨Q,za,zb,zc,zd,q2,rfl,rfl,L,HX,HP,HQ,HQ2,HzU⟩
     ·simp only [gA,jB,gC];rw [if_pos (by rfl)];refine wA1 25 Tryz.zeroUz ?_;intro Q a2 hQ;have WQ:=mGe hQ L.out.keep.size;have NXQ:=mNe hQ HX;have NPQ:=mNe hQ HP;have HQ:=hh hQ.out.cells;have hbQ:=hQ.out.below;clear hQ;replace L:=hh (L.out.later hbQ);replace HX:=bA hbQ HX;replace HP:=bA hbQ HP;clear hbQ;replace hS:=HX.out;refine hK _ _ (fun _ _=>hS) ?_;clear hK;refine t1 2 fun K hK=>?_
      simp only [gA,jB,gC];go_simp;obtain ⟨Fq,hst⟩:=L.out.get;refine (a0M hst (by have:=HZ.out;omega) HF.out l).mono ?_;rw [← HN2.out];rintro e a3 ⟨va,vb,vc,vd,hu1,rfl,hb⟩;have HvU:=hh hu1;clear hu1 hst;replace L:=hh (L.out.later hb);replace HX:=bA hb HX;replace HP:=bA hb HP;replace HQ:=bA hb HQ;clear hb;replace hS:=HX.out;refine hK _ _ (fun _ _=>hS) ?_;clear hK;refine t1 4 fun K hK=>?_
      simp only [gA,jB,gC];go_simp;refine (b0B HvU.out HU.out _).mono ?_;obtain ⟨q2,hq2⟩:=nm (decide (n2+m < uMax));rw [← hq2];have HQ2:=hh hq2;clear hq2;rintro e a4 ⟨za,zb,zc,zd,hu1,rfl,hb⟩;have HzU:=hh hu1;clear hu1;replace L:=hh (L.out.later hb);replace HX:=bA hb HX;replace HP:=bA hb HP;replace HQ:=bA hb HQ;clear hb;replace hS:=HX.out;refine hK _ _ (fun _ _=>hS) ?_;clear hK;refine tA1 5 26 hS ?_;go_frame;refine tA1 6 32 hS ?_;go_frame;refine tA1 7 33 hS ?_;go_frame;refine t1 9 fun K hK=>?_
      simp only [gA,jB,gC];refine wR1 25 #[.int .u64 za,.int .u64 zb,.int .u64 zc,.int .u64 zd] HQ Tryz.sizeU ?_;intro a5 hxQ kQ zQ;clear zQ;replace L:=hh (a0i L.out HQ.out rfl kQ WQ.out);replace HX:=ka1 kQ HX NXQ;replace HP:=ka1 kQ HP NPQ;replace HQ:=hh hxQ;clear hxQ kQ;replace hS:=HX.out;refine hK _ _ (fun _ _=>hS) ?_;clear hK;refine tA1 10 12 hS ?_;go_frame;refine tD ?_;clear hS;go_wp2_with fail
      go_meet
      case rel=>exact ⟨Q,za,zb,zc,zd,q2,rfl,rfl,L,HX,HP,HQ,HQ2,HzU⟩
    case rest=>
     obtain ⟨Q,za,zb,zc,zd,q2,rfl,rfl,L,HX,HP,HQ,HQ2,HzU⟩:=hcut
     cases q2 with
     | false=>
      have hno:¬ n2+m < uHalf:=by have h9:=of_decide_eq_false HQ2.out.symm;unfold uMax at h9;unfold uHalf;omega
      have HEV:Hid (moveE (getP s.t) k l m=6):=hh (by unfold moveE;rw [if_neg (fun e=>e (HN.out▸HLE.out)),if_neg HKL.out,← HN2.out,if_neg hno]);have HSV:Hid (s.moveA k l m=s):=hh (d0q (by rw [HEV.out];decide));clear hno HQ2 HzU;go_wp2_with fail
      go_ret
      rw [HEV.out,HSV.out];exact L.out.ret
     | true=>
      have cQ0:wc.cell? ⟨Q,0,none⟩=some (.int .u64 za):=Lib.cell_of_heap HQ.out 0;have cQ1:wc.cell? ⟨Q,1,none⟩=some (.int .u64 zb):=Lib.cell_of_heap HQ.out 1;have cQ2:wc.cell? ⟨Q,2,none⟩=some (.int .u64 zc):=Lib.cell_of_heap HQ.out 2;have cQ3:wc.cell? ⟨Q,3,none⟩=some (.int .u64 zd):=Lib.cell_of_heap HQ.out 3;go_wp2_with fail;clear cQ0 cQ1 cQ2 cQ3;have hy9:=HzU.out
      first | rw [if_pos trivial] at hy9 | rw [if_pos rfl] at hy9
      have HZZ:=hh hy9;clear hy9 HzU;refine (a0P HZZ.out _).mono ?_;rintro e a1 ⟨rfl,hb⟩;replace L:=hh (L.out.later hb);replace HP:=bA hb HP;replace HQ:=bA hb HQ;clear hb
      by_cases hno:n2+m < uHalf
      ·rw [decide_eq_true hno];have HEV:Hid (moveE (getP s.t) k l m=0):=hh (by unfold moveE;rw [if_neg (fun e=>e (HN.out▸HLE.out)),if_neg HKL.out,← HN2.out,if_pos hno]);have HSV:Hid (s.moveA k l m=(s.setAmt k (n - m)).setAmt l (n2+m)):=hh (by unfold PS.moveA;rw [if_pos ⟨HEV.out,HKL.out⟩,HN.out,HN2.out]);clear hno
       go_wp2_with (refine lR HP Tryz.underlying25 Tryz.sizeU ?_)
       clear HX HP;refine (L.out.call fun F hs=>b0s hs (by have:=HZ.out;omega) k HY.out).mono ?_;rintro e a2 ⟨rfl,o,hoth⟩;replace L:=hh o;replace HQ:=oA hoth HQ;clear o hoth
       go_wp2_with (refine lR HQ Tryz.underlying25 Tryz.sizeU ?_)
       clear HQ;refine (L.out.call fun F hs=>b0s hs (by have h8:=HZ.out;have h9:=a0C s k (n - m);omega) l HZZ.out).mono ?_;rintro e a3 ⟨rfl,o,hoth⟩;replace L:=hh o;clear o hoth;go_wp2_with fail
       go_ret
       rw [HEV.out,HSV.out];exact L.out.ret
      ·rw [decide_eq_false hno];have HEV:Hid (moveE (getP s.t) k l m=6):=hh (by unfold moveE;rw [if_neg (fun e=>e (HN.out▸HLE.out)),if_neg HKL.out,← HN2.out,if_neg hno]);have HSV:Hid (s.moveA k l m=s):=hh (d0q (by rw [HEV.out];decide));clear hno;go_wp2_with fail
       go_ret
       rw [HEV.out,HSV.out];exact L.out.ret

end Go.Proofs.YtabminbgoclnkaaGreat
