/- Claims: one leaf is paid (code, and the reference's). No condition. -/
import Derived.Test.YtakkfabaeolbdaaGreatCn34
import Derived.Test.YtakkfabaeolbdaaGreatCnLeaO
import Derived.Deep.Cut
namespace Go.Proofs.YtakkfabaeolbdaaGreat
set_option maxHeartbeats 16000000
set_option maxRecDepth 100000
open Go.RowKit

theorem py_no {s:PS} {t n:Int} {m:Nat} (h:pyE s t n m≠0):s.py t n m=s:=by
 unfold PS.py;split
 ·rfl
 ·rename_i hg
  unfold pyE at h;rw [if_neg hg] at h
  unfold PS.send;rw [if_neg h]
def lpE (s:PS) (e to t:Int) (m:Nat):Int:=if t < 1∨1000 < t then 5 else if ¬ amtV (getP s.t) (keyF 40 [e,t]) < m then 17 else pyE s t to (m - amtV (getP s.t) (keyF 40 [e,t]))
def PS.lp (s:PS) (e to t:Int) (m:Nat):PS:=if lpE s e to t m=0 then (s.py t to (m - amtV (getP s.t) (keyF 40 [e,t]))).setAmt (keyF 40 [e,t]) m else s
def lpV (s:PS) (e to t:Int) (m:Nat):Nat:=if lpE s e to t m=0 then m - amtV (getP s.t) (keyF 40 [e,t]) else 0
theorem lp_no {s:PS} {e to t:Int} {m:Nat} {q:Int} (h:lpE s e to t m=q) (hq:q≠0):lpE s e to t m=q∧s.lp e to t m=s∧lpV s e to t m=0:=by
 refine ⟨h,?_,?_⟩
 ·unfold PS.lp;rw [h,if_neg hq]
 ·unfold lpV;rw [h,if_neg hq]
theorem r0J {s:PS} {e to t:Int} {m:Nat} (h:t < 1∨1000 < t):lpE s e to t m=5∧s.lp e to t m=s∧lpV s e to t m=0:=lp_no (by unfold lpE;rw [if_pos h]) (by decide)
theorem n0w {s:PS} {e to t:Int} {m:Nat} (h:¬ (t < 1∨1000 < t)) {p:Nat} (hp:p=amtV (getP s.t) (keyF 40 [e,t])) (h2:¬ p < m):lpE s e to t m=17∧s.lp e to t m=s∧lpV s e to t m=0:=
 lp_no (by unfold lpE;rw [if_neg h,← hp,if_pos h2]) (by decide)
theorem lp_of {s:PS} {e to t:Int} {m:Nat} (h:¬ (t < 1∨1000 < t)) {p:Nat} (hp:p=amtV (getP s.t) (keyF 40 [e,t])) (h2:p < m):lpE s e to t m=pyE s t to (m - p):=by
 unfold lpE;rw [if_neg h,← hp,if_neg (fun h9=>h9 h2)]
theorem lp_ok {s s1:PS} {e to t:Int} {m:Nat} (h:¬ (t < 1∨1000 < t)) {p:Nat} (hp:p=amtV (getP s.t) (keyF 40 [e,t])) (h2:p < m) (h3:pyE s t to (m - p)=0) (h4:s1=s.py t to (m - p)):lpE s e to t m=0∧s.lp e to t m=s1.setAmt (keyF 40 [e,t]) m∧lpV s e to t m=m - p:=by
 have h1:lpE s e to t m=0:=(lp_of h hp h2).trans h3;refine ⟨h1,?_,?_⟩
 ·unfold PS.lp;rw [h1,if_pos rfl,← hp,← h4]
 ·unfold lpV;rw [h1,if_pos rfl,← hp]
theorem lp_sz (s:PS) (e to t:Int) (m:Nat):(s.lp e to t m).sz≤s.sz+8:=by
 unfold PS.lp;split
 ·have h1:=py_sz s t to (m - amtV (getP s.t) (keyF 40 [e,t]));have h2:=a0z (s.py t to (m - amtV (getP s.t) (keyF 40 [e,t]))) (keyF 40 [e,t]) m
  omega
 ·omega
theorem r0V {s:PS} (hf:Fit s) (e to t:Int) (m:Nat):Fit (s.lp e to t m):=by
 unfold PS.lp;split
 ·exact (t0q hf _ _ _).setAmt _ _
 ·exact hf
theorem f0J:(#[.int .u64 (uw0 0),.int .u64 (uw1 0),.int .u64 (uw2 0),.int .u64 (uw3 0)]:Array Value)=#[.int .u64 0,.int .u64 0,.int .u64 0,.int .u64 0]:=rfl
theorem q0u {w:World} {g:Nat} {s:PS} {F:List Nat} (h:St w g s F) (hz:s.sz < 900000) (hf:Fit s) {rt ix e to i t:Int} {ch:List UInt8} {pv lv:SlV} {sa:Option Addr} {sn sc m:Nat} (hch:ch.length=32) (he:I64 e) (hto:I64 to) (ht:I64 t) (hm:m < uMax) :
  Calls Tryz.prog 37 #[.pointer (some ⟨g,0,none⟩),.agg (clC rt ix e ch pv lv to),.agg (lfC i t m (sa,sn,sc))] w (StRet w g F (s.lp e to t m) (.tuple #[.agg #[.int .u64 (uw0 (lpV s e to t m)),.int .u64 (uw1 (lpV s e to t m)),.int .u64 (uw2 (lpV s e to t m)),.int .u64 (uw3 (lpV s e to t m))],.int .i64 (lpE s e to t m)])):=by
 have L:=hh (Liv.start h);have HZ0:=hh hz;have HF:=hh hf;have HE:=hh he;have HTO:=hh hto;have HT:=hh ht;have HM:=hh hm;have HCH:=hh hch;obtain ⟨p,hp⟩:=nm (amtV (getP s.t) (keyF 40 [e,t]));have HP:=hh hp;clear h hz hf he hto ht hm hp hch
 go_enter Tryz.func37,Tryz.ntmps37
 go_wp2_with (refine sA _ Tryz.zeroUz ?_)
 obtain ⟨w1,hw1⟩:=nm ((w.alloc (.cells (clC rt ix e ch pv lv to) 31)).alloc (.cells (lfC i t m (sa,sn,sc)) 72));obtain ⟨C,hC⟩:=nm (w.heap.size);obtain ⟨Y,hY⟩:=nm (w.heap.size+1);rw [← hw1,← hY,← hC];have hbx:=box2 w _ _ _ _ w1 hw1;rw [← hY,← hC] at hbx;have HC:=hh hbx.1;have HY:=hh hbx.2.1;have hb:Below w.heap.size w w1:=by rw [← hC];exact hbx.2.2.1
 clear hbx hw1 hC hY;replace L:=hh (L.out.later hb);clear hb;intro R a1 hR;have WR:=mGe hR L.out.keep.size;have NCR:=mNe hR HC;have NYR:=mNe hR HY;have HR:=hh hR.out.cells;have hbR:=hR.out.below;clear hR;replace L:=hh (L.out.later hbR);replace HC:=bA hbR HC;replace HY:=bA hbR HY;clear hbR
 rcases (show t < 1∨1000 < t∨(¬ t < 1∧¬ 1000 < t) by omega) with j1 | j1 | ⟨j1,j2⟩
 ·have cY1:a1.cell? ⟨Y,1,none⟩=some (.int .i64 t):=Lib.cell_of_heap HY.out 1;have HW:=hh (r0J (s:=s) (e:=e) (to:=to) (m:=m) (.inl j1))
  go_wp2_with (refine a0a (t:=25) (old:=u0) rfl 25 _ _ rfl R u0 rfl rfl HR.out Tryz.sizeU rfl (a0Y _ _ _ _) ?_)
  intro a2 hxR kR zR;clear zR;replace L:=hh (a0A L.out HR.out rfl kR WR.out);replace HR:=hh hxR;clear hxR kR;clear cY1;go_wp2_with fail
  exact bR rfl rfl HR Tryz.underlying25 Tryz.sizeU (by rw [HW.out.1,HW.out.2.1,HW.out.2.2,f0J];exact L.out.ret)
 ·have j0:¬ t < 1:=by omega
  have cY1:a1.cell? ⟨Y,1,none⟩=some (.int .i64 t):=Lib.cell_of_heap HY.out 1;have HW:=hh (r0J (s:=s) (e:=e) (to:=to) (m:=m) (.inr j1))
  go_wp2_with (refine a0a (t:=25) (old:=u0) rfl 25 _ _ rfl R u0 rfl rfl HR.out Tryz.sizeU rfl (a0Y _ _ _ _) ?_)
  intro a2 hxR kR zR;clear zR;replace L:=hh (a0A L.out HR.out rfl kR WR.out);replace HR:=hh hxR;clear hxR kR;clear cY1;go_wp2_with fail
  exact bR rfl rfl HR Tryz.underlying25 Tryz.sizeU (by rw [HW.out.1,HW.out.2.1,HW.out.2.2,f0J];exact L.out.ret)
 ·have HTT:Hid (¬ (t < 1∨1000 < t)):=hh (by omega);have cY1:a1.cell? ⟨Y,1,none⟩=some (.int .i64 t):=Lib.cell_of_heap HY.out 1
  go_upto_region 3 with fail
  clear cY1 j1 j2
  go_cut [8,9] from 20 (fun s8 s9 wx=>∃ (Z:Nat) (za:Int) (zb:Int) (zc:Int) (zd:Int),s8 = .pointer (some ⟨Z,0,none⟩)∧s9 = .bool (decide (p≤m))∧Hid (Liv w F wx g s)∧Hid (wx.heap[C]? = some (.cells (clC rt ix e ch pv lv to) 31 (0,0)))∧Hid (wx.heap[Y]? = some (.cells (lfC i t m (sa,sn,sc)) 72 (0,0)))∧Hid (wx.heap[R]? = some (.cells u0 25 (0,0)))∧Hid (wx.heap[Z]? = some (.cells #[.int .u64 za,.int .u64 zb,.int .u64 zc,.int .u64 zd] 25 (0,0)))∧Hid (R≠Z)∧Hid (Y≠Z)∧Hid (C≠Z)∧Hid (w.heap.size≤Z)∧Hid (UIs za zb zc zd (if decide (p≤m)=true then m - p else 0)))
  case first=>
   obtain ⟨a2,hwz,hbz⟩:=dr a1;replace L:=hh (L.out.later hbz);replace HC:=bA hbz HC;replace HY:=bA hbz HY;replace HR:=bA hbz HR;clear hbz;refine rg3 15 15 hwz HC HY HR fun hS=>?_
   clear hwz;refine tA1 0 21 hS ?_;go_frame;refine tk 1 (some 22) rfl rfl (a0p (by rfl) 25 _ rfl (.pointer (some ⟨Y,2,none⟩)) rfl (.agg #[.int .u64 (uw0 m),.int .u64 (uw1 m),.int .u64 (uw2 m),.int .u64 (uw3 m)]) (fun w' hS'=>run_loadAt_mid w' Y 2 25 [.int .u64 (uw0 m),.int .u64 (uw1 m),.int .u64 (uw2 m),.int .u64 (uw3 m)] _ (a0C (hS'.2.1) 2 _ rfl) Tryz.underlying25 rfl Tryz.sizeU)) hS ?_;go_frame;refine tA1 2 23 hS ?_;go_frame;refine tA1 3 24 hS ?_;go_frame;refine tk 4 (some 25) rfl rfl (.inl ⟨by rfl,fun w' hS'=>(by have hc:w'.cell? ⟨C,2,none⟩=some (.int .i64 e):=(Lib.cell_of_heap hS'.1 2).trans (clC_2 _ _ _ _ _ _ _);go_simp;rfl)⟩) hS ?_;go_frame;refine tA1 5 26 hS ?_;go_frame;refine tk 6 (some 27) rfl rfl (.inl ⟨by rfl,fun w' hS'=>(by have hc:w'.cell? ⟨Y,1,none⟩=some (.int .i64 t):=Lib.cell_of_heap (hS'.2.1) 1;go_simp;rfl)⟩) hS ?_;go_frame;refine a0B 7 12 rfl rfl (by kernel_rfl) (fun K hK=>?_) (fun K hK=>?_)
   ·simp only [gA,jB,gC];rw [if_pos (by rfl)];go_simp;obtain ⟨F9,h9⟩:∃ F9,St a2 g s F9:=by obtain ⟨F9,h9,_⟩:=L.out;exact ⟨F9,h9⟩
    refine (e0h (Look.of_st h9) HF.out.f HE.out HT.out).mono ?_;rw [← HP.out];rintro e a3 ⟨pa,pb,pc,pd,hu1,rfl,hb⟩;have HPU:=hh hu1;clear hu1 h9;replace L:=hh (L.out.later hb);replace HC:=bA hb HC;replace HY:=bA hb HY;replace HR:=bA hb HR;clear hb;replace hS:=And.intro HC.out (And.intro HY.out HR.out);refine hK _ _ (fun _ _=>hS) ?_;clear hK;refine a0B 8 12 rfl rfl (by kernel_rfl) (fun K hK=>?_) (fun K hK=>?_)
    ·simp only [gA,jB,gC];rw [if_pos (by rfl)];go_simp;refine (e0T (uw_is HM.out) HPU.out _).mono ?_;rintro e a4 ⟨za,zb,zc,zd,hu1,rfl,hb⟩;have HZU:=hh hu1;clear hu1;replace L:=hh (L.out.later hb);replace HC:=bA hb HC;replace HY:=bA hb HY;replace HR:=bA hb HR;clear hb;replace hS:=And.intro HC.out (And.intro HY.out HR.out);refine hK _ _ (fun _ _=>hS) ?_;clear hK;refine tA1 9 20 hS ?_;go_frame;refine tA1 10 30 hS ?_;go_frame;refine tA1 11 31 hS ?_;go_frame;refine t1 12 fun K hK=>?_
     simp only [gA,jB,gC];refine wA1 25 Tryz.zeroUz ?_;intro Z a5 hZ;have WZ:=mGe hZ L.out.keep.size;have NCZ:=mNe hZ HC;have NYZ:=mNe hZ HY;have NRZ:=mNe hZ HR;have HZ:=hh hZ.out.cells;have hbZ:=hZ.out.below;clear hZ;replace L:=hh (L.out.later hbZ);replace HC:=bA hbZ HC;replace HY:=bA hbZ HY;replace HR:=bA hbZ HR;clear hbZ;replace hS:=And.intro HC.out (And.intro HY.out HR.out);refine hK _ _ (fun _ _=>hS) ?_;clear hK;refine t1 13 fun K hK=>?_
     simp only [gA,jB,gC];refine wR1 25 #[.int .u64 za,.int .u64 zb,.int .u64 zc,.int .u64 zd] HZ Tryz.sizeU ?_;intro a6 hxZ kZ zZ;clear zZ;replace L:=hh (a0A L.out HZ.out rfl kZ WZ.out);replace HC:=ka1 kZ HC NCZ;replace HY:=ka1 kZ HY NYZ;replace HR:=ka1 kZ HR NRZ;replace HZ:=hh hxZ;clear hxZ kZ;replace hS:=And.intro HC.out (And.intro HY.out HR.out);refine hK _ _ (fun _ _=>hS) ?_;clear hK;refine tA1 14 9 hS ?_;go_frame;refine tD ?_;clear hS;go_wp2_with fail
     go_meet
     case rel=>exact ⟨Z,za,zb,zc,zd,rfl,rfl,L,HC,HY,HR,HZ,NRZ,NYZ,NCZ,WZ,HZU⟩
    ·simp only [gA,jB,gC];rw [if_pos (by rfl)];refine wA1 25 Tryz.zeroUz ?_;intro Z a4 hZ;have WZ:=mGe hZ L.out.keep.size;have NCZ:=mNe hZ HC;have NYZ:=mNe hZ HY;have NRZ:=mNe hZ HR;have HZ:=hh hZ.out.cells;have hbZ:=hZ.out.below;clear hZ;replace L:=hh (L.out.later hbZ);replace HC:=bA hbZ HC;replace HY:=bA hbZ HY;replace HR:=bA hbZ HR;clear hbZ;replace hS:=And.intro HC.out (And.intro HY.out HR.out);refine hK _ _ (fun _ _=>hS) ?_;clear hK;refine t1 8 fun K hK=>?_
     simp only [gA,jB,gC];go_simp;refine (e0T (uw_is HM.out) HPU.out _).mono ?_;rintro e a5 ⟨za,zb,zc,zd,hu1,rfl,hb⟩;have HZU:=hh hu1;clear hu1;replace L:=hh (L.out.later hb);replace HC:=bA hb HC;replace HY:=bA hb HY;replace HR:=bA hb HR;replace HZ:=bA hb HZ;clear hb;replace hS:=And.intro HC.out (And.intro HY.out HR.out);refine hK _ _ (fun _ _=>hS) ?_;clear hK;refine tA1 9 20 hS ?_;go_frame;refine tA1 10 30 hS ?_;go_frame;refine tA1 11 31 hS ?_;go_frame;refine t1 13 fun K hK=>?_
     simp only [gA,jB,gC];refine wR1 25 #[.int .u64 za,.int .u64 zb,.int .u64 zc,.int .u64 zd] HZ Tryz.sizeU ?_;intro a6 hxZ kZ zZ;clear zZ;replace L:=hh (a0A L.out HZ.out rfl kZ WZ.out);replace HC:=ka1 kZ HC NCZ;replace HY:=ka1 kZ HY NYZ;replace HR:=ka1 kZ HR NRZ;replace HZ:=hh hxZ;clear hxZ kZ;replace hS:=And.intro HC.out (And.intro HY.out HR.out);refine hK _ _ (fun _ _=>hS) ?_;clear hK;refine tA1 14 9 hS ?_;go_frame;refine tD ?_;clear hS;go_wp2_with fail
     go_meet
     case rel=>exact ⟨Z,za,zb,zc,zd,rfl,rfl,L,HC,HY,HR,HZ,NRZ,NYZ,NCZ,WZ,HZU⟩
   ·simp only [gA,jB,gC];rw [if_pos (by rfl)];refine wA1 25 Tryz.zeroUz ?_;intro Z a3 hZ;have WZ:=mGe hZ L.out.keep.size;have NCZ:=mNe hZ HC;have NYZ:=mNe hZ HY;have NRZ:=mNe hZ HR;have HZ:=hh hZ.out.cells;have hbZ:=hZ.out.below;clear hZ;replace L:=hh (L.out.later hbZ);replace HC:=bA hbZ HC;replace HY:=bA hbZ HY;replace HR:=bA hbZ HR;clear hbZ;replace hS:=And.intro HC.out (And.intro HY.out HR.out);refine hK _ _ (fun _ _=>hS) ?_;clear hK;refine t1 7 fun K hK=>?_
    simp only [gA,jB,gC];go_simp;obtain ⟨F9,h9⟩:∃ F9,St a3 g s F9:=by obtain ⟨F9,h9,_⟩:=L.out;exact ⟨F9,h9⟩
    refine (e0h (Look.of_st h9) HF.out.f HE.out HT.out).mono ?_;rw [← HP.out];rintro e a4 ⟨pa,pb,pc,pd,hu1,rfl,hb⟩;have HPU:=hh hu1;clear hu1 h9;replace L:=hh (L.out.later hb);replace HC:=bA hb HC;replace HY:=bA hb HY;replace HR:=bA hb HR;replace HZ:=bA hb HZ;clear hb;replace hS:=And.intro HC.out (And.intro HY.out HR.out);refine hK _ _ (fun _ _=>hS) ?_;clear hK;refine t1 8 fun K hK=>?_
    simp only [gA,jB,gC];go_simp;refine (e0T (uw_is HM.out) HPU.out _).mono ?_;rintro e a5 ⟨za,zb,zc,zd,hu1,rfl,hb⟩;have HZU:=hh hu1;clear hu1;replace L:=hh (L.out.later hb);replace HC:=bA hb HC;replace HY:=bA hb HY;replace HR:=bA hb HR;replace HZ:=bA hb HZ;clear hb;replace hS:=And.intro HC.out (And.intro HY.out HR.out);refine hK _ _ (fun _ _=>hS) ?_;clear hK;refine tA1 9 20 hS ?_;go_frame;refine tA1 10 30 hS ?_;go_frame;refine tA1 11 31 hS ?_;go_frame;refine t1 13 fun K hK=>?_
    simp only [gA,jB,gC];refine wR1 25 #[.int .u64 za,.int .u64 zb,.int .u64 zc,.int .u64 zd] HZ Tryz.sizeU ?_;intro a6 hxZ kZ zZ;clear zZ;replace L:=hh (a0A L.out HZ.out rfl kZ WZ.out);replace HC:=ka1 kZ HC NCZ;replace HY:=ka1 kZ HY NYZ;replace HR:=ka1 kZ HR NRZ;replace HZ:=hh hxZ;clear hxZ kZ;replace hS:=And.intro HC.out (And.intro HY.out HR.out);refine hK _ _ (fun _ _=>hS) ?_;clear hK;refine tA1 14 9 hS ?_;go_frame;refine tD ?_;clear hS;go_wp2_with fail
    go_meet
    case rel=>exact ⟨Z,za,zb,zc,zd,rfl,rfl,L,HC,HY,HR,HZ,NRZ,NYZ,NCZ,WZ,HZU⟩
  case rest=>
   obtain ⟨Z,za,zb,zc,zd,rfl,rfl,L,HC,HY,HR,HZ,NRZ,NYZ,NCZ,WZ,HZU⟩:=hcut
   rcases (show m < p∨m=p∨p < m by omega) with j1 | j1 | j1
   ·have j2:decide (p≤m)=false:=decide_eq_false (by omega);have HW:=hh (n0w (e:=e) (to:=to) HTT.out HP.out (show ¬ p < m by omega))
    go_wp2_with (refine a0a (t:=25) (old:=u0) rfl 25 _ _ rfl R u0 rfl rfl HR.out Tryz.sizeU rfl (a0Y _ _ _ _) ?_)
    intro a2 hxR kR zR;clear zR;replace L:=hh (a0A L.out HR.out rfl kR WR.out);replace HR:=hh hxR;clear hxR kR;go_wp2_with fail
    exact bR rfl rfl HR Tryz.underlying25 Tryz.sizeU (by rw [HW.out.1,HW.out.2.1,HW.out.2.2,f0J];exact L.out.ret)
   ·have j2:decide (p≤m)=true:=decide_eq_true (by omega);have hz9:=HZU.out;rw [if_pos j2] at hz9;have e7:=Tryz.eqUn hz9 UIs.zero;rw [decide_eq_true (show m - p=0 by omega)] at e7;have HW:=hh (n0w (e:=e) (to:=to) HTT.out HP.out (show ¬ p < m by omega));clear hz9 j1;have cZ0:wc.cell? ⟨Z,0,none⟩=some (.int .u64 za):=Lib.cell_of_heap HZ.out 0;have cZ1:wc.cell? ⟨Z,1,none⟩=some (.int .u64 zb):=Lib.cell_of_heap HZ.out 1;have cZ2:wc.cell? ⟨Z,2,none⟩=some (.int .u64 zc):=Lib.cell_of_heap HZ.out 2;have cZ3:wc.cell? ⟨Z,3,none⟩=some (.int .u64 zd):=Lib.cell_of_heap HZ.out 3
    go_wp2_with (refine a0a (t:=25) (old:=u0) rfl 25 _ _ rfl R u0 rfl rfl HR.out Tryz.sizeU rfl (a0Y _ _ _ _) ?_)
    intro a2 hxR kR zR;clear zR;replace L:=hh (a0A L.out HR.out rfl kR WR.out);replace HR:=hh hxR;clear hxR kR;clear cZ0 cZ1 cZ2 cZ3 e7;go_wp2_with fail
    exact bR rfl rfl HR Tryz.underlying25 Tryz.sizeU (by rw [HW.out.1,HW.out.2.1,HW.out.2.2,f0J];exact L.out.ret)
   ·have j2:decide (p≤m)=true:=decide_eq_true (by omega);have hz9:=HZU.out;rw [if_pos j2] at hz9;have e7:=Tryz.eqUn hz9 UIs.zero;rw [decide_eq_false (show ¬ m - p=0 by omega)] at e7;obtain ⟨d,hd⟩:=nm (m - p);rw [← hd] at hz9;have HD:=hh hd;have HPM:=hh j1;obtain ⟨rfl,rfl,rfl,rfl⟩:=hz9.uw;have HDU:=hh hz9;obtain ⟨e1,he1⟩:=nm (pyE s t to d);obtain ⟨s1,hs1⟩:=nm (s.py t to d);have HE1:=hh he1;have HS1:=hh hs1;clear hz9 j1 hd HZU he1 hs1;have cZ0:wc.cell? ⟨Z,0,none⟩=some (.int .u64 (uw0 d)):=Lib.cell_of_heap HZ.out 0;have cZ1:wc.cell? ⟨Z,1,none⟩=some (.int .u64 (uw1 d)):=Lib.cell_of_heap HZ.out 1;have cZ2:wc.cell? ⟨Z,2,none⟩=some (.int .u64 (uw2 d)):=Lib.cell_of_heap HZ.out 2;have cZ3:wc.cell? ⟨Z,3,none⟩=some (.int .u64 (uw3 d)):=Lib.cell_of_heap HZ.out 3;have cY1:wc.cell? ⟨Y,1,none⟩=some (.int .i64 t):=Lib.cell_of_heap HY.out 1;have cC37:wc.cell? ⟨C,37,none⟩=some (.int .i64 to):=(Lib.cell_of_heap HC.out 37).trans (r0S _ _ _ HCH.out _ _ _);go_wp2_with fail;clear cZ0 cZ1 cZ2 cZ3 cY1 cC37 e7 j2;refine (L.out.call fun F hs=>q0P hs (by have:=HZ0.out;omega) HF.out HT.out HTO.out HDU.out).mono ?_;rw [← HE1.out,← HS1.out];rintro e a2 ⟨rfl,o,hoth⟩;replace L:=hh o;replace HC:=oA hoth HC;replace HY:=oA hoth HY;replace HR:=oA hoth HR;replace HZ:=oA hoth HZ;clear o hoth
    by_cases hz1:e1=0
    ·have hne:(e1 != 0)=false:=by simpa using hz1
     have HW:=hh (lp_ok (s1:=s1) HTT.out HP.out HPM.out (by rw [← HD.out,← HE1.out];exact hz1) (by rw [← HD.out];exact HS1.out));rw [← HD.out] at HW;have HSZ1:Hid (s1.sz < 1000000):=hh (by have h7:=py_sz s t to d;have h8:=HZ0.out;rw [HS1.out];omega);clear hz1
     go_upto_region 9 with fail
     clear hne;obtain ⟨a3,hwz,hbz⟩:=dr a2;replace L:=hh (L.out.later hbz);replace HC:=bA hbz HC;replace HY:=bA hbz HY;replace HR:=bA hbz HR;replace HZ:=bA hbz HZ;clear hbz;refine rg2 10 10 hwz HC HY fun hS=>?_
     clear hwz;refine tA1 0 51 hS ?_;go_frame;refine tA1 1 52 hS ?_;go_frame;refine tk 2 (some 53) rfl rfl (.inl ⟨by rfl,fun w' hS'=>(by have hc:w'.cell? ⟨C,2,none⟩=some (.int .i64 e):=(Lib.cell_of_heap hS'.1 2).trans (clC_2 _ _ _ _ _ _ _);go_simp;rfl)⟩) hS ?_;go_frame;refine tA1 3 54 hS ?_;go_frame;refine tk 4 (some 55) rfl rfl (.inl ⟨by rfl,fun w' hS'=>(by have hc:w'.cell? ⟨Y,1,none⟩=some (.int .i64 t):=Lib.cell_of_heap (hS'.2) 1;go_simp;rfl)⟩) hS ?_;go_frame;refine tA1 7 58 hS ?_;go_frame;refine tk 8 (some 59) rfl rfl (a0p (by rfl) 25 _ rfl (.pointer (some ⟨Y,2,none⟩)) rfl (.agg #[.int .u64 (uw0 m),.int .u64 (uw1 m),.int .u64 (uw2 m),.int .u64 (uw3 m)]) (fun w' hS'=>run_loadAt_mid w' Y 2 25 [.int .u64 (uw0 m),.int .u64 (uw1 m),.int .u64 (uw2 m),.int .u64 (uw3 m)] _ (a0C (hS'.2) 2 _ rfl) Tryz.underlying25 rfl Tryz.sizeU)) hS ?_;go_frame;refine t1 5 fun K hK=>?_
     simp only [gA,jB,gC];go_simp;obtain ⟨a4,hwl⟩:=nm (World.alloc a3 (.cells #[.int .i64 e,.int .i64 t] 3));obtain ⟨gl,hgl⟩:=nm ((World.heap a3).size);rw [← hwl,← hgl];have HOI:Hid (Own a4 0 3 intE 1 (.slice (some ⟨gl,0,none⟩) 2 2) [e,t]):=hh (a0H (l:=[e,t]) (by rw [hwl,hgl];exact heap_alloc_new _ _) (Nat.zero_le _) (by unfold maxLen;simp));have hb:Below (World.heap a3).size a3 a4:=by rw [hwl];exact a0d _ _
     clear hwl hgl;replace L:=hh (L.out.later hb);replace HC:=bA hb HC;replace HY:=bA hb HY;replace HR:=bA hb HR;replace HZ:=bA hb HZ;clear hb;replace hS:=And.intro HC.out HY.out;refine hK _ _ (fun _ _=>hS) ?_;clear hK;refine t1 6 fun K hK=>?_
     simp only [gA,jB,gC];go_simp;refine (a0X 40 [e,t] _ _ (by simp) (I64s.two HE.out HT.out) (HOI.out.rd fun _=>rfl)).mono ?_;rintro e a5 ⟨rfl,hb⟩;replace L:=hh (L.out.later hb);replace HC:=bA hb HC;replace HY:=bA hb HY;replace HR:=bA hb HR;replace HZ:=bA hb HZ;clear hb;clear HOI;replace hS:=And.intro HC.out HY.out;refine hK _ _ (fun _ _=>hS) ?_;clear hK;refine t1 9 fun K hK=>?_
     simp only [gA,jB,gC];go_simp;refine (L.out.call fun F hs=>a0k hs (by have:=HSZ1.out;omega) (keyF 40 [e,t]) (uw_is HM.out)).mono ?_;rintro e a6 ⟨rfl,o,hoth⟩;replace L:=hh o;replace HC:=oA hoth HC;replace HY:=oA hoth HY;replace HR:=oA hoth HR;replace HZ:=oA hoth HZ;clear o hoth;replace hS:=And.intro HC.out HY.out;refine hK _ _ (fun _ _=>hS) ?_;clear hK;refine tD ?_;clear hS
     go_wp2_with (first
      | (refine lR HZ Tryz.underlying25 Tryz.sizeU ?_)
      | (refine sR 25 #[.int .u64 (uw0 d),.int .u64 (uw1 d),.int .u64 (uw2 d),.int .u64 (uw3 d)] HR Tryz.sizeU ?_))
     intro a7 hxR kR zR;clear zR;replace L:=hh (a0A L.out HR.out rfl kR WR.out);replace HR:=hh hxR;clear hxR kR;go_wp2_with fail
     exact bR rfl rfl HR Tryz.underlying25 Tryz.sizeU (by rw [HW.out.1,HW.out.2.1,HW.out.2.2];exact L.out.ret)
    ·have hne:(e1 != 0)=true:=by simpa using hz1
     have HES:Hid (s1=s):=hh (HS1.out.trans (py_no (by rw [← HE1.out];exact hz1)));have HW:=hh (lp_no (s:=s) (e:=e) (to:=to) (t:=t) (m:=m) (q:=e1) (by rw [lp_of HTT.out HP.out HPM.out,← HD.out];exact HE1.out.symm) hz1);have h9:=L.out;rw [HES.out] at h9;clear L hz1;have L:=hh h9;clear h9
     go_wp2_with (refine a0a (t:=25) (old:=u0) rfl 25 _ _ rfl R u0 rfl rfl HR.out Tryz.sizeU rfl (a0Y _ _ _ _) ?_)
     intro a3 hxR kR zR;clear zR;replace L:=hh (a0A L.out HR.out rfl kR WR.out);replace HR:=hh hxR;clear hxR kR;go_wp2_with fail
     exact bR rfl rfl HR Tryz.underlying25 Tryz.sizeU (by rw [HW.out.1,HW.out.2.1,HW.out.2.2,f0J];exact L.out.ret)

end Go.Proofs.YtakkfabaeolbdaaGreat
