/- Vaults: the program's Deposit (code). No condition. -/
import Derived.Test.YtabminbgoclnkaaGreatVaVauB
import Derived.Deep.Cut
import Derived.Deep.CutRange
namespace Go.Proofs.YtabminbgoclnkaaGreat
set_option maxHeartbeats 16000000
set_option maxRecDepth 100000
open Go.RowKit

theorem i0B {s:PS} {g:Int} (hi:infF (getP s.t) g=none) (fr:Int) (a:Nat):depE s g fr a=8∧s.dep g fr a=s∧depV s g fr a=0:=by
 have h1:depE s g fr a=8:=by unfold depE;rw [hi]
 exact ⟨h1,by unfold PS.dep;rw [hi],by unfold depV;rw [h1,if_neg (by decide)]⟩
theorem c0p {s:PS} {g t:Int} {on:Bool} (hi:infF (getP s.t) g=some (t,on)) {fr:Int} {a:Nat} {e:Int} (hb:depB s t g on fr a=e) (he:e≠0):depE s g fr a=e∧s.dep g fr a=s∧depV s g fr a=0:=by
 have h1:depE s g fr a=e:=by unfold depE;rw [hi];show depE1 s t g on fr a=e;unfold depE1;rw [hb,if_neg he]
 exact ⟨h1,by unfold PS.dep;rw [hi];show s.dep1 t g on fr a=s;unfold PS.dep1;rw [hb,if_neg he],by unfold depV;rw [h1,if_neg he]⟩
theorem m0x {s:PS} {g t:Int} {on:Bool} (hi:infF (getP s.t) g=some (t,on)) {fr:Int} {a:Nat} (hb:depB s t g on fr a=0):depE s g fr a=dep2E s t g fr a∧s.dep g fr a=s.dep2 t g fr a∧depV s g fr a=if dep2E s t g fr a=0 then depX s t g a else 0:=by
 have h1:depE s g fr a=dep2E s t g fr a:=by unfold depE;rw [hi];show depE1 s t g on fr a=_;unfold depE1;rw [hb,if_pos rfl]
 exact ⟨h1,by unfold PS.dep;rw [hi];show s.dep1 t g on fr a=_;unfold PS.dep1;rw [hb,if_pos rfl],by unfold depV;rw [h1,(a0v hi).1]⟩
structure DepN (s:PS) (t g fr:Int) (a:Nat) (s1 s2:PS) (e1 e2:Int) (np:Nat):Prop where
 ee1:e1=mvE s t g fr a
 es1:s1=s.mv t g fr a
 ee2:e2=addE (getP s1.t) (kTot g) (depX s t g a)
 es2:s2=s1.addA (kTot g) (depX s t g a)
 enp:np=s.past.length
 u1:s1.undo np=s
 u2:s2.undo np=s
 fit:Fit s1
 z1:s1.sz≤s.sz+4
 z2:s2.sz≤s.sz+6
theorem DepN.mk' {s:PS} (hu:Up s.t) (hf:Fit s) (t g fr:Int) (a:Nat):∃ s1 s2 e1 e2 np,DepN s t g fr a s1 s2 e1 e2 np:=by
 refine ⟨_,_,_,_,_,rfl,rfl,rfl,rfl,rfl,?_,n0t hu _ _ _ _ _,l0f hf _ _ _ _,mv_sz _ _ _ _ _,?_⟩
 ·exact ((Ext.refl hu).moveA _ _ _).undo.1
 ·have h1:=mv_sz s t g fr a;have h2:=c0i (s.mv t g fr a) (kTot g) (depX s t g a)
  omega
theorem DepN.bad {s s1 s2:PS} {t g fr e1 e2:Int} {a np:Nat} (N:DepN s t g fr a s1 s2 e1 e2 np) (h:e1≠0):dep2E s t g fr a=e1∧s.dep2 t g fr a=s:=by
 have h1:dep2E s t g fr a=e1:=by unfold dep2E;rw [← N.ee1,if_pos h]
 exact ⟨h1,by unfold PS.dep2;rw [h1,if_neg h]⟩
theorem DepN.end' {s s1 s2:PS} {t g fr e1 e2:Int} {a np:Nat} (N:DepN s t g fr a s1 s2 e1 e2 np) (h:e1=0):dep2E s t g fr a=e2∧s.dep2 t g fr a=if e2=0 then s2 else s:=by
 have h1:dep2E s t g fr a=e2:=by unfold dep2E;rw [← N.ee1,if_neg (fun e=>e h),← N.es1,← N.ee2]
 exact ⟨h1,by unfold PS.dep2;rw [h1,← N.es1,← N.es2]⟩

theorem d0H {w:World} {g0:Nat} {s:PS} {F:List Nat} (h:St w g0 s F) (hz:s.sz < 1000000) (hf:Fit s) {g fr:Int} (hg:I64 g) (hfr:I64 fr) {a b c d:Int} {m:Nat} (hu:UIs a b c d m):Calls Tryz.prog 12 #[.pointer (some ⟨g0,0,none⟩),.int .i64 g,.int .i64 fr,.agg #[.int .u64 a,.int .u64 b,.int .u64 c,.int .u64 d]] w (StRet w g0 F (s.dep g fr m) (.tuple #[.agg #[.int .u64 (uw0 (depV s g fr m)),.int .u64 (uw1 (depV s g fr m)),.int .u64 (uw2 (depV s g fr m)),.int .u64 (uw3 (depV s g fr m))],.int .i64 (depE s g fr m)])):=by
 have HUP:=hh h.up;have L:=hh (Liv.start h);have HZ0:=hh hz;have HF0:=hh hf;have HG:=hh hg;have HFR:=hh hfr;have HU:=hh hu;obtain ⟨gq,hgq⟩:=nm (goodB 1 fr);have HGQ:=hh hgq;obtain ⟨aq,haq⟩:=nm (decide (m < uHalf));have HAQ:=hh haq;clear h hz hf hg hfr hu hgq haq
 go_enter Tryz.func12,Tryz.ntmps12
 go_wp2_with (refine sA _ Tryz.zeroUz ?_)
 obtain ⟨w1,hw1⟩:=nm (w.alloc (.cells #[.int .u64 a,.int .u64 b,.int .u64 c,.int .u64 d] 25));obtain ⟨Y,hY⟩:=nm (w.heap.size);rw [← hw1,← hY];have HY:Hid (w1.heap[Y]? = some (.cells #[.int .u64 a,.int .u64 b,.int .u64 c,.int .u64 d] 25 (0,0))):=hh (by rw [hw1,hY];exact heap_alloc_new _ _);have hb:Below w.heap.size w w1:=by rw [hw1];exact a0c _ _
 clear hw1 hY;replace L:=hh (L.out.later hb);clear hb;intro R a1 hR;have WR:=mGe hR L.out.keep.size;have NYR:=mNe hR HY;have HR:=hh hR.out.cells;have hbR:=hR.out.below;clear hR;replace L:=hh (L.out.later hbR);replace HY:=bA hbR HY;clear hbR;go_wp2_with fail
 cases hi:infF (getP s.t) g with
 | none=>
  have HW:Hid (depE s g fr m=8∧s.dep g fr m=s∧depV s g fr m=0):=hh (i0B hi _ _);refine (b0C (L.out.look) HF0.out.f HG.out hi).mono ?_;rintro e a2 ⟨rfl,hb⟩;replace L:=hh (L.out.later hb);replace HY:=bA hb HY;replace HR:=bA hb HR;clear hb
  go_wp2_with (refine sA _ Tryz.zeroSg ?_)
  intro J a3 hJ;have WJ:=mGe hJ L.out.keep.size;have NYJ:=mNe hJ HY;have NRJ:=mNe hJ HR;have HJ:=hh hJ.out.cells;have hbJ:=hJ.out.below;clear hJ;replace L:=hh (L.out.later hbJ);replace HR:=bA hbJ HR;clear hbJ
  go_wp2_with (refine sR 76 #[.pointer none,.int .i64 0,.int .i64 0,.bool false] HJ Tryz.sizeSg ?_)
  intro a4 hxJ kJ zJ;clear zJ;replace L:=hh (a0n L.out HJ.out rfl kJ WJ.out);replace HR:=ka1 kJ HR NRJ;clear hxJ kJ;clear hi
  go_wp2_with (refine a0a (t:=25) (old:=u0) rfl 25 _ _ rfl R u0 rfl rfl HR.out Tryz.sizeU rfl (a0j _ _ _ _) ?_)
  intro a5 hxR kR zR;clear zR;replace L:=hh (a0n L.out HR.out rfl kR WR.out);replace HR:=hh hxR;clear hxR kR;go_wp2_with fail
  exact bR rfl rfl HR Tryz.underlying25 Tryz.sizeU (by rw [HW.out.1,HW.out.2.1,HW.out.2.2,a0H];exact L.out.ret)
 | some p=>
  obtain ⟨t,on⟩:=p;have HT:Hid (I64 t):=hh (by have h9:=a0z hi;unfold I64;omega);have HIF:=hh hi;refine (b0x (L.out.look) HF0.out.f HG.out hi).mono ?_;rintro e a2 ⟨rfl,hb⟩;replace L:=hh (L.out.later hb);replace HY:=bA hb HY;replace HR:=bA hb HR;clear hb
  go_wp2_with (refine sA _ Tryz.zeroSg ?_)
  intro J a3 hJ;have WJ:=mGe hJ L.out.keep.size;have NYJ:=mNe hJ HY;have NRJ:=mNe hJ HR;have HJ:=hh hJ.out.cells;have hbJ:=hJ.out.below;clear hJ;replace L:=hh (L.out.later hbJ);replace HY:=bA hbJ HY;replace HR:=bA hbJ HR;clear hbJ
  go_wp2_with (refine sR 76 #[.pointer (some ⟨g0,0,none⟩),.int .i64 g,.int .i64 t,.bool on] HJ Tryz.sizeSg ?_)
  intro a4 hxJ kJ zJ;clear zJ;replace L:=hh (a0n L.out HJ.out rfl kJ WJ.out);replace HY:=ka1 kJ HY NYJ;replace HR:=ka1 kJ HR NRJ;replace HJ:=hh hxJ;clear hxJ kJ;clear hi
  by_cases hon:on=true
  ·have HON:=hh hon;have cJ3:a4.cell? ⟨J,3,none⟩=some (.bool on):=Lib.cell_of_heap HJ.out 3;go_wp2_with fail;clear hon;clear cJ3;refine (f0M fr _).mono ?_;rw [← HGQ.out];rintro e _ ⟨rfl,rfl⟩
   cases gq with
   | false=>
    have HW:Hid (depE s g fr m=2∧s.dep g fr m=s∧depV s g fr m=0):=hh (c0p HIF.out (by unfold depB;rw [HON.out,if_neg (by decide),if_pos HGQ.out.symm]) (by decide))
    go_wp2_with (refine a0a (t:=25) (old:=u0) rfl 25 _ _ rfl R u0 rfl rfl HR.out Tryz.sizeU rfl (a0j _ _ _ _) ?_)
    intro a5 hxR kR zR;clear zR;replace L:=hh (a0n L.out HR.out rfl kR WR.out);replace HR:=hh hxR;clear hxR kR;go_wp2_with fail
    exact bR rfl rfl HR Tryz.underlying25 Tryz.sizeU (by rw [HW.out.1,HW.out.2.1,HW.out.2.2,a0H];exact L.out.ret)
   | true=>
    have cY0:a4.cell? ⟨Y,0,none⟩=some (.int .u64 a):=Lib.cell_of_heap HY.out 0;have cY1:a4.cell? ⟨Y,1,none⟩=some (.int .u64 b):=Lib.cell_of_heap HY.out 1;have cY2:a4.cell? ⟨Y,2,none⟩=some (.int .u64 c):=Lib.cell_of_heap HY.out 2;have cY3:a4.cell? ⟨Y,3,none⟩=some (.int .u64 d):=Lib.cell_of_heap HY.out 3;go_wp2_with fail;clear cY0 cY1 cY2 cY3;refine (b0I HU.out _).mono ?_;rw [← HAQ.out];rintro e a5 ⟨rfl,hb⟩;replace L:=hh (L.out.later hb);replace HY:=bA hb HY;replace HR:=bA hb HR;replace HJ:=bA hb HJ;clear hb
    cases aq with
    | false=>
     have HW:Hid (depE s g fr m=2∧s.dep g fr m=s∧depV s g fr m=0):=hh (c0p HIF.out (by unfold depB;rw [HON.out,if_neg (by decide),if_neg (by rw [← HGQ.out];decide),if_pos (of_decide_eq_false HAQ.out.symm)]) (by decide))
     go_wp2_with (refine a0a (t:=25) (old:=u0) rfl 25 _ _ rfl R u0 rfl rfl HR.out Tryz.sizeU rfl (a0j _ _ _ _) ?_)
     intro a6 hxR kR zR;clear zR;replace L:=hh (a0n L.out HR.out rfl kR WR.out);replace HR:=hh hxR;clear hxR kR;go_wp2_with fail
     exact bR rfl rfl HR Tryz.underlying25 Tryz.sizeU (by rw [HW.out.1,HW.out.2.1,HW.out.2.2,a0H];exact L.out.ret)
    | true=>
     obtain ⟨x,hx⟩:=nm (depX s t g m);have HX:=hh hx;have HXL:Hid (x < uMax):=hh (by rw [hx];exact h0g _ _ _ _);have HBB:Hid (depB s t g on fr m=if x=0 then 2 else 0):=hh (by unfold depB;rw [HON.out,if_neg (by decide),if_neg (by rw [← HGQ.out];decide),if_neg (fun h9=>h9 (of_decide_eq_true HAQ.out.symm)),← hx]);clear hx
     go_upto_region 8 with fail
     go_cut [12,13] from 41 to 50 (fun s12 _ wx=>∃ O:Nat,s12 = .pointer (some ⟨O,0,none⟩)∧Hid (w.heap.size≤O)∧Hid (J≠O)∧Hid (Y≠O)∧Hid (R≠O)∧Hid (wx.heap[O]? = some (.cells #[.int .u64 (uw0 x),.int .u64 (uw1 x),.int .u64 (uw2 x),.int .u64 (uw3 x)] 25 (0,0)))∧Hid (wx.heap[J]? = some (.cells #[.pointer (some ⟨g0,0,none⟩),.int .i64 g,.int .i64 t,.bool on] 76 (0,0)))∧Hid (wx.heap[Y]? = some (.cells #[.int .u64 a,.int .u64 b,.int .u64 c,.int .u64 d] 25 (0,0)))∧Hid (wx.heap[R]? = some (.cells u0 25 (0,0)))∧Hid (Liv w F wx g0 s))
     case first=>
      obtain ⟨a6,hwz,hbz⟩:=dr a5;replace L:=hh (L.out.later hbz);replace HY:=bA hbz HY;replace HR:=bA hbz HR;replace HJ:=bA hbz HJ;clear hbz;refine rg2 12 12 hwz HJ HY fun hS=>?_
      clear hwz;refine tl 0 (some 42) (fun _ h=>h.1) Tryz.underlying76 Tryz.sizeSg hS ?_;go_frame;refine tl 2 (some 44) (fun _ h=>h.1) Tryz.underlying76 Tryz.sizeSg hS ?_;go_frame;refine tl 4 (some 46) (fun _ h=>h.2) Tryz.underlying25 Tryz.sizeU hS ?_;go_frame;refine a0k 1 9 rfl rfl (by kernel_rfl) (fun K hK=>?_) (fun K hK=>?_)
      ·simp only [gA,jB,gC];rw [if_pos (by rfl)];go_simp;refine (c0k (L.out.look) HF0.out.f HG.out HT.out on).mono ?_;rintro e a7 ⟨pa,pb,pc,pd,hu,rfl,hb⟩;have HPU:=hh hu;clear hu;replace L:=hh (L.out.later hb);replace HY:=bA hb HY;replace HR:=bA hb HR;replace HJ:=bA hb HJ;clear hb;replace hS:=And.intro HJ.out HY.out;refine hK _ _ (fun _ _=>hS) ?_;clear hK;refine a0k 3 9 rfl rfl (by kernel_rfl) (fun K hK=>?_) (fun K hK=>?_)
       ·simp only [gA,jB,gC];rw [if_pos (by rfl)];go_simp;refine (b0k (L.out.look) HF0.out.f HG.out HT.out on).mono ?_;rintro e a8 ⟨za,zb,zc,zd,hu,rfl,hb⟩;have HZU:=hh hu;clear hu;replace L:=hh (L.out.later hb);replace HY:=bA hb HY;replace HR:=bA hb HR;replace HJ:=bA hb HJ;clear hb;replace hS:=And.intro HJ.out HY.out;refine hK _ _ (fun _ _=>hS) ?_;clear hK;refine a0k 5 9 rfl rfl (by kernel_rfl) (fun K hK=>?_) (fun K hK=>?_)
        ·simp only [gA,jB,gC];rw [if_pos (by rfl)];go_simp;refine (c0E HPU.out HZU.out HU.out _).mono ?_;rintro e a9 ⟨qa,qb,qc,qd,hu,rfl,hb⟩;have hu':UIs qa qb qc qd x:=by rw [HX.out];exact hu
         obtain ⟨rfl,rfl,rfl,rfl⟩:=hu'.uw;clear hu hu';replace L:=hh (L.out.later hb);replace HY:=bA hb HY;replace HR:=bA hb HR;replace HJ:=bA hb HJ;clear hb;replace hS:=And.intro HJ.out HY.out;refine hK _ _ (fun _ _=>hS) ?_;clear hK;refine tA1 6 41 hS ?_;go_frame;refine tA1 7 48 hS ?_;go_frame;refine tA1 8 49 hS ?_;go_frame;refine t1 9 fun K hK=>?_
         simp only [gA,jB,gC];refine wA1 25 Tryz.zeroUz ?_;intro O a10 hO;have WO:=mGe hO L.out.keep.size;have NYO:=mNe hO HY;have NRO:=mNe hO HR;have NJO:=mNe hO HJ;have HO:=hh hO.out.cells;have hbO:=hO.out.below;clear hO;replace L:=hh (L.out.later hbO);replace HY:=bA hbO HY;replace HR:=bA hbO HR;replace HJ:=bA hbO HJ;clear hbO;replace hS:=And.intro HJ.out HY.out;refine hK _ _ (fun _ _=>hS) ?_;clear hK;refine t1 10 fun K hK=>?_
         simp only [gA,jB,gC];refine wR1 25 #[.int .u64 (uw0 x),.int .u64 (uw1 x),.int .u64 (uw2 x),.int .u64 (uw3 x)] HO Tryz.sizeU ?_;intro a11 hxO kO zO;clear zO;replace L:=hh (a0n L.out HO.out rfl kO WO.out);replace HY:=ka1 kO HY NYO;replace HR:=ka1 kO HR NRO;replace HJ:=ka1 kO HJ NJO;replace HO:=hh hxO;clear hxO kO;replace hS:=And.intro HJ.out HY.out;refine hK _ _ (fun _ _=>hS) ?_;clear hK;refine tA1 11 13 hS ?_;go_frame;refine tD ?_;clear hS;go_wp2_with fail
         go_meet
         case rel=>exact ⟨O,rfl,WO,NJO,NYO,NRO,HO,HJ,HY,HR,L⟩
        ·simp only [gA,jB,gC];rw [if_pos (by rfl)];refine wA1 25 Tryz.zeroUz ?_;intro O a9 hO;have WO:=mGe hO L.out.keep.size;have NYO:=mNe hO HY;have NRO:=mNe hO HR;have NJO:=mNe hO HJ;have HO:=hh hO.out.cells;have hbO:=hO.out.below;clear hO;replace L:=hh (L.out.later hbO);replace HY:=bA hbO HY;replace HR:=bA hbO HR;replace HJ:=bA hbO HJ;clear hbO;replace hS:=And.intro HJ.out HY.out;refine hK _ _ (fun _ _=>hS) ?_;clear hK;refine t1 5 fun K hK=>?_
         simp only [gA,jB,gC];go_simp;refine (c0E HPU.out HZU.out HU.out _).mono ?_;rintro e a10 ⟨qa,qb,qc,qd,hu,rfl,hb⟩;have hu':UIs qa qb qc qd x:=by rw [HX.out];exact hu
         obtain ⟨rfl,rfl,rfl,rfl⟩:=hu'.uw;clear hu hu';replace L:=hh (L.out.later hb);replace HY:=bA hb HY;replace HR:=bA hb HR;replace HJ:=bA hb HJ;replace HO:=bA hb HO;clear hb;replace hS:=And.intro HJ.out HY.out;refine hK _ _ (fun _ _=>hS) ?_;clear hK;refine tA1 6 41 hS ?_;go_frame;refine tA1 7 48 hS ?_;go_frame;refine tA1 8 49 hS ?_;go_frame;refine t1 10 fun K hK=>?_
         simp only [gA,jB,gC];refine wR1 25 #[.int .u64 (uw0 x),.int .u64 (uw1 x),.int .u64 (uw2 x),.int .u64 (uw3 x)] HO Tryz.sizeU ?_;intro a11 hxO kO zO;clear zO;replace L:=hh (a0n L.out HO.out rfl kO WO.out);replace HY:=ka1 kO HY NYO;replace HR:=ka1 kO HR NRO;replace HJ:=ka1 kO HJ NJO;replace HO:=hh hxO;clear hxO kO;replace hS:=And.intro HJ.out HY.out;refine hK _ _ (fun _ _=>hS) ?_;clear hK;refine tA1 11 13 hS ?_;go_frame;refine tD ?_;clear hS;go_wp2_with fail
         go_meet
         case rel=>exact ⟨O,rfl,WO,NJO,NYO,NRO,HO,HJ,HY,HR,L⟩
       ·simp only [gA,jB,gC];rw [if_pos (by rfl)];refine wA1 25 Tryz.zeroUz ?_;intro O a8 hO;have WO:=mGe hO L.out.keep.size;have NYO:=mNe hO HY;have NRO:=mNe hO HR;have NJO:=mNe hO HJ;have HO:=hh hO.out.cells;have hbO:=hO.out.below;clear hO;replace L:=hh (L.out.later hbO);replace HY:=bA hbO HY;replace HR:=bA hbO HR;replace HJ:=bA hbO HJ;clear hbO;replace hS:=And.intro HJ.out HY.out;refine hK _ _ (fun _ _=>hS) ?_;clear hK;refine t1 3 fun K hK=>?_
        simp only [gA,jB,gC];go_simp;refine (b0k (L.out.look) HF0.out.f HG.out HT.out on).mono ?_;rintro e a9 ⟨za,zb,zc,zd,hu,rfl,hb⟩;have HZU:=hh hu;clear hu;replace L:=hh (L.out.later hb);replace HY:=bA hb HY;replace HR:=bA hb HR;replace HJ:=bA hb HJ;replace HO:=bA hb HO;clear hb;replace hS:=And.intro HJ.out HY.out;refine hK _ _ (fun _ _=>hS) ?_;clear hK;refine t1 5 fun K hK=>?_
        simp only [gA,jB,gC];go_simp;refine (c0E HPU.out HZU.out HU.out _).mono ?_;rintro e a10 ⟨qa,qb,qc,qd,hu,rfl,hb⟩;have hu':UIs qa qb qc qd x:=by rw [HX.out];exact hu
        obtain ⟨rfl,rfl,rfl,rfl⟩:=hu'.uw;clear hu hu';replace L:=hh (L.out.later hb);replace HY:=bA hb HY;replace HR:=bA hb HR;replace HJ:=bA hb HJ;replace HO:=bA hb HO;clear hb;replace hS:=And.intro HJ.out HY.out;refine hK _ _ (fun _ _=>hS) ?_;clear hK;refine tA1 6 41 hS ?_;go_frame;refine tA1 7 48 hS ?_;go_frame;refine tA1 8 49 hS ?_;go_frame;refine t1 10 fun K hK=>?_
        simp only [gA,jB,gC];refine wR1 25 #[.int .u64 (uw0 x),.int .u64 (uw1 x),.int .u64 (uw2 x),.int .u64 (uw3 x)] HO Tryz.sizeU ?_;intro a11 hxO kO zO;clear zO;replace L:=hh (a0n L.out HO.out rfl kO WO.out);replace HY:=ka1 kO HY NYO;replace HR:=ka1 kO HR NRO;replace HJ:=ka1 kO HJ NJO;replace HO:=hh hxO;clear hxO kO;replace hS:=And.intro HJ.out HY.out;refine hK _ _ (fun _ _=>hS) ?_;clear hK;refine tA1 11 13 hS ?_;go_frame;refine tD ?_;clear hS;go_wp2_with fail
        go_meet
        case rel=>exact ⟨O,rfl,WO,NJO,NYO,NRO,HO,HJ,HY,HR,L⟩
      ·simp only [gA,jB,gC];rw [if_pos (by rfl)];refine wA1 25 Tryz.zeroUz ?_;intro O a7 hO;have WO:=mGe hO L.out.keep.size;have NYO:=mNe hO HY;have NRO:=mNe hO HR;have NJO:=mNe hO HJ;have HO:=hh hO.out.cells;have hbO:=hO.out.below;clear hO;replace L:=hh (L.out.later hbO);replace HY:=bA hbO HY;replace HR:=bA hbO HR;replace HJ:=bA hbO HJ;clear hbO;replace hS:=And.intro HJ.out HY.out;refine hK _ _ (fun _ _=>hS) ?_;clear hK;refine t1 1 fun K hK=>?_
       simp only [gA,jB,gC];go_simp;refine (c0k (L.out.look) HF0.out.f HG.out HT.out on).mono ?_;rintro e a8 ⟨pa,pb,pc,pd,hu,rfl,hb⟩;have HPU:=hh hu;clear hu;replace L:=hh (L.out.later hb);replace HY:=bA hb HY;replace HR:=bA hb HR;replace HJ:=bA hb HJ;replace HO:=bA hb HO;clear hb;replace hS:=And.intro HJ.out HY.out;refine hK _ _ (fun _ _=>hS) ?_;clear hK;refine t1 3 fun K hK=>?_
       simp only [gA,jB,gC];go_simp;refine (b0k (L.out.look) HF0.out.f HG.out HT.out on).mono ?_;rintro e a9 ⟨za,zb,zc,zd,hu,rfl,hb⟩;have HZU:=hh hu;clear hu;replace L:=hh (L.out.later hb);replace HY:=bA hb HY;replace HR:=bA hb HR;replace HJ:=bA hb HJ;replace HO:=bA hb HO;clear hb;replace hS:=And.intro HJ.out HY.out;refine hK _ _ (fun _ _=>hS) ?_;clear hK;refine t1 5 fun K hK=>?_
       simp only [gA,jB,gC];go_simp;refine (c0E HPU.out HZU.out HU.out _).mono ?_;rintro e a10 ⟨qa,qb,qc,qd,hu,rfl,hb⟩;have hu':UIs qa qb qc qd x:=by rw [HX.out];exact hu
       obtain ⟨rfl,rfl,rfl,rfl⟩:=hu'.uw;clear hu hu';replace L:=hh (L.out.later hb);replace HY:=bA hb HY;replace HR:=bA hb HR;replace HJ:=bA hb HJ;replace HO:=bA hb HO;clear hb;replace hS:=And.intro HJ.out HY.out;refine hK _ _ (fun _ _=>hS) ?_;clear hK;refine tA1 6 41 hS ?_;go_frame;refine tA1 7 48 hS ?_;go_frame;refine tA1 8 49 hS ?_;go_frame;refine t1 10 fun K hK=>?_
       simp only [gA,jB,gC];refine wR1 25 #[.int .u64 (uw0 x),.int .u64 (uw1 x),.int .u64 (uw2 x),.int .u64 (uw3 x)] HO Tryz.sizeU ?_;intro a11 hxO kO zO;clear zO;replace L:=hh (a0n L.out HO.out rfl kO WO.out);replace HY:=ka1 kO HY NYO;replace HR:=ka1 kO HR NRO;replace HJ:=ka1 kO HJ NJO;replace HO:=hh hxO;clear hxO kO;replace hS:=And.intro HJ.out HY.out;refine hK _ _ (fun _ _=>hS) ?_;clear hK;refine tA1 11 13 hS ?_;go_frame;refine tD ?_;clear hS;go_wp2_with fail
       go_meet
       case rel=>exact ⟨O,rfl,WO,NJO,NYO,NRO,HO,HJ,HY,HR,L⟩
     case rest=>
      clear L HJ HY HR;obtain ⟨O,rfl,WO,NJO,NYO,NRO,HO,HJ,HY,HR,L⟩:=hcut;have e7:=Tryz.eqUn (uw_is HXL.out) UIs.zero
      by_cases hx0:x=0
      ·rw [decide_eq_true hx0] at e7;have HW:Hid (depE s g fr m=2∧s.dep g fr m=s∧depV s g fr m=0):=hh (c0p HIF.out (by rw [HBB.out,if_pos hx0]) (by decide));clear hx0
       go_wp2_with (first
        | (refine lR HO Tryz.underlying25 Tryz.sizeU ?_)
        | (refine a0a (t:=25) (old:=u0) rfl 25 _ _ rfl R u0 rfl rfl HR.out Tryz.sizeU rfl (a0j _ _ _ _) ?_))
       intro b1 hxR kR zR;clear zR;replace L:=hh (a0n L.out HR.out rfl kR WR.out);replace HR:=hh hxR;clear hxR kR;clear e7;go_wp2_with fail
       exact bR rfl rfl HR Tryz.underlying25 Tryz.sizeU (by rw [HW.out.1,HW.out.2.1,HW.out.2.2,a0H];exact L.out.ret)
      ·rw [decide_eq_false hx0] at e7;have HGO:=hh (m0x HIF.out (fr:=fr) (a:=m) (by rw [HBB.out,if_neg hx0]));obtain ⟨s1,s2,e1,e2,np,hN⟩:=DepN.mk' HUP.out HF0.out t g fr m;have HN:=hh hN;clear hx0 hN;obtain ⟨F9,h9⟩:∃ F9,St wc g0 s F9:=by obtain ⟨F9,h9,_⟩:=L.out;exact ⟨F9,h9⟩
       go_wp2_with (refine lR HO Tryz.underlying25 Tryz.sizeU ?_)
       clear e7;refine (g0P h9).mono ?_;rintro e _ ⟨rfl,rfl⟩;rw [← HN.out.enp];clear h9;go_wp2_with fail;obtain ⟨b1,hwz,hbz⟩:=dr wc;replace L:=hh (L.out.later hbz);replace HJ:=bA hbz HJ;replace HY:=bA hbz HY;replace HR:=bA hbz HR;replace HO:=bA hbz HO;clear hbz;refine rg2 10 10 hwz HJ HY fun hS=>?_
       clear hwz;refine tA1 0 56 hS ?_;go_frame;refine tA1 1 57 hS ?_;go_frame;refine tk 2 (some 58) rfl rfl (.inl ⟨by rfl,fun w' hS'=>(by have hc:w'.cell? ⟨J,2,none⟩=some (.int .i64 t):=Lib.cell_of_heap (hS'.1) 2;go_simp;rfl)⟩) hS ?_;go_frame;refine tA1 3 59 hS ?_;go_frame;refine tl 5 (some 61) (fun _ h=>h.1) Tryz.underlying76 Tryz.sizeSg hS ?_;go_frame;refine tl 7 (some 63) (fun _ h=>h.2) Tryz.underlying25 Tryz.sizeU hS ?_;go_frame;refine t1 4 fun K hK=>?_
       simp only [gA,jB,gC];go_simp;refine (d0U HT.out HFR.out _).mono ?_;rintro e b2 ⟨rfl,hb⟩;replace L:=hh (L.out.later hb);replace HJ:=bA hb HJ;replace HY:=bA hb HY;replace HR:=bA hb HR;replace HO:=bA hb HO;clear hb;replace hS:=And.intro HJ.out HY.out;refine hK _ _ (fun _ _=>hS) ?_;clear hK;refine t1 6 fun K hK=>?_
       simp only [gA,jB,gC];go_simp;refine (c0F HG.out HT.out (some ⟨g0,0,none⟩) on _).mono ?_;rintro e b3 ⟨rfl,hb⟩;replace L:=hh (L.out.later hb);replace HJ:=bA hb HJ;replace HY:=bA hb HY;replace HR:=bA hb HR;replace HO:=bA hb HO;clear hb;replace hS:=And.intro HJ.out HY.out;refine hK _ _ (fun _ _=>hS) ?_;clear hK;refine t1 8 fun K hK=>?_
       simp only [gA,jB,gC];go_simp;refine (L.out.call fun F hs=>d0Z hs (by have:=HZ0.out;omega) HF0.out (kAcc t fr) (kStk t g) HU.out).mono ?_;rw [show moveE (getP s.t) (kAcc t fr) (kStk t g) m=e1 from HN.out.ee1.symm,show s.moveA (kAcc t fr) (kStk t g) m=s1 from HN.out.es1.symm];rintro e b4 ⟨rfl,o,hoth⟩;replace L:=hh o;replace HJ:=oA hoth HJ;replace HY:=oA hoth HY;replace HR:=oA hoth HR;replace HO:=oA hoth HO;clear o hoth;replace hS:=And.intro HJ.out HY.out;refine hK _ _ (fun _ _=>hS) ?_;clear hK;refine tA1 9 15 hS ?_;go_frame;refine tD ?_;clear hS
       by_cases hz1:e1=0
       ·have hne:(e1 != 0)=false:=by simpa using hz1
        have hne2:(e1 == 0)=true:=by simpa using hz1
        have HEN:=hh (HN.out.end' hz1);clear hz1;go_wp2_with fail;clear hne hne2;obtain ⟨b5,hwz,hbz⟩:=dr b4;replace L:=hh (L.out.later hbz);replace HJ:=bA hbz HJ;replace HR:=bA hbz HR;replace HO:=bA hbz HO;clear hbz;refine rg2 6 6 hwz HJ HO fun hS=>?_
        clear hwz;refine tA1 0 67 hS ?_;go_frame;refine tl 1 (some 68) (fun _ h=>h.1) Tryz.underlying76 Tryz.sizeSg hS ?_;go_frame;refine tl 3 (some 70) (fun _ h=>h.2) Tryz.underlying25 Tryz.sizeU hS ?_;go_frame;refine t1 2 fun K hK=>?_
        simp only [gA,jB,gC];go_simp;refine (c0S HG.out t (some ⟨g0,0,none⟩) on _).mono ?_;rintro e b6 ⟨rfl,hb⟩;replace L:=hh (L.out.later hb);replace HJ:=bA hb HJ;replace HR:=bA hb HR;replace HO:=bA hb HO;clear hb;replace hS:=And.intro HJ.out HO.out;refine hK _ _ (fun _ _=>hS) ?_;clear hK;refine t1 4 fun K hK=>?_
        simp only [gA,jB,gC];go_simp;refine (L.out.call fun F hs=>f0X hs (by have:=HN.out.z1;have:=HZ0.out;omega) HN.out.fit (kTot g) (uw_is HXL.out)).mono ?_;rw [HX.out,← HN.out.ee2,← HN.out.es2,← HX.out];rintro e b7 ⟨rfl,o,hoth⟩;replace L:=hh o;replace HJ:=oA hoth HJ;replace HR:=oA hoth HR;replace HO:=oA hoth HO;clear o hoth;replace hS:=And.intro HJ.out HO.out;refine hK _ _ (fun _ _=>hS) ?_;clear hK;refine tA1 5 15 hS ?_;go_frame;refine tD ?_;clear hS
        by_cases hz2:e2=0
        ·have hne:(e2 != 0)=false:=by simpa using hz2
         have HW:Hid (depE s g fr m=0∧s.dep g fr m=s2∧depV s g fr m=x):=hh ⟨by rw [HGO.out.1,HEN.out.1,hz2],by rw [HGO.out.2.1,HEN.out.2,if_pos hz2],by rw [HGO.out.2.2,HEN.out.1,if_pos hz2,HX.out]⟩;clear hz2
         go_wp2_with (first
          | (refine lR HO Tryz.underlying25 Tryz.sizeU ?_)
          | (refine sR 25 #[.int .u64 (uw0 x),.int .u64 (uw1 x),.int .u64 (uw2 x),.int .u64 (uw3 x)] HR Tryz.sizeU ?_))
         intro b8 hxR kR zR;clear zR;replace L:=hh (a0n L.out HR.out rfl kR WR.out);replace HR:=hh hxR;clear hxR kR;go_wp2_with fail
         exact bR rfl rfl HR Tryz.underlying25 Tryz.sizeU (by rw [HW.out.1,HW.out.2.1,HW.out.2.2];exact L.out.ret)
        ·have hne:(e2 != 0)=true:=by simpa using hz2
         have HW:Hid (depE s g fr m=e2∧s.dep g fr m=s2.undo np∧depV s g fr m=0):=hh ⟨by rw [HGO.out.1,HEN.out.1],by rw [HGO.out.2.1,HEN.out.2,if_neg hz2,HN.out.u2],by rw [HGO.out.2.2,HEN.out.1,if_neg hz2]⟩;clear hz2;go_wp2_with fail;refine (L.out.call fun F hs=>d0j hs (by have:=HZ0.out;have h7:=HN.out.z2;unfold PS.sz at h7 this;omega) (np:Int)).mono ?_;rintro e b8 ⟨rfl,o,hoth⟩;replace L:=hh o;replace HR:=oA hoth HR;clear o hoth
         go_wp2_with (refine a0a (t:=25) (old:=u0) rfl 25 _ _ rfl R u0 rfl rfl HR.out Tryz.sizeU rfl (a0j _ _ _ _) ?_)
         intro b9 hxR kR zR;clear zR;replace L:=hh (a0n L.out HR.out rfl kR WR.out);replace HR:=hh hxR;clear hxR kR;go_wp2_with fail
         exact bR rfl rfl HR Tryz.underlying25 Tryz.sizeU (by rw [HW.out.1,HW.out.2.1,HW.out.2.2,a0H];exact L.out.ret)
       ·have hne:(e1 != 0)=true:=by simpa using hz1
        have hne2:(e1 == 0)=false:=by simpa using hz1
        have HW:Hid (depE s g fr m=e1∧s.dep g fr m=s1.undo np∧depV s g fr m=0):=hh ⟨by rw [HGO.out.1,(HN.out.bad hz1).1],by rw [HGO.out.2.1,(HN.out.bad hz1).2,HN.out.u1],by rw [HGO.out.2.2,(HN.out.bad hz1).1,if_neg hz1]⟩;clear hz1;go_wp2_with fail;refine (L.out.call fun F hs=>d0j hs (by have:=HZ0.out;have h7:=HN.out.z1;unfold PS.sz at h7 this;omega) (np:Int)).mono ?_;rintro e b5 ⟨rfl,o,hoth⟩;replace L:=hh o;replace HR:=oA hoth HR;clear o hoth
        go_wp2_with (refine a0a (t:=25) (old:=u0) rfl 25 _ _ rfl R u0 rfl rfl HR.out Tryz.sizeU rfl (a0j _ _ _ _) ?_)
        intro b6 hxR kR zR;clear zR;replace L:=hh (a0n L.out HR.out rfl kR WR.out);replace HR:=hh hxR;clear hxR kR;go_wp2_with fail
        exact bR rfl rfl HR Tryz.underlying25 Tryz.sizeU (by rw [HW.out.1,HW.out.2.1,HW.out.2.2,a0H];exact L.out.ret)
  ·have hof:on=false:=by simpa using hon
   clear hon;have HW:Hid (depE s g fr m=10∧s.dep g fr m=s∧depV s g fr m=0):=hh (c0p HIF.out (by unfold depB;rw [if_pos hof]) (by decide));have cJ3:a4.cell? ⟨J,3,none⟩=some (.bool on):=Lib.cell_of_heap HJ.out 3
   go_wp2_with (refine a0a (t:=25) (old:=u0) rfl 25 _ _ rfl R u0 rfl rfl HR.out Tryz.sizeU rfl (a0j _ _ _ _) ?_)
   intro a5 hxR kR zR;clear zR;replace L:=hh (a0n L.out HR.out rfl kR WR.out);replace HR:=hh hxR;clear hxR kR;clear hof;clear cJ3;go_wp2_with fail
   exact bR rfl rfl HR Tryz.underlying25 Tryz.sizeU (by rw [HW.out.1,HW.out.2.1,HW.out.2.2,a0H];exact L.out.ret)
end Go.Proofs.YtabminbgoclnkaaGreat
