/- Law 19: VaultBack. No condition. -/
import Derived.Test.YtabminbgoclnkaaGreatVa15
import Derived.Test.YtabminbgoclnkaaGreatVaVauL
import Derived.Deep.Cut
import Derived.OwnWalk
namespace Go.Proofs.YtabminbgoclnkaaGreat
set_option maxHeartbeats 16000000
set_option maxRecDepth 100000
open Go.RowKit

theorem n0T {s:PS} (h:getP s.t []=none) (hu:Up s.t) (a:Act19):getP (do19 s a).t []=none:=by
 unfold do19
 split
 ·exact n0X h hu _ _ _
 split
 ·exact n0W h _
 split
 ·exact n0R h _ _
 split
 ·exact o0b h _ _ _
 split
 ·exact o0a h _ _ _
 split
 ·exact n0Y h _ _ _
 split
 ·exact n0Z h _ _
 ·exact h

theorem back19_any {w:World} {v:Value} {l:List Act19} (h1:Rd w act19E 9 v l) (hgd:∀ a∈l,Good19 w a) {gi:Int} (hg:I64 gi) {x:Nat} (hx:x < uMax) :
  Calls Tryz.prog 3 #[v,.int .i64 gi,.agg #[.int .u64 (uw0 x),.int .u64 (uw1 x),.int .u64 (uw2 x),.int .u64 (uw3 x)]] w (Ret w (.bool true)):=by
 obtain ⟨ad,cap,e1,c1,c1'⟩:=h1.shape;obtain ⟨n,hn⟩:=nm (l.length);rw [← hn] at e1 c1;subst e1;have H1:=hh h1;have HN:=hh hn;have HGD:=hh hgd;have HG:=hh hg;have HXM:=hh hx;clear h1 hn hgd hg hx
 go_enter Tryz.func3,Tryz.ntmps3
 go_upto_region 1 with fail
 obtain ⟨w1,hw1⟩:=nm (w.alloc (.cells #[.int .u64 (uw0 x),.int .u64 (uw1 x),.int .u64 (uw2 x),.int .u64 (uw3 x)] 25));obtain ⟨X,hX⟩:=nm (w.heap.size);rw [← hw1,← hX];have HX:Hid (w1.heap[X]? = some (.cells #[.int .u64 (uw0 x),.int .u64 (uw1 x),.int .u64 (uw2 x),.int .u64 (uw3 x)] 25 (0,0))):=hh (by rw [hw1,hX];exact heap_alloc_new _ _);have HB:Hid (Below w.heap.size w w1):=hh (by rw [hw1];exact a0c _ _);clear hw1 hX
 by_cases hbig:60 < n
 ·go_wp2_with fail;refine (e0s _).mono ?_;rintro e w2 ⟨rfl,hb⟩;have HE:=bT HB hb;clear hb;go_wp2_with fail
  go_ret
  exact ⟨rfl,HE.out⟩
 have P60:Hid (n≤60):=hh (by omega);have HB1:Hid (Below w1.heap.size w1 w1):=hh (Below.refl _ _);go_wp2_with fail;clear hbig;refine (i0s _).mono ?_;rintro e w3 ⟨g,F,rfl,q1,hb3,q3⟩;have Q1:=hh q1;have HB3:=bT HB1 hb3;have Q3:Hid (∀ x∈F,w1.heap.size≤x):=hh fun x hx=>Nat.le_trans HB1.out.size (q3 x hx)
 clear q1 hb3 q3;go_wp2_with fail;obtain ⟨w4,hw4⟩:=nm (w3.alloc (.cells #[.slice none 0 0,.slice none 0 0] 33));obtain ⟨h,hhq⟩:=nm (w3.heap.size);rw [← hw4,← hhq];have TW:Hid (Two w1 w4 g h PS.new PS.new):=hh (by
  have hb4:Below w3.heap.size w3 w4:=by rw [hw4];exact (Below.refl _ _).alloc (Nat.le_refl _) _
  have hx4:w4.heap[h]? = some (.cells #[.slice none 0 0,.slice none 0 0] 33 (0,0)):=by rw [hw4,hhq];exact heap_alloc_new _ _
  have hrs:RS w4 h PS.new (rfoot h (.slice none 0 0) (.slice none 0 0)):=⟨_,_,⟨hx4,LO.nil _ _ _ _,LO.nil _ _ _ _,List.Pairwise.nil⟩,rfl⟩;refine ⟨F,_,Q1.out.later hb4,hrs,Q3.out,fun x hx=>?_,HB3.out.trans (hb4.mono HB3.out.size)⟩;rw [b0t] at hx
  rcases hx with e | e | e
  ·rw [e,hhq];exact HB3.out.size
  ·cases e
  ·cases e)
 clear hw4 hhq Q1 Q3 HB3;go_wp2_with fail
 go_loopw [30] (fun vi wr=>∃ (i:Nat) (s:PS),vi = .int .i64 i∧i≤n∧Hid (s.sz≤6*i)∧Hid (Fit s)∧Hid (getP s.t []=none)∧Hid (Two w1 wr g h s s)) (fun vi _=>n - (intOf vi).toNat)
 case atStart=>exact ⟨0,_,rfl,Nat.zero_le _,hh (Nat.le_refl _),hh Fit.new,hh rfl,TW⟩
 case round=>
  clear TW;obtain ⟨i,s,rfl,hin,HZ,HF,HNL,TF⟩:=hrel
  by_cases hlt:i < n
  ·have hj:i < l.length:=by rw [← HN.out];exact hlt
   obtain ⟨gL,off,rfl,hgL,q0,q1,q2,q3,q4,q5,q6,q7,q8⟩:=Rd.act19 H1.out i hj;have hbw:=HB.out.trans (TF.out.below.mono HB.out.size);have q0':=(hbw.cell (p:=⟨gL,off+i*9,none⟩) hgL).trans q0;have q1':=(hbw.cell (p:=⟨gL,off+i*9+1,none⟩) hgL).trans q1;have q2':=(hbw.cell (p:=⟨gL,off+i*9+2,none⟩) hgL).trans q2;have q3':=(hbw.cell (p:=⟨gL,off+i*9+3,none⟩) hgL).trans q3;have q4':=(hbw.cell (p:=⟨gL,off+i*9+4,none⟩) hgL).trans q4;have q5':=(hbw.cell (p:=⟨gL,off+i*9+5,none⟩) hgL).trans q5;have q6':=(hbw.cell (p:=⟨gL,off+i*9+6,none⟩) hgL).trans q6;have q7':=(hbw.cell (p:=⟨gL,off+i*9+7,none⟩) hgL).trans q7;have q8':=(hbw.cell (p:=⟨gL,off+i*9+8,none⟩) hgL).trans q8;have hmem:l[i]∈l:=List.getElem_mem hj;obtain ⟨a,ha⟩:=nm (l[i]);rw [← ha] at hmem q0' q1' q2' q3' q4' q5' q6' q7' q8';have HJL:=hh hlt;have HGX:=hh (HGD.out a hmem);have HI:Hid (i≤60):=hh (by have:=P60.out;omega);have HU:=hh TF.out.up;obtain ⟨s2,hs2⟩:=nm (do19 s a);have HS2:=hh hs2;have HZ2:Hid (s2.sz≤6*(i+1)):=hh (by have h7:=m0Y HU.out a;have h8:=HZ.out;rw [hs2];omega);have HF2:Hid (Fit s2):=hh (by rw [hs2];exact m0o HF.out HU.out a);have HN2:Hid (getP s2.t []=none):=hh (by rw [hs2];exact n0T HNL.out HU.out a);clear ha q0 q1 q2 q3 q4 q5 q6 q7 q8 hgL hj hmem hbw hs2 hin
   go_wp2_with (refine sA _ Tryz.zeroAct19 ?_)
   intro R d1 hR;have WR:=mGe hR TF.out.below.size;have HR:=hh hR.out.cells;have hbR:=hR.out.below;clear hR;replace TF:=hh (TF.out.later hbR);clear hbR
   go_wp2_with (refine sR 35 #[.int .i64 a.k,.int .i64 a.g,.int .i64 a.n,.int .i64 a.who,.bool a.on,.int .u64 (uw0 a.m),.int .u64 (uw1 a.m),.int .u64 (uw2 a.m),.int .u64 (uw3 a.m)] HR Tryz.sizeAct19 ?_)
   intro d2 hxR kR zR;clear zR;replace TF:=hh (b0l TF.out HR.out rfl rfl kR WR.out);replace HR:=hh hxR;clear hxR kR;clear q0' q1' q2' q3' q4' q5' q6' q7' q8' hlt;have hi60:i≤60:=HI.out
   go_wp2_with (refine lR HR Tryz.underlying35 Tryz.sizeAct19 ?_)
   refine (j0M TF.out (by have:=HZ.out;have:=HI.out;omega) HF.out (a:=a) (HGX.out.later (HB.out.trans (TF.out.below.mono HB.out.size)))).mono ?_;rw [← HS2.out];rintro e d3 ⟨rfl,o,hoth⟩;replace TF:=hh o;clear o hoth;go_wp2_with fail;clear hi60
   go_roundw
   case rel=>exact ⟨i+1,s2,by go_num,HJL.out,HZ2,HF2,HN2,TF⟩
   case measure=>have:=HJL.out;simp [intOf];omega
  ·obtain rfl:i=n:=by omega
   clear hlt;have HSZ:Hid (s.sz < 1000):=hh (by have h9:=HZ.out;have h8:=P60.out;omega);have HU:=hh TF.out.up;obtain ⟨it,hit⟩:=nm (infT (getP s.t) gi);obtain ⟨io,hio⟩:=nm (infO (getP s.t) gi);obtain ⟨ik,hik⟩:=nm (infK (getP s.t) gi);have HIT:=hh (And.intro hit (And.intro hio hik));clear hit hio hik;go_wp2_with fail;obtain ⟨F9,h9⟩:=TF.out.get1;refine (l0e (Look.of_st h9) HF.out.f HG.out).mono ?_;rw [← HIT.out.1,← HIT.out.2.1,← HIT.out.2.2];rintro e v1 ⟨rfl,hb⟩;clear h9;replace TF:=hh (TF.out.later hb);clear hb
   cases hi:infF (getP s.t) gi with
   | none=>
    have hik:ik=false:=HIT.out.2.2.trans (a0s hi).2.2;subst hik;clear hi;go_wp2_with fail;refine (e0s _).mono ?_;rintro e v2 ⟨rfl,hb⟩;replace TF:=hh (TF.out.later hb);clear hb;go_wp2_with fail
    go_ret
    exact ⟨rfl,HB.out.trans (TF.out.below.mono HB.out.size)⟩
   | some p=>
    obtain ⟨t,on⟩:=p;obtain ⟨e5,e6,e7⟩:=a0v hi;have hit:it=t:=HIT.out.1.trans e5;have hio:io=on:=HIT.out.2.1.trans e6;have hik:ik=true:=HIT.out.2.2.trans e7;have HTI:Hid (I64 t):=hh (by have:=a0z hi;unfold I64;omega);have HI2:=hh hi;subst hit;subst hio;subst hik;clear e5 e6 e7 hi HIT;obtain ⟨er,her⟩:=nm (mintE s it 77 x);obtain ⟨s1,hs1⟩:=nm (s.mint it 77 x);have HER:=hh her;have HS1:=hh hs1;have HZ1:Hid (s1.sz < 1010):=hh (by have h7:=k0Z HU.out it 77 x;have h8:=HSZ.out;rw [hs1];omega);have HF1:Hid (Fit s1):=hh (by rw [hs1];exact i0H HF.out HU.out _ _ _);clear her hs1;have hx9:=a0d TF.out.below HX.out;have cX0:v1.cell? ⟨X,0,none⟩=some (.int .u64 (uw0 x)):=Lib.cell_of_heap hx9 0;have cX1:v1.cell? ⟨X,1,none⟩=some (.int .u64 (uw1 x)):=Lib.cell_of_heap hx9 1;have cX2:v1.cell? ⟨X,2,none⟩=some (.int .u64 (uw2 x)):=Lib.cell_of_heap hx9 2;have cX3:v1.cell? ⟨X,3,none⟩=some (.int .u64 (uw3 x)):=Lib.cell_of_heap hx9 3;clear hx9;go_wp2_with fail;clear cX0 cX1 cX2 cX3;refine (TF.out.st fun F hs=>h0M hs (by have:=HSZ.out;omega) HF.out HTI.out (by unfold I64;omega) (uw_is HXM.out)).mono ?_;rw [← HER.out,← HS1.out];rintro e v2 ⟨rfl,o,hoth⟩;replace TF:=hh o;clear o hoth
    by_cases he:er=0
    ·have HQ:Hid (Bq s1 gi it io x):=hh (by rw [HS1.out];exact Bq.mint HNL.out HI2.out (HER.out.symm.trans he));have be:(er != 0)=false:=by rw [he];rfl
     obtain ⟨wb,hwb⟩:=nm (amtV (getP s1.t) (kAcc it 77));have HWB:=hh hwb;clear hwb;go_wp2_with fail;clear be he;obtain ⟨F9,h9⟩:=TF.out.get1;refine (h0z (Look.of_st h9) HF1.out.f HTI.out (n:=77) (by unfold I64;omega)).mono ?_
     try rw [← HWB.out]
     rintro e v3 ⟨ya,yb,yc,yd,hu,rfl,hb⟩;obtain ⟨rfl,rfl,rfl,rfl⟩:=hu.uw;clear hu h9;replace TF:=hh (TF.out.later hb);clear hb
     go_wp2_with (refine sA _ Tryz.zeroUz ?_)
     intro W v4 hW;have WW:=mGe hW TF.out.below.size;have HW:=hh hW.out.cells;have hbW:=hW.out.below;clear hW;replace TF:=hh (TF.out.later hbW);clear hbW
     go_wp2_with (refine sR 25 #[.int .u64 (uw0 wb),.int .u64 (uw1 wb),.int .u64 (uw2 wb),.int .u64 (uw3 wb)] HW Tryz.sizeU ?_)
     intro v5 hxW kW zW;clear zW;replace TF:=hh (b0l TF.out HW.out rfl rfl kW WW.out);replace HW:=hh hxW;clear hxW kW;obtain ⟨dv,hdv⟩:=nm (depV s1 gi 77 x);obtain ⟨de,hde⟩:=nm (depE s1 gi 77 x);obtain ⟨s2,hs2⟩:=nm (s1.dep gi 77 x);have HDV:=hh hdv;have HDE:=hh hde;have HS2:=hh hs2;have HZ2:Hid (s2.sz < 1020):=hh (by have h7:=m0B s1 gi 77 x;have h8:=HZ1.out;rw [hs2];omega);have HF2:Hid (Fit s2):=hh (by rw [hs2];exact j0C HF1.out _ _ _);clear hdv hde hs2;have hx9:=a0d TF.out.below HX.out;have cX0:v5.cell? ⟨X,0,none⟩=some (.int .u64 (uw0 x)):=Lib.cell_of_heap hx9 0;have cX1:v5.cell? ⟨X,1,none⟩=some (.int .u64 (uw1 x)):=Lib.cell_of_heap hx9 1;have cX2:v5.cell? ⟨X,2,none⟩=some (.int .u64 (uw2 x)):=Lib.cell_of_heap hx9 2;have cX3:v5.cell? ⟨X,3,none⟩=some (.int .u64 (uw3 x)):=Lib.cell_of_heap hx9 3;clear hx9;go_wp2_with fail;clear cX0 cX1 cX2 cX3;refine (TF.out.st fun F hs=>d0H hs (by have:=HZ1.out;omega) HF1.out HG.out (fr:=77) (by unfold I64;omega) (uw_is HXM.out)).mono ?_;rw [← HDV.out,← HDE.out,← HS2.out];rintro e v6 ⟨rfl,o,hoth⟩;replace TF:=hh o;replace HW:=oA hoth HW;clear o hoth
     go_wp2_with (refine sA _ Tryz.zeroUz ?_)
     intro V v7 hV;have WV:=mGe hV TF.out.below.size;have NWV:=mNe hV HW;have HV:=hh hV.out.cells;have hbV:=hV.out.below;clear hV;replace TF:=hh (TF.out.later hbV);replace HW:=bA hbV HW;clear hbV
     go_wp2_with (refine sR 25 #[.int .u64 (uw0 dv),.int .u64 (uw1 dv),.int .u64 (uw2 dv),.int .u64 (uw3 dv)] HV Tryz.sizeU ?_)
     intro v8 hxV kV zV;clear zV;replace TF:=hh (b0l TF.out HV.out rfl rfl kV WV.out);replace HW:=ka1 kV HW NWV;replace HV:=hh hxV;clear hxV kV
     by_cases hd:de=0
     ·have HDD:=hh (HQ.out.dep (HDE.out.symm.trans hd));rw [← HS2.out,← HDV.out] at HDD;have hon:io=true:=HDD.out.1;subst hon;have be:(de != 0)=false:=by rw [hd];rfl
      obtain ⟨s3,hs3⟩:=nm (s2.allow gi false);have HS3:=hh hs3;have HZ3:Hid (s3.sz < 1030):=hh (by have h7:=m0l s2 gi false;have h8:=HZ2.out;rw [hs3];omega);have HF3:Hid (Fit s3):=hh (by rw [hs3];exact k0M HF2.out _ _);have HD3:Hid (Dq s1 s3 gi it false x dv):=hh (by rw [hs3];exact HDD.out.2.allow);have HXV:Hid (dv < uMax):=hh (by rw [HDV.out];exact n0e _ _ _ _);clear hs3;go_wp2_with fail;clear be hd;refine (TF.out.st fun F hs=>j0y hs (by have:=HZ2.out;omega) HF2.out HG.out false).mono ?_;rw [← HS3.out];rintro e v9 ⟨rfl,o,hoth⟩;replace TF:=hh o;replace HW:=oA hoth HW;replace HV:=oA hoth HV;clear o hoth;obtain ⟨d2,hd2⟩:=nm (depV s3 gi 77 x);have HD2:=hh hd2;clear hd2;have hx9:=a0d TF.out.below HX.out;have cX0:v9.cell? ⟨X,0,none⟩=some (.int .u64 (uw0 x)):=Lib.cell_of_heap hx9 0;have cX1:v9.cell? ⟨X,1,none⟩=some (.int .u64 (uw1 x)):=Lib.cell_of_heap hx9 1;have cX2:v9.cell? ⟨X,2,none⟩=some (.int .u64 (uw2 x)):=Lib.cell_of_heap hx9 2;have cX3:v9.cell? ⟨X,3,none⟩=some (.int .u64 (uw3 x)):=Lib.cell_of_heap hx9 3;clear hx9;go_wp2_with fail;clear cX0 cX1 cX2 cX3;refine (TF.out.st fun F hs=>d0H hs (by have:=HZ3.out;omega) HF3.out HG.out (fr:=77) (by unfold I64;omega) (uw_is HXM.out)).mono ?_;rw [HD3.out.state.1,HD3.out.state.2,← HD2.out];rintro e v10 ⟨rfl,o,hoth⟩;replace TF:=hh o
      replace HW:=oA hoth HW;replace HV:=oA hoth HV;clear o hoth
      go_wp2_with (refine sA _ Tryz.zeroUz ?_)
      intro Y v11 hY;have WY:=mGe hY TF.out.below.size;have NWY:=mNe hY HW;have NVY:=mNe hY HV;have HY:=hh hY.out.cells;have hbY:=hY.out.below;clear hY;replace TF:=hh (TF.out.later hbY);replace HW:=bA hbY HW;replace HV:=bA hbY HV;clear hbY
      go_wp2_with (refine sR 25 #[.int .u64 (uw0 d2),.int .u64 (uw1 d2),.int .u64 (uw2 d2),.int .u64 (uw3 d2)] HY Tryz.sizeU ?_)
      intro v12 hxY kY zY;clear zY;replace TF:=hh (b0l TF.out HY.out rfl rfl kY WY.out);replace HW:=ka1 kY HW NWY;replace HV:=ka1 kY HV NVY;replace HY:=hh hxY;clear hxY kY;obtain ⟨rv,hrv⟩:=nm (redV s3 gi 77 dv);obtain ⟨s4,hs4⟩:=nm (s3.red gi 77 dv);have HRV:=hh hrv;have HS4:=hh hs4;have HF4:Hid (Fit s4):=hh (by rw [hs4];exact m0Q HF3.out _ _ _);have HRL:Hid (rv≤x∧rv < uMax):=hh (by rw [hrv];exact ⟨HD3.out.red.2.1,m0R _ _ _ _⟩);obtain ⟨eb,heb⟩:=nm (amtV (getP s4.t) (kAcc it 77));have HEB:=hh heb;have HLE:Hid (eb≤wb):=hh (by rw [heb,hs4,HWB.out];exact HD3.out.red.2.2);clear hrv hs4 heb;have cV0:v12.cell? ⟨V,0,none⟩=some (.int .u64 (uw0 dv)):=Lib.cell_of_heap HV.out 0;have cV1:v12.cell? ⟨V,1,none⟩=some (.int .u64 (uw1 dv)):=Lib.cell_of_heap HV.out 1;have cV2:v12.cell? ⟨V,2,none⟩=some (.int .u64 (uw2 dv)):=Lib.cell_of_heap HV.out 2;have cV3:v12.cell? ⟨V,3,none⟩=some (.int .u64 (uw3 dv)):=Lib.cell_of_heap HV.out 3;go_wp2_with fail;clear cV0 cV1 cV2 cV3;refine (TF.out.st fun F hs=>h0J hs (by have:=HZ3.out;omega) HF3.out HG.out (fr:=77) (by unfold I64;omega) (uw_is HXV.out)).mono ?_;rw [HD3.out.red.1,← HRV.out,← HS4.out];rintro e v13 ⟨rfl,o,hoth⟩;replace TF:=hh o;replace HW:=oA hoth HW;replace HV:=oA hoth HV;replace HY:=oA hoth HY;clear o hoth
      go_wp2_with (refine sA _ Tryz.zeroUz ?_)
      intro Z v14 hZ;have WZ:=mGe hZ TF.out.below.size;have NWZ:=mNe hZ HW;have NVZ:=mNe hZ HV;have NYZ:=mNe hZ HY;have HZ:=hh hZ.out.cells;have hbZ:=hZ.out.below;clear hZ;replace TF:=hh (TF.out.later hbZ);replace HW:=bA hbZ HW;clear hbZ
      go_wp2_with (refine sR 25 #[.int .u64 (uw0 rv),.int .u64 (uw1 rv),.int .u64 (uw2 rv),.int .u64 (uw3 rv)] HZ Tryz.sizeU ?_)
      intro v15 hxZ kZ zZ;clear zZ;replace TF:=hh (b0l TF.out HZ.out rfl rfl kZ WZ.out);replace HW:=ka1 kZ HW NWZ;replace HZ:=hh hxZ;clear hxZ kZ;have HXn:=hh (a0d TF.out.below HX.out);go_wp2_with fail;have HXc:=HXn;clear HXn;clear HX;have HX:=HXc;clear HXc;obtain ⟨v16,hwz,hbz⟩:=dr v15;replace TF:=hh (TF.out.later hbz);replace HW:=bA hbz HW;replace HZ:=bA hbz HZ;replace HX:=bA hbz HX;clear hbz;refine rg3 27 27 hwz HX HW HZ fun hS=>?_
      clear hwz;refine tA1 0 100 hS ?_;go_frame;refine tA1 1 101 hS ?_;go_frame;refine tA1 2 102 hS ?_;go_frame;refine tA1 3 103 hS ?_;go_frame;refine tA1 4 104 hS ?_;go_frame;refine tA1 5 105 hS ?_;go_frame;refine tA1 6 106 hS ?_;go_frame;refine tA1 7 107 hS ?_;go_frame;refine tA1 8 108 hS ?_;go_frame;refine tA1 9 109 hS ?_;go_frame;refine tl 10 (some 110) (fun _ h=>h.2.2) Tryz.underlying25 Tryz.sizeU hS ?_;go_frame;refine tl 11 (some 111) (fun _ h=>h.1) Tryz.underlying25 Tryz.sizeU hS ?_;go_frame;refine t1 12 fun K hK=>?_
      simp only [gA,jB,gC];go_simp;refine (h0S (uw_is HRL.out.2) (uw_is HXM.out) _).mono ?_;obtain ⟨cv,hcv⟩:=nm (cmpV rv x);rw [← hcv];have hc0:decide (cv≤0)=true:=decide_eq_true (by rw [hcv];have:=HRL.out.1;unfold cmpV;split;omega;split<;>omega);clear hcv;rintro e v17 ⟨rfl,hb⟩;replace TF:=hh (TF.out.later hb);replace HW:=bA hb HW;replace HZ:=bA hb HZ;replace HX:=bA hb HX;clear hb;replace hS:=And.intro HX.out (And.intro HW.out HZ.out);refine hK _ _ (fun _ _=>hS) ?_;clear hK;refine tA1 13 113 hS ?_;go_frame;refine tA1 14 114 hS ?_;go_frame;refine tA1 15 115 hS ?_;go_frame;refine tA1 16 116 hS ?_;go_frame;refine tA1 17 117 hS ?_;go_frame;refine tl 19 (some 119) (fun _ h=>h.2.1) Tryz.underlying25 Tryz.sizeU hS ?_;go_frame;refine t1 18 fun K hK=>?_
      simp only [gA,jB,gC];go_simp;obtain ⟨F9,h9⟩:=TF.out.get1;refine (h0z (Look.of_st h9) HF4.out.f HTI.out (n:=77) (by unfold I64;omega)).mono ?_;rw [← HEB.out];rintro e v18 ⟨ya,yb,yc,yd,hu,rfl,hb⟩;obtain ⟨rfl,rfl,rfl,rfl⟩:=hu.uw;clear hu h9;replace TF:=hh (TF.out.later hb);replace HW:=bA hb HW;replace HZ:=bA hb HZ;replace HX:=bA hb HX;clear hb;replace hS:=And.intro HX.out (And.intro HW.out HZ.out);refine hK _ _ (fun _ _=>hS) ?_;clear hK;refine t1 20 fun K hK=>?_
      simp only [gA,jB,gC];go_simp;refine (h0S (uw_is (by rw [HEB.out];exact j0u _ _)) (uw_is (by rw [HWB.out];exact j0u _ _)) _).mono ?_;obtain ⟨cw,hcw⟩:=nm (cmpV eb wb);rw [← hcw];have hc2:decide (cw≤0)=true:=decide_eq_true (by rw [hcw];have:=HLE.out;unfold cmpV;split;omega;split<;>omega);clear hcw;rintro e v19 ⟨rfl,hb⟩;replace TF:=hh (TF.out.later hb);replace HW:=bA hb HW;replace HZ:=bA hb HZ;replace HX:=bA hb HX;clear hb;replace hS:=And.intro HX.out (And.intro HW.out HZ.out);refine hK _ _ (fun _ _=>hS) ?_;clear hK;refine tA1 21 121 hS ?_;go_frame;refine tA1 22 122 hS ?_;go_frame;refine tA1 23 123 hS ?_;go_frame;refine t1 24 fun K hK=>?_
      simp only [gA,jB,gC];go_simp;refine (e0s _).mono ?_;rintro e v20 ⟨rfl,hb⟩;replace TF:=hh (TF.out.later hb);replace HW:=bA hb HW;replace HZ:=bA hb HZ;replace HX:=bA hb HX;clear hb;replace hS:=And.intro HX.out (And.intro HW.out HZ.out);refine hK _ _ (fun _ _=>hS) ?_;clear hK;refine tA1 25 125 hS ?_;go_frame;refine tA1 26 6 hS ?_;go_frame;refine tD ?_;clear hS;go_wp2_with fail
      go_ret
      exact ⟨rfl,HB.out.trans (TF.out.below.mono HB.out.size)⟩
     ·have HSS:Hid (s2=s1):=hh (HS2.out.trans (HQ.out.none (fun h9=>hd (HDE.out.trans h9))));have e8:(de == 10) = !io:=by rw [HDE.out];exact HQ.out.state
      have be:(de != 0)=true:=bne_iff_ne.2 hd;go_wp2_with fail;clear be hd;obtain ⟨v9,hwz,hbz⟩:=dr v8;replace TF:=hh (TF.out.later hbz);replace HW:=bA hbz HW;clear hbz;refine rg1 16 16 hwz HW fun hS=>?_
      clear hwz;refine tA1 0 68 hS ?_;go_frame;refine tA1 1 69 hS ?_;go_frame;refine tA1 2 70 hS ?_;go_frame;refine tA1 3 71 hS ?_;go_frame;refine tA1 4 72 hS ?_;go_frame;refine tA1 5 73 hS ?_;go_frame;refine tA1 6 74 hS ?_;go_frame;refine tA1 7 75 hS ?_;go_frame;refine tl 9 (some 77) (fun _ h=>h) Tryz.underlying25 Tryz.sizeU hS ?_;go_frame;refine t1 8 fun K hK=>?_
      simp only [gA,jB,gC];go_simp;obtain ⟨F9,h9⟩:=TF.out.get1;refine (h0z (Look.of_st h9) HF2.out.f HTI.out (n:=77) (by unfold I64;omega)).mono ?_;rw [HSS.out,← HWB.out];rintro e v10 ⟨ya,yb,yc,yd,hu,rfl,hb⟩;obtain ⟨rfl,rfl,rfl,rfl⟩:=hu.uw;clear hu h9;have hwl:wb < uMax:=by rw [HWB.out];exact j0u _ _
      have e7:=Tryz.eqUn (uw_is hwl) (uw_is hwl);rw [decide_eq_true rfl] at e7;clear hwl;replace TF:=hh (TF.out.later hb);replace HW:=bA hb HW;clear hb;replace hS:=HW.out;refine hK _ _ (fun _ _=>hS) ?_;clear hK;refine tA1 10 78 hS ?_;go_frame;refine tA1 11 79 hS ?_;go_frame;refine tA1 12 80 hS ?_;go_frame;refine t1 13 fun K hK=>?_
      simp only [gA,jB,gC];go_simp;refine (e0s _).mono ?_;rintro e v11 ⟨rfl,hb⟩;replace TF:=hh (TF.out.later hb);replace HW:=bA hb HW;clear hb;replace hS:=HW.out;refine hK _ _ (fun _ _=>hS) ?_;clear hK;refine tA1 14 82 hS ?_;go_frame;refine tA1 15 6 hS ?_;go_frame;refine tD ?_;clear hS;go_wp2_with fail
      go_ret
      exact ⟨rfl,HB.out.trans (TF.out.below.mono HB.out.size)⟩
    ·have be:(er != 0)=true:=bne_iff_ne.2 he;go_wp2_with fail;clear be;refine (e0s _).mono ?_;rintro e v3 ⟨rfl,hb⟩;replace TF:=hh (TF.out.later hb);clear hb;go_wp2_with fail
     go_ret
     exact ⟨rfl,HB.out.trans (TF.out.below.mono HB.out.size)⟩
end Go.Proofs.YtabminbgoclnkaaGreat
