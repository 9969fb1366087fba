/- Law 19: VaultActs. No condition. -/
import Derived.Test.YtabminbgoclnkaaGreatVa15
import Derived.Deep.Cut
import Derived.OwnWalk
namespace Go.Proofs.YtabminbgoclnkaaGreat
set_option maxHeartbeats 16000000
set_option maxRecDepth 100000
open Go.RowKit

theorem acts19_any {w:World} {v:Value} {l:List Act19} (h1:Rd w act19E 9 v l) (hgd:∀ a∈l,Good19 w a) :
  Calls Tryz.prog 4 #[v] w (Ret w (.bool true)):=by
 obtain ⟨ad,cap,e1,c1,c1'⟩:=h1.shape;obtain ⟨n,hn⟩:=nm (l.length);rw [← hn] at e1 c1;subst e1;have H1:=hh h1;have HN:=hh hn;have HGD:=hh hgd;clear h1 hn hgd
 by_cases hbig:100 < n
 ·go_enter Tryz.func4,Tryz.ntmps4
  go_wp2_with fail;refine (e0s _).mono ?_;rintro e w2 ⟨rfl,hb⟩;have HB:=hh hb;clear hb;go_wp2_with fail
  go_ret
  exact ⟨rfl,HB.out⟩
 have P100:Hid (n≤100):=hh (by omega);have HB:Hid (Below w.heap.size w w):=hh (Below.refl _ _)
 go_enter Tryz.func4,Tryz.ntmps4
 go_wp2_with fail;clear hbig;refine (i0s _).mono ?_;rintro e w3 ⟨g,F,rfl,q1,hb3,q3⟩;have Q1:=hh q1;have HB3:=bT HB hb3;have Q3:Hid (∀ x∈F,w.heap.size≤x):=hh fun x hx=>Nat.le_trans HB.out.size (q3 x hx)
 clear q1 hb3 q3;go_wp2_with fail;obtain ⟨w4,hw4⟩:=nm (w3.alloc (.cells #[.slice none 0 0,.slice none 0 0] 33));obtain ⟨h,hhq⟩:=nm (w3.heap.size);rw [← hw4,← hhq];have TW:Hid (Two w w4 g h PS.new PS.new):=hh (by
  have hb4:Below w3.heap.size w3 w4:=by rw [hw4];exact (Below.refl _ _).alloc (Nat.le_refl _) _
  have hx4:w4.heap[h]? = some (.cells #[.slice none 0 0,.slice none 0 0] 33 (0,0)):=by rw [hw4,hhq];exact heap_alloc_new _ _
  have hrs:RS w4 h PS.new (rfoot h (.slice none 0 0) (.slice none 0 0)):=⟨_,_,⟨hx4,LO.nil _ _ _ _,LO.nil _ _ _ _,List.Pairwise.nil⟩,rfl⟩;refine ⟨F,_,Q1.out.later hb4,hrs,Q3.out,fun x hx=>?_,HB3.out.trans (hb4.mono HB3.out.size)⟩;rw [b0t] at hx
  rcases hx with e | e | e
  ·rw [e,hhq];exact HB3.out.size
  ·cases e
  ·cases e)
 clear hw4 hhq Q1 Q3 HB3
 go_loopw [22] (fun vi wr=>∃ (i:Nat) (s:PS),vi = .int .i64 i∧i≤n∧Hid (s.sz≤6*i)∧Hid (Fit s)∧Hid (Two w wr g h s s)) (fun vi _=>n - (intOf vi).toNat)
 case atStart=>exact ⟨0,_,rfl,Nat.zero_le _,hh (Nat.le_refl _),hh Fit.new,TW⟩
 case round=>
  clear TW;obtain ⟨i,s,rfl,hin,HZ,HF,TF⟩:=hrel
  by_cases hlt:i < n
  ·have hj:i < l.length:=by rw [← HN.out];exact hlt
   obtain ⟨gL,off,rfl,hgL,q0,q1,q2,q3,q4,q5,q6,q7,q8⟩:=Rd.act19 H1.out i hj;have hbw:=TF.out.below;have q0':=(hbw.cell (p:=⟨gL,off+i*9,none⟩) hgL).trans q0;have q1':=(hbw.cell (p:=⟨gL,off+i*9+1,none⟩) hgL).trans q1;have q2':=(hbw.cell (p:=⟨gL,off+i*9+2,none⟩) hgL).trans q2;have q3':=(hbw.cell (p:=⟨gL,off+i*9+3,none⟩) hgL).trans q3;have q4':=(hbw.cell (p:=⟨gL,off+i*9+4,none⟩) hgL).trans q4;have q5':=(hbw.cell (p:=⟨gL,off+i*9+5,none⟩) hgL).trans q5;have q6':=(hbw.cell (p:=⟨gL,off+i*9+6,none⟩) hgL).trans q6;have q7':=(hbw.cell (p:=⟨gL,off+i*9+7,none⟩) hgL).trans q7;have q8':=(hbw.cell (p:=⟨gL,off+i*9+8,none⟩) hgL).trans q8;have hmem:l[i]∈l:=List.getElem_mem hj;obtain ⟨a,ha⟩:=nm (l[i]);rw [← ha] at hmem q0' q1' q2' q3' q4' q5' q6' q7' q8';have HJL:=hh hlt;have HGX:=hh (HGD.out a hmem);have HI:Hid (i≤100):=hh (by have:=P100.out;omega);have HU:=hh TF.out.up;obtain ⟨s2,hs2⟩:=nm (do19 s a);have HS2:=hh hs2;have HZ2:Hid (s2.sz≤6*(i+1)):=hh (by have h7:=m0Y HU.out a;have h8:=HZ.out;rw [hs2];omega);have HF2:Hid (Fit s2):=hh (by rw [hs2];exact m0o HF.out HU.out a);clear ha q0 q1 q2 q3 q4 q5 q6 q7 q8 hgL hj hmem hbw hs2 hin
   go_wp2_with (refine sA _ Tryz.zeroAct19 ?_)
   intro R d1 hR;have WR:=mGe hR TF.out.below.size;have HR:=hh hR.out.cells;have hbR:=hR.out.below;clear hR;replace TF:=hh (TF.out.later hbR);clear hbR
   go_wp2_with (refine sR 35 #[.int .i64 a.k,.int .i64 a.g,.int .i64 a.n,.int .i64 a.who,.bool a.on,.int .u64 (uw0 a.m),.int .u64 (uw1 a.m),.int .u64 (uw2 a.m),.int .u64 (uw3 a.m)] HR Tryz.sizeAct19 ?_)
   intro d2 hxR kR zR;clear zR;replace TF:=hh (b0l TF.out HR.out rfl rfl kR WR.out);replace HR:=hh hxR;clear hxR kR;clear q0' q1' q2' q3' q4' q5' q6' q7' q8' hlt;have hi100:i≤100:=HI.out;go_wp2_with fail;obtain ⟨d3,hwz,hbz⟩:=dr d2;replace TF:=hh (TF.out.later hbz);replace HR:=bA hbz HR;clear hbz;refine rg1 49 49 hwz HR fun hS=>?_
   clear hwz;refine tA1 0 26 hS ?_;go_frame;refine tA1 1 27 hS ?_;go_frame;refine tl 2 (some 28) (fun _ h=>h) Tryz.underlying35 Tryz.sizeAct19 hS ?_;go_frame;refine t1 3 fun K hK=>?_
   simp only [gA,jB,gC];go_simp;refine (j0M TF.out (by have:=HZ.out;have:=HI.out;omega) HF.out (a:=a) (HGX.out.later (TF.out.below))).mono ?_;rw [← HS2.out];rintro e d4 ⟨rfl,o,hoth⟩;replace TF:=hh o;replace HR:=oA hoth HR;clear o hoth;replace hS:=HR.out;refine hK _ _ (fun _ _=>hS) ?_;clear hK;refine tA1 4 30 hS ?_;go_frame;refine tA1 5 31 hS ?_;go_frame;refine tA1 6 32 hS ?_;go_frame;refine tA1 7 33 hS ?_;go_frame;refine tk 8 (some 34) rfl rfl (.inl ⟨by rfl,fun w' hS'=>(by have hc:w'.cell? ⟨R,1,none⟩=some (.int .i64 a.g):=Lib.cell_of_heap (hS') 1;go_simp;rfl)⟩) hS ?_;go_frame;refine tA1 10 36 hS ?_;go_frame;refine tA1 11 37 hS ?_;go_frame;refine tk 12 (some 38) rfl rfl (.inl ⟨by rfl,fun w' hS'=>(by have hc:w'.cell? ⟨R,1,none⟩=some (.int .i64 a.g):=Lib.cell_of_heap (hS') 1;go_simp;rfl)⟩) hS ?_;go_frame;refine t1 9 fun K hK=>?_
   simp only [gA,jB,gC];go_simp;obtain ⟨F9,h9⟩:=TF.out.get1;refine (i0V (Look.of_st h9) HF2.out.f HGX.out.b_g).mono ?_;rintro e d5 ⟨xaa,xab,xac,xad,hu,rfl,hb⟩;have HxaU:=hh hu;clear hu h9;replace TF:=hh (TF.out.later hb);replace HR:=bA hb HR;clear hb;replace hS:=HR.out;refine hK _ _ (fun _ _=>hS) ?_;clear hK;refine t1 13 fun K hK=>?_
   simp only [gA,jB,gC];go_simp;obtain ⟨F9,h9⟩:=TF.out.get2;refine (a0K h9 (by have:=HZ2.out;have:=HI.out;omega) HF2.out HGX.out.b_g).mono ?_;rintro e d6 ⟨yaa,yab,yac,yad,hu,rfl,hb⟩;have HyaU:=hh hu;clear hu h9;have e7:=Tryz.eqUn HxaU.out HyaU.out;rw [decide_eq_true rfl] at e7;replace TF:=hh (TF.out.later hb);replace HR:=bA hb HR;clear hb;replace hS:=HR.out;refine hK _ _ (fun _ _=>hS) ?_;clear hK;refine tA1 14 40 hS ?_;go_frame;refine tA1 15 41 hS ?_;go_frame;refine tA1 16 42 hS ?_;go_frame;refine tA1 17 43 hS ?_;go_frame;refine tA1 18 44 hS ?_;go_frame;refine tk 19 (some 45) rfl rfl (.inl ⟨by rfl,fun w' hS'=>(by have hc:w'.cell? ⟨R,1,none⟩=some (.int .i64 a.g):=Lib.cell_of_heap (hS') 1;go_simp;rfl)⟩) hS ?_;go_frame;refine tA1 21 47 hS ?_;go_frame;refine tA1 22 48 hS ?_;go_frame;refine tk 23 (some 49) rfl rfl (.inl ⟨by rfl,fun w' hS'=>(by have hc:w'.cell? ⟨R,1,none⟩=some (.int .i64 a.g):=Lib.cell_of_heap (hS') 1;go_simp;rfl)⟩) hS ?_;go_frame;refine t1 20 fun K hK=>?_
   simp only [gA,jB,gC];go_simp;obtain ⟨F9,h9⟩:=TF.out.get1;refine (j0s (Look.of_st h9) HF2.out.f HGX.out.b_g).mono ?_;rintro e d7 ⟨xba,xbb,xbc,xbd,hu,rfl,hb⟩;have HxbU:=hh hu;clear hu h9;replace TF:=hh (TF.out.later hb);replace HR:=bA hb HR;clear hb;replace hS:=HR.out;refine hK _ _ (fun _ _=>hS) ?_;clear hK;refine t1 24 fun K hK=>?_
   simp only [gA,jB,gC];go_simp;obtain ⟨F9,h9⟩:=TF.out.get2;refine (b0e h9 (by have:=HZ2.out;have:=HI.out;omega) HF2.out HGX.out.b_g).mono ?_;rintro e d8 ⟨yba,ybb,ybc,ybd,hu,rfl,hb⟩;have HybU:=hh hu;clear hu h9;have e8:=Tryz.eqUn HxbU.out HybU.out;rw [decide_eq_true rfl] at e8;replace TF:=hh (TF.out.later hb);replace HR:=bA hb HR;clear hb;replace hS:=HR.out;refine hK _ _ (fun _ _=>hS) ?_;clear hK;refine tA1 25 51 hS ?_;go_frame;refine tA1 26 52 hS ?_;go_frame;refine tA1 27 53 hS ?_;go_frame;refine tA1 28 54 hS ?_;go_frame;refine tA1 29 55 hS ?_;go_frame;refine tk 30 (some 56) rfl rfl (.inl ⟨by rfl,fun w' hS'=>(by have hc:w'.cell? ⟨R,1,none⟩=some (.int .i64 a.g):=Lib.cell_of_heap (hS') 1;go_simp;rfl)⟩) hS ?_;go_frame;refine tA1 31 57 hS ?_;go_frame;refine tk 32 (some 58) rfl rfl (a0E (by rfl) 25 _ rfl (.pointer (some ⟨R,5,none⟩)) rfl (.agg #[.int .u64 (uw0 a.m),.int .u64 (uw1 a.m),.int .u64 (uw2 a.m),.int .u64 (uw3 a.m)]) (fun w' hS'=>run_loadAt_mid w' R 5 25 [.int .u64 (uw0 a.m),.int .u64 (uw1 a.m),.int .u64 (uw2 a.m),.int .u64 (uw3 a.m)] _ (a0m (hS') 5 _ rfl) Tryz.underlying25 rfl Tryz.sizeU)) hS ?_;go_frame;refine tA1 34 60 hS ?_;go_frame;refine tA1 35 61 hS ?_;go_frame
   refine tk 36 (some 62) rfl rfl (.inl ⟨by rfl,fun w' hS'=>(by have hc:w'.cell? ⟨R,1,none⟩=some (.int .i64 a.g):=Lib.cell_of_heap (hS') 1;go_simp;rfl)⟩) hS ?_;go_frame;refine tA1 37 63 hS ?_;go_frame;refine tk 38 (some 64) rfl rfl (a0E (by rfl) 25 _ rfl (.pointer (some ⟨R,5,none⟩)) rfl (.agg #[.int .u64 (uw0 a.m),.int .u64 (uw1 a.m),.int .u64 (uw2 a.m),.int .u64 (uw3 a.m)]) (fun w' hS'=>run_loadAt_mid w' R 5 25 [.int .u64 (uw0 a.m),.int .u64 (uw1 a.m),.int .u64 (uw2 a.m),.int .u64 (uw3 a.m)] _ (a0m (hS') 5 _ rfl) Tryz.underlying25 rfl Tryz.sizeU)) hS ?_;go_frame;refine t1 33 fun K hK=>?_
   simp only [gA,jB,gC];go_simp;obtain ⟨F9,h9⟩:=TF.out.get1;refine (f0l (Look.of_st h9) HF2.out.f HGX.out.b_g (uw_is HGX.out.lt_m)).mono ?_;rintro e d9 ⟨xca,xcb,xcc,xcd,hu,rfl,hb⟩;have HxcU:=hh hu;clear hu h9;replace TF:=hh (TF.out.later hb);replace HR:=bA hb HR;clear hb;replace hS:=HR.out;refine hK _ _ (fun _ _=>hS) ?_;clear hK;refine t1 39 fun K hK=>?_
   simp only [gA,jB,gC];go_simp;obtain ⟨F9,h9⟩:=TF.out.get2;refine (g0Y h9 (by have:=HZ2.out;have:=HI.out;omega) HF2.out HGX.out.b_g (uw_is HGX.out.lt_m)).mono ?_;rintro e d10 ⟨yca,ycb,ycc,ycd,hu,rfl,hb⟩;have HycU:=hh hu;clear hu h9;have e9:=Tryz.eqUn HxcU.out HycU.out;rw [decide_eq_true rfl] at e9;replace TF:=hh (TF.out.later hb);replace HR:=bA hb HR;clear hb;replace hS:=HR.out;refine hK _ _ (fun _ _=>hS) ?_;clear hK;refine tA1 40 66 hS ?_;go_frame;refine tA1 41 67 hS ?_;go_frame;refine tA1 42 68 hS ?_;go_frame;refine tA1 43 69 hS ?_;go_frame;refine tA1 45 71 hS ?_;go_frame;refine t1 44 fun K hK=>?_
   simp only [gA,jB,gC];go_simp;obtain ⟨F9,h9⟩:=TF.out.get1;obtain ⟨cn,hcn⟩:=nm (getI (getP s2.t) kCnt);have HCN:=hh hcn;clear hcn;refine (f0u (Look.of_st h9) HF2.out.f).mono ?_;rw [← HCN.out];rintro e d11 ⟨rfl,hb⟩;clear h9;replace TF:=hh (TF.out.later hb);replace HR:=bA hb HR;clear hb;replace hS:=HR.out;refine hK _ _ (fun _ _=>hS) ?_;clear hK;refine t1 46 fun K hK=>?_
   simp only [gA,jB,gC];go_simp;obtain ⟨F9,h9⟩:=TF.out.get2;refine (e0Z h9 (by have:=HZ2.out;have:=HI.out;omega) HF2.out).mono ?_;rw [← HCN.out];rintro e d12 ⟨rfl,hb⟩;clear h9;have e10:(cn != cn)=false:=by simp
   replace TF:=hh (TF.out.later hb);replace HR:=bA hb HR;clear hb;replace hS:=HR.out;refine hK _ _ (fun _ _=>hS) ?_;clear hK;refine tA1 47 73 hS ?_;go_frame;refine tA1 48 74 hS ?_;go_frame;refine tD ?_;clear hS;clear e7 e8 e9 e10 HxaU HyaU HxbU HybU HxcU HycU;obtain ⟨it,hit⟩:=nm (infT (getP s2.t) a.g);obtain ⟨io,hio⟩:=nm (infO (getP s2.t) a.g);obtain ⟨ik,hik⟩:=nm (infK (getP s2.t) a.g);have HIT:=hh (And.intro hit (And.intro hio hik));clear hit hio hik;have cR1:d12.cell? ⟨R,1,none⟩=some (.int .i64 a.g):=Lib.cell_of_heap HR.out 1;go_wp2_with fail;clear cR1;obtain ⟨F9,h9⟩:=TF.out.get1;refine (l0e (Look.of_st h9) HF2.out.f HGX.out.b_g).mono ?_;rw [← HIT.out.1,← HIT.out.2.1,← HIT.out.2.2];rintro e d13 ⟨rfl,hb⟩;clear h9;replace TF:=hh (TF.out.later hb);replace HR:=bA hb HR;clear hb;have cR1:d13.cell? ⟨R,1,none⟩=some (.int .i64 a.g):=Lib.cell_of_heap HR.out 1;go_wp2_with fail;clear cR1;obtain ⟨F9,h9⟩:=TF.out.get2;refine (a0D h9 (by have:=HZ2.out;have:=HI.out;omega) HF2.out HGX.out.b_g).mono ?_;rw [← HIT.out.1,← HIT.out.2.1,← HIT.out.2.2];rintro e d14 ⟨rfl,hb⟩;clear h9;replace TF:=hh (TF.out.later hb);clear hb;have e7:(it != it)=false:=by simp
   have e8:(io != io)=false:=by simp
   have e9:(ik != ik)=false:=by simp
   have hi100:i≤100:=HI.out;go_wp2_with fail;clear e7 e8 e9 hi100
   go_roundw
   case rel=>exact ⟨i+1,s2,by go_num,HJL.out,HZ2,HF2,TF⟩
   case measure=>have:=HJL.out;simp [intOf];omega
  ·obtain rfl:i=n:=by omega
   have HSZ:Hid (s.t.length < 1099511627776):=hh (by
    have h9:=HZ.out;have h8:=P100.out
    unfold PS.sz at h9
    omega)
   obtain ⟨_,_,p1,p2,_,_,_⟩:=TF.out;obtain ⟨vL,vP,hra,_⟩:=p2;have P1:=hh p1;have HRA:=hh hra;have hS:wr.drew.cell? ⟨h,0,none⟩=some vL:=Lib.cell_of_heap hra.head 0;have hbd:Below wr.heap.size wr wr.drew:=Below.drew (Below.refl _ _);clear p1 hra;go_wp2_with fail;clear hlt;refine a0b (fun w'=>w'.cell? ⟨h,0,none⟩=some vL) 11 11 (by kernel_rfl) rfl ?_;refine tA1 0 105 hS ?_;go_frame;refine tA1 2 107 hS ?_;go_frame;refine tA1 3 108 hS ?_;go_frame;refine tA1 4 109 hS ?_;go_frame;refine tk 5 (some 110) rfl rfl (.inl ⟨by rfl,fun w' hS'=>(by have hc1:=hS';go_simp;rfl)⟩) hS ?_;go_frame;refine t1 1 fun K hK=>?_
   simp only [gA,jB,gC];go_simp;refine (m0g (P1.out.later hbd) HSZ.out).mono ?_;rintro e wC ⟨vC,rfl,hlC,hbC,_⟩;have hbx:Below wr.heap.size wr wC:=hbd.trans (hbC.mono hbd.size);have hS2:wC.cell? ⟨h,0,none⟩=some vL:=Lib.cell_of_heap (a0d hbx HRA.out.head) 0;refine hK _ _ (fun _ _=>hS2) ?_;clear hK hS hbd hbC;have hS:=hS2;have hbd:=hbx;clear hS2 hbx;refine t1 6 fun K hK=>?_
   simp only [gA,jB,gC];go_simp;have hsm:=k0N (hlC.rd a0t) ((HRA.out.list.later hbd).rd a0t) HSZ.out HSZ.out;rw [decide_eq_true rfl] at hsm;refine hsm.mono ?_;rintro e wD ⟨rfl,hbD⟩;clear hsm hlC;have hbx:Below wr.heap.size wr wD:=hbd.trans (hbD.mono hbd.size);have hS2:wD.cell? ⟨h,0,none⟩=some vL:=Lib.cell_of_heap (a0d hbx HRA.out.head) 0;refine hK _ _ (fun _ _=>hS2) ?_;clear hK hS hbd hbD;have hS:=hS2;have hbd:=hbx;clear hS2 hbx;refine tA1 7 112 hS ?_;go_frame;refine t1 8 fun K hK=>?_
   simp only [gA,jB,gC];go_simp;refine (e0s _).mono ?_;rintro e wE ⟨rfl,hbE⟩;have hbx:Below wr.heap.size wr wE:=hbd.trans (hbE.mono hbd.size);have hS2:wE.cell? ⟨h,0,none⟩=some vL:=Lib.cell_of_heap (a0d hbx HRA.out.head) 0;refine hK _ _ (fun _ _=>hS2) ?_;clear hK hS hbd hbE;have hS:=hS2;have hbd:=hbx;clear hS2 hbx;refine tA1 9 114 hS ?_;go_frame;refine tA1 10 2 hS ?_;go_frame;refine tD ?_;have BWA:=hh (TF.out.below.trans (hbd.mono TF.out.below.size));clear hS hbd;go_wp2_with fail
   go_ret
   exact ⟨rfl,BWA.out⟩
end Go.Proofs.YtabminbgoclnkaaGreat
