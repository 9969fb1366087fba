/- Vaults: the reference's functions (code). No condition. -/
import Derived.Test.YtabminbgoclnkaaGreatVaVauC
import Derived.Deep.Cut
import Derived.Deep.CutRange
namespace Go.Proofs.YtabminbgoclnkaaGreat
set_option maxHeartbeats 16000000
set_option maxRecDepth 100000
open Go.RowKit

theorem DepN.same {s s1 s2:PS} {t g fr e1 e2:Int} {a np:Nat} (N:DepN s t g fr a s1 s2 e1 e2 np) (h:e1≠0):s1=s:=by
 rw [N.es1];exact mv_no (by rw [← N.ee1];exact h)

theorem a0D {w:World} {g0:Nat} {s:PS} {F:List Nat} (h:RS w g0 s F) (hz:s.sz < 1000000) (hf:Fit s) {g:Int} (hg:I64 g):Calls Tryz.prog 24 #[.pointer (some ⟨g0,0,none⟩),.int .i64 g] w (Ret w (.tuple #[.int .i64 (infT (getP s.t) g),.bool (infO (getP s.t) g),.bool (infK (getP s.t) g)])):=by
 have H:=hh h;have HZ0:=hh hz;have HF0:=hh hf;have HG:=hh hg;obtain ⟨row,hrow⟩:=nm (rowF (valF (getP s.t) (kInf g)));have HRO:=hh hrow;clear h hz hf hg hrow
 go_enter Tryz.func24,Tryz.ntmps24
 have HB:Hid (Below w.heap.size w w):=hh (Below.refl _ _);go_wp2_with fail;obtain ⟨a1,hwl⟩:=nm (World.alloc w (.cells #[.int .i64 g] 3));obtain ⟨gl,hgl⟩:=nm ((World.heap w).size);rw [← hwl,← hgl];have HOI:Hid (Own a1 0 3 intE 1 (.slice (some ⟨gl,0,none⟩) 1 1) [g]):=hh (a0w (l:=[g]) (by rw [hwl,hgl];exact heap_alloc_new _ _) (Nat.zero_le _) (by unfold maxLen;simp));have hb:Below (World.heap w).size w a1:=by rw [hwl];exact a0c _ _
 clear hwl hgl;replace HB:=bT HB hb;clear hb;refine (a0O 5 [g] _ _ (by simp) (I64s.one HG.out) (HOI.out.rd fun _=>rfl)).mono ?_;rintro e a2 ⟨rfl,hb⟩;replace HB:=bT HB hb;clear hb;clear HOI;go_wp2_with fail;refine (i0r (H.out.later HB.out) (by have:=HZ0.out;omega) HF0.out (kInf g)).mono ?_;rintro e a3 ⟨v,rfl,ho,hb⟩;rw [← HRO.out] at ho;have HO:=hh (RowRet.rd ho);clear ho;replace HB:=bT HB hb;clear hb
 by_cases hl:row.length=2
 ·obtain ⟨t,cq,hrow⟩:=i0d hl;have HI:=hh (a0v (show infF (getP s.t) g=some (t,cq == 1) by unfold infF;rw [← HRO.out,hrow];rfl));rw [hrow] at HO;obtain ⟨ad,cap,rfl,c1,c2⟩:=HO.out.shape;obtain ⟨p1,o1,rfl,hp1,hc0⟩:=HO.out.at 0 (by simp);obtain ⟨p2,o2,e2,hp2,hc1⟩:=HO.out.at 1 (by simp)
  cases e2
  have hc0':a3.cell? ⟨p1,o1,none⟩=some (.int .i64 t):=hc0;have hc1':a3.cell? ⟨p1,o1+1,none⟩=some (.int .i64 cq):=hc1;clear hc0 hc1 hrow hp1 hp2 hl;go_wp2_with fail;clear HO;have hS:a3.drew.cell? ⟨p1,o1,none⟩=some (.int .i64 t)∧a3.drew.cell? ⟨p1,o1+1,none⟩=some (.int .i64 cq):=⟨hc0',hc1'⟩;clear hc0' hc1';obtain ⟨a4,hwz⟩:=nm (a3.drew);have hbz:Below a3.heap.size a3 a4:=by rw [hwz];exact (Below.refl _ _).drew
  replace HB:=bT HB hbz;clear hbz;rw [← hwz] at hS;refine a0b (fun w'=>w'.cell? ⟨p1,o1,none⟩=some (.int .i64 t)∧w'.cell? ⟨p1,o1+1,none⟩=some (.int .i64 cq)) 10 10 (by kernel_rfl) rfl ?_;rw [← hwz];clear hwz;refine tA1 0 16 hS ?_;go_frame;refine tA1 1 17 hS ?_;go_frame;refine tk 2 (some 18) rfl rfl (.inl ⟨by rfl,fun w' hS'=>(by obtain ⟨hq1,hq2⟩:=hS';go_simp;rfl)⟩) hS ?_;go_frame;refine tA1 3 19 hS ?_;go_frame;refine tA1 4 20 hS ?_;go_frame;refine tk 5 (some 21) rfl rfl (.inl ⟨by rfl,fun w' hS'=>(by obtain ⟨hq1,hq2⟩:=hS';go_simp;rfl)⟩) hS ?_;go_frame;refine tA1 6 22 hS ?_;go_frame;refine tA1 7 4 hS ?_;go_frame;refine tA1 8 5 hS ?_;go_frame;refine tA1 9 6 hS ?_;go_frame;refine tD ?_;clear hS;go_wp2_with fail
  go_ret3
  exact ⟨by rw [HI.out.1,HI.out.2.1,HI.out.2.2];rfl,HB.out⟩
 ·have HI:=hh (a0s (show infF (getP s.t) g=none by unfold infF;rw [← HRO.out];exact h0A hl));obtain ⟨ad,cap,rfl,c1,c2⟩:=HO.out.shape;obtain ⟨n,hn⟩:=nm (row.length);have hne:((n:Int) == 2)=false:=by rw [← hn] at hl;simp;omega
  have hne2:((n:Int) != 2)=true:=by rw [bne,hne];rfl
  rw [← hn] at HO c1 ⊢;clear hn hl;go_wp2_with fail
  go_ret3
  exact ⟨by rw [HI.out.1,HI.out.2.1,HI.out.2.2];rfl,HB.out⟩

theorem e0Z {w:World} {g0:Nat} {s:PS} {F:List Nat} (h:RS w g0 s F) (hz:s.sz < 1000000) (hf:Fit s):Calls Tryz.prog 23 #[.pointer (some ⟨g0,0,none⟩)] w (Ret w (.int .i64 (getI (getP s.t) kCnt))):=by
 have H:=hh h;have HZ0:=hh hz;have HF0:=hh hf;obtain ⟨q,hq⟩:=nm (getI (getP s.t) kCnt);have HQ:=hh hq;rw [← hq];clear h hz hf hq
 go_enter Tryz.func23,Tryz.ntmps23
 have HB:Hid (Below w.heap.size w w):=hh (Below.refl _ _);go_wp2_with fail;refine (a0O 5 [] (.slice none 0 0) _ (by simp) (fun x hx=>by cases hx) (Rd.nil _ _ _)).mono ?_;rintro e a1 ⟨rfl,hb⟩;replace HB:=bT HB hb;clear hb;go_wp2_with fail;refine (i0x (H.out.later HB.out) (by have:=HZ0.out;omega) HF0.out kCnt).mono ?_;rw [← HQ.out];rintro e a2 ⟨rfl,hb⟩;replace HB:=bT HB hb;clear hb;go_wp2_with fail
 go_ret
 exact ⟨rfl,HB.out⟩

theorem g0f {g:Int} (hg:I64 g) (w:World):Calls Tryz.prog 63 #[.int .i64 g] w (Ret w (.string (bs (kTot g)))):=by
 have HG:=hh hg;clear hg
 go_enter Tryz.func63,Tryz.ntmps63
 have HB:Hid (Below w.heap.size w w):=hh (Below.refl _ _);go_wp2_with fail;obtain ⟨a1,hwl⟩:=nm (World.alloc w (.cells #[.int .i64 g] 3));obtain ⟨gl,hgl⟩:=nm ((World.heap w).size);rw [← hwl,← hgl];have HOI:Hid (Own a1 0 3 intE 1 (.slice (some ⟨gl,0,none⟩) 1 1) [g]):=hh (a0w (l:=[g]) (by rw [hwl,hgl];exact heap_alloc_new _ _) (Nat.zero_le _) (by unfold maxLen;simp));have hb:Below (World.heap w).size w a1:=by rw [hwl];exact a0c _ _
 clear hwl hgl;replace HB:=bT HB hb;clear hb;refine (a0O 7 [g] _ _ (by simp) (I64s.one HG.out) (HOI.out.rd fun _=>rfl)).mono ?_;rintro e a2 ⟨rfl,hb⟩;replace HB:=bT HB hb;clear hb;clear HOI;go_wp2_with fail
 go_ret
 exact ⟨rfl,HB.out⟩

theorem a0K {w:World} {g0:Nat} {s:PS} {F:List Nat} (h:RS w g0 s F) (hz:s.sz < 1000000) (hf:Fit s) {g:Int} (hg:I64 g):Calls Tryz.prog 17 #[.pointer (some ⟨g0,0,none⟩),.int .i64 g] w (URet w (totV (getP s.t) g)):=by
 have H:=hh h;have HZ0:=hh hz;have HF0:=hh hf;have HG:=hh hg;clear h hz hf hg
 go_enter Tryz.func17,Tryz.ntmps17
 have HB:Hid (Below w.heap.size w w):=hh (Below.refl _ _)
 go_wp2_with (refine sA _ Tryz.zeroUz ?_)
 intro R a1 hR;have WR:=mGe hR HB.out.size;have HR:=hh hR.out.cells;have hbR:=hR.out.below;clear hR;replace HB:=bT HB hbR;clear hbR;go_wp2_with fail
 cases hi:infF (getP s.t) g with
 | none=>
  have HI:Hid (totV (getP s.t) g=0):=hh (by unfold totV;rw [hi]);refine (a0D (H.out.later HB.out) HZ0.out HF0.out HG.out).mono ?_;rw [(a0s hi).1,(a0s hi).2.1,(a0s hi).2.2];rintro e a2 ⟨rfl,hb⟩;replace HB:=bT HB hb;replace HR:=bA hb HR;clear hb;clear hi
  go_wp2_with (refine a0a (t:=25) (old:=u0) rfl 25 _ _ rfl R u0 rfl rfl HR.out Tryz.sizeU rfl (a0j _ _ _ _) ?_)
  intro a3 hxR kR zR;clear zR;replace HB:=bS HB kR WR;replace HR:=hh hxR;clear hxR kR;go_wp2_with fail
  exact bodyPost_ret (results_cell_row rfl _ _ _ _ _ _ _ rfl HR.out Tryz.underlying25 rfl Tryz.sizeU) rfl ⟨_,_,_,_,by rw [HI.out];exact UIs.zero,rfl,HB.out⟩
 | some p=>
  obtain ⟨t,on⟩:=p;have HI:Hid (totV (getP s.t) g=amtV (getP s.t) (kTot g)):=hh (by unfold totV;rw [hi];rfl);have HT:Hid (I64 t):=hh (by have h9:=a0z hi;unfold I64;omega);refine (a0D (H.out.later HB.out) HZ0.out HF0.out HG.out).mono ?_;rw [(a0v hi).1,(a0v hi).2.1,(a0v hi).2.2];rintro e a2 ⟨rfl,hb⟩;replace HB:=bT HB hb;replace HR:=bA hb HR;clear hb;clear hi;go_wp2_with fail;refine (g0f HG.out _).mono ?_;rintro e a3 ⟨rfl,hb⟩;replace HB:=bT HB hb;replace HR:=bA hb HR;clear hb;go_wp2_with fail;refine (a0M (H.out.later HB.out) (by have:=HZ0.out;omega) HF0.out (kTot g)).mono ?_;rintro e a4 ⟨xa,xb,xc,xd,hu,rfl,hb⟩;have HXU:=hh hu;clear hu;replace HB:=bT HB hb;replace HR:=bA hb HR;clear hb
  go_wp2_with (refine sR 25 #[.int .u64 xa,.int .u64 xb,.int .u64 xc,.int .u64 xd] HR Tryz.sizeU ?_)
  intro a5 hxR kR zR;clear zR;replace HB:=bS HB kR WR;replace HR:=hh hxR;clear hxR kR;go_wp2_with fail
  exact bodyPost_ret (results_cell_row rfl _ _ _ _ _ _ _ rfl HR.out Tryz.underlying25 rfl Tryz.sizeU) rfl ⟨_,_,_,_,by rw [HI.out];exact HXU.out,rfl,HB.out⟩

theorem b0e {w:World} {g0:Nat} {s:PS} {F:List Nat} (h:RS w g0 s F) (hz:s.sz < 1000000) (hf:Fit s) {g:Int} (hg:I64 g):Calls Tryz.prog 19 #[.pointer (some ⟨g0,0,none⟩),.int .i64 g] w (URet w (stkV (getP s.t) g)):=by
 have H:=hh h;have HZ0:=hh hz;have HF0:=hh hf;have HG:=hh hg;clear h hz hf hg
 go_enter Tryz.func19,Tryz.ntmps19
 have HB:Hid (Below w.heap.size w w):=hh (Below.refl _ _)
 go_wp2_with (refine sA _ Tryz.zeroUz ?_)
 intro R a1 hR;have WR:=mGe hR HB.out.size;have HR:=hh hR.out.cells;have hbR:=hR.out.below;clear hR;replace HB:=bT HB hbR;clear hbR;go_wp2_with fail
 cases hi:infF (getP s.t) g with
 | none=>
  have HI:Hid (stkV (getP s.t) g=0):=hh (by unfold stkV;rw [hi]);refine (a0D (H.out.later HB.out) HZ0.out HF0.out HG.out).mono ?_;rw [(a0s hi).1,(a0s hi).2.1,(a0s hi).2.2];rintro e a2 ⟨rfl,hb⟩;replace HB:=bT HB hb;replace HR:=bA hb HR;clear hb;clear hi
  go_wp2_with (refine a0a (t:=25) (old:=u0) rfl 25 _ _ rfl R u0 rfl rfl HR.out Tryz.sizeU rfl (a0j _ _ _ _) ?_)
  intro a3 hxR kR zR;clear zR;replace HB:=bS HB kR WR;replace HR:=hh hxR;clear hxR kR;go_wp2_with fail
  exact bodyPost_ret (results_cell_row rfl _ _ _ _ _ _ _ rfl HR.out Tryz.underlying25 rfl Tryz.sizeU) rfl ⟨_,_,_,_,by rw [HI.out];exact UIs.zero,rfl,HB.out⟩
 | some p=>
  obtain ⟨t,on⟩:=p;have HI:Hid (stkV (getP s.t) g=amtV (getP s.t) (kStk t g)):=hh (by unfold stkV;rw [hi];rfl);have HT:Hid (I64 t):=hh (by have h9:=a0z hi;unfold I64;omega);refine (a0D (H.out.later HB.out) HZ0.out HF0.out HG.out).mono ?_;rw [(a0v hi).1,(a0v hi).2.1,(a0v hi).2.2];rintro e a2 ⟨rfl,hb⟩;replace HB:=bT HB hb;replace HR:=bA hb HR;clear hb;clear hi;go_wp2_with fail;refine (c0h HT.out HG.out _).mono ?_;rintro e a3 ⟨rfl,hb⟩;replace HB:=bT HB hb;replace HR:=bA hb HR;clear hb;go_wp2_with fail;refine (a0M (H.out.later HB.out) (by have:=HZ0.out;omega) HF0.out (kStk t g)).mono ?_;rintro e a4 ⟨xa,xb,xc,xd,hu,rfl,hb⟩;have HXU:=hh hu;clear hu;replace HB:=bT HB hb;replace HR:=bA hb HR;clear hb
  go_wp2_with (refine sR 25 #[.int .u64 xa,.int .u64 xb,.int .u64 xc,.int .u64 xd] HR Tryz.sizeU ?_)
  intro a5 hxR kR zR;clear zR;replace HB:=bS HB kR WR;replace HR:=hh hxR;clear hxR kR;go_wp2_with fail
  exact bodyPost_ret (results_cell_row rfl _ _ _ _ _ _ _ rfl HR.out Tryz.underlying25 rfl Tryz.sizeU) rfl ⟨_,_,_,_,by rw [HI.out];exact HXU.out,rfl,HB.out⟩

theorem g0Y {w:World} {g0:Nat} {s:PS} {F:List Nat} (h:RS w g0 s F) (hz:s.sz < 1000000) (hf:Fit s) {g:Int} (hg:I64 g) {a b c d:Int} {n:Nat} (hu:UIs a b c d n):Calls Tryz.prog 21 #[.pointer (some ⟨g0,0,none⟩),.int .i64 g,.agg #[.int .u64 a,.int .u64 b,.int .u64 c,.int .u64 d]] w (URet w (worV (getP s.t) g n)):=by
 have H:=hh h;have HZ0:=hh hz;have HF0:=hh hf;have HG:=hh hg;have HU:=hh hu;clear h hz hf hg hu
 go_enter Tryz.func21,Tryz.ntmps21
 go_wp2_with (refine sA _ Tryz.zeroUz ?_)
 obtain ⟨w1,hw1⟩:=nm (w.alloc (.cells #[.int .u64 a,.int .u64 b,.int .u64 c,.int .u64 d] 25));obtain ⟨Y,hY⟩:=nm (w.heap.size);rw [← hw1,← hY];have HY:Hid (w1.heap[Y]? = some (.cells #[.int .u64 a,.int .u64 b,.int .u64 c,.int .u64 d] 25 (0,0))):=hh (by rw [hw1,hY];exact heap_alloc_new _ _);have HB:Hid (Below w.heap.size w w1):=hh (by rw [hw1];exact a0c _ _);clear hw1 hY;intro R a1 hR;have WR:=mGe hR HB.out.size;have NYR:=mNe hR HY;have HR:=hh hR.out.cells;have hbR:=hR.out.below;clear hR;replace HB:=bT HB hbR;replace HY:=bA hbR HY;clear hbR;go_wp2_with fail
 cases hi:infF (getP s.t) g with
 | none=>
  have HI:Hid (worV (getP s.t) g n=0):=hh (by unfold worV;rw [hi]);refine (a0D (H.out.later HB.out) HZ0.out HF0.out HG.out).mono ?_;rw [(a0s hi).1,(a0s hi).2.1,(a0s hi).2.2];rintro e a2 ⟨rfl,hb⟩;replace HB:=bT HB hb;replace HR:=bA hb HR;clear hb;clear hi
  go_wp2_with (refine a0a (t:=25) (old:=u0) rfl 25 _ _ rfl R u0 rfl rfl HR.out Tryz.sizeU rfl (a0j _ _ _ _) ?_)
  intro a3 hxR kR zR;clear zR;replace HB:=bS HB kR WR;replace HR:=hh hxR;clear hxR kR;go_wp2_with fail
  exact bodyPost_ret (results_cell_row rfl _ _ _ _ _ _ _ rfl HR.out Tryz.underlying25 rfl Tryz.sizeU) rfl ⟨_,_,_,_,by rw [HI.out];exact UIs.zero,rfl,HB.out⟩
 | some p=>
  obtain ⟨t,on⟩:=p;have HI:Hid (worV (getP s.t) g n=shF (totV (getP s.t) g) (stkV (getP s.t) g) n):=hh (by unfold worV totV stkV;rw [hi]);refine (a0D (H.out.later HB.out) HZ0.out HF0.out HG.out).mono ?_;rw [(a0v hi).1,(a0v hi).2.1,(a0v hi).2.2];rintro e a2 ⟨rfl,hb⟩;replace HB:=bT HB hb;replace HY:=bA hb HY;replace HR:=bA hb HR;clear hb;clear hi;go_wp2_with fail;obtain ⟨a3,hwz,hbz⟩:=dr a2;replace HB:=bT HB hbz;replace HY:=bA hbz HY;replace HR:=bA hbz HR;clear hbz;refine rg1 14 14 hwz HY fun hS=>?_
  clear hwz;refine tA1 0 23 hS ?_;go_frame;refine tA1 1 24 hS ?_;go_frame;refine tA1 3 26 hS ?_;go_frame;refine tA1 4 27 hS ?_;go_frame;refine tl 6 (some 29) (fun _ h=>h) Tryz.underlying25 Tryz.sizeU hS ?_;go_frame;refine a0k 2 11 rfl rfl (by kernel_rfl) (fun K hK=>?_) (fun K hK=>?_)
  ·simp only [gA,jB,gC];rw [if_pos (by rfl)];go_simp;refine (b0e (H.out.later HB.out) HZ0.out HF0.out HG.out).mono ?_;rintro e a4 ⟨pa,pb,pc,pd,hu,rfl,hb⟩;have HPU:=hh hu;clear hu;replace HB:=bT HB hb;replace HY:=bA hb HY;replace HR:=bA hb HR;clear hb;replace hS:=HY.out;refine hK _ _ (fun _ _=>hS) ?_;clear hK;refine a0k 5 11 rfl rfl (by kernel_rfl) (fun K hK=>?_) (fun K hK=>?_)
   ·simp only [gA,jB,gC];rw [if_pos (by rfl)];go_simp;refine (a0K (H.out.later HB.out) HZ0.out HF0.out HG.out).mono ?_;rintro e a5 ⟨za,zb,zc,zd,hu,rfl,hb⟩;have HZU:=hh hu;clear hu;replace HB:=bT HB hb;replace HY:=bA hb HY;replace HR:=bA hb HR;clear hb;replace hS:=HY.out;refine hK _ _ (fun _ _=>hS) ?_;clear hK;refine a0k 7 11 rfl rfl (by kernel_rfl) (fun K hK=>?_) (fun K hK=>?_)
    ·simp only [gA,jB,gC];rw [if_pos (by rfl)];go_simp;refine (a0V HPU.out HZU.out HU.out _).mono ?_;rintro e a6 ⟨qa,qb,qc,qd,hu,rfl,hb⟩;have HQU:=hh hu;clear hu;replace HB:=bT HB hb;replace HY:=bA hb HY;replace HR:=bA hb HR;clear hb;replace hS:=HY.out;refine hK _ _ (fun _ _=>hS) ?_;clear hK;refine tA1 8 22 hS ?_;go_frame;refine tA1 9 31 hS ?_;go_frame;refine tA1 10 32 hS ?_;go_frame;refine t1 11 fun K hK=>?_
     simp only [gA,jB,gC];refine wA1 25 Tryz.zeroUz ?_;intro O a7 hO;have WO:=mGe hO HB.out.size;have NYO:=mNe hO HY;have NRO:=mNe hO HR;have HO:=hh hO.out.cells;have hbO:=hO.out.below;clear hO;replace HB:=bT HB hbO;replace HY:=bA hbO HY;replace HR:=bA hbO HR;clear hbO;replace hS:=HY.out;refine hK _ _ (fun _ _=>hS) ?_;clear hK;refine t1 12 fun K hK=>?_
     simp only [gA,jB,gC];refine wR1 25 #[.int .u64 qa,.int .u64 qb,.int .u64 qc,.int .u64 qd] HO Tryz.sizeU ?_;intro a8 hxO kO zO;clear zO;replace HB:=bS HB kO WO;replace HY:=ka1 kO HY NYO;replace HR:=ka1 kO HR NRO;replace HO:=hh hxO;clear hxO kO;replace hS:=HY.out;refine hK _ _ (fun _ _=>hS) ?_;clear hK;refine tA1 13 11 hS ?_;go_frame;refine tD ?_;clear hS
     go_wp2_with (first
      | (refine lR HO Tryz.underlying25 Tryz.sizeU ?_)
      | (refine sR 25 #[.int .u64 qa,.int .u64 qb,.int .u64 qc,.int .u64 qd] HR Tryz.sizeU ?_))
     intro a9 hxR kR zR;clear zR;replace HB:=bS HB kR WR;replace HR:=hh hxR;clear hxR kR;go_wp2_with fail
     exact bodyPost_ret (results_cell_row rfl _ _ _ _ _ _ _ rfl HR.out Tryz.underlying25 rfl Tryz.sizeU) rfl ⟨_,_,_,_,by rw [HI.out];exact HQU.out,rfl,HB.out⟩
    ·simp only [gA,jB,gC];rw [if_pos (by rfl)];refine wA1 25 Tryz.zeroUz ?_;intro O a6 hO;have WO:=mGe hO HB.out.size;have NYO:=mNe hO HY;have NRO:=mNe hO HR;have HO:=hh hO.out.cells;have hbO:=hO.out.below;clear hO;replace HB:=bT HB hbO;replace HY:=bA hbO HY;replace HR:=bA hbO HR;clear hbO;replace hS:=HY.out;refine hK _ _ (fun _ _=>hS) ?_;clear hK;refine t1 7 fun K hK=>?_
     simp only [gA,jB,gC];go_simp;refine (a0V HPU.out HZU.out HU.out _).mono ?_;rintro e a7 ⟨qa,qb,qc,qd,hu,rfl,hb⟩;have HQU:=hh hu;clear hu;replace HB:=bT HB hb;replace HY:=bA hb HY;replace HR:=bA hb HR;replace HO:=bA hb HO;clear hb;replace hS:=HY.out;refine hK _ _ (fun _ _=>hS) ?_;clear hK;refine tA1 8 22 hS ?_;go_frame;refine tA1 9 31 hS ?_;go_frame;refine tA1 10 32 hS ?_;go_frame;refine t1 12 fun K hK=>?_
     simp only [gA,jB,gC];refine wR1 25 #[.int .u64 qa,.int .u64 qb,.int .u64 qc,.int .u64 qd] HO Tryz.sizeU ?_;intro a8 hxO kO zO;clear zO;replace HB:=bS HB kO WO;replace HY:=ka1 kO HY NYO;replace HR:=ka1 kO HR NRO;replace HO:=hh hxO;clear hxO kO;replace hS:=HY.out;refine hK _ _ (fun _ _=>hS) ?_;clear hK;refine tA1 13 11 hS ?_;go_frame;refine tD ?_;clear hS
     go_wp2_with (first
      | (refine lR HO Tryz.underlying25 Tryz.sizeU ?_)
      | (refine sR 25 #[.int .u64 qa,.int .u64 qb,.int .u64 qc,.int .u64 qd] HR Tryz.sizeU ?_))
     intro a9 hxR kR zR;clear zR;replace HB:=bS HB kR WR;replace HR:=hh hxR;clear hxR kR;go_wp2_with fail
     exact bodyPost_ret (results_cell_row rfl _ _ _ _ _ _ _ rfl HR.out Tryz.underlying25 rfl Tryz.sizeU) rfl ⟨_,_,_,_,by rw [HI.out];exact HQU.out,rfl,HB.out⟩
   ·simp only [gA,jB,gC];rw [if_pos (by rfl)];refine wA1 25 Tryz.zeroUz ?_;intro O a5 hO;have WO:=mGe hO HB.out.size;have NYO:=mNe hO HY;have NRO:=mNe hO HR;have HO:=hh hO.out.cells;have hbO:=hO.out.below;clear hO;replace HB:=bT HB hbO;replace HY:=bA hbO HY;replace HR:=bA hbO HR;clear hbO;replace hS:=HY.out;refine hK _ _ (fun _ _=>hS) ?_;clear hK;refine t1 5 fun K hK=>?_
    simp only [gA,jB,gC];go_simp;refine (a0K (H.out.later HB.out) HZ0.out HF0.out HG.out).mono ?_;rintro e a6 ⟨za,zb,zc,zd,hu,rfl,hb⟩;have HZU:=hh hu;clear hu;replace HB:=bT HB hb;replace HY:=bA hb HY;replace HR:=bA hb HR;replace HO:=bA hb HO;clear hb;replace hS:=HY.out;refine hK _ _ (fun _ _=>hS) ?_;clear hK;refine t1 7 fun K hK=>?_
    simp only [gA,jB,gC];go_simp;refine (a0V HPU.out HZU.out HU.out _).mono ?_;rintro e a7 ⟨qa,qb,qc,qd,hu,rfl,hb⟩;have HQU:=hh hu;clear hu;replace HB:=bT HB hb;replace HY:=bA hb HY;replace HR:=bA hb HR;replace HO:=bA hb HO;clear hb;replace hS:=HY.out;refine hK _ _ (fun _ _=>hS) ?_;clear hK;refine tA1 8 22 hS ?_;go_frame;refine tA1 9 31 hS ?_;go_frame;refine tA1 10 32 hS ?_;go_frame;refine t1 12 fun K hK=>?_
    simp only [gA,jB,gC];refine wR1 25 #[.int .u64 qa,.int .u64 qb,.int .u64 qc,.int .u64 qd] HO Tryz.sizeU ?_;intro a8 hxO kO zO;clear zO;replace HB:=bS HB kO WO;replace HY:=ka1 kO HY NYO;replace HR:=ka1 kO HR NRO;replace HO:=hh hxO;clear hxO kO;replace hS:=HY.out;refine hK _ _ (fun _ _=>hS) ?_;clear hK;refine tA1 13 11 hS ?_;go_frame;refine tD ?_;clear hS
    go_wp2_with (first
     | (refine lR HO Tryz.underlying25 Tryz.sizeU ?_)
     | (refine sR 25 #[.int .u64 qa,.int .u64 qb,.int .u64 qc,.int .u64 qd] HR Tryz.sizeU ?_))
    intro a9 hxR kR zR;clear zR;replace HB:=bS HB kR WR;replace HR:=hh hxR;clear hxR kR;go_wp2_with fail
    exact bodyPost_ret (results_cell_row rfl _ _ _ _ _ _ _ rfl HR.out Tryz.underlying25 rfl Tryz.sizeU) rfl ⟨_,_,_,_,by rw [HI.out];exact HQU.out,rfl,HB.out⟩
  ·simp only [gA,jB,gC];rw [if_pos (by rfl)];refine wA1 25 Tryz.zeroUz ?_;intro O a4 hO;have WO:=mGe hO HB.out.size;have NYO:=mNe hO HY;have NRO:=mNe hO HR;have HO:=hh hO.out.cells;have hbO:=hO.out.below;clear hO;replace HB:=bT HB hbO;replace HY:=bA hbO HY;replace HR:=bA hbO HR;clear hbO;replace hS:=HY.out;refine hK _ _ (fun _ _=>hS) ?_;clear hK;refine t1 2 fun K hK=>?_
   simp only [gA,jB,gC];go_simp;refine (b0e (H.out.later HB.out) HZ0.out HF0.out HG.out).mono ?_;rintro e a5 ⟨pa,pb,pc,pd,hu,rfl,hb⟩;have HPU:=hh hu;clear hu;replace HB:=bT HB hb;replace HY:=bA hb HY;replace HR:=bA hb HR;replace HO:=bA hb HO;clear hb;replace hS:=HY.out;refine hK _ _ (fun _ _=>hS) ?_;clear hK;refine t1 5 fun K hK=>?_
   simp only [gA,jB,gC];go_simp;refine (a0K (H.out.later HB.out) HZ0.out HF0.out HG.out).mono ?_;rintro e a6 ⟨za,zb,zc,zd,hu,rfl,hb⟩;have HZU:=hh hu;clear hu;replace HB:=bT HB hb;replace HY:=bA hb HY;replace HR:=bA hb HR;replace HO:=bA hb HO;clear hb;replace hS:=HY.out;refine hK _ _ (fun _ _=>hS) ?_;clear hK;refine t1 7 fun K hK=>?_
   simp only [gA,jB,gC];go_simp;refine (a0V HPU.out HZU.out HU.out _).mono ?_;rintro e a7 ⟨qa,qb,qc,qd,hu,rfl,hb⟩;have HQU:=hh hu;clear hu;replace HB:=bT HB hb;replace HY:=bA hb HY;replace HR:=bA hb HR;replace HO:=bA hb HO;clear hb;replace hS:=HY.out;refine hK _ _ (fun _ _=>hS) ?_;clear hK;refine tA1 8 22 hS ?_;go_frame;refine tA1 9 31 hS ?_;go_frame;refine tA1 10 32 hS ?_;go_frame;refine t1 12 fun K hK=>?_
   simp only [gA,jB,gC];refine wR1 25 #[.int .u64 qa,.int .u64 qb,.int .u64 qc,.int .u64 qd] HO Tryz.sizeU ?_;intro a8 hxO kO zO;clear zO;replace HB:=bS HB kO WO;replace HY:=ka1 kO HY NYO;replace HR:=ka1 kO HR NRO;replace HO:=hh hxO;clear hxO kO;replace hS:=HY.out;refine hK _ _ (fun _ _=>hS) ?_;clear hK;refine tA1 13 11 hS ?_;go_frame;refine tD ?_;clear hS
   go_wp2_with (first
    | (refine lR HO Tryz.underlying25 Tryz.sizeU ?_)
    | (refine sR 25 #[.int .u64 qa,.int .u64 qb,.int .u64 qc,.int .u64 qd] HR Tryz.sizeU ?_))
   intro a9 hxR kR zR;clear zR;replace HB:=bS HB kR WR;replace HR:=hh hxR;clear hxR kR;go_wp2_with fail
   exact bodyPost_ret (results_cell_row rfl _ _ _ _ _ _ _ rfl HR.out Tryz.underlying25 rfl Tryz.sizeU) rfl ⟨_,_,_,_,by rw [HI.out];exact HQU.out,rfl,HB.out⟩

theorem l0R {w:World} {g0:Nat} {s:PS} {F:List Nat} (h:RS w g0 s F) (hz:s.sz < 900000) (hf:Fit s) {t:Int} (ht:I64 t):Calls Tryz.prog 33 #[.pointer (some ⟨g0,0,none⟩),.int .i64 t] w (RRet w g0 F (s.newS t) (.tuple #[.int .i64 (newV s t),.int .i64 (newE s t)])):=by
 have L:=hh (RLiv.start h);have HZ0:=hh hz;have HF0:=hh hf;have HT:=hh ht;obtain ⟨gq,hgq⟩:=nm (goodB t 1);obtain ⟨cnt,hcnt⟩:=nm (getI (getP s.t) kCnt);obtain ⟨n,hn⟩:=nm (newI s);obtain ⟨s1,hs1⟩:=nm (s.setInt kCnt n);have HE:Hid (newE s t=if gq=false then 2 else if 32≤cnt then 7 else 0):=hh (by unfold newE;rw [← hgq,← hcnt]);have HS:Hid (s.newS t=if newE s t=0 then s1.setRow (kInf n) [t,1] else s):=hh (by unfold PS.newS;rw [← hn,← hs1]);have HGQ:=hh hgq;have HC:=hh hcnt;have HN:=hh hn;have HS1:=hh hs1;have HNI:Hid (0≤n∧n < 9223372036854775808):=hh (by rw [hn];exact h0R s);have HF1:Hid (Fit s1∧s1.sz≤s.sz+2):=hh ⟨by rw [hs1];exact hf.setInt _ _,by rw [hs1];exact e0m _ _ _⟩;clear h hz hf ht hgq hcnt hn hs1
 by_cases hgt:1≤t∧t≤1000
 ·have hgq2:gq=true:=by rw [HGQ.out];unfold goodB;exact decide_eq_true ⟨hgt,by decide⟩
  subst hgq2;have hc1:¬ t < 1:=by omega
  have hc2:¬ 1000 < t:=by omega
  go_enter Tryz.func33,Tryz.ntmps33
  go_wp2_with fail;obtain ⟨F9,h9⟩:=L.out.get;clear hgt hc1 hc2;refine (e0Z h9 (by have:=HZ0.out;omega) HF0.out).mono ?_;rw [← HC.out];rintro e a1 ⟨rfl,hb⟩;clear h9;replace L:=hh (L.out.later hb);clear hb
  by_cases hc:32≤cnt
  ·have hc1:decide (32≤cnt)=true:=decide_eq_true hc;have HCC:=hh hc;have HV:Hid (newE s t=7):=hh (by rw [HE.out,if_neg (by decide),if_pos HCC.out]);have HW:Hid (newV s t=0∧s.newS t=s):=hh ⟨by unfold newV;rw [HV.out,if_neg (by decide)],by rw [HS.out,HV.out,if_neg (by decide)]⟩;clear HCC;go_wp2_with fail
   go_ret2
   rw [HV.out,HW.out.1,HW.out.2];exact L.out.ret
  ·have hc1:decide (32≤cnt)=false:=decide_eq_false hc;have HV:Hid (newE s t=0):=hh (by rw [HE.out,if_neg (by decide),if_neg hc]);have HW:Hid (newV s t=n∧s.newS t=s1.setRow (kInf n) [t,1]):=hh ⟨by unfold newV;rw [HV.out,if_pos rfl,HN.out],by rw [HS.out,HV.out,if_pos rfl]⟩;go_wp2_with fail;clear hc hc1;refine (a0O 5 [] (.slice none 0 0) _ (by simp) (fun x hx=>by cases hx) (Rd.nil _ _ _)).mono ?_;rintro e a2 ⟨rfl,hb⟩;replace L:=hh (L.out.later hb);clear hb;go_wp2_with fail;refine (L.out.call fun F hs=>k0J hs (by have:=HZ0.out;omega) HF0.out kCnt).mono ?_;rw [show nextI (getI (getP s.t) kCnt)=n from HN.out.symm,← HS1.out];rintro e a3 ⟨rfl,o,hoth⟩;replace L:=hh o;clear o hoth;go_wp2_with fail;obtain ⟨a4,hwl⟩:=nm (World.alloc a3 (.cells #[.int .i64 n] 3));obtain ⟨gl,hgl⟩:=nm ((World.heap a3).size);rw [← hwl,← hgl];have HOI:Hid (Own a4 0 3 intE 1 (.slice (some ⟨gl,0,none⟩) 1 1) [n]):=hh (a0w (l:=[n]) (by rw [hwl,hgl];exact heap_alloc_new _ _) (Nat.zero_le _) (by unfold maxLen;simp));have hb:Below (World.heap a3).size a3 a4:=by rw [hwl];exact a0c _ _
   clear hwl hgl;replace L:=hh (L.out.later hb);clear hb;refine (a0O 5 [n] _ _ (by simp) (I64s.one (by have:=HNI.out;omega)) (HOI.out.rd fun _=>rfl)).mono ?_;rintro e a5 ⟨rfl,hb⟩;replace L:=hh (L.out.later hb);clear hb;clear HOI;go_wp2_with fail;obtain ⟨a6,hwl⟩:=nm (World.alloc a5 (.cells #[.int .i64 t,.int .i64 1] 3));obtain ⟨gl,hgl⟩:=nm ((World.heap a5).size);rw [← hwl,← hgl];have HOJ:Hid (Own a6 0 3 intE 1 (.slice (some ⟨gl,0,none⟩) 2 2) [t,1]):=hh (a0w (l:=[t,1]) (by rw [hwl,hgl];exact heap_alloc_new _ _) (Nat.zero_le _) (by unfold maxLen;simp));have hb:Below (World.heap a5).size a5 a6:=by rw [hwl];exact a0c _ _
   clear hwl hgl;replace L:=hh (L.out.later hb);clear hb;refine (L.out.call fun F hs=>c0P hs (by have:=HF1.out.2;have:=HZ0.out;omega) (kInf n) (l:=[t,1]) (by simp) (I64s.two HT.out (by omega)) (HOJ.out.rd fun _=>rfl)).mono ?_;rintro e a7 ⟨rfl,o,hoth⟩;replace L:=hh o;clear o hoth;go_wp2_with fail
   go_ret2
   rw [HV.out,HW.out.1,HW.out.2];exact L.out.ret
 ·have hgq2:gq=false:=by rw [HGQ.out];unfold goodB;exact decide_eq_false (fun h9=>hgt h9.1)
  subst hgq2
  rcases (show t < 1∨(¬ t < 1∧1000 < t) by omega) with hc1 | ⟨hc1,hc2⟩
  ·clear hgt
   go_enter Tryz.func33,Tryz.ntmps33
   have HV:Hid (newE s t=2):=hh (by rw [HE.out,if_pos rfl]);have HW:Hid (newV s t=0∧s.newS t=s):=hh ⟨by unfold newV;rw [HV.out,if_neg (by decide)],by rw [HS.out,HV.out,if_neg (by decide)]⟩;go_wp2_with fail
   go_ret2
   rw [HV.out,HW.out.1,HW.out.2];exact L.out.ret
  ·clear hgt
   go_enter Tryz.func33,Tryz.ntmps33
   have HV:Hid (newE s t=2):=hh (by rw [HE.out,if_pos rfl]);have HW:Hid (newV s t=0∧s.newS t=s):=hh ⟨by unfold newV;rw [HV.out,if_neg (by decide)],by rw [HS.out,HV.out,if_neg (by decide)]⟩;go_wp2_with fail
   go_ret2
   rw [HV.out,HW.out.1,HW.out.2];exact L.out.ret

theorem j0e {w:World} {g0:Nat} {s:PS} {F:List Nat} (h:RS w g0 s F) (hz:s.sz < 1000000) (hf:Fit s) {g:Int} (hg:I64 g) (on2:Bool):Calls Tryz.prog 34 #[.pointer (some ⟨g0,0,none⟩),.int .i64 g,.bool on2] w (RRet w g0 F (s.allow g on2) (.int .i64 (allE s g))):=by
 have L:=hh (RLiv.start h);have HZ0:=hh hz;have HF0:=hh hf;have HG:=hh hg;clear h hz hf hg
 go_enter Tryz.func34,Tryz.ntmps34
 go_wp2_with fail
 cases hi:infF (getP s.t) g with
 | none=>
  have HV:Hid (allE s g=8∧s.allow g on2=s):=hh ⟨by unfold allE;rw [hi],by unfold PS.allow;rw [hi]⟩;obtain ⟨F9,h9⟩:=L.out.get;refine (a0D h9 HZ0.out HF0.out HG.out).mono ?_;rw [(a0s hi).1,(a0s hi).2.1,(a0s hi).2.2];rintro e a1 ⟨rfl,hb⟩;replace L:=hh (L.out.later hb);clear hb;clear h9;clear hi;go_wp2_with fail
  go_ret
  rw [HV.out.1,HV.out.2];exact L.out.ret
 | some p=>
  obtain ⟨t,on⟩:=p;have HV:Hid (allE s g=0∧s.allow g on2=s.setRow (kInf g) [t,onI on2]):=hh ⟨by unfold allE;rw [hi],by unfold PS.allow;rw [hi]⟩;have HT:Hid (I64 t):=hh (by have h9:=a0z hi;unfold I64;omega);obtain ⟨F9,h9⟩:=L.out.get;refine (a0D h9 HZ0.out HF0.out HG.out).mono ?_;rw [(a0v hi).1,(a0v hi).2.1,(a0v hi).2.2];rintro e a1 ⟨rfl,hb⟩;replace L:=hh (L.out.later hb);clear hb;clear h9;clear hi
  cases on2 with
  | false=>
   go_wp2_with fail;obtain ⟨a2,hwl⟩:=nm (World.alloc a1 (.cells #[.int .i64 g] 3));obtain ⟨gl,hgl⟩:=nm ((World.heap a1).size);rw [← hwl,← hgl];have HOI:Hid (Own a2 0 3 intE 1 (.slice (some ⟨gl,0,none⟩) 1 1) [g]):=hh (a0w (l:=[g]) (by rw [hwl,hgl];exact heap_alloc_new _ _) (Nat.zero_le _) (by unfold maxLen;simp));have hb:Below (World.heap a1).size a1 a2:=by rw [hwl];exact a0c _ _
   clear hwl hgl;replace L:=hh (L.out.later hb);clear hb;refine (a0O 5 [g] _ _ (by simp) (I64s.one HG.out) (HOI.out.rd fun _=>rfl)).mono ?_;rintro e a3 ⟨rfl,hb⟩;replace L:=hh (L.out.later hb);clear hb;clear HOI;go_wp2_with fail;obtain ⟨a4,hwl⟩:=nm (World.alloc a3 (.cells #[.int .i64 t,.int .i64 0] 3));obtain ⟨gl,hgl⟩:=nm ((World.heap a3).size);rw [← hwl,← hgl];have HOJ:Hid (Own a4 0 3 intE 1 (.slice (some ⟨gl,0,none⟩) 2 2) [t,0]):=hh (a0w (l:=[t,0]) (by rw [hwl,hgl];exact heap_alloc_new _ _) (Nat.zero_le _) (by unfold maxLen;simp));have hb:Below (World.heap a3).size a3 a4:=by rw [hwl];exact a0c _ _
   clear hwl hgl;replace L:=hh (L.out.later hb);clear hb;refine (L.out.call fun F hs=>c0P hs (by have:=HZ0.out;omega) (kInf g) (l:=[t,0]) (by simp) (I64s.two HT.out (by omega)) (HOJ.out.rd fun _=>rfl)).mono ?_;rintro e a5 ⟨rfl,o,hoth⟩;replace L:=hh o;clear o hoth;go_wp2_with fail
   go_ret
   rw [HV.out.1,HV.out.2];exact L.out.ret
  | true=>
   go_wp2_with fail;obtain ⟨a2,hwl⟩:=nm (World.alloc a1 (.cells #[.int .i64 g] 3));obtain ⟨gl,hgl⟩:=nm ((World.heap a1).size);rw [← hwl,← hgl];have HOI:Hid (Own a2 0 3 intE 1 (.slice (some ⟨gl,0,none⟩) 1 1) [g]):=hh (a0w (l:=[g]) (by rw [hwl,hgl];exact heap_alloc_new _ _) (Nat.zero_le _) (by unfold maxLen;simp));have hb:Below (World.heap a1).size a1 a2:=by rw [hwl];exact a0c _ _
   clear hwl hgl;replace L:=hh (L.out.later hb);clear hb;refine (a0O 5 [g] _ _ (by simp) (I64s.one HG.out) (HOI.out.rd fun _=>rfl)).mono ?_;rintro e a3 ⟨rfl,hb⟩;replace L:=hh (L.out.later hb);clear hb;clear HOI;go_wp2_with fail;obtain ⟨a4,hwl⟩:=nm (World.alloc a3 (.cells #[.int .i64 t,.int .i64 1] 3));obtain ⟨gl,hgl⟩:=nm ((World.heap a3).size);rw [← hwl,← hgl];have HOJ:Hid (Own a4 0 3 intE 1 (.slice (some ⟨gl,0,none⟩) 2 2) [t,1]):=hh (a0w (l:=[t,1]) (by rw [hwl,hgl];exact heap_alloc_new _ _) (Nat.zero_le _) (by unfold maxLen;simp));have hb:Below (World.heap a3).size a3 a4:=by rw [hwl];exact a0c _ _
   clear hwl hgl;replace L:=hh (L.out.later hb);clear hb;refine (L.out.call fun F hs=>c0P hs (by have:=HZ0.out;omega) (kInf g) (l:=[t,1]) (by simp) (I64s.two HT.out (by omega)) (HOJ.out.rd fun _=>rfl)).mono ?_;rintro e a5 ⟨rfl,o,hoth⟩;replace L:=hh o;clear o hoth;go_wp2_with fail
   go_ret
   rw [HV.out.1,HV.out.2];exact L.out.ret

theorem h0m {w:World} {g0:Nat} {s:PS} {F:List Nat} (h:RS w g0 s F) (hz:s.sz < 1000000) (hf:Fit s) {g fr:Int} (hg:I64 g) (hfr:I64 fr) {a b c d:Int} {m:Nat} (hu:UIs a b c d m):Calls Tryz.prog 36 #[.pointer (some ⟨g0,0,none⟩),.int .i64 g,.int .i64 fr,.agg #[.int .u64 a,.int .u64 b,.int .u64 c,.int .u64 d]] w (RRet w g0 F (s.don g fr m) (.int .i64 (donE s g fr m))):=by
 have L:=hh (RLiv.start h);have HZ0:=hh hz;have HF0:=hh hf;have HG:=hh hg;have HFR:=hh hfr;have HU:=hh hu;obtain ⟨gq,hgq⟩:=nm (goodB 1 fr);have HGQ:=hh hgq;clear h hz hf hg hfr hu hgq
 go_enter Tryz.func36,Tryz.ntmps36
 go_upto_region 1 with fail
 obtain ⟨w1,hw1⟩:=nm (w.alloc (.cells #[.int .u64 a,.int .u64 b,.int .u64 c,.int .u64 d] 25));obtain ⟨Y,hY⟩:=nm (w.heap.size);rw [← hw1,← hY];have HY:Hid (w1.heap[Y]? = some (.cells #[.int .u64 a,.int .u64 b,.int .u64 c,.int .u64 d] 25 (0,0))):=hh (by rw [hw1,hY];exact heap_alloc_new _ _);have hb:Below w.heap.size w w1:=by rw [hw1];exact a0c _ _
 clear hw1 hY;replace L:=hh (L.out.later hb);clear hb;go_wp2_with fail
 cases hi:infF (getP s.t) g with
 | none=>
  have HV:Hid (donE s g fr m=8∧s.don g fr m=s):=hh ⟨by unfold donE;rw [hi],by unfold PS.don;rw [hi]⟩;obtain ⟨F9,h9⟩:=L.out.get;refine (a0D h9 HZ0.out HF0.out HG.out).mono ?_;rw [(a0s hi).1,(a0s hi).2.1,(a0s hi).2.2];rintro e a1 ⟨rfl,hb⟩;replace L:=hh (L.out.later hb);clear hb;clear h9;clear hi;go_wp2_with fail
  go_ret
  rw [HV.out.1,HV.out.2];exact L.out.ret
 | some p=>
  obtain ⟨t,on⟩:=p;have HT:Hid (I64 t):=hh (by have h9:=a0z hi;unfold I64;omega);have HE:Hid (donE s g fr m=(if goodB 1 fr=false then 2 else mvE s t g fr m)∧s.don g fr m=(if goodB 1 fr=false then s else s.mv t g fr m)):=hh ⟨by unfold donE;rw [hi],by unfold PS.don;rw [hi]⟩;obtain ⟨F9,h9⟩:=L.out.get;refine (a0D h9 HZ0.out HF0.out HG.out).mono ?_;rw [(a0v hi).1,(a0v hi).2.1,(a0v hi).2.2];rintro e a1 ⟨rfl,hb⟩;replace L:=hh (L.out.later hb);replace HY:=bA hb HY;clear hb;clear h9;clear hi;go_wp2_with fail;refine (f0I fr _).mono ?_;rw [show decide (1≤fr∧fr≤4294967295)=gq from (by rw [HGQ.out];unfold goodB;simp)];rintro e _ ⟨rfl,rfl⟩
  cases gq with
  | false=>
   have HV:Hid (donE s g fr m=2∧s.don g fr m=s):=hh ⟨by rw [HE.out.1,← HGQ.out,if_pos rfl],by rw [HE.out.2,← HGQ.out,if_pos rfl]⟩;go_wp2_with fail
   go_ret
   rw [HV.out.1,HV.out.2];exact L.out.ret
  | true=>
   have HV:Hid (donE s g fr m=mvE s t g fr m∧s.don g fr m=s.mv t g fr m):=hh ⟨by rw [HE.out.1,← HGQ.out,if_neg (by decide)],by rw [HE.out.2,← HGQ.out,if_neg (by decide)]⟩;go_wp2_with fail;obtain ⟨a2,hwz,hbz⟩:=dr a1;replace L:=hh (L.out.later hbz);replace HY:=bA hbz HY;clear hbz;refine rg1 10 10 hwz HY fun hS=>?_
   clear hwz;refine tA1 0 26 hS ?_;go_frame;refine tA1 1 27 hS ?_;go_frame;refine tA1 2 28 hS ?_;go_frame;refine tA1 4 30 hS ?_;go_frame;refine tA1 5 31 hS ?_;go_frame;refine tl 7 (some 33) (fun _ h=>h) Tryz.underlying25 Tryz.sizeU hS ?_;go_frame;refine t1 3 fun K hK=>?_
   simp only [gA,jB,gC];go_simp;refine (d0p HT.out HFR.out _).mono ?_;rintro e a3 ⟨rfl,hb⟩;replace L:=hh (L.out.later hb);replace HY:=bA hb HY;clear hb;replace hS:=HY.out;refine hK _ _ (fun _ _=>hS) ?_;clear hK;refine t1 6 fun K hK=>?_
   simp only [gA,jB,gC];go_simp;refine (c0h HT.out HG.out _).mono ?_;rintro e a4 ⟨rfl,hb⟩;replace L:=hh (L.out.later hb);replace HY:=bA hb HY;clear hb;replace hS:=HY.out;refine hK _ _ (fun _ _=>hS) ?_;clear hK;refine t1 8 fun K hK=>?_
   simp only [gA,jB,gC];go_simp;refine (L.out.call fun F hs=>c0T hs (by have:=HZ0.out;omega) HF0.out (kAcc t fr) (kStk t g) HU.out).mono ?_;rintro e a5 ⟨rfl,o,hoth⟩;replace L:=hh o;replace HY:=oA hoth HY;clear o hoth;replace hS:=HY.out;refine hK _ _ (fun _ _=>hS) ?_;clear hK;refine tA1 9 8 hS ?_;go_frame;refine tD ?_;clear hS;go_wp2_with fail
   go_ret
   rw [HV.out.1,HV.out.2];exact L.out.ret

theorem h0N (n m:Nat):0 < cmpV n m↔m < n:=by
 unfold cmpV
 by_cases h1:n < m
 ·rw [if_pos h1];omega
 ·rw [if_neg h1]
  by_cases h2:n=m
  ·rw [if_pos h2];omega
  ·rw [if_neg h2];omega

theorem i0G {w:World} {g0:Nat} {s:PS} {F:List Nat} (h:RS w g0 s F) (hz:s.sz < 1000000) (hf:Fit s) {g t:Int} (hg:I64 g) (ht:I64 t) {on:Bool} (hi:infF (getP s.t) g=some (t,on)) (tq:Txt) {a b c d:Int} {m:Nat} (hu:UIs a b c d m):Calls Tryz.prog 92 #[.pointer (some ⟨g0,0,none⟩),.int .i64 g,.string (bs tq),.agg #[.int .u64 a,.int .u64 b,.int .u64 c,.int .u64 d]] w (RRet w g0 F (s.out t g tq m) (.tuple #[.agg #[.int .u64 (uw0 (outV s t g tq m)),.int .u64 (uw1 (outV s t g tq m)),.int .u64 (uw2 (outV s t g tq m)),.int .u64 (uw3 (outV s t g tq m))],.int .i64 (outE s t g tq m)])):=by
 have L:=hh (RLiv.start h);have HZ0:=hh hz;have HF0:=hh hf;have HG:=hh hg;have HT:=hh ht;have HU:=hh hu;clear h hz hf hg ht hu
 go_enter Tryz.func92,Tryz.ntmps92
 go_wp2_with (refine sA _ Tryz.zeroUz ?_)
 obtain ⟨w1,hw1⟩:=nm (w.alloc (.cells #[.int .u64 a,.int .u64 b,.int .u64 c,.int .u64 d] 25));obtain ⟨Y,hY⟩:=nm (w.heap.size);rw [← hw1,← hY];have HY:Hid (w1.heap[Y]? = some (.cells #[.int .u64 a,.int .u64 b,.int .u64 c,.int .u64 d] 25 (0,0))):=hh (by rw [hw1,hY];exact heap_alloc_new _ _);have hb:Below w.heap.size w w1:=by rw [hw1];exact a0c _ _
 clear hw1 hY;replace L:=hh (L.out.later hb);clear hb;intro R a1 hR;have WR:=mGe hR L.out.keep.size;have NYR:=mNe hR HY;have HR:=hh hR.out.cells;have hbR:=hR.out.below;clear hR;replace L:=hh (L.out.later hbR);replace HY:=bA hbR HY;clear hbR;go_wp2_with fail;obtain ⟨F9,h9⟩:=L.out.get;refine (a0D h9 HZ0.out HF0.out HG.out).mono ?_;rw [(a0v hi).1,(a0v hi).2.1,(a0v hi).2.2];rintro e a2 ⟨rfl,hb⟩;replace L:=hh (L.out.later hb);replace HY:=bA hb HY;replace HR:=bA hb HR;clear hb;clear h9;go_wp2_with fail;have HTV:Hid (totV (getP s.t) g=vTo (getP s.t) g):=hh (by unfold totV;rw [hi]);have HSV:Hid (stkV (getP s.t) g=vSt (getP s.t) t g):=hh (by unfold stkV;rw [hi]);clear hi;obtain ⟨a3,hwz,hbz⟩:=dr a2;replace L:=hh (L.out.later hbz);replace HY:=bA hbz HY;replace HR:=bA hbz HR;clear hbz;refine rg1 6 6 hwz HY fun hS=>?_
 clear hwz;refine tl 0 (some 23) (fun _ h=>h) Tryz.underlying25 Tryz.sizeU hS ?_;go_frame;refine tA1 1 24 hS ?_;go_frame;refine tA1 2 25 hS ?_;go_frame;refine t1 3 fun K hK=>?_
 simp only [gA,jB,gC];go_simp;obtain ⟨F9,h9⟩:=L.out.get;refine (a0K h9 HZ0.out HF0.out HG.out).mono ?_;rintro e a4 ⟨ya,yb,yc,yd,hu,rfl,hb⟩;rw [HTV.out] at hu;have HYU:=hh hu;clear hu h9;replace L:=hh (L.out.later hb);replace HY:=bA hb HY;replace HR:=bA hb HR;clear hb;replace hS:=HY.out;refine hK _ _ (fun _ _=>hS) ?_;clear hK;refine t1 4 fun K hK=>?_
 simp only [gA,jB,gC];go_simp;refine (h0S HU.out HYU.out _).mono ?_;rintro e a5 ⟨rfl,hb⟩;obtain ⟨cv,hcv⟩:=nm (cmpV m (vTo (getP s.t) g));have HCV:=hh hcv;rw [← hcv];clear hcv;replace L:=hh (L.out.later hb);replace HY:=bA hb HY;replace HR:=bA hb HR;clear hb;replace hS:=HY.out;refine hK _ _ (fun _ _=>hS) ?_;clear hK;refine tA1 5 28 hS ?_;go_frame;refine tD ?_;clear hS
 by_cases hlt:0 < cv
 ·have hlt2:decide (0 < cv)=true:=decide_eq_true hlt;have HM:Hid (vTo (getP s.t) g < m):=hh ((h0N _ _).1 (by rw [← HCV.out];exact hlt));have HV:Hid (outE s t g tq m=13):=hh (by unfold outE;rw [if_pos HM.out]);have HW:Hid (outE s t g tq m=13∧s.out t g tq m=s∧outV s t g tq m=0):=hh ⟨HV.out,by unfold PS.out;rw [HV.out,if_neg (by decide)],by unfold outV;rw [HV.out,if_neg (by decide)]⟩
  go_wp2_with (refine a0a (t:=25) (old:=u0) rfl 25 _ _ rfl R u0 rfl rfl HR.out Tryz.sizeU rfl (a0j _ _ _ _) ?_)
  intro a6 hxR kR zR;clear zR;replace L:=hh (a0i L.out HR.out rfl kR WR.out);replace HR:=hh hxR;clear hxR kR;go_wp2_with fail
  exact bR rfl rfl HR Tryz.underlying25 Tryz.sizeU (by rw [HW.out.1,HW.out.2.1,HW.out.2.2,a0H];exact L.out.ret)
 ·have hlt2:decide (0 < cv)=false:=decide_eq_false hlt;have HM:Hid (outE s t g tq m=moveE (getP s.t) (kStk t g) tq (outX s t g m)):=hh (by
   unfold outE
   rw [if_neg];intro h9
   exact hlt (by rw [HCV.out];exact (h0N _ _).2 h9))
  obtain ⟨x,hx⟩:=nm (outX s t g m);obtain ⟨er,her⟩:=nm (moveE (getP s.t) (kStk t g) tq x);obtain ⟨s1,hs1⟩:=nm (s.moveA (kStk t g) tq x);obtain ⟨s2,hs2⟩:=nm (s1.subA (kTot g) m);have HOV:Hid (outE s t g tq m=er∧s.out t g tq m=(if er=0 then s2 else s)∧outV s t g tq m=if er=0 then x else 0):=hh (by
   have h9:=HM.out;rw [← hx,← her] at h9
   exact ⟨h9,by unfold PS.out;rw [h9,← hx,← hs1,← hs2],by unfold outV;rw [h9,← hx]⟩)
  have HF1:Hid (Fit s1∧s1.sz≤s.sz+4):=hh ⟨by rw [hs1];exact HF0.out.moveA _ _ _,by rw [hs1];exact d0P _ _ _ _⟩;have HNO:Hid (er≠0→s1=s):=hh (fun h9=>by rw [hs1];exact d0q (by rw [← her];exact h9));have HX:=hh hx;have HER:=hh her;have HS1:=hh hs1;have HS2:=hh hs2;clear HM hx her hs1 hs2
  go_upto_region 4 with fail
  clear hlt hlt2
  go_cut [13,14] from 30 to 41 (fun s13 _ wx=>∃ O:Nat,s13 = .pointer (some ⟨O,0,none⟩)∧Hid (w.heap.size≤O)∧Hid (Y≠O)∧Hid (R≠O)∧Hid (wx.heap[O]? = some (.cells #[.int .u64 (uw0 x),.int .u64 (uw1 x),.int .u64 (uw2 x),.int .u64 (uw3 x)] 25 (0,0)))∧Hid (wx.heap[Y]? = some (.cells #[.int .u64 a,.int .u64 b,.int .u64 c,.int .u64 d] 25 (0,0)))∧Hid (wx.heap[R]? = some (.cells u0 25 (0,0)))∧Hid (RLiv w F wx g0 s))
  case first=>
   obtain ⟨a6,hwz,hbz⟩:=dr a5;replace L:=hh (L.out.later hbz);replace HY:=bA hbz HY;replace HR:=bA hbz HR;clear hbz;refine rg1 14 14 hwz HY fun hS=>?_
   clear hwz;refine tA1 0 31 hS ?_;go_frame;refine tA1 1 32 hS ?_;go_frame;refine tA1 3 34 hS ?_;go_frame;refine tA1 4 35 hS ?_;go_frame;refine tl 6 (some 37) (fun _ h=>h) Tryz.underlying25 Tryz.sizeU hS ?_;go_frame;refine a0k 2 11 rfl rfl (by kernel_rfl) (fun K hK=>?_) (fun K hK=>?_)
   ·simp only [gA,jB,gC];rw [if_pos (by rfl)];go_simp;obtain ⟨F9,h9⟩:=L.out.get;refine (b0e h9 HZ0.out HF0.out HG.out).mono ?_;rintro e a7 ⟨pa,pb,pc,pd,hu,rfl,hb⟩;rw [HSV.out] at hu;have HPU:=hh hu;clear hu h9;replace L:=hh (L.out.later hb);replace HY:=bA hb HY;replace HR:=bA hb HR;clear hb;replace hS:=HY.out;refine hK _ _ (fun _ _=>hS) ?_;clear hK;refine a0k 5 11 rfl rfl (by kernel_rfl) (fun K hK=>?_) (fun K hK=>?_)
    ·simp only [gA,jB,gC];rw [if_pos (by rfl)];go_simp;obtain ⟨F9,h9⟩:=L.out.get;refine (a0K h9 HZ0.out HF0.out HG.out).mono ?_;rintro e a8 ⟨za,zb,zc,zd,hu,rfl,hb⟩;rw [HTV.out] at hu;have HZU:=hh hu;clear hu h9;replace L:=hh (L.out.later hb);replace HY:=bA hb HY;replace HR:=bA hb HR;clear hb;replace hS:=HY.out;refine hK _ _ (fun _ _=>hS) ?_;clear hK;refine a0k 7 11 rfl rfl (by kernel_rfl) (fun K hK=>?_) (fun K hK=>?_)
     ·simp only [gA,jB,gC];rw [if_pos (by rfl)];go_simp;refine (a0V HPU.out HZU.out HU.out _).mono ?_;rintro e a9 ⟨qa,qb,qc,qd,hu,rfl,hb⟩;have hu':UIs qa qb qc qd x:=by rw [HX.out];exact hu
      obtain ⟨rfl,rfl,rfl,rfl⟩:=hu'.uw;clear hu hu';replace L:=hh (L.out.later hb);replace HY:=bA hb HY;replace HR:=bA hb HR;clear hb;replace hS:=HY.out;refine hK _ _ (fun _ _=>hS) ?_;clear hK;refine tA1 8 30 hS ?_;go_frame;refine tA1 9 39 hS ?_;go_frame;refine tA1 10 40 hS ?_;go_frame;refine t1 11 fun K hK=>?_
      simp only [gA,jB,gC];refine wA1 25 Tryz.zeroUz ?_;intro O a10 hO;have WO:=mGe hO L.out.keep.size;have NYO:=mNe hO HY;have NRO:=mNe hO HR;have HO:=hh hO.out.cells;have hbO:=hO.out.below;clear hO;replace L:=hh (L.out.later hbO);replace HY:=bA hbO HY;replace HR:=bA hbO HR;clear hbO;replace hS:=HY.out;refine hK _ _ (fun _ _=>hS) ?_;clear hK;refine t1 12 fun K hK=>?_
      simp only [gA,jB,gC];refine wR1 25 #[.int .u64 (uw0 x),.int .u64 (uw1 x),.int .u64 (uw2 x),.int .u64 (uw3 x)] HO Tryz.sizeU ?_;intro a11 hxO kO zO;clear zO;replace L:=hh (a0i L.out HO.out rfl kO WO.out);replace HY:=ka1 kO HY NYO;replace HR:=ka1 kO HR NRO;replace HO:=hh hxO;clear hxO kO;replace hS:=HY.out;refine hK _ _ (fun _ _=>hS) ?_;clear hK;refine tA1 13 14 hS ?_;go_frame;refine tD ?_;clear hS;go_wp2_with fail
      go_meet
      case rel=>exact ⟨O,rfl,WO,NYO,NRO,HO,HY,HR,L⟩
     ·simp only [gA,jB,gC];rw [if_pos (by rfl)];refine wA1 25 Tryz.zeroUz ?_;intro O a9 hO;have WO:=mGe hO L.out.keep.size;have NYO:=mNe hO HY;have NRO:=mNe hO HR;have HO:=hh hO.out.cells;have hbO:=hO.out.below;clear hO;replace L:=hh (L.out.later hbO);replace HY:=bA hbO HY;replace HR:=bA hbO HR;clear hbO;replace hS:=HY.out;refine hK _ _ (fun _ _=>hS) ?_;clear hK;refine t1 7 fun K hK=>?_
      simp only [gA,jB,gC];go_simp;refine (a0V HPU.out HZU.out HU.out _).mono ?_;rintro e a10 ⟨qa,qb,qc,qd,hu,rfl,hb⟩;have hu':UIs qa qb qc qd x:=by rw [HX.out];exact hu
      obtain ⟨rfl,rfl,rfl,rfl⟩:=hu'.uw;clear hu hu';replace L:=hh (L.out.later hb);replace HY:=bA hb HY;replace HR:=bA hb HR;replace HO:=bA hb HO;clear hb;replace hS:=HY.out;refine hK _ _ (fun _ _=>hS) ?_;clear hK;refine tA1 8 30 hS ?_;go_frame;refine tA1 9 39 hS ?_;go_frame;refine tA1 10 40 hS ?_;go_frame;refine t1 12 fun K hK=>?_
      simp only [gA,jB,gC];refine wR1 25 #[.int .u64 (uw0 x),.int .u64 (uw1 x),.int .u64 (uw2 x),.int .u64 (uw3 x)] HO Tryz.sizeU ?_;intro a11 hxO kO zO;clear zO;replace L:=hh (a0i L.out HO.out rfl kO WO.out);replace HY:=ka1 kO HY NYO;replace HR:=ka1 kO HR NRO;replace HO:=hh hxO;clear hxO kO;replace hS:=HY.out;refine hK _ _ (fun _ _=>hS) ?_;clear hK;refine tA1 13 14 hS ?_;go_frame;refine tD ?_;clear hS;go_wp2_with fail
      go_meet
      case rel=>exact ⟨O,rfl,WO,NYO,NRO,HO,HY,HR,L⟩
    ·simp only [gA,jB,gC];rw [if_pos (by rfl)];refine wA1 25 Tryz.zeroUz ?_;intro O a8 hO;have WO:=mGe hO L.out.keep.size;have NYO:=mNe hO HY;have NRO:=mNe hO HR;have HO:=hh hO.out.cells;have hbO:=hO.out.below;clear hO;replace L:=hh (L.out.later hbO);replace HY:=bA hbO HY;replace HR:=bA hbO HR;clear hbO;replace hS:=HY.out;refine hK _ _ (fun _ _=>hS) ?_;clear hK;refine t1 5 fun K hK=>?_
     simp only [gA,jB,gC];go_simp;obtain ⟨F9,h9⟩:=L.out.get;refine (a0K h9 HZ0.out HF0.out HG.out).mono ?_;rintro e a9 ⟨za,zb,zc,zd,hu,rfl,hb⟩;rw [HTV.out] at hu;have HZU:=hh hu;clear hu h9;replace L:=hh (L.out.later hb);replace HY:=bA hb HY;replace HR:=bA hb HR;replace HO:=bA hb HO;clear hb;replace hS:=HY.out;refine hK _ _ (fun _ _=>hS) ?_;clear hK;refine t1 7 fun K hK=>?_
     simp only [gA,jB,gC];go_simp;refine (a0V HPU.out HZU.out HU.out _).mono ?_;rintro e a10 ⟨qa,qb,qc,qd,hu,rfl,hb⟩;have hu':UIs qa qb qc qd x:=by rw [HX.out];exact hu
     obtain ⟨rfl,rfl,rfl,rfl⟩:=hu'.uw;clear hu hu';replace L:=hh (L.out.later hb);replace HY:=bA hb HY;replace HR:=bA hb HR;replace HO:=bA hb HO;clear hb;replace hS:=HY.out;refine hK _ _ (fun _ _=>hS) ?_;clear hK;refine tA1 8 30 hS ?_;go_frame;refine tA1 9 39 hS ?_;go_frame;refine tA1 10 40 hS ?_;go_frame;refine t1 12 fun K hK=>?_
     simp only [gA,jB,gC];refine wR1 25 #[.int .u64 (uw0 x),.int .u64 (uw1 x),.int .u64 (uw2 x),.int .u64 (uw3 x)] HO Tryz.sizeU ?_;intro a11 hxO kO zO;clear zO;replace L:=hh (a0i L.out HO.out rfl kO WO.out);replace HY:=ka1 kO HY NYO;replace HR:=ka1 kO HR NRO;replace HO:=hh hxO;clear hxO kO;replace hS:=HY.out;refine hK _ _ (fun _ _=>hS) ?_;clear hK;refine tA1 13 14 hS ?_;go_frame;refine tD ?_;clear hS;go_wp2_with fail
     go_meet
     case rel=>exact ⟨O,rfl,WO,NYO,NRO,HO,HY,HR,L⟩
   ·simp only [gA,jB,gC];rw [if_pos (by rfl)];refine wA1 25 Tryz.zeroUz ?_;intro O a7 hO;have WO:=mGe hO L.out.keep.size;have NYO:=mNe hO HY;have NRO:=mNe hO HR;have HO:=hh hO.out.cells;have hbO:=hO.out.below;clear hO;replace L:=hh (L.out.later hbO);replace HY:=bA hbO HY;replace HR:=bA hbO HR;clear hbO;replace hS:=HY.out;refine hK _ _ (fun _ _=>hS) ?_;clear hK;refine t1 2 fun K hK=>?_
    simp only [gA,jB,gC];go_simp;obtain ⟨F9,h9⟩:=L.out.get;refine (b0e h9 HZ0.out HF0.out HG.out).mono ?_;rintro e a8 ⟨pa,pb,pc,pd,hu,rfl,hb⟩;rw [HSV.out] at hu;have HPU:=hh hu;clear hu h9;replace L:=hh (L.out.later hb);replace HY:=bA hb HY;replace HR:=bA hb HR;replace HO:=bA hb HO;clear hb;replace hS:=HY.out;refine hK _ _ (fun _ _=>hS) ?_;clear hK;refine t1 5 fun K hK=>?_
    simp only [gA,jB,gC];go_simp;obtain ⟨F9,h9⟩:=L.out.get;refine (a0K h9 HZ0.out HF0.out HG.out).mono ?_;rintro e a9 ⟨za,zb,zc,zd,hu,rfl,hb⟩;rw [HTV.out] at hu;have HZU:=hh hu;clear hu h9;replace L:=hh (L.out.later hb);replace HY:=bA hb HY;replace HR:=bA hb HR;replace HO:=bA hb HO;clear hb;replace hS:=HY.out;refine hK _ _ (fun _ _=>hS) ?_;clear hK;refine t1 7 fun K hK=>?_
    simp only [gA,jB,gC];go_simp;refine (a0V HPU.out HZU.out HU.out _).mono ?_;rintro e a10 ⟨qa,qb,qc,qd,hu,rfl,hb⟩;have hu':UIs qa qb qc qd x:=by rw [HX.out];exact hu
    obtain ⟨rfl,rfl,rfl,rfl⟩:=hu'.uw;clear hu hu';replace L:=hh (L.out.later hb);replace HY:=bA hb HY;replace HR:=bA hb HR;replace HO:=bA hb HO;clear hb;replace hS:=HY.out;refine hK _ _ (fun _ _=>hS) ?_;clear hK;refine tA1 8 30 hS ?_;go_frame;refine tA1 9 39 hS ?_;go_frame;refine tA1 10 40 hS ?_;go_frame;refine t1 12 fun K hK=>?_
    simp only [gA,jB,gC];refine wR1 25 #[.int .u64 (uw0 x),.int .u64 (uw1 x),.int .u64 (uw2 x),.int .u64 (uw3 x)] HO Tryz.sizeU ?_;intro a11 hxO kO zO;clear zO;replace L:=hh (a0i L.out HO.out rfl kO WO.out);replace HY:=ka1 kO HY NYO;replace HR:=ka1 kO HR NRO;replace HO:=hh hxO;clear hxO kO;replace hS:=HY.out;refine hK _ _ (fun _ _=>hS) ?_;clear hK;refine tA1 13 14 hS ?_;go_frame;refine tD ?_;clear hS;go_wp2_with fail
    go_meet
    case rel=>exact ⟨O,rfl,WO,NYO,NRO,HO,HY,HR,L⟩
  case rest=>
   clear L HY HR;obtain ⟨O,rfl,WO,NYO,NRO,HO,HY,HR,L⟩:=hcut;have HXL:Hid (x < uMax):=hh (by rw [HX.out];exact h0G _ _ _ _);go_wp2_with fail;obtain ⟨b1,hwz,hbz⟩:=dr wc;replace L:=hh (L.out.later hbz);replace HY:=bA hbz HY;replace HR:=bA hbz HR;replace HO:=bA hbz HO;clear hbz;refine rg1 8 8 hwz HO fun hS=>?_
   clear hwz;refine tA1 0 41 hS ?_;go_frame;refine tA1 1 42 hS ?_;go_frame;refine tA1 2 43 hS ?_;go_frame;refine tA1 4 45 hS ?_;go_frame;refine tl 5 (some 46) (fun _ h=>h) Tryz.underlying25 Tryz.sizeU hS ?_;go_frame;refine t1 3 fun K hK=>?_
   simp only [gA,jB,gC];go_simp;refine (c0h HT.out HG.out _).mono ?_;rintro e b2 ⟨rfl,hb⟩;replace L:=hh (L.out.later hb);replace HY:=bA hb HY;replace HR:=bA hb HR;replace HO:=bA hb HO;clear hb;replace hS:=HO.out;refine hK _ _ (fun _ _=>hS) ?_;clear hK;refine t1 6 fun K hK=>?_
   simp only [gA,jB,gC];go_simp;refine (L.out.call fun F hs=>c0T hs (by have:=HZ0.out;omega) HF0.out (kStk t g) tq (uw_is HXL.out)).mono ?_;rw [← HER.out,← HS1.out];rintro e b3 ⟨rfl,o,hoth⟩;replace L:=hh o;replace HY:=oA hoth HY;replace HR:=oA hoth HR;replace HO:=oA hoth HO;clear o hoth;replace hS:=HO.out;refine hK _ _ (fun _ _=>hS) ?_;clear hK;refine tA1 7 15 hS ?_;go_frame;refine tD ?_;clear hS
   by_cases hz1:er=0
   ·have hne:(er != 0)=false:=by simpa using hz1
    have HW:Hid (outE s t g tq m=0∧s.out t g tq m=s2∧outV s t g tq m=x):=hh ⟨HOV.out.1.trans hz1,by rw [HOV.out.2.1,if_pos hz1],by rw [HOV.out.2.2,if_pos hz1]⟩;clear hz1;go_wp2_with fail;clear hne;obtain ⟨b4,hwz,hbz⟩:=dr b3;replace L:=hh (L.out.later hbz);replace HY:=bA hbz HY;replace HR:=bA hbz HR;replace HO:=bA hbz HO;clear hbz;refine rg1 5 5 hwz HY fun hS=>?_
    clear hwz;refine tA1 0 52 hS ?_;go_frame;refine tA1 1 53 hS ?_;go_frame;refine tl 3 (some 55) (fun _ h=>h) Tryz.underlying25 Tryz.sizeU hS ?_;go_frame;refine t1 2 fun K hK=>?_
    simp only [gA,jB,gC];go_simp;refine (g0f HG.out _).mono ?_;rintro e b5 ⟨rfl,hb⟩;replace L:=hh (L.out.later hb);replace HY:=bA hb HY;replace HR:=bA hb HR;replace HO:=bA hb HO;clear hb;replace hS:=HY.out;refine hK _ _ (fun _ _=>hS) ?_;clear hK;refine t1 4 fun K hK=>?_
    simp only [gA,jB,gC];go_simp;refine (L.out.call fun F hs=>j0m hs (by have:=HF1.out.2;have:=HZ0.out;omega) HF1.out.1 (kTot g) HU.out).mono ?_;rw [← HS2.out];rintro e b6 ⟨rfl,o,hoth⟩;replace L:=hh o;replace HY:=oA hoth HY;replace HR:=oA hoth HR;replace HO:=oA hoth HO;clear o hoth;replace hS:=HY.out;refine hK _ _ (fun _ _=>hS) ?_;clear hK;refine tD ?_;clear hS
    go_wp2_with (first
     | (refine lR HO Tryz.underlying25 Tryz.sizeU ?_)
     | (refine sR 25 #[.int .u64 (uw0 x),.int .u64 (uw1 x),.int .u64 (uw2 x),.int .u64 (uw3 x)] HR Tryz.sizeU ?_))
    intro b7 hxR kR zR;clear zR;replace L:=hh (a0i L.out HR.out rfl kR WR.out);replace HR:=hh hxR;clear hxR kR;go_wp2_with fail
    exact bR rfl rfl HR Tryz.underlying25 Tryz.sizeU (by rw [HW.out.1,HW.out.2.1,HW.out.2.2];exact L.out.ret)
   ·have hne:(er != 0)=true:=by simpa using hz1
    have HW:Hid (outE s t g tq m=er∧s.out t g tq m=s1∧outV s t g tq m=0):=hh ⟨HOV.out.1,by rw [HOV.out.2.1,if_neg hz1,HNO.out hz1],by rw [HOV.out.2.2,if_neg hz1]⟩;clear hz1
    go_wp2_with (refine a0a (t:=25) (old:=u0) rfl 25 _ _ rfl R u0 rfl rfl HR.out Tryz.sizeU rfl (a0j _ _ _ _) ?_)
    intro b4 hxR kR zR;clear zR;replace L:=hh (a0i L.out HR.out rfl kR WR.out);replace HR:=hh hxR;clear hxR kR;go_wp2_with fail
    exact bR rfl rfl HR Tryz.underlying25 Tryz.sizeU (by rw [HW.out.1,HW.out.2.1,HW.out.2.2,a0H];exact L.out.ret)

theorem h0y {w:World} {g0:Nat} {s:PS} {F:List Nat} (h:RS w g0 s F) (hz:s.sz < 1000000) (hf:Fit s) {g fr:Int} (hg:I64 g) (hfr:I64 fr) {a b c d:Int} {m:Nat} (hu:UIs a b c d m):Calls Tryz.prog 37 #[.pointer (some ⟨g0,0,none⟩),.int .i64 g,.int .i64 fr,.agg #[.int .u64 a,.int .u64 b,.int .u64 c,.int .u64 d]] w (RRet w g0 F (s.red g fr m) (.tuple #[.agg #[.int .u64 (uw0 (redV s g fr m)),.int .u64 (uw1 (redV s g fr m)),.int .u64 (uw2 (redV s g fr m)),.int .u64 (uw3 (redV s g fr m))],.int .i64 (redE s g fr m)])):=by
 have L:=hh (RLiv.start h);have HZ0:=hh hz;have HF0:=hh hf;have HG:=hh hg;have HFR:=hh hfr;have HU:=hh hu;obtain ⟨gq,hgq⟩:=nm (goodB 1 fr);have HGQ:=hh hgq;clear h hz hf hg hfr hu hgq
 go_enter Tryz.func37,Tryz.ntmps37
 go_wp2_with (refine sA _ Tryz.zeroUz ?_)
 obtain ⟨w1,hw1⟩:=nm (w.alloc (.cells #[.int .u64 a,.int .u64 b,.int .u64 c,.int .u64 d] 25));obtain ⟨Y,hY⟩:=nm (w.heap.size);rw [← hw1,← hY];have HY:Hid (w1.heap[Y]? = some (.cells #[.int .u64 a,.int .u64 b,.int .u64 c,.int .u64 d] 25 (0,0))):=hh (by rw [hw1,hY];exact heap_alloc_new _ _);have hb:Below w.heap.size w w1:=by rw [hw1];exact a0c _ _
 clear hw1 hY;replace L:=hh (L.out.later hb);clear hb;intro R a1 hR;have WR:=mGe hR L.out.keep.size;have NYR:=mNe hR HY;have HR:=hh hR.out.cells;have hbR:=hR.out.below;clear hR;replace L:=hh (L.out.later hbR);replace HY:=bA hbR HY;clear hbR;go_wp2_with fail
 cases hi:infF (getP s.t) g with
 | none=>
  have HW:Hid (redE s g fr m=8∧s.red g fr m=s∧redV s g fr m=0):=hh ⟨by unfold redE;rw [hi],by unfold PS.red;rw [hi],by unfold redV;rw [hi]⟩;obtain ⟨F9,h9⟩:=L.out.get;refine (a0D h9 HZ0.out HF0.out HG.out).mono ?_;rw [(a0s hi).1,(a0s hi).2.1,(a0s hi).2.2];rintro e a2 ⟨rfl,hb⟩;replace L:=hh (L.out.later hb);replace HR:=bA hb HR;clear hb;clear h9;clear hi
  go_wp2_with (refine a0a (t:=25) (old:=u0) rfl 25 _ _ rfl R u0 rfl rfl HR.out Tryz.sizeU rfl (a0j _ _ _ _) ?_)
  intro a3 hxR kR zR;clear zR;replace L:=hh (a0i L.out HR.out rfl kR WR.out);replace HR:=hh hxR;clear hxR kR;go_wp2_with fail
  exact bR rfl rfl HR Tryz.underlying25 Tryz.sizeU (by rw [HW.out.1,HW.out.2.1,HW.out.2.2,a0H];exact L.out.ret)
 | some p=>
  obtain ⟨t,on⟩:=p;have HT:Hid (I64 t):=hh (by have h9:=a0z hi;unfold I64;omega);have HE:Hid (redE s g fr m=(if goodB 1 fr=false then 2 else outE s t g (kAcc t fr) m)∧s.red g fr m=(if goodB 1 fr=false then s else s.out t g (kAcc t fr) m)∧redV s g fr m=if goodB 1 fr=false then 0 else outV s t g (kAcc t fr) m):=hh ⟨by unfold redE;rw [hi],by unfold PS.red;rw [hi],by unfold redV;rw [hi]⟩;obtain ⟨F9,h9⟩:=L.out.get;refine (a0D h9 HZ0.out HF0.out HG.out).mono ?_;rw [(a0v hi).1,(a0v hi).2.1,(a0v hi).2.2];rintro e a2 ⟨rfl,hb⟩;replace L:=hh (L.out.later hb);replace HY:=bA hb HY;replace HR:=bA hb HR;clear hb;clear h9;have HIF:=hh hi;clear hi;go_wp2_with fail;refine (f0I fr _).mono ?_;rw [show decide (1≤fr∧fr≤4294967295)=gq from (by rw [HGQ.out];unfold goodB;simp)];rintro e _ ⟨rfl,rfl⟩
  cases gq with
  | false=>
   have HW:Hid (redE s g fr m=2∧s.red g fr m=s∧redV s g fr m=0):=hh ⟨by rw [HE.out.1,← HGQ.out,if_pos rfl],by rw [HE.out.2.1,← HGQ.out,if_pos rfl],by rw [HE.out.2.2,← HGQ.out,if_pos rfl]⟩
   go_wp2_with (refine a0a (t:=25) (old:=u0) rfl 25 _ _ rfl R u0 rfl rfl HR.out Tryz.sizeU rfl (a0j _ _ _ _) ?_)
   intro a3 hxR kR zR;clear zR;replace L:=hh (a0i L.out HR.out rfl kR WR.out);replace HR:=hh hxR;clear hxR kR;go_wp2_with fail
   exact bR rfl rfl HR Tryz.underlying25 Tryz.sizeU (by rw [HW.out.1,HW.out.2.1,HW.out.2.2,a0H];exact L.out.ret)
  | true=>
   have HW0:Hid (redE s g fr m=outE s t g (kAcc t fr) m∧s.red g fr m=s.out t g (kAcc t fr) m∧redV s g fr m=outV s t g (kAcc t fr) m):=hh ⟨by rw [HE.out.1,← HGQ.out,if_neg (by decide)],by rw [HE.out.2.1,← HGQ.out,if_neg (by decide)],by rw [HE.out.2.2,← HGQ.out,if_neg (by decide)]⟩;obtain ⟨x,hx⟩:=nm (outV s t g (kAcc t fr) m);obtain ⟨er,her⟩:=nm (outE s t g (kAcc t fr) m);obtain ⟨s2,hs2⟩:=nm (s.out t g (kAcc t fr) m);have HX:=hh hx;have HER:=hh her;have HS2:=hh hs2;have HW:Hid (redE s g fr m=er∧s.red g fr m=s2∧redV s g fr m=x):=hh ⟨by rw [HW0.out.1,her],by rw [HW0.out.2.1,hs2],by rw [HW0.out.2.2,hx]⟩;clear hx her hs2;go_wp2_with fail;obtain ⟨a3,hwz,hbz⟩:=dr a2;replace L:=hh (L.out.later hbz);replace HY:=bA hbz HY;replace HR:=bA hbz HR;clear hbz;refine rg1 11 11 hwz HY fun hS=>?_
   clear hwz;refine tA1 0 29 hS ?_;go_frame;refine tA1 1 30 hS ?_;go_frame;refine tA1 2 31 hS ?_;go_frame;refine tA1 3 32 hS ?_;go_frame;refine tl 5 (some 34) (fun _ h=>h) Tryz.underlying25 Tryz.sizeU hS ?_;go_frame;refine t1 4 fun K hK=>?_
   simp only [gA,jB,gC];go_simp;refine (d0p HT.out HFR.out _).mono ?_;rintro e a4 ⟨rfl,hb⟩;replace L:=hh (L.out.later hb);replace HY:=bA hb HY;replace HR:=bA hb HR;clear hb;replace hS:=HY.out;refine hK _ _ (fun _ _=>hS) ?_;clear hK;refine t1 6 fun K hK=>?_
   simp only [gA,jB,gC];go_simp;refine (L.out.call fun F hs=>i0G hs HZ0.out HF0.out HG.out HT.out HIF.out (kAcc t fr) HU.out).mono ?_;rw [← HX.out,← HER.out,← HS2.out];rintro e a5 ⟨rfl,o,hoth⟩;replace L:=hh o;replace HY:=oA hoth HY;replace HR:=oA hoth HR;clear o hoth;replace hS:=HY.out;refine hK _ _ (fun _ _=>hS) ?_;clear hK;refine tA1 7 36 hS ?_;go_frame;refine tA1 8 37 hS ?_;go_frame;refine t1 9 fun K hK=>?_
   simp only [gA,jB,gC];refine wR1 25 #[.int .u64 (uw0 x),.int .u64 (uw1 x),.int .u64 (uw2 x),.int .u64 (uw3 x)] HR Tryz.sizeU ?_;intro a6 hxR kR zR;clear zR;replace L:=hh (a0i L.out HR.out rfl kR WR.out);replace HY:=ka1 kR HY NYR;replace HR:=hh hxR;clear hxR kR;replace hS:=HY.out;refine hK _ _ (fun _ _=>hS) ?_;clear hK;refine tA1 10 9 hS ?_;go_frame;refine tD ?_;clear hS;go_wp2_with fail
   exact bR rfl rfl HR Tryz.underlying25 Tryz.sizeU (by rw [HW.out.1,HW.out.2.1,HW.out.2.2];exact L.out.ret)

theorem j0Q {w:World} {g0:Nat} {s:PS} {F:List Nat} (h:RS w g0 s F) (hz:s.sz < 1000000) (hf:Fit s) {g:Int} (hg:I64 g) {a b c d:Int} {m:Nat} (hu:UIs a b c d m):Calls Tryz.prog 38 #[.pointer (some ⟨g0,0,none⟩),.int .i64 g,.agg #[.int .u64 a,.int .u64 b,.int .u64 c,.int .u64 d]] w (RRet w g0 F (s.bur g m) (.tuple #[.agg #[.int .u64 (uw0 (burV s g m)),.int .u64 (uw1 (burV s g m)),.int .u64 (uw2 (burV s g m)),.int .u64 (uw3 (burV s g m))],.int .i64 (burE s g m)])):=by
 have L:=hh (RLiv.start h);have HZ0:=hh hz;have HF0:=hh hf;have HG:=hh hg;have HU:=hh hu;clear h hz hf hg hu
 go_enter Tryz.func38,Tryz.ntmps38
 go_wp2_with (refine sA _ Tryz.zeroUz ?_)
 obtain ⟨w1,hw1⟩:=nm (w.alloc (.cells #[.int .u64 a,.int .u64 b,.int .u64 c,.int .u64 d] 25));obtain ⟨Y,hY⟩:=nm (w.heap.size);rw [← hw1,← hY];have HY:Hid (w1.heap[Y]? = some (.cells #[.int .u64 a,.int .u64 b,.int .u64 c,.int .u64 d] 25 (0,0))):=hh (by rw [hw1,hY];exact heap_alloc_new _ _);have hb:Below w.heap.size w w1:=by rw [hw1];exact a0c _ _
 clear hw1 hY;replace L:=hh (L.out.later hb);clear hb;intro R a1 hR;have WR:=mGe hR L.out.keep.size;have NYR:=mNe hR HY;have HR:=hh hR.out.cells;have hbR:=hR.out.below;clear hR;replace L:=hh (L.out.later hbR);replace HY:=bA hbR HY;clear hbR;go_wp2_with fail
 cases hi:infF (getP s.t) g with
 | none=>
  have HW:Hid (burE s g m=8∧s.bur g m=s∧burV s g m=0):=hh ⟨by unfold burE;rw [hi],by unfold PS.bur;rw [hi],by unfold burV;rw [hi]⟩;obtain ⟨F9,h9⟩:=L.out.get;refine (a0D h9 HZ0.out HF0.out HG.out).mono ?_;rw [(a0s hi).1,(a0s hi).2.1,(a0s hi).2.2];rintro e a2 ⟨rfl,hb⟩;replace L:=hh (L.out.later hb);replace HR:=bA hb HR;clear hb;clear h9;clear hi
  go_wp2_with (refine a0a (t:=25) (old:=u0) rfl 25 _ _ rfl R u0 rfl rfl HR.out Tryz.sizeU rfl (a0j _ _ _ _) ?_)
  intro a3 hxR kR zR;clear zR;replace L:=hh (a0i L.out HR.out rfl kR WR.out);replace HR:=hh hxR;clear hxR kR;go_wp2_with fail
  exact bR rfl rfl HR Tryz.underlying25 Tryz.sizeU (by rw [HW.out.1,HW.out.2.1,HW.out.2.2,a0H];exact L.out.ret)
 | some p=>
  obtain ⟨t,on⟩:=p;have HT:Hid (I64 t):=hh (by have h9:=a0z hi;unfold I64;omega);have HE:Hid (burE s g m=(outE s t g (kSink t) m)∧s.bur g m=(s.out t g (kSink t) m)∧burV s g m=outV s t g (kSink t) m):=hh ⟨by unfold burE;rw [hi],by unfold PS.bur;rw [hi],by unfold burV;rw [hi]⟩;obtain ⟨F9,h9⟩:=L.out.get;refine (a0D h9 HZ0.out HF0.out HG.out).mono ?_;rw [(a0v hi).1,(a0v hi).2.1,(a0v hi).2.2];rintro e a2 ⟨rfl,hb⟩;replace L:=hh (L.out.later hb);replace HY:=bA hb HY;replace HR:=bA hb HR;clear hb;clear h9;have HIF:=hh hi;clear hi;go_wp2_with fail;have HW0:Hid (burE s g m=outE s t g (kSink t) m∧s.bur g m=s.out t g (kSink t) m∧burV s g m=outV s t g (kSink t) m):=hh ⟨by rw [HE.out.1],by rw [HE.out.2.1],by rw [HE.out.2.2]⟩;obtain ⟨x,hx⟩:=nm (outV s t g (kSink t) m);obtain ⟨er,her⟩:=nm (outE s t g (kSink t) m);obtain ⟨s2,hs2⟩:=nm (s.out t g (kSink t) m);have HX:=hh hx;have HER:=hh her;have HS2:=hh hs2;have HW:Hid (burE s g m=er∧s.bur g m=s2∧burV s g m=x):=hh ⟨by rw [HW0.out.1,her],by rw [HW0.out.2.1,hs2],by rw [HW0.out.2.2,hx]⟩;clear hx her hs2;go_wp2_with fail;obtain ⟨a3,hwz,hbz⟩:=dr a2;replace L:=hh (L.out.later hbz);replace HY:=bA hbz HY;replace HR:=bA hbz HR;clear hbz;refine rg1 10 10 hwz HY fun hS=>?_
  clear hwz;refine tA1 0 21 hS ?_;go_frame;refine tA1 1 22 hS ?_;go_frame;refine tA1 2 23 hS ?_;go_frame;refine tl 4 (some 25) (fun _ h=>h) Tryz.underlying25 Tryz.sizeU hS ?_;go_frame;refine t1 3 fun K hK=>?_
  simp only [gA,jB,gC];go_simp;refine (j0r HT.out _).mono ?_;rintro e a4 ⟨rfl,hb⟩;replace L:=hh (L.out.later hb);replace HY:=bA hb HY;replace HR:=bA hb HR;clear hb;replace hS:=HY.out;refine hK _ _ (fun _ _=>hS) ?_;clear hK;refine t1 5 fun K hK=>?_
  simp only [gA,jB,gC];go_simp;refine (L.out.call fun F hs=>i0G hs HZ0.out HF0.out HG.out HT.out HIF.out (kSink t) HU.out).mono ?_;rw [← HX.out,← HER.out,← HS2.out];rintro e a5 ⟨rfl,o,hoth⟩;replace L:=hh o;replace HY:=oA hoth HY;replace HR:=oA hoth HR;clear o hoth;replace hS:=HY.out;refine hK _ _ (fun _ _=>hS) ?_;clear hK;refine tA1 6 27 hS ?_;go_frame;refine tA1 7 28 hS ?_;go_frame;refine t1 8 fun K hK=>?_
  simp only [gA,jB,gC];refine wR1 25 #[.int .u64 (uw0 x),.int .u64 (uw1 x),.int .u64 (uw2 x),.int .u64 (uw3 x)] HR Tryz.sizeU ?_;intro a6 hxR kR zR;clear zR;replace L:=hh (a0i L.out HR.out rfl kR WR.out);replace HY:=ka1 kR HY NYR;replace HR:=hh hxR;clear hxR kR;replace hS:=HY.out;refine hK _ _ (fun _ _=>hS) ?_;clear hK;refine tA1 9 7 hS ?_;go_frame;refine tD ?_;clear hS;go_wp2_with fail
  exact bR rfl rfl HR Tryz.underlying25 Tryz.sizeU (by rw [HW.out.1,HW.out.2.1,HW.out.2.2];exact L.out.ret)

theorem g0q {w:World} {g0:Nat} {s:PS} {F:List Nat} (h:RS w g0 s F) (hz:s.sz < 1000000) (hf:Fit s) {g fr:Int} (hg:I64 g) (hfr:I64 fr) {a b c d:Int} {m:Nat} (hu:UIs a b c d m):Calls Tryz.prog 35 #[.pointer (some ⟨g0,0,none⟩),.int .i64 g,.int .i64 fr,.agg #[.int .u64 a,.int .u64 b,.int .u64 c,.int .u64 d]] w (RRet w g0 F (s.dep g fr m) (.tuple #[.agg #[.int .u64 (uw0 (depV s g fr m)),.int .u64 (uw1 (depV s g fr m)),.int .u64 (uw2 (depV s g fr m)),.int .u64 (uw3 (depV s g fr m))],.int .i64 (depE s g fr m)])):=by
 have HUP:=hh h.up;have L:=hh (RLiv.start h);have HZ0:=hh hz;have HF0:=hh hf;have HG:=hh hg;have HFR:=hh hfr;have HU:=hh hu;obtain ⟨gq,hgq⟩:=nm (goodB 1 fr);have HGQ:=hh hgq;obtain ⟨aq,haq⟩:=nm (decide (m < uHalf));have HAQ:=hh haq;clear h hz hf hg hfr hu hgq haq
 go_enter Tryz.func35,Tryz.ntmps35
 go_wp2_with (refine sA _ Tryz.zeroUz ?_)
 obtain ⟨w1,hw1⟩:=nm (w.alloc (.cells #[.int .u64 a,.int .u64 b,.int .u64 c,.int .u64 d] 25));obtain ⟨Y,hY⟩:=nm (w.heap.size);rw [← hw1,← hY];have HY:Hid (w1.heap[Y]? = some (.cells #[.int .u64 a,.int .u64 b,.int .u64 c,.int .u64 d] 25 (0,0))):=hh (by rw [hw1,hY];exact heap_alloc_new _ _);have hb:Below w.heap.size w w1:=by rw [hw1];exact a0c _ _
 clear hw1 hY;replace L:=hh (L.out.later hb);clear hb;intro R a1 hR;have WR:=mGe hR L.out.keep.size;have NYR:=mNe hR HY;have HR:=hh hR.out.cells;have hbR:=hR.out.below;clear hR;replace L:=hh (L.out.later hbR);replace HY:=bA hbR HY;clear hbR;go_wp2_with fail
 cases hi:infF (getP s.t) g with
 | none=>
  have HW:Hid (depE s g fr m=8∧s.dep g fr m=s∧depV s g fr m=0):=hh (i0B hi _ _);obtain ⟨F9,h9⟩:=L.out.get;refine (a0D h9 HZ0.out HF0.out HG.out).mono ?_;rw [(a0s hi).1,(a0s hi).2.1,(a0s hi).2.2];rintro e a2 ⟨rfl,hb⟩;replace L:=hh (L.out.later hb);replace HR:=bA hb HR;clear hb;clear h9;clear hi
  go_wp2_with (refine a0a (t:=25) (old:=u0) rfl 25 _ _ rfl R u0 rfl rfl HR.out Tryz.sizeU rfl (a0j _ _ _ _) ?_)
  intro a3 hxR kR zR;clear zR;replace L:=hh (a0i L.out HR.out rfl kR WR.out);replace HR:=hh hxR;clear hxR kR;go_wp2_with fail
  exact bR rfl rfl HR Tryz.underlying25 Tryz.sizeU (by rw [HW.out.1,HW.out.2.1,HW.out.2.2,a0H];exact L.out.ret)
 | some p=>
  obtain ⟨t,on⟩:=p;have HT:Hid (I64 t):=hh (by have h9:=a0z hi;unfold I64;omega);have HIF:=hh hi;obtain ⟨F9,h9⟩:=L.out.get;refine (a0D h9 HZ0.out HF0.out HG.out).mono ?_;rw [(a0v hi).1,(a0v hi).2.1,(a0v hi).2.2];rintro e a2 ⟨rfl,hb⟩;replace L:=hh (L.out.later hb);replace HY:=bA hb HY;replace HR:=bA hb HR;clear hb;clear h9;have HTV:Hid (totV (getP s.t) g=vTo (getP s.t) g):=hh (by unfold totV;rw [hi]);have HSV:Hid (stkV (getP s.t) g=vSt (getP s.t) t g):=hh (by unfold stkV;rw [hi]);clear hi
  by_cases hon:on=true
  ·have HON:=hh hon;go_wp2_with fail;clear hon;refine (f0I fr _).mono ?_;rw [show decide (1≤fr∧fr≤4294967295)=gq from (by rw [HGQ.out];unfold goodB;simp)];rintro e _ ⟨rfl,rfl⟩
   cases gq with
   | false=>
    have HW:Hid (depE s g fr m=2∧s.dep g fr m=s∧depV s g fr m=0):=hh (c0p HIF.out (by unfold depB;rw [HON.out,if_neg (by decide),if_pos HGQ.out.symm]) (by decide))
    go_wp2_with (refine a0a (t:=25) (old:=u0) rfl 25 _ _ rfl R u0 rfl rfl HR.out Tryz.sizeU rfl (a0j _ _ _ _) ?_)
    intro a3 hxR kR zR;clear zR;replace L:=hh (a0i L.out HR.out rfl kR WR.out);replace HR:=hh hxR;clear hxR kR;go_wp2_with fail
    exact bR rfl rfl HR Tryz.underlying25 Tryz.sizeU (by rw [HW.out.1,HW.out.2.1,HW.out.2.2,a0H];exact L.out.ret)
   | true=>
    have cY0:a2.cell? ⟨Y,0,none⟩=some (.int .u64 a):=Lib.cell_of_heap HY.out 0;have cY1:a2.cell? ⟨Y,1,none⟩=some (.int .u64 b):=Lib.cell_of_heap HY.out 1;have cY2:a2.cell? ⟨Y,2,none⟩=some (.int .u64 c):=Lib.cell_of_heap HY.out 2;have cY3:a2.cell? ⟨Y,3,none⟩=some (.int .u64 d):=Lib.cell_of_heap HY.out 3;go_wp2_with fail;clear cY0 cY1 cY2 cY3;refine (a0P HU.out _).mono ?_;rw [← HAQ.out];rintro e a3 ⟨rfl,hb⟩;replace L:=hh (L.out.later hb);replace HY:=bA hb HY;replace HR:=bA hb HR;clear hb
    cases aq with
    | false=>
     have HW:Hid (depE s g fr m=2∧s.dep g fr m=s∧depV s g fr m=0):=hh (c0p HIF.out (by unfold depB;rw [HON.out,if_neg (by decide),if_neg (by rw [← HGQ.out];decide),if_pos (of_decide_eq_false HAQ.out.symm)]) (by decide))
     go_wp2_with (refine a0a (t:=25) (old:=u0) rfl 25 _ _ rfl R u0 rfl rfl HR.out Tryz.sizeU rfl (a0j _ _ _ _) ?_)
     intro a4 hxR kR zR;clear zR;replace L:=hh (a0i L.out HR.out rfl kR WR.out);replace HR:=hh hxR;clear hxR kR;go_wp2_with fail
     exact bR rfl rfl HR Tryz.underlying25 Tryz.sizeU (by rw [HW.out.1,HW.out.2.1,HW.out.2.2,a0H];exact L.out.ret)
    | true=>
     obtain ⟨x,hx⟩:=nm (depX s t g m);have HX:=hh hx;have HXL:Hid (x < uMax):=hh (by rw [hx];exact h0g _ _ _ _);have HBB:Hid (depB s t g on fr m=if x=0 then 2 else 0):=hh (by unfold depB;rw [HON.out,if_neg (by decide),if_neg (by rw [← HGQ.out];decide),if_neg (fun h9=>h9 (of_decide_eq_true HAQ.out.symm)),← hx]);clear hx
     go_upto_region 8 with fail
     go_cut [13,14] from 43 to 54 (fun s13 _ wx=>∃ O:Nat,s13 = .pointer (some ⟨O,0,none⟩)∧Hid (w.heap.size≤O)∧Hid (Y≠O)∧Hid (R≠O)∧Hid (wx.heap[O]? = some (.cells #[.int .u64 (uw0 x),.int .u64 (uw1 x),.int .u64 (uw2 x),.int .u64 (uw3 x)] 25 (0,0)))∧Hid (wx.heap[Y]? = some (.cells #[.int .u64 a,.int .u64 b,.int .u64 c,.int .u64 d] 25 (0,0)))∧Hid (wx.heap[R]? = some (.cells u0 25 (0,0)))∧Hid (RLiv w F wx g0 s))
     case first=>
      obtain ⟨a4,hwz,hbz⟩:=dr a3;replace L:=hh (L.out.later hbz);replace HY:=bA hbz HY;replace HR:=bA hbz HR;clear hbz;refine rg1 14 14 hwz HY fun hS=>?_
      clear hwz;refine tA1 0 44 hS ?_;go_frame;refine tA1 1 45 hS ?_;go_frame;refine tA1 3 47 hS ?_;go_frame;refine tA1 4 48 hS ?_;go_frame;refine tl 6 (some 50) (fun _ h=>h) Tryz.underlying25 Tryz.sizeU hS ?_;go_frame;refine a0k 2 11 rfl rfl (by kernel_rfl) (fun K hK=>?_) (fun K hK=>?_)
      ·simp only [gA,jB,gC];rw [if_pos (by rfl)];go_simp;obtain ⟨F9,h9⟩:=L.out.get;refine (b0e h9 HZ0.out HF0.out HG.out).mono ?_;rintro e a5 ⟨pa,pb,pc,pd,hu,rfl,hb⟩;rw [HSV.out] at hu;have HPU:=hh hu;clear hu h9;replace L:=hh (L.out.later hb);replace HY:=bA hb HY;replace HR:=bA hb HR;clear hb;replace hS:=HY.out;refine hK _ _ (fun _ _=>hS) ?_;clear hK;refine a0k 5 11 rfl rfl (by kernel_rfl) (fun K hK=>?_) (fun K hK=>?_)
       ·simp only [gA,jB,gC];rw [if_pos (by rfl)];go_simp;obtain ⟨F9,h9⟩:=L.out.get;refine (a0K h9 HZ0.out HF0.out HG.out).mono ?_;rintro e a6 ⟨za,zb,zc,zd,hu,rfl,hb⟩;rw [HTV.out] at hu;have HZU:=hh hu;clear hu h9;replace L:=hh (L.out.later hb);replace HY:=bA hb HY;replace HR:=bA hb HR;clear hb;replace hS:=HY.out;refine hK _ _ (fun _ _=>hS) ?_;clear hK;refine a0k 7 11 rfl rfl (by kernel_rfl) (fun K hK=>?_) (fun K hK=>?_)
        ·simp only [gA,jB,gC];rw [if_pos (by rfl)];go_simp;refine (c0m HPU.out HZU.out HU.out _).mono ?_;rintro e a7 ⟨qa,qb,qc,qd,hu,rfl,hb⟩;have hu':UIs qa qb qc qd x:=by rw [HX.out];exact hu
         obtain ⟨rfl,rfl,rfl,rfl⟩:=hu'.uw;clear hu hu';replace L:=hh (L.out.later hb);replace HY:=bA hb HY;replace HR:=bA hb HR;clear hb;replace hS:=HY.out;refine hK _ _ (fun _ _=>hS) ?_;clear hK;refine tA1 8 43 hS ?_;go_frame;refine tA1 9 52 hS ?_;go_frame;refine tA1 10 53 hS ?_;go_frame;refine t1 11 fun K hK=>?_
         simp only [gA,jB,gC];refine wA1 25 Tryz.zeroUz ?_;intro O a8 hO;have WO:=mGe hO L.out.keep.size;have NYO:=mNe hO HY;have NRO:=mNe hO HR;have HO:=hh hO.out.cells;have hbO:=hO.out.below;clear hO;replace L:=hh (L.out.later hbO);replace HY:=bA hbO HY;replace HR:=bA hbO HR;clear hbO;replace hS:=HY.out;refine hK _ _ (fun _ _=>hS) ?_;clear hK;refine t1 12 fun K hK=>?_
         simp only [gA,jB,gC];refine wR1 25 #[.int .u64 (uw0 x),.int .u64 (uw1 x),.int .u64 (uw2 x),.int .u64 (uw3 x)] HO Tryz.sizeU ?_;intro a9 hxO kO zO;clear zO;replace L:=hh (a0i L.out HO.out rfl kO WO.out);replace HY:=ka1 kO HY NYO;replace HR:=ka1 kO HR NRO;replace HO:=hh hxO;clear hxO kO;replace hS:=HY.out;refine hK _ _ (fun _ _=>hS) ?_;clear hK;refine tA1 13 14 hS ?_;go_frame;refine tD ?_;clear hS;go_wp2_with fail
         go_meet
         case rel=>exact ⟨O,rfl,WO,NYO,NRO,HO,HY,HR,L⟩
        ·simp only [gA,jB,gC];rw [if_pos (by rfl)];refine wA1 25 Tryz.zeroUz ?_;intro O a7 hO;have WO:=mGe hO L.out.keep.size;have NYO:=mNe hO HY;have NRO:=mNe hO HR;have HO:=hh hO.out.cells;have hbO:=hO.out.below;clear hO;replace L:=hh (L.out.later hbO);replace HY:=bA hbO HY;replace HR:=bA hbO HR;clear hbO;replace hS:=HY.out;refine hK _ _ (fun _ _=>hS) ?_;clear hK;refine t1 7 fun K hK=>?_
         simp only [gA,jB,gC];go_simp;refine (c0m HPU.out HZU.out HU.out _).mono ?_;rintro e a8 ⟨qa,qb,qc,qd,hu,rfl,hb⟩;have hu':UIs qa qb qc qd x:=by rw [HX.out];exact hu
         obtain ⟨rfl,rfl,rfl,rfl⟩:=hu'.uw;clear hu hu';replace L:=hh (L.out.later hb);replace HY:=bA hb HY;replace HR:=bA hb HR;replace HO:=bA hb HO;clear hb;replace hS:=HY.out;refine hK _ _ (fun _ _=>hS) ?_;clear hK;refine tA1 8 43 hS ?_;go_frame;refine tA1 9 52 hS ?_;go_frame;refine tA1 10 53 hS ?_;go_frame;refine t1 12 fun K hK=>?_
         simp only [gA,jB,gC];refine wR1 25 #[.int .u64 (uw0 x),.int .u64 (uw1 x),.int .u64 (uw2 x),.int .u64 (uw3 x)] HO Tryz.sizeU ?_;intro a9 hxO kO zO;clear zO;replace L:=hh (a0i L.out HO.out rfl kO WO.out);replace HY:=ka1 kO HY NYO;replace HR:=ka1 kO HR NRO;replace HO:=hh hxO;clear hxO kO;replace hS:=HY.out;refine hK _ _ (fun _ _=>hS) ?_;clear hK;refine tA1 13 14 hS ?_;go_frame;refine tD ?_;clear hS;go_wp2_with fail
         go_meet
         case rel=>exact ⟨O,rfl,WO,NYO,NRO,HO,HY,HR,L⟩
       ·simp only [gA,jB,gC];rw [if_pos (by rfl)];refine wA1 25 Tryz.zeroUz ?_;intro O a6 hO;have WO:=mGe hO L.out.keep.size;have NYO:=mNe hO HY;have NRO:=mNe hO HR;have HO:=hh hO.out.cells;have hbO:=hO.out.below;clear hO;replace L:=hh (L.out.later hbO);replace HY:=bA hbO HY;replace HR:=bA hbO HR;clear hbO;replace hS:=HY.out;refine hK _ _ (fun _ _=>hS) ?_;clear hK;refine t1 5 fun K hK=>?_
        simp only [gA,jB,gC];go_simp;obtain ⟨F9,h9⟩:=L.out.get;refine (a0K h9 HZ0.out HF0.out HG.out).mono ?_;rintro e a7 ⟨za,zb,zc,zd,hu,rfl,hb⟩;rw [HTV.out] at hu;have HZU:=hh hu;clear hu h9;replace L:=hh (L.out.later hb);replace HY:=bA hb HY;replace HR:=bA hb HR;replace HO:=bA hb HO;clear hb;replace hS:=HY.out;refine hK _ _ (fun _ _=>hS) ?_;clear hK;refine t1 7 fun K hK=>?_
        simp only [gA,jB,gC];go_simp;refine (c0m HPU.out HZU.out HU.out _).mono ?_;rintro e a8 ⟨qa,qb,qc,qd,hu,rfl,hb⟩;have hu':UIs qa qb qc qd x:=by rw [HX.out];exact hu
        obtain ⟨rfl,rfl,rfl,rfl⟩:=hu'.uw;clear hu hu';replace L:=hh (L.out.later hb);replace HY:=bA hb HY;replace HR:=bA hb HR;replace HO:=bA hb HO;clear hb;replace hS:=HY.out;refine hK _ _ (fun _ _=>hS) ?_;clear hK;refine tA1 8 43 hS ?_;go_frame;refine tA1 9 52 hS ?_;go_frame;refine tA1 10 53 hS ?_;go_frame;refine t1 12 fun K hK=>?_
        simp only [gA,jB,gC];refine wR1 25 #[.int .u64 (uw0 x),.int .u64 (uw1 x),.int .u64 (uw2 x),.int .u64 (uw3 x)] HO Tryz.sizeU ?_;intro a9 hxO kO zO;clear zO;replace L:=hh (a0i L.out HO.out rfl kO WO.out);replace HY:=ka1 kO HY NYO;replace HR:=ka1 kO HR NRO;replace HO:=hh hxO;clear hxO kO;replace hS:=HY.out;refine hK _ _ (fun _ _=>hS) ?_;clear hK;refine tA1 13 14 hS ?_;go_frame;refine tD ?_;clear hS;go_wp2_with fail
        go_meet
        case rel=>exact ⟨O,rfl,WO,NYO,NRO,HO,HY,HR,L⟩
      ·simp only [gA,jB,gC];rw [if_pos (by rfl)];refine wA1 25 Tryz.zeroUz ?_;intro O a5 hO;have WO:=mGe hO L.out.keep.size;have NYO:=mNe hO HY;have NRO:=mNe hO HR;have HO:=hh hO.out.cells;have hbO:=hO.out.below;clear hO;replace L:=hh (L.out.later hbO);replace HY:=bA hbO HY;replace HR:=bA hbO HR;clear hbO;replace hS:=HY.out;refine hK _ _ (fun _ _=>hS) ?_;clear hK;refine t1 2 fun K hK=>?_
       simp only [gA,jB,gC];go_simp;obtain ⟨F9,h9⟩:=L.out.get;refine (b0e h9 HZ0.out HF0.out HG.out).mono ?_;rintro e a6 ⟨pa,pb,pc,pd,hu,rfl,hb⟩;rw [HSV.out] at hu;have HPU:=hh hu;clear hu h9;replace L:=hh (L.out.later hb);replace HY:=bA hb HY;replace HR:=bA hb HR;replace HO:=bA hb HO;clear hb;replace hS:=HY.out;refine hK _ _ (fun _ _=>hS) ?_;clear hK;refine t1 5 fun K hK=>?_
       simp only [gA,jB,gC];go_simp;obtain ⟨F9,h9⟩:=L.out.get;refine (a0K h9 HZ0.out HF0.out HG.out).mono ?_;rintro e a7 ⟨za,zb,zc,zd,hu,rfl,hb⟩;rw [HTV.out] at hu;have HZU:=hh hu;clear hu h9;replace L:=hh (L.out.later hb);replace HY:=bA hb HY;replace HR:=bA hb HR;replace HO:=bA hb HO;clear hb;replace hS:=HY.out;refine hK _ _ (fun _ _=>hS) ?_;clear hK;refine t1 7 fun K hK=>?_
       simp only [gA,jB,gC];go_simp;refine (c0m HPU.out HZU.out HU.out _).mono ?_;rintro e a8 ⟨qa,qb,qc,qd,hu,rfl,hb⟩;have hu':UIs qa qb qc qd x:=by rw [HX.out];exact hu
       obtain ⟨rfl,rfl,rfl,rfl⟩:=hu'.uw;clear hu hu';replace L:=hh (L.out.later hb);replace HY:=bA hb HY;replace HR:=bA hb HR;replace HO:=bA hb HO;clear hb;replace hS:=HY.out;refine hK _ _ (fun _ _=>hS) ?_;clear hK;refine tA1 8 43 hS ?_;go_frame;refine tA1 9 52 hS ?_;go_frame;refine tA1 10 53 hS ?_;go_frame;refine t1 12 fun K hK=>?_
       simp only [gA,jB,gC];refine wR1 25 #[.int .u64 (uw0 x),.int .u64 (uw1 x),.int .u64 (uw2 x),.int .u64 (uw3 x)] HO Tryz.sizeU ?_;intro a9 hxO kO zO;clear zO;replace L:=hh (a0i L.out HO.out rfl kO WO.out);replace HY:=ka1 kO HY NYO;replace HR:=ka1 kO HR NRO;replace HO:=hh hxO;clear hxO kO;replace hS:=HY.out;refine hK _ _ (fun _ _=>hS) ?_;clear hK;refine tA1 13 14 hS ?_;go_frame;refine tD ?_;clear hS;go_wp2_with fail
       go_meet
       case rel=>exact ⟨O,rfl,WO,NYO,NRO,HO,HY,HR,L⟩
     case rest=>
      clear L HY HR;obtain ⟨O,rfl,WO,NYO,NRO,HO,HY,HR,L⟩:=hcut;have e7:=Tryz.eqUn (uw_is HXL.out) UIs.zero
      by_cases hx0:x=0
      ·rw [decide_eq_true hx0] at e7;have HW:Hid (depE s g fr m=2∧s.dep g fr m=s∧depV s g fr m=0):=hh (c0p HIF.out (by rw [HBB.out,if_pos hx0]) (by decide));clear hx0
       go_wp2_with (first
        | (refine lR HO Tryz.underlying25 Tryz.sizeU ?_)
        | (refine a0a (t:=25) (old:=u0) rfl 25 _ _ rfl R u0 rfl rfl HR.out Tryz.sizeU rfl (a0j _ _ _ _) ?_))
       intro b1 hxR kR zR;clear zR;replace L:=hh (a0i L.out HR.out rfl kR WR.out);replace HR:=hh hxR;clear hxR kR;clear e7;go_wp2_with fail
       exact bR rfl rfl HR Tryz.underlying25 Tryz.sizeU (by rw [HW.out.1,HW.out.2.1,HW.out.2.2,a0H];exact L.out.ret)
      ·rw [decide_eq_false hx0] at e7;have HGO:=hh (m0x HIF.out (fr:=fr) (a:=m) (by rw [HBB.out,if_neg hx0]));obtain ⟨s1,s2,e1,e2,np,hN⟩:=DepN.mk' HUP.out HF0.out t g fr m;have HN:=hh hN;clear hx0 hN;obtain ⟨F9,h9⟩:=L.out.get;obtain ⟨vL,vP,h8,_⟩:=h9;obtain ⟨ad,cap,hvp,_,_⟩:=h8.past.shape;rw [← HN.out.enp] at hvp;subst hvp;have c9:wc.cell? ⟨g0,1,none⟩=some (.slice ad np cap):=Lib.cell_of_heap h8.head 1;clear h8
       go_wp2_with (refine lR HO Tryz.underlying25 Tryz.sizeU ?_)
       clear e7 c9;obtain ⟨b1,hwz,hbz⟩:=dr wc;replace L:=hh (L.out.later hbz);replace HY:=bA hbz HY;replace HR:=bA hbz HR;replace HO:=bA hbz HO;clear hbz;refine rg1 10 10 hwz HY fun hS=>?_
       clear hwz;refine tA1 0 63 hS ?_;go_frame;refine tA1 1 64 hS ?_;go_frame;refine tA1 2 65 hS ?_;go_frame;refine tA1 4 67 hS ?_;go_frame;refine tA1 5 68 hS ?_;go_frame;refine tl 7 (some 70) (fun _ h=>h) Tryz.underlying25 Tryz.sizeU hS ?_;go_frame;refine t1 3 fun K hK=>?_
       simp only [gA,jB,gC];go_simp;refine (d0p HT.out HFR.out _).mono ?_;rintro e b2 ⟨rfl,hb⟩;replace L:=hh (L.out.later hb);replace HY:=bA hb HY;replace HR:=bA hb HR;replace HO:=bA hb HO;clear hb;replace hS:=HY.out;refine hK _ _ (fun _ _=>hS) ?_;clear hK;refine t1 6 fun K hK=>?_
       simp only [gA,jB,gC];go_simp;refine (c0h HT.out HG.out _).mono ?_;rintro e b3 ⟨rfl,hb⟩;replace L:=hh (L.out.later hb);replace HY:=bA hb HY;replace HR:=bA hb HR;replace HO:=bA hb HO;clear hb;replace hS:=HY.out;refine hK _ _ (fun _ _=>hS) ?_;clear hK;refine t1 8 fun K hK=>?_
       simp only [gA,jB,gC];go_simp;refine (L.out.call fun F hs=>c0T hs (by have:=HZ0.out;omega) HF0.out (kAcc t fr) (kStk t g) HU.out).mono ?_;rw [show moveE (getP s.t) (kAcc t fr) (kStk t g) m=e1 from HN.out.ee1.symm,show s.moveA (kAcc t fr) (kStk t g) m=s1 from HN.out.es1.symm];rintro e b4 ⟨rfl,o,hoth⟩;replace L:=hh o;replace HY:=oA hoth HY;replace HR:=oA hoth HR;replace HO:=oA hoth HO;clear o hoth;replace hS:=HY.out;refine hK _ _ (fun _ _=>hS) ?_;clear hK;refine tA1 9 16 hS ?_;go_frame;refine tD ?_;clear hS
       by_cases hz1:e1=0
       ·have hne:(e1 != 0)=false:=by simpa using hz1
        have HEN:=hh (HN.out.end' hz1);clear hz1;go_wp2_with fail;clear hne;obtain ⟨b5,hwz,hbz⟩:=dr b4;replace L:=hh (L.out.later hbz);replace HR:=bA hbz HR;replace HO:=bA hbz HO;clear hbz;refine rg1 6 6 hwz HO fun hS=>?_
        clear hwz;refine tA1 0 76 hS ?_;go_frame;refine tA1 1 77 hS ?_;go_frame;refine tl 3 (some 79) (fun _ h=>h) Tryz.underlying25 Tryz.sizeU hS ?_;go_frame;refine t1 2 fun K hK=>?_
        simp only [gA,jB,gC];go_simp;refine (g0f HG.out _).mono ?_;rintro e b6 ⟨rfl,hb⟩;replace L:=hh (L.out.later hb);replace HR:=bA hb HR;replace HO:=bA hb HO;clear hb;replace hS:=HO.out;refine hK _ _ (fun _ _=>hS) ?_;clear hK;refine t1 4 fun K hK=>?_
        simp only [gA,jB,gC];go_simp;refine (L.out.call fun F hs=>d0w hs (by have:=HN.out.z1;have:=HZ0.out;omega) HN.out.fit (kTot g) (uw_is HXL.out)).mono ?_;rw [HX.out,← HN.out.ee2,← HN.out.es2,← HX.out];rintro e b7 ⟨rfl,o,hoth⟩;replace L:=hh o;replace HR:=oA hoth HR;replace HO:=oA hoth HO;clear o hoth;replace hS:=HO.out;refine hK _ _ (fun _ _=>hS) ?_;clear hK;refine tA1 5 17 hS ?_;go_frame;refine tD ?_;clear hS
        by_cases hz2:e2=0
        ·have hne:(e2 != 0)=false:=by simpa using hz2
         have HW:Hid (depE s g fr m=0∧s.dep g fr m=s2∧depV s g fr m=x):=hh ⟨by rw [HGO.out.1,HEN.out.1,hz2],by rw [HGO.out.2.1,HEN.out.2,if_pos hz2],by rw [HGO.out.2.2,HEN.out.1,if_pos hz2,HX.out]⟩;clear hz2
         go_wp2_with (first
          | (refine lR HO Tryz.underlying25 Tryz.sizeU ?_)
          | (refine sR 25 #[.int .u64 (uw0 x),.int .u64 (uw1 x),.int .u64 (uw2 x),.int .u64 (uw3 x)] HR Tryz.sizeU ?_))
         intro b8 hxR kR zR;clear zR;replace L:=hh (a0i L.out HR.out rfl kR WR.out);replace HR:=hh hxR;clear hxR kR;go_wp2_with fail
         exact bR rfl rfl HR Tryz.underlying25 Tryz.sizeU (by rw [HW.out.1,HW.out.2.1,HW.out.2.2];exact L.out.ret)
        ·have hne:(e2 != 0)=true:=by simpa using hz2
         have HW:Hid (depE s g fr m=e2∧s.dep g fr m=s2.undo np∧depV s g fr m=0):=hh ⟨by rw [HGO.out.1,HEN.out.1],by rw [HGO.out.2.1,HEN.out.2,if_neg hz2,HN.out.u2],by rw [HGO.out.2.2,HEN.out.1,if_neg hz2]⟩;clear hz2;go_wp2_with fail;refine (L.out.call fun F hs=>g0r hs (by have:=HZ0.out;have h7:=HN.out.z2;unfold PS.sz at h7 this;omega) (np:Int)).mono ?_;rintro e b8 ⟨rfl,o,hoth⟩;replace L:=hh o;replace HR:=oA hoth HR;clear o hoth
         go_wp2_with (refine a0a (t:=25) (old:=u0) rfl 25 _ _ rfl R u0 rfl rfl HR.out Tryz.sizeU rfl (a0j _ _ _ _) ?_)
         intro b9 hxR kR zR;clear zR;replace L:=hh (a0i L.out HR.out rfl kR WR.out);replace HR:=hh hxR;clear hxR kR;go_wp2_with fail
         exact bR rfl rfl HR Tryz.underlying25 Tryz.sizeU (by rw [HW.out.1,HW.out.2.1,HW.out.2.2,a0H];exact L.out.ret)
       ·have hne:(e1 != 0)=true:=by simpa using hz1
        have HW:Hid (depE s g fr m=e1∧s.dep g fr m=s1∧depV s g fr m=0):=hh ⟨by rw [HGO.out.1,(HN.out.bad hz1).1],by rw [HGO.out.2.1,(HN.out.bad hz1).2,HN.out.same hz1],by rw [HGO.out.2.2,(HN.out.bad hz1).1,if_neg hz1]⟩;clear hz1
        go_wp2_with (refine a0a (t:=25) (old:=u0) rfl 25 _ _ rfl R u0 rfl rfl HR.out Tryz.sizeU rfl (a0j _ _ _ _) ?_)
        intro b5 hxR kR zR;clear zR;replace L:=hh (a0i L.out HR.out rfl kR WR.out);replace HR:=hh hxR;clear hxR kR;go_wp2_with fail
        exact bR rfl rfl HR Tryz.underlying25 Tryz.sizeU (by rw [HW.out.1,HW.out.2.1,HW.out.2.2,a0H];exact L.out.ret)
  ·have hof:on=false:=by simpa using hon
   clear hon;have HW:Hid (depE s g fr m=10∧s.dep g fr m=s∧depV s g fr m=0):=hh (c0p HIF.out (by unfold depB;rw [if_pos hof]) (by decide))
   go_wp2_with (refine a0a (t:=25) (old:=u0) rfl 25 _ _ rfl R u0 rfl rfl HR.out Tryz.sizeU rfl (a0j _ _ _ _) ?_)
   intro a3 hxR kR zR;clear zR;replace L:=hh (a0i L.out HR.out rfl kR WR.out);replace HR:=hh hxR;clear hxR kR;clear hof;go_wp2_with fail
   exact bR rfl rfl HR Tryz.underlying25 Tryz.sizeU (by rw [HW.out.1,HW.out.2.1,HW.out.2.2,a0H];exact L.out.ret)
end Go.Proofs.YtabminbgoclnkaaGreat
