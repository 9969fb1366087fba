/- leaf.Open (code). No condition. -/
import Derived.Test.YtakkfabaeolbdaaGreatCn37
import Derived.Test.YtakkfabaeolbdaaGreatCn36
namespace Go.Proofs.YtakkfabaeolbdaaGreat
set_option maxHeartbeats 16000000
set_option maxRecDepth 100000
open Go.RowKit

def leafChk (h:List UInt8) (x:CLf):Int:=checkF 2 h (tokL x.t x.m) x.i x.p
def openL (h:List UInt8):List CLf→Int
 | []=>0
 | x :: xs=>if leafChk h x=0 then openL h xs else leafChk h x
def openR (c:CCl) (root:List UInt8):Int:=if c.lv.length=0∨8 < c.lv.length then 2 else if checkF 1 root (earL c.e c.h) c.idx c.p=0 then openL c.h c.lv else checkF 1 root (earL c.e c.h) c.idx c.p
theorem g0W (h:List UInt8) (x:CLf) (xs:List CLf):openL h (x :: xs)=if leafChk h x=0 then openL h xs else leafChk h x:=rfl
theorem l0X {h:List UInt8} {l:List CLf} (hz:∀ x∈l,leafChk h x=0):openL h l=0:=by
 induction l with
 | nil=>rfl
 | cons x xs ih=>rw [g0W,if_pos (hz x (by simp))];exact ih fun y hy=>hz y (by simp [hy])
theorem r0d {h:List UInt8} {l:List CLf} {i:Nat} (hi:i < l.length) (hz:∀ j (hj:j < l.length),j < i→leafChk h l[j]=0) (hn:leafChk h l[i]≠0):openL h l=leafChk h l[i]:=by
 induction l generalizing i with
 | nil=>simp at hi
 | cons x xs ih=>
  rw [g0W]
  cases i with
  | zero=>rw [if_neg (show ¬ leafChk h x=0 from hn)];rfl
  | succ i=>
   rw [if_pos (show leafChk h x=0 from hz 0 (by simp) (by omega))]
   exact ih (i:=i) (by simpa using hi) (fun j hj hji=>hz (j+1) (by simpa using hj) (by omega)) hn
def COk (c:CCl):Prop:=c.h.length=32∧c.e < 9223372036854775808∧c.idx < 9223372036854775808∧All32 c.p∧∀ x∈c.lv,x.t < 9223372036854775808∧x.i < 9223372036854775808∧x.m < 2 ^ 256∧All32 x.p
theorem Rd.leaf {w:World} {ad:Option Addr} {n cap:Nat} {l:List (CLf × SlV)} (h:Rd w lfE 7 (.slice ad n cap) l) (i:Nat) (hi:i < l.length) :
  ∃ b off,ad=some ⟨b,off,none⟩∧w.cell? ⟨b,off+i*7,none⟩=some (.int .i64 l[i].1.i)∧w.cell? ⟨b,off+i*7+1,none⟩=some (.int .i64 l[i].1.t)∧w.cell? ⟨b,off+i*7+2,none⟩=some (.int .u64 (uw0 l[i].1.m)) ∧
   w.cell? ⟨b,off+i*7+3,none⟩=some (.int .u64 (uw1 l[i].1.m))∧w.cell? ⟨b,off+i*7+4,none⟩=some (.int .u64 (uw2 l[i].1.m))∧w.cell? ⟨b,off+i*7+5,none⟩=some (.int .u64 (uw3 l[i].1.m))∧w.cell? ⟨b,off+i*7+6,none⟩=some (slV l[i].2):=by
 obtain ⟨ad',cap',he,h1,h2,h3⟩:=h
 cases he
 obtain ⟨b,off,rfl,hb,hc⟩:=h3 (by intro hl;subst hl;simp at hi)
 exact ⟨b,off,rfl,hc i hi 0 (by omega),hc i hi 1 (by omega),hc i hi 2 (by omega),hc i hi 3 (by omega),hc i hi 4 (by omega),hc i hi 5 (by omega),hc i hi 6 (by omega)⟩
theorem n0I (w:World) (v:Value) (c:CCl) (root:List UInt8) (hc:ClAt w v c) (hok:COk c) (hroot:root.length=32) :
  Calls Tryz.prog 34 #[v,.agg (c8 root)] w (Ret w (.int .i64 (openR c root))):=by
 obtain ⟨⟨pa,pn,pc⟩,⟨la,ln,lc⟩,rfl,hp,xs,hxl,hlv,hpr⟩:=hc;obtain ⟨crt,cix,ce,ch,cp,clv,cto⟩:=c;obtain ⟨RV,hRV⟩:=nm (openR ⟨crt,cix,ce,ch,cp,clv,cto⟩ root);rw [← hRV];have hln:ln=xs.length:=hlv.size;have hll:clv.length=xs.length:=by rw [← show xs.map (·.1)=clv from hxl,List.length_map]
 have HP:=hh (show Rd w hE 32 (.slice pa pn pc) cp from hp);have HLV:=hh (show Rd w lfE 7 (.slice la ln lc) xs from hlv);have HPR:=hh hpr;have HXL:=hh (show xs.map (·.1)=clv from hxl);have HRV:=hh hRV;have HRT:=hh hroot;have HLN:=hh (show ln=clv.length∧ln=xs.length by omega);have HCH:=hh (show ch.length=32 from hok.1);have HB:=hh (show ce < 9223372036854775808∧cix < 9223372036854775808 from ⟨hok.2.1,hok.2.2.1⟩);have HA:=hh (show All32 cp from hok.2.2.2.1);have HLO:=hh (show ∀ x∈clv,x.t < 9223372036854775808∧x.i < 9223372036854775808∧x.m < 2 ^ 256∧All32 x.p from hok.2.2.2.2);clear hp hlv hpr hxl hRV hok hroot hln hll;simp only [];have hbB:Below w.heap.size w ((w.alloc (.cells (clC crt cix ce ch (pa,pn,pc) (la,ln,lc) cto) 31)).alloc (.cells (c8 root) 27)):=((Below.refl _ _).alloc (Nat.le_refl _) _).trans (((Below.refl _ _).alloc (Nat.le_refl _) _).mono ((Below.refl w.heap.size w).alloc (Nat.le_refl _) _).size);have hP1:((w.alloc (.cells (clC crt cix ce ch (pa,pn,pc) (la,ln,lc) cto) 31)).alloc (.cells (c8 root) 27)).heap[w.heap.size]? = some (.cells (clC crt cix ce ch (pa,pn,pc) (la,ln,lc) cto) 31 (0,0)):=a0c ((Below.refl _ _).alloc (Nat.le_refl _) _) (heap_alloc_new _ _)
 have hQ1:((w.alloc (.cells (clC crt cix ce ch (pa,pn,pc) (la,ln,lc) cto) 31)).alloc (.cells (c8 root) 27)).heap[w.heap.size+1]? = some (.cells (c8 root) 27 (0,0)):=by
  rw [← show (w.alloc (.cells (clC crt cix ce ch (pa,pn,pc) (la,ln,lc) cto) 31)).heap.size=w.heap.size+1 from Array.size_push _];exact heap_alloc_new _ _
 have c36:((w.alloc (.cells (clC crt cix ce ch (pa,pn,pc) (la,ln,lc) cto) 31)).alloc (.cells (c8 root) 27)).cell? ⟨w.heap.size,36,none⟩=some (.slice la ln lc):=(Lib.cell_of_heap hP1 36).trans (f0M _ _ _ HCH.out _ _ _);have HBB:=hh hbB;have HP1:=hh hP1;have HQ1:=hh hQ1;clear hbB hP1 hQ1
 rcases (show ln=0∨8 < ln∨(¬ ln=0∧ln≤8) by omega) with h0 | h8 | ⟨h0,h8⟩
 ·subst h0;have HV:=hh (show RV=2 by rw [HRV.out];unfold openR;rw [if_pos (.inl HLN.out.1.symm)])
  go_enter Tryz.func34,Tryz.ntmps34
  go_wp2_with fail
  go_ret
  exact ⟨by rw [HV.out];rfl,HBB.out⟩
 ·have HV:=hh (show RV=2 by rw [HRV.out];unfold openR;rw [if_pos (.inr (by rw [← HLN.out.1];exact h8))]);have h0:((ln:Int) == 0)=false:=by simp;omega
  have h9:(8:Int) < (ln:Int):=by omega
  clear h8
  go_enter Tryz.func34,Tryz.ntmps34
  go_wp2_with fail
  go_ret
  exact ⟨by rw [HV.out];rfl,HBB.out⟩
 ·have HTL:=hh (show ¬ (clv.length=0∨8 < clv.length) by have:=HLN.out;omega);have h10:((ln:Int) == 0)=false:=by simp;omega
  have h9:¬ (8:Int) < (ln:Int):=by omega
  go_enter Tryz.func34,Tryz.ntmps34
  go_upto_region 3 with fail
  obtain ⟨wB,hwB⟩:=nm ((w.alloc (.cells (clC crt cix ce ch (pa,pn,pc) (la,ln,lc) cto) 31)).alloc (.cells (c8 root) 27));rw [← hwB] at HBB HP1 HQ1 ⊢;obtain ⟨P,hP⟩:=nm (w.heap.size);rw [← hP] at HP1 HQ1 ⊢;obtain ⟨Q,hQ⟩:=nm (P+1);rw [← hQ] at HQ1 ⊢;clear hwB hP hQ c36;obtain ⟨wz,hwz,hbz⟩:=dr wB;have hS:=And.intro (a0c hbz HP1.out) (a0c hbz HQ1.out);have HBz:=bT HBB hbz;clear hbz HP1 HQ1;refine rg (fun w'=>w'.heap[P]? = some (.cells (clC crt cix ce ch (pa,pn,pc) (la,ln,lc) cto) 31 (0,0))∧w'.heap[Q]? = some (.cells (c8 root) 27 (0,0))) 12 12 hwz hS ?_;clear hwz;refine tk 0 (some 19) rfl rfl (a0p (by rfl) 27 _ rfl (.pointer (some ⟨Q,0,none⟩)) rfl (.agg (c8 root)) (fun w' hS'=>d0T hS'.2 Tryz.underlying27 rfl (Tryz.sizeHc root HRT.out))) hS ?_;go_frame;refine tA1 1 20 hS ?_;go_frame;refine tk 2 (some 21) rfl rfl (.inl ⟨by rfl,fun w' hS'=>(by have hc:w'.cell? ⟨P,2,none⟩=some (.int .i64 ce):=(Lib.cell_of_heap hS'.1 2).trans (clC_2 _ _ _ _ _ _ _);go_simp;rfl)⟩) hS ?_;go_frame;refine tA1 3 22 hS ?_;go_frame;refine tk 4 (some 23) rfl rfl (yieldsIf_load_mid (by rfl) 27 _ rfl P 3 rfl (ch.map byteV) _ (fun w' hS'=>a0C hS'.1 3 _ (p0o _ _ _ _ _ _)) Tryz.underlying27 rfl (Tryz.sizeHm _ HCH.out)) hS ?_;go_frame;refine tA1 6 25 hS ?_;go_frame
  refine tk 7 (some 26) rfl rfl (.inl ⟨by rfl,fun w' hS'=>(by have hc:w'.cell? ⟨P,1,none⟩=some (.int .i64 cix):=(Lib.cell_of_heap hS'.1 1).trans (clC_1 _ _ _ _ _ _ _);go_simp;rfl)⟩) hS ?_;go_frame;refine tA1 8 27 hS ?_;go_frame;refine tk 9 (some 28) rfl rfl (.inl ⟨by rfl,fun w' hS'=>(by have hc:w'.cell? ⟨P,35,none⟩=some (.slice pa pn pc):=(Lib.cell_of_heap hS'.1 35).trans (l0P _ _ _ HCH.out _ _ _);go_simp;rfl)⟩) hS ?_;go_frame;refine t1 5 fun K hK=>?_
  simp only [gA,jB,gC];go_simp;refine (o0c _ ce HB.out.1 HCH.out).mono ?_;rintro e w4 ⟨v2,rfl,ho,hb⟩;have hSn:=And.intro (a0c hb hS.1) (a0c hb hS.2);have HEL:=hh (show (earL ce ch).length≤41 from l0O HB.out.1 HCH.out);have HR2:=hh (ho.rd b0D);clear ho;have HB4:=bT HBz hb;refine hK _ _ (fun _ _=>hSn) ?_;clear hK hS hb HBz;have hS:=hSn;clear hSn;refine t1 10 fun K hK=>?_
  simp only [gA,jB,gC];go_simp;obtain ⟨q1,hq1⟩:=nm (checkF 1 root (earL ce ch) cix cp);have hcall:=h0k 1 cix root (earL ce ch) cp v2 (.slice pa pn pc) w4 HRT.out HR2.out (by have:=HEL.out;omega) (HP.out.later HB4.out) HA.out HB.out.2;rw [← hq1] at hcall;have HQ1e:=hh hq1;clear hq1;refine (hcall).mono ?_;rintro e w5 ⟨rfl,hb⟩;have hSn:=And.intro (a0c hb hS.1) (a0c hb hS.2);have HB5:=bT HB4 hb;refine hK _ _ (fun _ _=>hSn) ?_;clear hK hS hb hcall HB4;have hS:=hSn;clear hSn;refine tA1 11 5 hS ?_;go_frame;refine tD ?_;have HP5:=hh hS.1;clear hS
  by_cases hz:q1=0
  ·subst hz;have HE1:=hh (show RV=openL ch clv by rw [HRV.out];unfold openR;rw [if_neg HTL.out,if_pos HQ1e.out.symm]);have c36:w5.cell? ⟨P,36,none⟩=some (.slice la ln lc):=(Lib.cell_of_heap HP5.out 36).trans (f0M _ _ _ HCH.out _ _ _);have hl9:ln < 1000000:=by omega
   go_wp2_with fail;clear c36
   go_loopw [36] (fun y wr=>∃ i:Nat,y = .int .i64 i∧i≤ln∧Hid (∀ j (hj:j < xs.length),j < i→leafChk ch xs[j].1=0)∧Hid (Below w5.heap.size w5 wr)) (fun y _=>ln - (intOf y).toNat)
   case atStart=>exact ⟨0,rfl,by omega,hh fun j hj h=>by omega,hh (Below.refl _ _)⟩
   case round=>
    obtain ⟨i,rfl,hin,HZ,HD⟩:=hrel;have HBi:=hh (HB5.out.trans (HD.out.mono HB5.out.size));have HPi:=hh (a0c HD.out HP5.out)
    by_cases hlt:i < ln
    ·have hi:i < xs.length:=by have:=HLN.out;omega
     obtain ⟨b,off,rfl,c0,c1,c2,c3,c4,c5,c6⟩:=(HLV.out.later HBi.out).leaf i hi;have hpr:=(HPR.out xs[i] (List.getElem_mem hi)).later HBi.out;have hlo:=HLO.out xs[i].1 (by rw [← HXL.out];exact List.mem_map.2 ⟨xs[i],List.getElem_mem hi,rfl⟩);have hbad:leafChk ch xs[i].1≠0→RV=leafChk ch xs[i].1:=fun hn=>by
      have hic:i < clv.length:=by have:=HLN.out;omega
      have hmap:∀ j (hj:j < xs.length) (hj2:j < clv.length),clv[j]=xs[j].1:=fun j hj hj2=>by
       have h1:(xs.map (·.1))[j]'(by rw [List.length_map];exact hj)=xs[j].1:=List.getElem_map _;rw [← h1];congr 1;exact HXL.out.symm
      rw [HE1.out,← hmap i hi hic]
      exact r0d hic (fun j hj hji=>by rw [hmap j (by have:=HLN.out;omega) hj];exact HZ.out j (by have:=HLN.out;omega) hji) (by rw [hmap i hi hic];exact hn)
     have hgood:leafChk ch xs[i].1=0→∀ j (hj:j < xs.length),j < i+1→leafChk ch xs[j].1=0:=fun h0 j hj hji=>by
      rcases (show j < i∨j=i by omega) with h1 | rfl
      ·exact HZ.out j hj h1
      ·exact h0
     obtain ⟨⟨⟨xi,xt,xm,xp⟩,⟨sa,sn,sc⟩⟩,hx⟩:∃ x,x=xs[i]:=⟨_,rfl⟩;rw [← hx] at c0 c1 c2 c3 c4 c5 c6 hpr hlo hbad hgood;clear hx hi;have HPX:=hh (show Rd wr hE 32 (.slice sa sn sc) xp from hpr);have HLX:=hh (show xt < 9223372036854775808∧xi < 9223372036854775808∧xm < uMax∧All32 xp from ⟨hlo.1,hlo.2.1,hlo.2.2.1,hlo.2.2.2⟩);have HBAD:=hh (show checkF 2 ch (tokL xt xm) xi xp≠0→RV=checkF 2 ch (tokL xt xm) xi xp from hbad);have HGOOD:=hh (show checkF 2 ch (tokL xt xm) xi xp=0→∀ j (hj:j < xs.length),j < i+1→leafChk ch xs[j].1=0 from hgood);clear hpr hlo hbad hgood;simp only [] at c0 c1 c2 c3 c4 c5;replace c6:wr.cell? ⟨b,off+i*7+6,none⟩=some (.slice sa sn sc):=c6
     go_wp2_with (refine sA _ Tryz.zeroLf ?_)
     intro L d3 hL
     go_wp2_with (refine a0a (t:=72) (old:=lfZ) rfl 72 _ _ rfl L (lfC xi xt xm (sa,sn,sc)) rfl rfl hL.out.cells Tryz.sizeLf rfl (e0p _ _ _ _) ?_)
     intro w6 h6 k6 z6;have hb6:Below wr.heap.size wr w6:=hL.out.below.trans (k6.below (B:=wr.heap.size) (fun x hx e=>by have:=hL.out.eq;omega) hL.out.below.size);have HL6:=hh h6;have HP6:=hh (a0c hb6 HPi.out);have HD6:=bT HD hb6;have HPX6:=hh (HPX.out.later hb6);clear hL h6 k6 z6 hb6 c0 c1 c2 c3 c4 c5 c6 HPX HPi HD HBi
     go_upto_region 9 with fail
     obtain ⟨wz,hwz,hbz⟩:=dr w6;have hS:=And.intro (a0c hbz HP6.out) (a0c hbz HL6.out);have HDz:=bT HD6 hbz;have HPXz:=hh (HPX6.out.later hbz);clear hbz HP6 HL6 HD6 HPX6;refine rg (fun w'=>w'.heap[P]? = some (.cells (clC crt cix ce ch (pa,pn,pc) (some ⟨b,off,none⟩,ln,lc) cto) 31 (0,0))∧w'.heap[L]? = some (.cells (lfC xi xt xm (sa,sn,sc)) 72 (0,0))) 13 13 hwz hS ?_;clear hwz;refine tA1 0 40 hS ?_;go_frame;refine tk 1 (some 41) rfl rfl (yieldsIf_load_mid (by rfl) 27 _ rfl P 3 rfl (ch.map byteV) _ (fun w' hS'=>a0C hS'.1 3 _ (p0o _ _ _ _ _ _)) Tryz.underlying27 rfl (Tryz.sizeHm _ HCH.out)) hS ?_;go_frame;refine tA1 2 42 hS ?_;go_frame;refine tk 3 (some 43) rfl rfl (.inl ⟨by rfl,fun w' hS'=>(by have hc:w'.cell? ⟨L,1,none⟩=some (.int .i64 xt):=Lib.cell_of_heap hS'.2 1;go_simp;rfl)⟩) hS ?_;go_frame;refine tA1 4 44 hS ?_;go_frame;refine tk 5 (some 45) rfl rfl (yieldsIf_load_mid (by rfl) 25 _ rfl L 2 rfl [.int .u64 (uw0 xm),.int .u64 (uw1 xm),.int .u64 (uw2 xm),.int .u64 (uw3 xm)] _ (fun w' hS'=>a0C hS'.2 2 _ rfl) Tryz.underlying25 rfl Tryz.sizeU) hS ?_;go_frame;refine tA1 7 47 hS ?_;go_frame;refine tk 8 (some 48) rfl rfl (.inl ⟨by rfl,fun w' hS'=>(by have hc:w'.cell? ⟨L,0,none⟩=some (.int .i64 xi):=Lib.cell_of_heap hS'.2 0;go_simp;rfl)⟩) hS ?_;go_frame;refine tA1 9 49 hS ?_;go_frame
     refine tk 10 (some 50) rfl rfl (.inl ⟨by rfl,fun w' hS'=>(by have hc:w'.cell? ⟨L,6,none⟩=some (.slice sa sn sc):=Lib.cell_of_heap hS'.2 6;go_simp;rfl)⟩) hS ?_;go_frame;refine t1 6 fun K hK=>?_
     simp only [gA,jB,gC];go_simp;refine (n0L _ xt HLX.out.1 (uw_is HLX.out.2.2.1)).mono ?_;rintro e w8 ⟨v2,rfl,ho,hb⟩;have hSn:=And.intro (a0c hb hS.1) (a0c hb hS.2);have HEL:=hh (show (tokL xt xm).length≤42 from l0z HLX.out.1);have HR2:=hh (ho.rd b0D);have HPX8:=hh (HPXz.out.later hb);clear ho;have HD8:=bT HDz hb;refine hK _ _ (fun _ _=>hSn) ?_;clear hK hS hb HDz HPXz;have hS:=hSn;clear hSn;refine t1 11 fun K hK=>?_
     simp only [gA,jB,gC];go_simp;obtain ⟨q2,hq2⟩:=nm (checkF 2 ch (tokL xt xm) xi xp);have hcall:=h0k 2 xi ch (tokL xt xm) xp v2 (.slice sa sn sc) w8 HCH.out HR2.out (by have:=HEL.out;omega) HPX8.out HLX.out.2.2.2 HLX.out.2.1;rw [← hq2] at hcall;have HQ2e:=hh hq2;clear hq2;refine (hcall).mono ?_;rintro e w7 ⟨rfl,hb⟩;have hSn:=And.intro (a0c hb hS.1) (a0c hb hS.2);have HD7:=bT HD8 hb;refine hK _ _ (fun _ _=>hSn) ?_;clear hK hS hb hcall HD8 HPX8;have hS:=hSn;clear hSn;refine tA1 12 8 hS ?_;go_frame;refine tD ?_;clear hS
     by_cases hz2:q2=0
     ·subst hz2;have HG2:=hh (HGOOD.out HQ2e.out.symm);go_wp2_with fail
      go_roundw
      case rel=>exact ⟨i+1,by go_num,hlt,HG2,HD7⟩
      case measure=>simp [intOf];omega
     ·have HV:=hh (show RV=q2 by rw [HQ2e.out];exact HBAD.out (by rw [← HQ2e.out];exact hz2));have hne:(q2 != 0)=true:=by simpa using hz2
      have HB8:=hh (HB5.out.trans (HD7.out.mono HB5.out.size));clear hz2;go_wp2_with fail
      go_ret
      exact ⟨by rw [HV.out];rfl,HB8.out⟩
    ·obtain rfl:i=ln:=by omega
     have HV:=hh (show RV=0 by
      rw [HE1.out];refine l0X fun x hx=>?_
      rw [← HXL.out] at hx;obtain ⟨y,hy,rfl⟩:=List.mem_map.1 hx;obtain ⟨j,hj,rfl⟩:=List.mem_iff_getElem.1 hy
      exact HZ.out j hj (by rw [HLN.out.2];exact hj))
     go_wp2_with fail
     go_ret
     exact ⟨by rw [HV.out];rfl,HBi.out⟩
  ·have HV:=hh (show RV=q1 by rw [HRV.out];unfold openR;rw [if_neg HTL.out,if_neg (by rw [← HQ1e.out];exact hz)];exact HQ1e.out.symm);have hne:(q1 != 0)=true:=by simpa using hz
   clear hz;go_wp2_with fail
   go_ret
   exact ⟨by rw [HV.out];rfl,HB5.out⟩
end Go.Proofs.YtakkfabaeolbdaaGreat
