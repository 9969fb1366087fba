/- leaf.Claim, with what it hands back its own. No condition. -/
import Derived.Test.YtakkfabaeolbdaaGreatCn37
namespace Go.Proofs.YtakkfabaeolbdaaGreat
set_option maxHeartbeats 16000000
set_option maxRecDepth 100000
open Go.RowKit

def ClO (w:World) (v:Value) (c:CCl):Prop:=∃ (p lv:SlV) (xs:List (CLf × SlV)),v = .agg (clC c.root c.idx c.e c.h p lv c.to)∧Own w 0 27 hE 32 (slV p) c.p∧OLf w 0 lv xs∧xs.map (·.1)=c.lv
theorem ClO.rd {w:World} {v:Value} {c:CCl} (h:ClO w v c):ClAt w v c:=by
 obtain ⟨p,lv,xs,h1,h2,h3,h4⟩:=h
 exact ⟨p,lv,h1,h2.rd b0U,by rw [← h4];exact h3.rd⟩
theorem ClO.later {w w':World} {v:Value} {c:CCl} (h:ClO w v c) (hb:Below w.heap.size w w'):ClO w' v c:=by
 obtain ⟨p,lv,xs,h1,h2,h3,h4⟩:=h
 exact ⟨p,lv,xs,h1,h2.later hb,h3.later hb,h4⟩
def ccZ:CCl:=⟨0,0,0,zero32,[],[],0⟩
theorem ClO.zero (w:World):ClO w (.agg clZ) ccZ:=⟨nilS,nilS,[],rfl,Own.nil _ _ _ _ _,OLf.nil _ _,rfl⟩
def clmV:Except Int CCl→CCl
 | .error _=>ccZ
 | .ok c=>c
def clmE:Except Int CCl→Int
 | .error k=>k
 | .ok _=>0
def ClaimRet2 (w:World) (x:Except Int CCl) (e:Ending) (w':World):Prop:=Below w.heap.size w w'∧match x with
 | .error k=>e = .returned (.tuple #[.agg clZ,.int .i64 k])
 | .ok c=>∃ v,e = .returned (.tuple #[v,.int .i64 0])∧ClO w' v c
theorem ClaimRet2.out {w w':World} {x:Except Int CCl} {e:Ending} (h:ClaimRet2 w x e w'):∃ v,e = .returned (.tuple #[v,.int .i64 (clmE x)])∧ClO w' v (clmV x)∧Below w.heap.size w w':=by
 obtain ⟨hb,h⟩:=h
 cases x with
 | error k=>exact ⟨_,h,ClO.zero _,hb⟩
 | ok c=>obtain ⟨v,h1,h2⟩:=h;exact ⟨v,h1,h2,hb⟩
theorem k0D (w:World) (v vt:Value) (l:List LRow) (e:Int) (ts:List Int) (hr:Rd w rowE 6 v l) (hok:∀ r∈l,ROk r) (hlen:l.length < 1000000000) (ht:Rd w intE 1 vt ts) (htn:ts.length < 1000000000) :
  Calls Tryz.prog 29 #[v,.int .i64 e,vt] w (ClaimRet2 w (claimR l e ts)):=by
 obtain ⟨tad,tcap,rfl,_,_⟩:=ht.shape;obtain ⟨tn,htn'⟩:∃ n,n=ts.length:=⟨_,rfl⟩;rw [← htn'] at ht htn ⊢;obtain ⟨CR,hCR⟩:=nm (claimR l e ts);rw [← hCR];have HR:=hh hr;have HOK:=hh hok;have HL:=hh hlen;have HTS:=hh ht;have HTN:=hh htn';have HCR:=hh hCR;clear hr hok hlen ht htn' hCR
 go_enter Tryz.func29,Tryz.ntmps29
 go_wp2_with (refine sA _ Tryz.zeroCl ?_)
 obtain ⟨w1,hw1⟩:=nm (w.alloc (.cells #[.int .i64 e] 3));rw [← hw1];obtain ⟨A,hA⟩:=nm (w.heap.size);rw [← hA];have hb1:Below w.heap.size w w1:=by rw [hw1];exact (Below.refl _ _).alloc (Nat.le_refl _) _
 have hA1:w1.heap[A]? = some (.cells #[.int .i64 e] 3 (0,0)):=by rw [hw1,hA];exact heap_alloc_new _ _
 intro R w2 hR;have HA2:=hh (a0c hR.out.below hA1);have HR2:=hh hR.out.cells;have HB2:=hh (hb1.trans (hR.out.below.mono hb1.size));have WR:=hh (show w.heap.size≤R∧A < R by have:=hR.out.eq;have:=hb1.size;have:=a0b hA1;omega);clear hw1 hA hb1 hA1 hR;go_wp2_with fail;refine (r0E w2 v l (HR.out.later HB2.out) HOK.out HL.out).mono ?_;rintro e0 w3 ⟨hb3,hF⟩;have HA3:=hh (a0c hb3 HA2.out);have HR3:=hh (a0c hb3 HR2.out);have HB3:=bT HB2 hb3;clear hb3 HA2 HR2 HB2
 rcases hF with ⟨hF,rfl⟩ | ⟨s,vg,vo,raws,b,hF,rfl,hvg,hgp,htx⟩
 ·have HV:=hh (show CR = .error 2 by rw [HCR.out];exact k0b _ _ hF);clear hF
  go_wp2_with (refine sA _ Tryz.zeroTab ?_)
  intro T w4 hT
  go_wp2_with (refine a0a (t:=139) (old:=#[.slice none 0 0,.slice none 0 0]) rfl 139 _ _ rfl T #[.slice none 0 0,.slice none 0 0] rfl rfl hT.out.cells Tryz.sizeTab rfl (e0m _ _ _ _ _ _) ?_)
  intro w5 h5 k5 z5;have hb5:Below w3.heap.size w3 w5:=hT.out.below.trans (k5.below (B:=w3.heap.size) (fun q hq e=>by have:=hT.out.eq;omega) hT.out.below.size);have HT5:=hh h5;have HA5:=hh (a0c hb5 HA3.out);have HR5:=hh (a0c hb5 HR3.out);have HB5:=bT HB3 hb5;clear hT h5 k5 z5 hb5 HA3 HR3 HB3
  go_wp2_with (refine a0a (t:=31) (old:=clZ) rfl 31 _ _ rfl R clZ rfl rfl HR5.out (Tryz.sizeCl _ _ _ a0i _ _ _) rfl (c0n _ _ _ _ _ _ _) ?_)
  intro wq hq5 kq5 zq5;have HQ5:=hh hq5;have HQ6:=hh (kq5.onto HB5.out (Nat.le_refl _) WR.out.1);clear hq5 kq5 zq5;go_wp2_with fail
  exact bodyPost_ret (a0l rfl _ _ R _ clZ _ _ rfl HQ5.out Tryz.underlying31 rfl (Tryz.sizeCl _ _ _ a0i _ _ _) _ rfl) rfl (show ClaimRet2 w CR _ _ by rw [HV.out];exact ⟨HQ6.out,rfl⟩)
 ·obtain ⟨ad1,cap1,rfl,_,_⟩:=hvg.shape;obtain ⟨n1,hn1⟩:=nm (raws.length);rw [← hn1] at hvg ⊢;obtain ⟨ad2,cap2,rfl,_,_⟩:=htx.shape;obtain ⟨n2,hn2⟩:=nm ((tableL s).length);rw [← hn2] at htx ⊢;have HF:=hh hF;have HVG:=hh hvg;have HGP:=hh hgp;have HTX:=hh htx;have HN1:=hh hn1;have HSO:=hh (j0O hF HOK.out);clear hF hvg hgp htx hn1 hn2
  go_wp2_with (refine sA _ Tryz.zeroTab ?_)
  intro T w4 hT
  go_wp2_with (refine a0a (t:=139) (old:=#[.slice none 0 0,.slice none 0 0]) rfl 139 _ _ rfl T #[.slice ad1 n1 cap1,.slice ad2 n2 cap2] rfl rfl hT.out.cells Tryz.sizeTab rfl (e0m _ _ _ _ _ _) ?_)
  intro w5 h5 k5 z5;have hb5:Below w3.heap.size w3 w5:=hT.out.below.trans (k5.below (B:=w3.heap.size) (fun q hq e=>by have:=hT.out.eq;omega) hT.out.below.size);have HT5:=hh h5;have HA5:=hh (a0c hb5 HA3.out);have HR5:=hh (a0c hb5 HR3.out);have HB5:=bT HB3 hb5;have HVG5:=hh (HVG.out.later hb5);have HGP5:=hh (HGP.out.later hb5);have HTX5:=hh (HTX.out.later hb5);clear hT h5 k5 z5 hb5 HA3 HR3 HB3 HVG HGP HTX;have hm:n1 < 1000000:=by have:=HN1.out;have:=HGP5.out.1;have:=(a0M s).1;have:=HSO.out.2.2;omega
  rcases (show tn=0∨8 < tn∨(¬ tn=0∧tn≤8) by omega) with h0 | h8 | ⟨h0,h8⟩
  ·subst h0;have HV:=hh (show CR = .error 2 by rw [HCR.out];exact g0L _ HF.out (.inl HTN.out.symm))
   go_wp2_with (refine a0a (t:=31) (old:=clZ) rfl 31 _ _ rfl R clZ rfl rfl HR5.out (Tryz.sizeCl _ _ _ a0i _ _ _) rfl (c0n _ _ _ _ _ _ _) ?_)
   intro wq hq5 kq5 zq5;have HQ5:=hh hq5;have HQ6:=hh (kq5.onto HB5.out (Nat.le_refl _) WR.out.1);clear hq5 kq5 zq5;go_wp2_with fail
   exact bodyPost_ret (a0l rfl _ _ R _ clZ _ _ rfl HQ5.out Tryz.underlying31 rfl (Tryz.sizeCl _ _ _ a0i _ _ _) _ rfl) rfl (show ClaimRet2 w CR _ _ by rw [HV.out];exact ⟨HQ6.out,rfl⟩)
  ·have HV:=hh (show CR = .error 2 by rw [HCR.out];exact g0L _ HF.out (.inr (by have:=HTN.out;omega)));have h0:((tn:Int) == 0)=false:=by simp;omega
   have h9:(8:Int) < (tn:Int):=by omega
   clear h8
   go_wp2_with (refine a0a (t:=31) (old:=clZ) rfl 31 _ _ rfl R clZ rfl rfl HR5.out (Tryz.sizeCl _ _ _ a0i _ _ _) rfl (c0n _ _ _ _ _ _ _) ?_)
   intro wq hq5 kq5 zq5;have HQ5:=hh hq5;have HQ6:=hh (kq5.onto HB5.out (Nat.le_refl _) WR.out.1);clear hq5 kq5 zq5;go_wp2_with fail
   exact bodyPost_ret (a0l rfl _ _ R _ clZ _ _ rfl HQ5.out Tryz.underlying31 rfl (Tryz.sizeCl _ _ _ a0i _ _ _) _ rfl) rfl (show ClaimRet2 w CR _ _ by rw [HV.out];exact ⟨HQ6.out,rfl⟩)
  ·have HTL:=hh (show ¬ (ts.length=0∨8 < ts.length) by have:=HTN.out;omega);have h10:((tn:Int) == 0)=false:=by simp;omega
   have h9:¬ (8:Int) < (tn:Int):=by omega
   have cT0:w5.cell? ⟨T,0,none⟩=some (.slice ad1 n1 cap1):=Lib.cell_of_heap HT5.out 0;go_wp2_with fail;refine (r0c w5 A (fun g=>decide (g.1=e)) _ raws HVG5.out (by have:=HN1.out;omega) (fun W hb x _=>m0E e A x.1 x.2.1 x.2.2.1 x.2.2.2 W (a0c hb HA5.out))).mono ?_;rintro e6 w6 ⟨rfl,hb6⟩;have HA6:=hh (a0c hb6 HA5.out);have HR6:=hh (a0c hb6 HR5.out);have HT6:=hh (a0c hb6 HT5.out);have HB6:=bT HB5 hb6;have HVG6:=hh (HVG5.out.later hb6);have HGP6:=hh (HGP5.out.later hb6);have HTX6:=hh (HTX5.out.later hb6);clear hb6 HA5 HR5 HT5 HB5 HVG5 HTX5 cT0;have hfq:=HGP5.out.fidx e;have hcase:=r0j (fun g:Int × SlV=>decide (g.1=e)) raws;obtain ⟨q,hq⟩:=nm (fidx (fun g:Int × SlV=>decide (g.1=e)) raws);rw [← hq] at hcase hfq ⊢;have HFQ:=hh hfq.symm;clear hq hfq HGP5
   rcases hcase with rfl | ⟨qi,hqi,rfl⟩
   ·have HV:=hh (show CR = .error 8 by rw [HCR.out];exact o0z HF.out HTL.out HFQ.out)
    go_wp2_with (refine a0a (t:=31) (old:=clZ) rfl 31 _ _ rfl R clZ rfl rfl HR6.out (Tryz.sizeCl _ _ _ a0i _ _ _) rfl (c0n _ _ _ _ _ _ _) ?_)
    intro wq hq5 kq5 zq5;have HQ5:=hh hq5;have HQ6:=hh (kq5.onto HB6.out (Nat.le_refl _) WR.out.1);clear hq5 kq5 zq5;go_wp2_with fail
    exact bodyPost_ret (a0l rfl _ _ R _ clZ _ _ rfl HQ5.out Tryz.underlying31 rfl (Tryz.sizeCl _ _ _ a0i _ _ _) _ rfl) rfl (show ClaimRet2 w CR _ _ by rw [HV.out];exact ⟨HQ6.out,rfl⟩)
   ·have hqn:qi < n1:=by have:=HN1.out;omega
    have hig:qi < (groupsF s).length:=by have:=HGP6.out.1;omega
    obtain ⟨gb,goff,rfl,_,c0,c1⟩:=HVG6.out.grp qi hqi;have hpr:=HGP6.out.2.1 qi raws[qi] (groupsF s)[qi] (List.getElem?_eq_getElem hqi) (List.getElem?_eq_getElem hig);have hgm:=(a0M s).2 (groupsF s)[qi] (List.getElem_mem hig);have hgok:=(f0I HSO.out.1 (groupsF s)[qi] (List.getElem_mem hig)).2;have hcl:=n0Q HF.out HTL.out HFQ.out (List.getElem?_eq_getElem hig);rw [← HCR.out] at hcl;obtain ⟨⟨ge,ga,gn,gc⟩,hraw⟩:∃ x,x=raws[qi]:=⟨_,rfl⟩;rw [← hraw] at c0 c1 hpr;obtain ⟨g,hg⟩:=nm ((groupsF s)[qi]);rw [← hg] at hgm hpr hgok hcl;clear hraw hg hqi;obtain ⟨g1,g2⟩:=g;simp only [] at c0 c1 hgok hcl;have hgn:gn=g2.length:=hpr.2.size;have HGR:=hh (show Rd w6 rowE 6 (.slice ga gn gc) g2 from hpr.2);have HGNE:=hh (show g2≠[] from hgm.1);have HGO:=hh hgok;have HCL:=hh hcl;have HGN:=hh (show gn=g2.length∧gn≤1024∧gn < 1000000 by have:=HSO.out.2.2;have:g2.length≤s.length:=hgm.2.1;omega);have HIG:=hh hig;clear hgm hgn hpr hgok hcl hig;have cT0:w6.cell? ⟨T,0,none⟩=some (.slice (some ⟨gb,goff,none⟩) n1 cap1):=Lib.cell_of_heap HT6.out 0
    go_wp2_with (refine sA _ Tryz.zeroGrp ?_)
    intro G d1 hG
    go_wp2_with (refine a0a (t:=144) (old:=#[.int .i64 0,.slice none 0 0]) rfl 144 _ _ rfl G #[.int .i64 ge,.slice ga gn gc] rfl rfl hG.out.cells Tryz.sizeGrp rfl (p0k _ _ _ _) ?_)
    intro w7 h7 k7 z7;have hb7:Below w6.heap.size w6 w7:=hG.out.below.trans (k7.below (B:=w6.heap.size) (fun x hx e=>by have:=hG.out.eq;omega) hG.out.below.size);have HG7:=hh h7;have HA7:=hh (a0c hb7 HA6.out);have HR7:=hh (a0c hb7 HR6.out);have HT7:=hh (a0c hb7 HT6.out);have HB7:=bT HB6 hb7;have HTX7:=hh (HTX6.out.later hb7);have HGR7:=hh (HGR.out.later hb7);clear hG h7 k7 z7 hb7 HA6 HR6 HT6 HB6 HVG6 HGP6 HTX6 cT0 c0 c1 HGR;have cA7:w7.cell? ⟨A,0,none⟩=some (.int .i64 e):=Lib.cell_of_heap HA7.out 0
    go_wp2_with (refine sA _ Tryz.zeroCl ?_)
    intro C d2 hC
    go_wp2_with (refine a0a (t:=31) (old:=clZ) rfl 31 _ _ rfl C (clC 0 qi e zero32 nilS nilS e) rfl rfl hC.out.cells (Tryz.sizeCl _ _ _ a0i _ _ _) rfl (c0n _ _ _ _ _ _ _) ?_)
    intro w8 h8' k8 z8;have WC:=hh (show C=w7.heap.size∧w.heap.size≤C∧A < C∧R < C∧T < C∧G < C by
     have h1:=hC.out.eq;have:=a0b HA7.out;have:=a0b HR7.out;have:=a0b HT7.out;have:=a0b HG7.out;have:=HB7.out.size;omega)
    have HD8:=hh (hC.out.below.trans (k8.below (B:=w7.heap.size) (fun x hx e=>by have:=hC.out.eq;omega) hC.out.below.size));have HC8:=hh h8';clear hC h8' k8 z8 cA7;have cG0:w8.cell? ⟨G,0,none⟩=some (.int .i64 ge):=Lib.cell_of_heap (a0c HD8.out HG7.out) 0;have cG1:w8.cell? ⟨G,1,none⟩=some (.slice ga gn gc):=Lib.cell_of_heap (a0c HD8.out HG7.out) 1;go_wp2_with fail;refine (e0E w8 ge ga gn gc g2 (HGR7.out.later HD8.out) HGO.out HGN.out.2.2).mono ?_;rintro e9 w9 ⟨v9,rfl,htx,hb9⟩;have HTY:=hh htx;have HC9:=hh (a0c hb9 HC8.out);have HD9:=bT HD8 hb9;clear htx hb9 HC8 HD8 cG0 cG1;go_wp2_with fail;refine (c0b 2 (leavesG g2) v9 w9 HTY.out (d0u HGO.out)).mono ?_;rw [f0H (.inr rfl) (by intro h;have:=congrArg List.length h;rw [a0D] at this;exact HGNE.out (List.eq_nil_of_length_eq_zero this)) (by rw [a0D];have:=HGN.out;omega)];rintro e10 w10 ⟨rfl,hb10⟩;obtain ⟨rt,hrt⟩:=nm (rootF 2 (leavesG g2));have hr2:rootF (2:Int).toNat (leavesG g2)=rt:=by rw [hrt];rfl
    rw [hr2];have HRT:=hh hrt;have HR32:=hh (show rt.length=32 by rw [hrt];exact d0c _ _);have HC10:=hh (a0c hb10 HC9.out);have HD10:=bT HD9 hb10;clear hrt hr2 hb10 HC9 HD9 HTY
    go_wp2_with (refine d0w rfl 27 _ _ rfl C 3 (c8 rt) rfl rfl 31 _ HC10.out (Tryz.sizeHc rt HR32.out) (by rw [c0x _ _ _ a0i,a0m,HR32.out];omega) (g0e rt) (clC 0 qi e rt nilS nilS e) (r0p _ _ _ a0i HR32.out _ _ _) ?_)
    intro w11 h11 k11 z11;have HC11:=hh h11;have HD11:=hh (k11.onto HD10.out (Nat.le_refl _) (by have:=WC.out;omega));clear h11 k11 z11 HC10 HD10;have cT1:w11.cell? ⟨T,1,none⟩=some (.slice ad2 n2 cap2):=Lib.cell_of_heap (a0c HD11.out HT7.out) 1;go_wp2_with fail;refine (h0o 1 qi (tableL s) (.slice ad2 n2 cap2) w11 (HTX7.out.later HD11.out) (g0T HSO.out.1)).mono ?_;have hpv:=g0D (k:=1) (i:=qi) (l:=tableL s) (.inl rfl) (i0n HSO.out.2.1) (e0F HSO.out.2.2) (by rw [b0a];exact HIG.out);rw [hpv.1,hpv.2];rintro e12 w12 ⟨v12,rfl,hown,hb12⟩;clear hpv;obtain ⟨ad6,cap6,rfl,_,_⟩:=(hown.rd b0U).shape;obtain ⟨k6,hk6⟩:=nm ((proofF 1 (tableL s) qi).length);rw [← hk6] at hown ⊢;have HPR:=hh (show Own w12 w11.heap.size 27 hE 32 (slV (ad6,k6,cap6)) (proofF 1 (tableL s) qi) from hown);have HC12:=hh (a0c hb12 HC11.out);have HD12:=bT HD11 hb12;have WCz:=hh (show C < w11.heap.size from a0b HC11.out);clear hown hb12 hk6 HC11 HD11 cT1
    go_wp2_with (refine a0h rfl 28 _ _ rfl C 35 (.slice ad6 k6 cap6) rfl rfl rfl rfl 31 _ HC12.out Tryz.sizeHashes (by rw [c0x _ _ _ HR32.out];omega) (clC 0 qi e rt (ad6,k6,cap6) nilS e) (n0E _ _ _ HR32.out _ (ad6,k6,cap6) _ _) ?_)
    intro w13 h13 k13 z13;have HC13:=hh h13;have HD13:=hh (k13.onto HD12.out (Nat.le_refl _) (by have:=WC.out;omega));have HP13:=hh (HPR.out.keep k13 fun k e he=>by have:=(HPR.out.lt k e).1;have:=WCz.out;omega);clear h13 k13 z13 HC12 HD12 HPR;obtain ⟨M,hM⟩:=nm (w13.heap.size);have HM:=hh hM;have WM:=hh (show C < M∧w7.heap.size≤M by have:=a0b HC13.out;have:=HD13.out.size;omega);clear hM;go_wp2_with fail
    go_loopw [68] (fun y wr=>∃ (i:Nat) (lv:SlV) (xs:List (CLf × SlV)),y = .int .i64 i∧i≤tn∧Hid (wr.heap[C]? = some (.cells (clC 0 qi e rt (ad6,k6,cap6) lv e) 31 (0,0)))∧Hid (OLf wr M lv xs)∧Hid (openAll g2 (ts.take i)=some (xs.map (·.1)))∧Hid (xs.length=i)∧Hid (Keep (· = C) w13 wr)) (fun y _=>tn - (intOf y).toNat)
    case atStart=>exact ⟨0,nilS,[],rfl,by omega,HC13,hh (OLf.nil _ _),hh rfl,hh rfl,hh (Keep.refl _ _)⟩
    case round=>
     clear HC13;obtain ⟨i,lv,xs,rfl,hin,HCi,HO,HOA,HXL,HK⟩:=hrel;have HDi:=hh (HK.out.onto HD13.out (Nat.le_refl _) (by have:=WC.out;omega));have HBi:=hh (HB7.out.trans (HDi.out.mono HB7.out.size));have HRi:=hh (a0c HDi.out HR7.out)
     by_cases hlt:i < tn
     ·have hi:i < ts.length:=by have:=HTN.out;omega
      obtain ⟨tb,toff,rfl,ct⟩:=(HTS.out.later HBi.out).i64 i hi;have hoa:=i0L ts[i] HOA.out;rw [← List.take_succ_eq_append_getElem hi] at hoa;have hno:=fun h=>j0h (us:=ts.drop (i+1)) (show openAll g2 (ts.take (i+1))=none from h)
      rw [List.take_append_drop] at hno;obtain ⟨t,htt⟩:=nm (ts[i]);rw [← htt] at ct hoa;have HOS:=hh hoa;have HNO:=hh hno;clear htt hoa hno hi;have cG0:wr.cell? ⟨G,0,none⟩=some (.int .i64 ge):=Lib.cell_of_heap (a0c HDi.out HG7.out) 0;have cG1:wr.cell? ⟨G,1,none⟩=some (.slice ga gn gc):=Lib.cell_of_heap (a0c HDi.out HG7.out) 1;go_wp2_with fail;refine (n0x wr ge t ga gn gc g2 (HGR7.out.later HDi.out) HGO.out HGN.out.2.1 HGNE.out).mono ?_;rintro e14 w14 ⟨hb14,hret⟩;clear cG0 cG1 ct;have HC14:=hh (a0c hb14 HCi.out);have HO14:=hh (HO.out.later hb14);have HK14:=hh (HK.out.then_below hb14);have HR14:=hh (a0c hb14 HRi.out);have HB14:=bT HBi hb14;clear hb14 HCi HO HK HDi HRi HBi
      rcases hret with ⟨hf,rfl⟩ | ⟨oi,r,s',hf,hri,rfl,hpo⟩
      ·have HV:=hh (show CR = .error 8 by rw [HCL.out,HNO.out (by rw [HOS.out,q0X hf];rfl)]);clear hf
       go_wp2_with (refine sA _ Tryz.zeroLf ?_)
       intro L d3 hL
       go_wp2_with (refine a0a (t:=72) (old:=lfZ) rfl 72 _ _ rfl L lfZ rfl rfl hL.out.cells Tryz.sizeLf rfl (by simp [lfZ,Value.oneCell']) ?_)
       intro w15 h15 k15 z15;have hb15:Below w14.heap.size w14 w15:=hL.out.below.trans (k15.below (B:=w14.heap.size) (fun x hx e=>by have:=hL.out.eq;omega) hL.out.below.size);have HR15:=hh (a0c hb15 HR14.out);have HB15:=bT HB14 hb15;clear hL h15 k15 z15 hb15
       go_wp2_with (refine a0a (t:=31) (old:=clZ) rfl 31 _ _ rfl R clZ rfl rfl HR15.out (Tryz.sizeCl _ _ _ a0i _ _ _) rfl (c0n _ _ _ _ _ _ _) ?_)
       intro wq hq5 kq5 zq5;have HQ5:=hh hq5;have HQ6:=hh (kq5.onto HB15.out (Nat.le_refl _) WR.out.1);clear hq5 kq5 zq5;go_wp2_with fail
       exact bodyPost_ret (a0l rfl _ _ R _ clZ _ _ rfl HQ5.out Tryz.underlying31 rfl (Tryz.sizeCl _ _ _ a0i _ _ _) _ rfl) rfl (show ClaimRet2 w CR _ _ by rw [HV.out];exact ⟨HQ6.out,rfl⟩)
      ·have HOS2:=hh (show openAll g2 (ts.take (i+1))=some (xs.map (·.1) ++ [⟨oi,t,r.m,proofF 2 (leavesG g2) oi⟩]) by rw [HOS.out,p0p hf hri];rfl);have HPO:=hh hpo;clear hf hri hpo;obtain ⟨sa,sn,sc⟩:=s';obtain ⟨la,ln,lc⟩:=lv
       go_wp2_with (refine sA _ Tryz.zeroLf ?_)
       intro L d3 hL
       go_wp2_with (refine a0a (t:=72) (old:=lfZ) rfl 72 _ _ rfl L (lfC oi t r.m (sa,sn,sc)) rfl rfl hL.out.cells Tryz.sizeLf rfl (e0p _ _ _ _) ?_)
       intro w15 h15 k15 z15;have hb15:Below w14.heap.size w14 w15:=hL.out.below.trans (k15.below (B:=w14.heap.size) (fun x hx e=>by have:=hL.out.eq;omega) hL.out.below.size);have HR15:=hh (a0c hb15 HR14.out);have HB15:=bT HB14 hb15;have HL15:=hh h15;have HC15:=hh (a0c hb15 HC14.out);have HO15:=hh (HO14.out.later hb15);have HK15:=hh (HK14.out.then_below hb15);have HPO15:=hh ((HPO.out.mono (Nat.zero_le _)).later hb15);clear hL h15 k15 z15 hb15 HC14 HO14 HK14 HR14 HB14 HPO HR15 HB15;have WMz:=hh (show M≤w15.heap.size by have:=HK15.out.size;have:=HM.out;omega);have cC:w15.cell? ⟨C,36,none⟩=some (.slice la ln lc):=by rw [Lib.cell_of_heap HC15.out];exact f0M _ _ _ HR32.out _ _ _
       have q0:w15.cell? ⟨L,0,none⟩=some (.int .i64 oi):=Lib.cell_of_heap HL15.out 0;have q1:w15.cell? ⟨L,1,none⟩=some (.int .i64 t):=Lib.cell_of_heap HL15.out 1;have q2:w15.cell? ⟨L,2,none⟩=some (.int .u64 (uw0 r.m)):=Lib.cell_of_heap HL15.out 2;have q3:w15.cell? ⟨L,3,none⟩=some (.int .u64 (uw1 r.m)):=Lib.cell_of_heap HL15.out 3;have q4:w15.cell? ⟨L,4,none⟩=some (.int .u64 (uw2 r.m)):=Lib.cell_of_heap HL15.out 4;have q5:w15.cell? ⟨L,5,none⟩=some (.int .u64 (uw3 r.m)):=Lib.cell_of_heap HL15.out 5;have q6:w15.cell? ⟨L,6,none⟩=some (.slice sa sn sc):=Lib.cell_of_heap HL15.out 6;have HAL:=hh (show ∀ o,Below w15.heap.size w15 (w15.alloc o) from fun o=>(Below.refl _ _).alloc (Nat.le_refl _) _)
       go_wp2_with (at_builtin;refine l0N (l2:=[((⟨oi,t,r.m,proofF 2 (leavesG g2) oi⟩,(sa,sn,sc)):CLf × SlV)]) (enc:=lfE) (B:=M) (w0:=w15) rfl _ _ 29 rfl Tryz.underlying29 Tryz.infoLf rfl (by decide) f0D s0r (HO15.out.1.alloc _) rfl _ rfl (s0O w15 ((⟨oi,t,r.m,proofF 2 (leavesG g2) oi⟩,(sa,sn,sc)):CLf × SlV) _) (by have:=HXL.out;simp;unfold maxLen;omega) (by have:=HXL.out;simp;omega) ((HAL.out _).mono WMz.out) (Nat.le_refl _) (Nat.le_trans WMz.out (HAL.out _).size) ?_)
       intro v' w16 ho' hb' hg';obtain ⟨wa,hwa⟩:=nm (w15.alloc (.cells (lfC oi t r.m (sa,sn,sc)) 72));replace hg':wa.grownBy w16 (Value.slice la ln lc).ownBlock:=by rw [hwa];exact hg'
       have hba:Below w15.heap.size w15 wa:=by rw [hwa];exact HAL.out _
       obtain ⟨ad7,cap7,rfl,_,_⟩:=(ho'.rd f0D).shape;obtain ⟨k7,hk7⟩:=nm ((xs ++ [((⟨oi,t,r.m,proofF 2 (leavesG g2) oi⟩,(sa,sn,sc)):CLf × SlV)]).length);rw [← hk7] at ho' ⊢;have HC16:=hh (((HO15.out.later hba).1).other hg' WM.out.1 (a0c hba HC15.out));have HO16:=hh ((HO15.out.later hba).snoc (lv':=(ad7,k7,cap7)) (x:=((⟨oi,t,r.m,proofF 2 (leavesG g2) oi⟩,(sa,sn,sc)):CLf × SlV)) (HPO15.out.later hba) hg' ho');have HK16:=hh (HK15.out.then (S':=fun x=>M≤x) ⟨hb'.os,hb'.tape,hb'.output,hb'.size,fun i _ hn=>hb'.block i (by omega)⟩ fun x hx=>.inr (by rw [← HM.out];exact hx));clear ho' hb' hg' hwa hba hk7 HC15 HO15 HK15 HPO15 HL15 cC q0 q1 q2 q3 q4 q5 q6
       go_wp2_with (refine a0h rfl 29 _ _ rfl C 36 (.slice ad7 k7 cap7) rfl rfl rfl rfl 31 _ HC16.out Tryz.sizeLeaves (by rw [c0x _ _ _ HR32.out];omega) (clC 0 qi e rt (ad6,k6,cap6) (ad7,k7,cap7) e) (m0N _ _ _ HR32.out _ _ (ad7,k7,cap7) _) ?_)
       intro w17 h17 k17 z17;have HC17:=hh h17;have HO17:=hh (HO16.out.keep k17 fun x hx=>⟨clC 0 qi e rt (ad6,k6,cap6) (la,ln,lc) e,31,(0,0),(by rw [hx];exact HC16.out),by decide,by decide⟩);have HK17:=hh (HK16.out.then k17 fun x hx=>.inl hx);clear h17 k17 z17 HC16 HO16 HK16;go_wp2_with fail
       go_roundw
       case rel=>exact ⟨i+1,(ad7,k7,cap7),_,by go_num,hlt,HC17,HO17,hh (by rw [HOS2.out,List.map_append];rfl),hh (by rw [List.length_append,HXL.out];rfl),HK17⟩
       case measure=>simp [intOf];omega
     ·obtain rfl:i=tn:=by omega
      rw [List.take_of_length_le (by rw [← HTN.out];exact Nat.le_refl _)] at HOA;have HV:=hh (show CR = .ok ⟨0,qi,e,rt,proofF 1 (tableL s) qi,xs.map (·.1),e⟩ by rw [HCL.out,HOA.out,HRT.out]);clear HTS
      go_wp2_with (first
       | (refine lR HCi Tryz.underlying31 (Tryz.sizeCl _ _ _ HR32.out _ _ _) ?_)
       | (refine a0a (t:=31) (old:=clZ) rfl 31 _ _ rfl R (clC 0 qi e rt (ad6,k6,cap6) lv e) rfl rfl HRi.out (Tryz.sizeCl _ _ _ HR32.out _ _ _) (by rw [c0x _ _ _ HR32.out];rfl) (c0n _ _ _ _ _ _ _) ?_))
      intro wq hq5 kq5 zq5;have HQ5:=hh hq5;have HQ6:=hh (kq5.onto HBi.out (Nat.le_refl _) WR.out.1);have HQP:=hh (((HP13.out.keep HK.out fun k e he=>by have:=(HP13.out.lt k e).1;have:=WCz.out;omega).keep kq5 fun k e he=>by have:=(HP13.out.lt k e).1;have:=WCz.out;have:=WC.out;omega));have HQL:=hh (HO.out.keep kq5 fun x hx=>⟨clZ,31,(0,0),(by rw [hx];exact HRi.out),by decide,by decide⟩);clear hq5 kq5 zq5;go_wp2_with fail
      exact bodyPost_ret (a0l rfl _ _ R _ (clC 0 qi e rt (ad6,k6,cap6) lv e) _ _ rfl HQ5.out Tryz.underlying31 rfl (Tryz.sizeCl _ _ _ HR32.out _ _ _) _ rfl) rfl (show ClaimRet2 w CR _ _ by rw [HV.out];exact ⟨HQ6.out,_,rfl,(ad6,k6,cap6),lv,xs,rfl,HQP.out.mono (Nat.zero_le _),⟨HQL.out.1.mono (Nat.zero_le _),HQL.out.2⟩,rfl⟩)
end Go.Proofs.YtakkfabaeolbdaaGreat
