/- Law 33: acts, tables, and whether they are light. No condition. Lists of amounts: are they the same (the reference's)? No condition. -/
import Derived.Test.YtakkfabaeolbdaaGreatCnClaC
import Derived.Test.YtakkfabaeolbdaaGreatCn20
namespace Go.Proofs.YtakkfabaeolbdaaGreat
section
set_option maxHeartbeats 16000000
set_option maxRecDepth 100000
open Go.RowKit

structure RA where
 kd:Int
 who:Int
 e:Int
 too:Int
 tb:Int
 tk:Int
 bk:Int
 tv:SlV
 m:Nat
 rt:Int
 ix:Int
 ce:Int
 h:{l:List UInt8 // l.length=32}
 pv:SlV
 lv:SlV
 ct:Int
structure Act33 where
 a:RA
 ts:List Int
 c:CCl
def raE (a:RA):List Value:=[.int .i64 a.kd,.int .i64 a.who,.int .i64 a.e,.int .i64 a.too,.int .i64 a.tb,.int .i64 a.tk,.int .i64 a.bk,slV a.tv,.int .u64 (uw0 a.m),.int .u64 (uw1 a.m),.int .u64 (uw2 a.m),.int .u64 (uw3 a.m)] ++ (clC a.rt a.ix a.ce a.h.1 a.pv a.lv a.ct).toList
def act33E (x:Act33):List Value:=raE x.a
theorem e0n {a:RA} (h:a.h.1.length=32):(raE a).length=50:=by
 have h1:(clC a.rt a.ix a.ce a.h.1 a.pv a.lv a.ct).toList.length=38:=by rw [Array.length_toList];exact c0x a.rt a.ix a.ce h a.pv a.lv a.ct
 unfold raE;rw [List.length_append,h1];rfl
theorem raE_k (a:RA) (k:Nat) (h:k < 12):(raE a)[k]? = [Value.int .i64 a.kd,.int .i64 a.who,.int .i64 a.e,.int .i64 a.too,.int .i64 a.tb,.int .i64 a.tk,.int .i64 a.bk,slV a.tv,.int .u64 (uw0 a.m),.int .u64 (uw1 a.m),.int .u64 (uw2 a.m),.int .u64 (uw3 a.m)][k]?:=by
 unfold raE;rw [List.getElem?_append_left (by simpa using h)]
theorem raE_c (a:RA) (k:Nat):(raE a)[12+k]? = (clC a.rt a.ix a.ce a.h.1 a.pv a.lv a.ct)[k]?:=by
 unfold raE
 rw [List.getElem?_append_right (by simp),← Array.getElem?_toList]
 congr 1;simp
theorem n0f {a:RA} (_h:a.h.1.length=32):((raE a).drop 12).take (clC a.rt a.ix a.ce a.h.1 a.pv a.lv a.ct).toList.length=(clC a.rt a.ix a.ce a.h.1 a.pv a.lv a.ct).toList:=by
 unfold raE
 rw [List.drop_left' (by rfl),List.take_length]
theorem s0F (a:RA):(raE a).toArray.all (·.oneCell')=true:=by
 have h1:=c0n a.rt a.ix a.ce a.h.1 a.pv a.lv a.ct
 unfold raE
 rw [← Array.all_toList] at h1 ⊢;rw [List.toList_toArray,List.all_append,h1]
 simp [Value.oneCell',slV]
def raZ:RA:=⟨0,0,0,0,0,0,0,nilS,0,0,0,0,⟨zero32,rfl⟩,nilS,nilS,0⟩
theorem Tryz.zeroA33 (w:World):(zeroValue 33).run Tryz.prog w = .ok (.agg (raE raZ).toArray) w:=by kernel_rfl
theorem Tryz.sizeA33 {a:RA} (h:a.h.1.length=32):(Tryz.prog.info? 33).map (·.size)=some (raE a).toArray.size:=by rw [List.size_toArray,e0n h];kernel_rfl
theorem Tryz.sizeA33l {a:RA} (h:a.h.1.length=32):(Tryz.prog.info? 33).map (·.size)=some (raE a).length:=by rw [e0n h];kernel_rfl
structure GA (w:World) (x:Act33):Prop where
 n1:I64 x.a.kd
 n2:I64 x.a.who
 n3:I64 x.a.e
 n4:I64 x.a.too
 n5:I64 x.a.tb
 n6:I64 x.a.tk
 n7:I64 x.a.bk
 m:x.a.m < uMax
 h:x.a.h.1.length=32
 ts:Rd w intE 1 (slV x.a.tv) x.ts
 ti:∀ t∈x.ts,I64 t
 c:ClAt w (.agg (clC x.a.rt x.a.ix x.a.ce x.a.h.1 x.a.pv x.a.lv x.a.ct)) x.c
 ok:COk x.c
 ci:CI x.c
theorem GA.later {w w':World} {x:Act33} (g:GA w x) (hb:Below w.heap.size w w'):GA w' x:={ g with ts:=g.ts.later hb,c:=g.c.later hb }
theorem Rd.a33 {w:World} {ad:Option Addr} {n cap:Nat} {l:List Act33} (h:Rd w act33E 50 (.slice ad n cap) l) (hg:∀ x∈l,GA w x) (i:Nat) (hi:i < l.length) :
  ∃ b off,ad=some ⟨b,off,none⟩∧b < w.heap.size∧w.rangeAt b (off+i*50) (raE l[i].a):=by
 have hne:l≠[]:=by rintro rfl;simp at hi
 obtain ⟨ax,cx,e3,_,_,h3⟩:=h;obtain ⟨b,off,e4,hb,h5⟩:=h3 hne;refine ⟨b,off,(Value.slice.inj e3).1.trans e4,hb,fun j v hj=>?_⟩;have hj4:j < 50:=by
  have h1:=(List.getElem?_eq_some_iff.1 hj).1
  rwa [e0n (hg _ (List.getElem_mem hi)).h] at h1
 rw [h5 i hi j hj4];exact hj
def TbAt (w:World) (v:Value) (tabs:List (List LRow)):Prop:=∃ ss:List SlV,ss.length=tabs.length∧Rd w stE 1 v ss∧∀ i (h1:i < ss.length) (h2:i < tabs.length),Rd w rowE 6 (slV ss[i]) tabs[i]
theorem TbAt.later {w w':World} {v:Value} {tabs:List (List LRow)} (h:TbAt w v tabs) (hb:Below w.heap.size w w'):TbAt w' v tabs:=by
 obtain ⟨ss,h1,h2,h3⟩:=h
 exact ⟨ss,h1,h2.later hb,fun i a b=>(h3 i a b).later hb⟩
theorem TbAt.shape {w:World} {v:Value} {tabs:List (List LRow)} (h:TbAt w v tabs):∃ ad cap,v = .slice ad tabs.length cap:=by
 obtain ⟨ss,h1,h2,_⟩:=h;obtain ⟨ad,cap,e,_,_⟩:=h2.shape
 exact ⟨ad,cap,by rw [e,h1]⟩
theorem TbAt.at {w:World} {ad:Option Addr} {n cap:Nat} {tabs:List (List LRow)} (h:TbAt w (.slice ad n cap) tabs) {i:Nat} (hi:i < tabs.length) :
  ∃ (b off:Nat) (s:SlV),ad=some ⟨b,off,none⟩∧b < w.heap.size∧w.cell? ⟨b,off+i,none⟩=some (slV s)∧Rd w rowE 6 (slV s) tabs[i]∧s.2.1=tabs[i].length:=by
 obtain ⟨ss,h1,h2,h3⟩:=h;have hs:i < ss.length:=by omega
 have hr:=h3 i hs hi;have hne:ss≠[]:=by rintro rfl;simp at hs
 obtain ⟨ax,cx,e3,_,_,h4⟩:=h2;obtain ⟨b,off,e4,hb,h5⟩:=h4 hne;refine ⟨b,off,ss[i],(Value.slice.inj e3).1.trans e4,hb,?_,hr,hr.size⟩;have:=h5 i hs 0 (by decide)
 simpa [stE] using this
def Light33 (w:World) (tabs:List (List LRow)) (l:List Act33) (e:Ending) (w':World):Prop:=∃ r:Bool,e = .returned (.bool r)∧Below w.heap.size w w'∧(r=true→tabs.length≤4∧(∀ t∈tabs,t.length≤20)∧l.length≤40∧∀ x∈l,x.ts.length≤10∧x.c.p.length≤20∧x.c.lv.length≤10∧∀ y∈x.c.lv,y.p.length≤20)
theorem j0M {w:World} {vt vl:Value} {tabs:List (List LRow)} {l:List Act33} (h1:TbAt w vt tabs) (h2:Rd w act33E 50 vl l) (hg:∀ x∈l,GA w x):Calls Tryz.prog 7 #[vt,vl] w (Light33 w tabs l):=by
 obtain ⟨at1,cap1,e1⟩:=h1.shape;obtain ⟨at2,cap2,e2,_,_⟩:=h2.shape;obtain ⟨n,hn⟩:=nm (tabs.length);obtain ⟨m,hm⟩:=nm (l.length);rw [← hn] at e1;rw [← hm] at e2;subst e1 e2;have H1:=hh h1;have H2:=hh h2;have HG:=hh hg;have HN:=hh hn;have HM:=hh hm;have HB0:Hid (Below w.heap.size w w):=hh (Below.refl _ _);clear h1 h2 hg hn hm
 rcases (show 4 < n∨(¬ 4 < n∧40 < m)∨(¬ 4 < n∧¬ 40 < m) by omega) with j1 | ⟨j1,j2⟩ | ⟨j1,j2⟩
 ·go_enter Tryz.func7,Tryz.ntmps7
  go_wp2_with fail
  go_ret
  exact ⟨false,rfl,HB0.out,fun h=>by cases h⟩
 ·go_enter Tryz.func7,Tryz.ntmps7
  go_wp2_with fail
  go_ret
  exact ⟨false,rfl,HB0.out,fun h=>by cases h⟩
 ·have HNM:Hid (n≤4∧m≤40):=hh (by omega)
  go_enter Tryz.func7,Tryz.ntmps7
  go_wp2_with fail;clear j1 j2
  go_loopw [6,21] (fun _ vi wr=>∃ (i:Nat),vi = .int .i64 i∧i≤n∧Hid (∀ t∈tabs.take i,t.length≤20)∧Hid (Below w.heap.size w wr)) (fun _ vi _=>n - (intOf vi).toNat)
  case atStart=>exact ⟨0,rfl,Nat.zero_le _,hh (by simp),HB0⟩
  case round=>
   obtain ⟨i,rfl,hin,HT,HB⟩:=hrel
   by_cases hlt:i < n
   ·have hi:i < tabs.length:=by rw [← HN.out];exact hlt
    obtain ⟨b,off,⟨sa,sn,sc⟩,rfl,hb,hc,hrr,hs⟩:=H1.out.at hi;have cT:wr.cell? ⟨b,off+i,none⟩=some (.slice sa sn sc):=(HB.out.cell (p:=⟨b,off+i,none⟩) hb).trans hc;replace hs:sn=tabs[i].length:=hs;have hstep:sn≤20→∀ t∈tabs.take (i+1),t.length≤20:=fun q t ht=>by
     rw [List.take_succ_eq_append_getElem hi] at ht
     rcases List.mem_append.1 ht with h | h
     ·exact HT.out t h
     ·rw [List.mem_singleton.1 h,← hs];exact q
    have HST:=hh hstep;have HLT:=hh hlt;clear hrr hb hc hs hstep hi
    by_cases j3:20 < sn
    ·go_wp2_with fail
     go_ret
     exact ⟨false,rfl,HB.out,fun h=>by cases h⟩
    ·have HS2:Hid (sn≤20):=hh (by omega);go_wp2_with fail
     go_roundw
     case rel=>exact ⟨i+1,by go_num,HLT.out,hh (HST.out HS2.out),HB⟩
     case measure=>have:=HLT.out;simp [intOf];omega
   ·obtain rfl:i=n:=by omega
    have HTA:Hid (∀ t∈tabs,t.length≤20):=hh (by have h:=HT.out;rwa [List.take_of_length_le (by rw [← HN.out];omega)] at h);clear hlt HT hin;go_wp2_with fail
    go_loopw [31] (fun vj wq=>∃ (j:Nat),vj = .int .i64 j∧j≤m∧Hid (∀ x∈l.take j,x.ts.length≤10∧x.c.p.length≤20∧x.c.lv.length≤10∧∀ y∈x.c.lv,y.p.length≤20)∧Hid (Below w.heap.size w wq)) (fun vj _=>m - (intOf vj).toNat)
    case atStart=>exact ⟨0,rfl,Nat.zero_le _,hh (by simp),HB⟩
    case round=>
     rename_i wr1
     clear HB;obtain ⟨j,rfl,hjm,HX,HB⟩:=hrel
     by_cases hlt:j < m
     ·have hj:j < l.length:=by rw [← HM.out];exact hlt
      obtain ⟨b,off,rfl,hb,hr⟩:=Rd.a33 H2.out HG.out j hj;have HRG:Hid (wr.rangeAt b (off+j*50) (raE l[j].a)):=hh (fun k v hk=>by rw [HB.out.cell (p:=⟨b,off+j*50+k,none⟩) hb];exact hr k v hk);have hga:=HG.out _ (List.getElem_mem hj);have hstep:(l[j].ts.length≤10∧l[j].c.p.length≤20∧l[j].c.lv.length≤10∧∀ y∈l[j].c.lv,y.p.length≤20)→∀ x∈l.take (j+1),x.ts.length≤10∧x.c.p.length≤20∧x.c.lv.length≤10∧∀ y∈x.c.lv,y.p.length≤20:=fun q x hx=>by
       rw [List.take_succ_eq_append_getElem hj] at hx
       rcases List.mem_append.1 hx with h | h
       ·exact HX.out x h
       ·rw [List.mem_singleton.1 h];exact q
      obtain ⟨x,hx⟩:=nm (l[j]);rw [← hx] at HRG hga hstep;have HGX:=hh hga;have HST:=hh hstep;have HLT:=hh hlt;have HH:=hh hga.h;obtain ⟨pv,lv,hv,hp,xs,hxl,hlv,hpr⟩:=hga.c;have hv2:(clC x.a.rt x.a.ix x.a.ce x.a.h.1 x.a.pv x.a.lv x.a.ct)=clC x.c.root x.c.idx x.c.e x.c.h pv lv x.c.to:=(Value.agg.inj hv);have e35:slV x.a.pv=slV pv:=by
       have h1:=l0P x.a.rt x.a.ix x.a.ce hga.h x.a.pv x.a.lv x.a.ct;have h2:=l0P x.c.root x.c.idx x.c.e hga.ok.1 pv lv x.c.to;rw [hv2,h2] at h1;exact (Option.some.inj h1).symm
      have e36:slV x.a.lv=slV lv:=by
       have h1:=f0M x.a.rt x.a.ix x.a.ce hga.h x.a.pv x.a.lv x.a.ct;have h2:=f0M x.c.root x.c.idx x.c.e hga.ok.1 pv lv x.c.to;rw [hv2,h2] at h1;exact (Option.some.inj h1).symm
      rw [← e35] at hp;rw [← e36] at hlv;have HLV:Hid (Rd w lfE 7 (slV x.a.lv) xs):=hh hlv;have HXL:=hh hxl;have HPR:=hh hpr;obtain ⟨⟨ta,tn,tc⟩,ht⟩:∃ q,q=x.a.tv:=⟨_,rfl⟩;obtain ⟨⟨pa,pn,pc⟩,hpv⟩:∃ q,q=x.a.pv:=⟨_,rfl⟩;obtain ⟨⟨la,ln,lc⟩,hlvv⟩:∃ q,q=x.a.lv:=⟨_,rfl⟩;have htn:tn=x.ts.length:=by have h:=hga.ts;rw [← ht] at h;exact h.size
      have hpn:pn=x.c.p.length:=by rw [← hpv] at hp;exact hp.size
      rw [← hlvv] at HLV;have hln:ln=xs.length:=HLV.out.size;have hln2:ln=x.c.lv.length:=by rw [hln,← hxl,List.length_map]
      have HTN:=hh (And.intro htn (And.intro hpn (And.intro hln hln2)));have HVS:Hid (slV x.a.tv = .slice ta tn tc∧slV x.a.pv = .slice pa pn pc∧slV x.a.lv = .slice la ln lc):=hh ⟨by rw [← ht];rfl,by rw [← hpv];rfl,by rw [← hlvv];rfl⟩;clear hb hr hga hstep hx hv hv2 e35 e36 hp hxl hlv hpr ht hpv hlvv htn hpn hln hln2 hj hlt HX
      go_wp2_with (first | (refine wpList_load_mid rfl 33 _ rfl b (off+j*50) rfl (raE x.a) _ HRG.out Tryz.underlying33 rfl (Tryz.sizeA33l HH.out) ?_) | (refine sA _ Tryz.zeroA33 ?_))
      intro A w5 h5
      go_wp2_with (refine a0a (t:=33) (old:=(raE raZ).toArray) rfl 33 _ _ rfl A (raE x.a).toArray rfl rfl h5.out.cells (Tryz.sizeA33 HH.out) (by rw [List.size_toArray,List.size_toArray,e0n HH.out];rfl) (s0F _) ?_)
      intro w6 hx6 k56 z56;have hb56:Below wr.heap.size wr w6:=h5.out.below.trans (k56.below (B:=wr.heap.size) (fun x hx e=>by have:=h5.out.eq;omega) h5.out.below.size);have HB6:=bT HB hb56;have cA7:w6.cell? ⟨A,7,none⟩=some (.slice ta tn tc):=(Lib.cell_of_heap hx6 7).trans (by rw [List.getElem?_toArray,raE_k _ 7 (by decide),← HVS.out.1];rfl);have cA47:w6.cell? ⟨A,47,none⟩=some (.slice pa pn pc):=(Lib.cell_of_heap hx6 47).trans (by rw [List.getElem?_toArray,raE_c _ 35,l0P _ _ _ HH.out,HVS.out.2.1]);have cA48:w6.cell? ⟨A,48,none⟩=some (.slice la ln lc):=(Lib.cell_of_heap hx6 48).trans (by rw [List.getElem?_toArray,raE_c _ 36,f0M _ _ _ HH.out,HVS.out.2.2]);clear h5 hx6 k56 z56 hb56 HB HRG
      rcases (show 10 < tn∨(¬ 10 < tn∧20 < pn)∨(¬ 10 < tn∧¬ 20 < pn∧10 < ln)∨(¬ 10 < tn∧¬ 20 < pn∧¬ 10 < ln) by omega) with j1 | ⟨j1,j2⟩ | ⟨j1,j2,j3⟩ | ⟨j1,j2,j3⟩
      ·go_wp2_with fail
       go_ret
       exact ⟨false,rfl,HB6.out,fun h=>by cases h⟩
      ·go_wp2_with fail
       go_ret
       exact ⟨false,rfl,HB6.out,fun h=>by cases h⟩
      ·go_wp2_with fail
       go_ret
       exact ⟨false,rfl,HB6.out,fun h=>by cases h⟩
      ·have HJ:Hid (tn≤10∧pn≤20∧ln≤10):=hh (by omega);go_wp2_with fail;clear cA7 cA47 cA48 j1 j2 j3
       go_loopw [57] (fun vk wz=>∃ (k:Nat),vk = .int .i64 k∧k≤ln∧Hid (∀ y∈x.c.lv.take k,y.p.length≤20)∧Hid (Below w.heap.size w wz)) (fun vk _=>ln - (intOf vk).toNat)
       case atStart=>exact ⟨0,rfl,Nat.zero_le _,hh (by simp),HB6⟩
       case round=>
        rename_i wr2
        clear HB6;obtain ⟨k,rfl,hk,HY,HB⟩:=hrel
        by_cases hlt:k < ln
        ·have hkx:k < xs.length:=by have:=HTN.out.2.2.1;omega
         have hkc:k < x.c.lv.length:=by have:=HTN.out.2.2.2;omega
         obtain ⟨bb,off2,rfl,c0,c1,c2,c3,c4,c5,c6⟩:=(HLV.out.later HB.out).leaf k hkx;have hxi:xs[k].1=x.c.lv[k]:=by
          have h1:(xs.map (·.1))[k]'(by rw [List.length_map];exact hkx)=xs[k].1:=List.getElem_map _;rw [← h1];congr 1<;>exact HXL.out
         have hq:=HPR.out _ (List.getElem_mem hkx);rw [hxi] at hq;have hstep:x.c.lv[k].p.length≤20→∀ y∈x.c.lv.take (k+1),y.p.length≤20:=fun q y hy=>by
          rw [List.take_succ_eq_append_getElem hkc] at hy
          rcases List.mem_append.1 hy with h | h
          ·exact HY.out y h
          ·rw [List.mem_singleton.1 h];exact q
         obtain ⟨⟨sa,sn,sc⟩,hs⟩:∃ q,q=xs[k].2:=⟨_,rfl⟩;rw [← hs] at c6 hq;rw [hxi] at c0 c1 c2 c3 c4 c5;have hsn:sn=x.c.lv[k].p.length:=hq.size;obtain ⟨⟨xi,xt,xm,xp⟩,hx⟩:∃ z,z=x.c.lv[k]:=⟨_,rfl⟩;rw [← hx] at c0 c1 c2 c3 c4 c5 hsn hstep;have HSN:=hh (show sn=xp.length from hsn);have HST2:Hid (xp.length≤20→∀ y∈x.c.lv.take (k+1),y.p.length≤20):=hh hstep;have HLT2:=hh hlt;simp only [] at c0 c1 c2 c3 c4 c5;replace c6:wr.cell? ⟨bb,off2+k*7+6,none⟩=some (.slice sa sn sc):=c6;clear hkx hkc hxi hq hstep hs hsn hx hlt
         go_wp2_with (refine sA _ Tryz.zeroLf ?_)
         intro L d3 hL
         go_wp2_with (refine a0a (t:=72) (old:=lfZ) rfl 72 _ _ rfl L (lfC xi xt xm (sa,sn,sc)) rfl rfl hL.out.cells Tryz.sizeLf rfl (e0p _ _ _ _) ?_)
         intro w6 h6 k6 z6;have hb6:Below wr.heap.size wr w6:=hL.out.below.trans (k6.below (B:=wr.heap.size) (fun x hx e=>by have:=hL.out.eq;omega) hL.out.below.size);have HB7:=bT HB hb6;have cL6:w6.cell? ⟨L,6,none⟩=some (.slice sa sn sc):=Lib.cell_of_heap h6 6;clear hL h6 k6 z6 hb6 c0 c1 c2 c3 c4 c5 c6 HB
         by_cases j3:20 < sn
         ·go_wp2_with fail
          go_ret
          exact ⟨false,rfl,HB7.out,fun h=>by cases h⟩
         ·have HS2:Hid (sn≤20):=hh (by omega);go_wp2_with fail
          go_roundw
          case rel=>exact ⟨k+1,by go_num,HLT2.out,hh (HST2.out (by have:=HSN.out;have:=HS2.out;omega)),HB7⟩
          case measure=>have:=HLT2.out;simp [intOf];omega
        ·obtain rfl:k=ln:=by omega
         have HYA:Hid (∀ y∈x.c.lv,y.p.length≤20):=hh (by have h:=HY.out;rwa [List.take_of_length_le (by rw [← HTN.out.2.2.2];omega)] at h);clear hlt HY hk;go_wp2_with fail
         go_roundw
         case rel=>exact ⟨j+1,by go_num,HLT.out,hh (HST.out ⟨by have:=HTN.out.1;have:=HJ.out.1;omega,by have:=HTN.out.2.1;have:=HJ.out.2.1;omega,by have:=HTN.out.2.2.2;have:=HJ.out.2.2;omega,HYA.out⟩),HB⟩
         case measure=>have:=HLT.out;simp [intOf];omega
     ·obtain rfl:j=m:=by omega
      have HXA:Hid (∀ x∈l,x.ts.length≤10∧x.c.p.length≤20∧x.c.lv.length≤10∧∀ y∈x.c.lv,y.p.length≤20):=hh (by have h:=HX.out;rwa [List.take_of_length_le (by rw [← HM.out];omega)] at h);clear hlt HX hjm;go_wp2_with fail
      go_ret
      exact ⟨true,rfl,HB.out,fun _=>⟨by rw [← HN.out];exact HNM.out.1,HTA.out,by rw [← HM.out];exact HNM.out.2,HXA.out⟩⟩
end
section
set_option maxHeartbeats 8000000
set_option maxRecDepth 100000
open Go.RowKit

theorem Rd.urow {w:World} {ad:Option Addr} {n cap:Nat} {l:List Nat} (h:Rd w uE 4 (.slice ad n cap) l) (i:Nat) (hi:i < l.length) :
  ∃ g off,ad=some ⟨g,off,none⟩∧g < w.heap.size∧w.rangeAt g (off+i*4) (uE l[i]):=by
 have hne:l≠[]:=by rintro rfl;simp at hi
 obtain ⟨ax,cx,e3,_,_,h3⟩:=h;obtain ⟨b,off,e4,hb,h5⟩:=h3 hne;refine ⟨b,off,(Value.slice.inj e3).1.trans e4,hb,fun j v hj=>?_⟩;have hj4:j < 4:=by have:=(List.getElem?_eq_some_iff.1 hj).1;rwa [k0P] at this
 rw [h5 i hi j hj4];exact hj
theorem f0Q {a b:World} {B g o:Nat} {l:List Value} (h:Below B a b) (_hB:B≤a.heap.size) (hg:g < B) (hr:a.rangeAt g o l):b.rangeAt g o l:=fun j v hj=>by
 rw [h.cell (p:=⟨g,o+j,none⟩) hg];exact hr j v hj
theorem m0T {a b:List Nat} {i:Nat} (h:a.take i=b.take i) (ha:i < a.length) (hb:i < b.length) (h1:a[i]=b[i]):a.take (i+1)=b.take (i+1):=by
 rw [List.take_succ_eq_append_getElem ha,List.take_succ_eq_append_getElem hb,h,h1]

theorem t0h {w:World} {v1 v2:Value} {a b:List Nat} (h1:Rd w uE 4 v1 a) (h2:Rd w uE 4 v2 b) (hma:∀ n∈a,n < uMax) (hmb:∀ n∈b,n < uMax) (hla:a.length < 1099511627776) (hlb:b.length < 1099511627776) :
  Calls Tryz.prog 30 #[v1,v2] w (Ret w (.bool (decide (a=b)))):=by
 obtain ⟨ad1,cap1,e1,l1,l1'⟩:=h1.shape;obtain ⟨ad2,cap2,e2,l2,l2'⟩:=h2.shape;obtain ⟨n,hn⟩:=nm (a.length);obtain ⟨m,hm⟩:=nm (b.length);rw [← hn] at e1 l1 hla;rw [← hm] at e2 l2 hlb;subst e1 e2;obtain ⟨r,hr⟩:=nm (decide (a=b));rw [← hr];have H1:=hh h1;have H2:=hh h2;have HN:=hh hn;have HM:=hh hm;have HR:=hh hr;have HA:=hh hma;have HB:=hh hmb;clear h1 h2 hn hm hr hma hmb
 by_cases hnm:n=m
 ·subst hnm
  go_enter Tryz.func30,Tryz.ntmps30
  go_wp2_with fail
  go_loopw [5,13] (fun _ vi wr=>∃ (i:Nat),vi = .int .i64 i∧i≤n∧Hid (a.take i=b.take i)∧Hid (Below w.heap.size w wr)) (fun _ vi _=>n - (intOf vi).toNat)
  case atStart=>exact ⟨0,rfl,Nat.zero_le _,hh rfl,hh (Below.refl _ _)⟩
  case round=>
   obtain ⟨i,rfl,hin,TT,BW⟩:=hrel
   by_cases hlt:i < n
   ·have hia:i < a.length:=by rw [← HN.out];exact hlt
    have hib:i < b.length:=by rw [← HM.out];exact hlt
    obtain ⟨g1,o1,rfl,hg1,p0⟩:=Rd.urow H1.out i hia;obtain ⟨g2,o2,rfl,hg2,q0⟩:=Rd.urow H2.out i hib;have hstep:=m0T TT.out hia hib;have hneq:a=b→a[i]=b[i]:=fun e=>by subst e;rfl
    have hxm:=HA.out _ (List.getElem_mem hia);have hym:=HB.out _ (List.getElem_mem hib);obtain ⟨x,hx⟩:=nm (a[i]);obtain ⟨y,hy⟩:=nm (b[i]);rw [← hx] at p0 hstep hneq hxm;rw [← hy] at q0 hstep hneq hym;have hbd:Below w.heap.size w wr.drew:=BW.out.drew;have hS:(fun w':World=>w'.rangeAt g1 (o1+i*4) (uE x)∧w'.rangeAt g2 (o2+i*4) (uE y)) wr.drew:=⟨f0Q hbd (Nat.le_refl _) hg1 p0,f0Q hbd (Nat.le_refl _) hg2 q0⟩;have HS:=hh hS;have HST:=hh hstep;have HNE:=hh hneq;have HLT:=hh hlt;have HBD:=hh hbd;have hii:(i:Int) < (n:Int):=by omega
    have e7:=Tryz.eqUn (uw_is hxm) (uw_is hym);clear hx hy p0 q0 hS hstep hneq hg1 hg2 hia hib hbd hxm hym
    by_cases c1:x=y
    ·rw [decide_eq_true c1] at e7;have T1:=hh (HST.out c1);clear c1;go_wp2_with fail;have hS:=HS.out;refine a0f (fun w'=>w'.rangeAt g1 (o1+i*4) (uE x)∧w'.rangeAt g2 (o2+i*4) (uE y)) 9 9 (by kernel_rfl) rfl ?_;refine tA1 0 16 hS ?_;go_frame;refine tA1 1 17 hS ?_;go_frame;refine tA1 2 18 hS ?_;go_frame;refine tk 3 (some 19) rfl rfl (a0p (by rfl) 25 _ rfl (.pointer (some ⟨g1,o1+i*4,none⟩)) rfl (.agg #[.int .u64 (uw0 x),.int .u64 (uw1 x),.int .u64 (uw2 x),.int .u64 (uw3 x)]) (fun w' hS'=>run_loadAt_mid w' g1 (o1+i*4) 25 (uE x) _ hS'.1 Tryz.underlying25 rfl Tryz.sizeU)) hS ?_;go_frame;refine tA1 4 20 hS ?_;go_frame;refine tA1 5 21 hS ?_;go_frame;refine tA1 6 22 hS ?_;go_frame;refine tk 7 (some 23) rfl rfl (a0p (by rfl) 25 _ rfl (.pointer (some ⟨g2,o2+i*4,none⟩)) rfl (.agg #[.int .u64 (uw0 y),.int .u64 (uw1 y),.int .u64 (uw2 y),.int .u64 (uw3 y)]) (fun w' hS'=>run_loadAt_mid w' g2 (o2+i*4) 25 (uE y) _ hS'.2 Tryz.underlying25 rfl Tryz.sizeU)) hS ?_;go_frame;refine tA1 8 24 hS ?_;go_frame;clear hS;refine tD ?_;clear e7;go_wp2_with fail
     go_roundw
     case rel=>exact ⟨i+1,by go_num,Nat.succ_le_of_lt HLT.out,T1,HBD⟩
     case measure=>have hhq:i < n:=HLT.out;simp [intOf];omega
    ·rw [decide_eq_false c1] at e7;have hr0:r=false:=by rw [HR.out,decide_eq_false_iff_not];exact fun e=>c1 (HNE.out e)
     clear c1;subst hr0;go_wp2_with fail;have hS:=HS.out;refine a0f (fun w'=>w'.rangeAt g1 (o1+i*4) (uE x)∧w'.rangeAt g2 (o2+i*4) (uE y)) 9 9 (by kernel_rfl) rfl ?_;refine tA1 0 16 hS ?_;go_frame;refine tA1 1 17 hS ?_;go_frame;refine tA1 2 18 hS ?_;go_frame;refine tk 3 (some 19) rfl rfl (a0p (by rfl) 25 _ rfl (.pointer (some ⟨g1,o1+i*4,none⟩)) rfl (.agg #[.int .u64 (uw0 x),.int .u64 (uw1 x),.int .u64 (uw2 x),.int .u64 (uw3 x)]) (fun w' hS'=>run_loadAt_mid w' g1 (o1+i*4) 25 (uE x) _ hS'.1 Tryz.underlying25 rfl Tryz.sizeU)) hS ?_;go_frame;refine tA1 4 20 hS ?_;go_frame;refine tA1 5 21 hS ?_;go_frame;refine tA1 6 22 hS ?_;go_frame;refine tk 7 (some 23) rfl rfl (a0p (by rfl) 25 _ rfl (.pointer (some ⟨g2,o2+i*4,none⟩)) rfl (.agg #[.int .u64 (uw0 y),.int .u64 (uw1 y),.int .u64 (uw2 y),.int .u64 (uw3 y)]) (fun w' hS'=>run_loadAt_mid w' g2 (o2+i*4) 25 (uE y) _ hS'.2 Tryz.underlying25 rfl Tryz.sizeU)) hS ?_;go_frame;refine tA1 8 24 hS ?_;go_frame;clear hS;refine tD ?_;clear e7;go_wp2_with fail
     go_ret
     exact ⟨rfl,HBD.out⟩
   ·have hr1:r=true:=by
     have h8:=TT.out;rw [List.take_of_length_le (by rw [← HN.out];omega),List.take_of_length_le (by rw [← HM.out];omega)] at h8;rw [HR.out,decide_eq_true_iff];exact h8
    subst hr1;go_wp2_with fail
    go_ret
    exact ⟨rfl,BW.out⟩
 ·have hr0:r=false:=by
   rw [HR.out,decide_eq_false_iff_not];intro e
   apply hnm
   rw [HN.out,HM.out,e]
  subst hr0;have j0:¬ n=m:=hnm;clear hnm
  go_enter Tryz.func30,Tryz.ntmps30
  go_wp2_with fail
  go_ret
  exact ⟨rfl,Below.refl _ _⟩
end
end Go.Proofs.YtakkfabaeolbdaaGreat
