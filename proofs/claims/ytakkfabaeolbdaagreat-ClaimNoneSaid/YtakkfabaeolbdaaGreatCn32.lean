/- Roots: Count, Get and Usable, of the code and the document's. Roots: Disable and Post, of the code and the document's. -/
import Derived.Test.YtakkfabaeolbdaaGreatCn31
namespace Go.Proofs.YtakkfabaeolbdaaGreat
section
set_option maxHeartbeats 4000000
set_option maxRecDepth 100000
open Go.RowKit

theorem q0d {f:Txt→Option Txt} {i b:Int} (h:(rtF f i).ok=false):useE f i b=8∧useH f i b=z32:=by
 have e:useE f i b=8:=by unfold useE;rw [if_pos h]
 exact ⟨e,by unfold useH;rw [e];rfl⟩
theorem n0O {f:Txt→Option Txt} {i b:Int} (h:(rtF f i).ok=true) (h2:(rtF f i).st≠1∨b < (rtF f i).at_):useE f i b=10∧useH f i b=z32:=by
 have e:useE f i b=10:=by unfold useE;rw [if_neg (by rw [h];decide),if_pos h2]
 exact ⟨e,by unfold useH;rw [e];rfl⟩
theorem r0O {f:Txt→Option Txt} {i b:Int} {r:RV} (hr:rtF f i=r) (h:r.ok=true) (h2:r.st=1) (h3:r.at_≤b):useE f i b=0∧useH f i b=r.h:=by
 subst hr;have e:=p0O h h2 h3
 exact ⟨e,by unfold useH;rw [if_pos e]⟩

theorem s0J {w:World} {x:Option Addr} {m:Bool} {f:Txt→Option Txt} (h:Look w x m f) (hf:FitF f) :
  Calls Tryz.prog 119 #[.pointer x] w (Ret w (.int .i64 (cntF f))):=by
 have H:=hh h;have HF:=hh hf;clear h hf
 go_enter Tryz.func119,Tryz.ntmps119
 go_wp2_with fail;refine (a0X 36 [] _ _ (by simp) f0h (Rd.nil _ _ _)).mono ?_;rintro e w1 ⟨rfl,hb1⟩;have HB1:=hh hb1;clear hb1;go_wp2_with fail;refine (h0C (H.out.later HB1.out) HF.out (keyF 36 [])).mono ?_;rintro e w2 ⟨rfl,hb2⟩;have HB2:=bT HB1 hb2;clear hb2 HB1;go_wp2_with fail
 go_ret
 exact ⟨rfl,HB2.out⟩
theorem q0t {w:World} {g:Nat} {s:PS} {F:List Nat} (h:RS w g s F) (hz:s.sz < 1099511627776) (hf:Fit s) :
  Calls Tryz.prog 123 #[.pointer (some ⟨g,0,none⟩)] w (Ret w (.int .i64 (cntF (getP s.t)))):=by
 have H:=hh h;have HF:=hh hf;have HZ:=hh hz;clear h hf hz
 go_enter Tryz.func123,Tryz.ntmps123
 go_wp2_with fail;refine (a0I 36 [] _ _ (by simp) f0h (Rd.nil _ _ _)).mono ?_;rintro e w1 ⟨rfl,hb1⟩;have HB1:=hh hb1;clear hb1;go_wp2_with fail;refine (h0N (H.out.later HB1.out) HZ.out HF.out (keyF 36 [])).mono ?_;rintro e w2 ⟨rfl,hb2⟩;have HB2:=bT HB1 hb2;clear hb2 HB1;go_wp2_with fail
 go_ret
 exact ⟨rfl,HB2.out⟩

theorem n0D {w:World} {x:Option Addr} {m:Bool} {f:Txt→Option Txt} (h:Look w x m f) (hf:FitF f) {i:Int} (b:Int) (hi:-9223372036854775808≤i∧i < 9223372036854775808) :
  Calls Tryz.prog 33 #[.pointer x,.int .i64 i,.int .i64 b] w (Ret w (.tuple #[.agg (c8 (useH f i b)),.int .i64 (useE f i b)])):=by
 have H:=hh h;have HF:=hh hf;have HI:=hh hi;clear h hf hi;have hlen:=rtF_h f i
 go_enter Tryz.func33,Tryz.ntmps33
 go_wp2_with (refine sA _ Tryz.zeroHsh ?_)
 intro R w1 h1;have HR1:=hh h1.out.cells;have HB1:=hh h1.out.below;have HRW:Hid (w.heap.size≤R):=hh (Nat.le_of_eq h1.out.eq.symm);clear h1;go_wp2_with fail;refine (q0B (H.out.later HB1.out) HF.out HI.out).mono ?_;rintro e w2 ⟨rfl,hb2⟩;have HB2:=bT HB1 hb2;have HR2:=bA hb2 HR1;clear hb2 HB1 HR1;obtain ⟨h,st,a,ok,hr⟩:∃ h st a ok,rtF f i=⟨h,st,a,ok⟩:=⟨_,_,_,_,rfl⟩;have HRT:=hh hr;rw [hr] at hlen ⊢;have HH:Hid (h.length=32):=hh hlen;clear hlen hr
 go_wp2_with (refine sA _ Tryz.zeroRoot ?_)
 intro X w3 h3;have HX3:=hh h3.out.cells;have HB3:=hh (HB2.out.trans (h3.out.below.mono HB2.out.size));have HR3:=hh (a0e h3.out.below HR2.out);have HXW:Hid (w.heap.size≤X):=hh (by rw [h3.out.eq];exact HB2.out.size);have HXR:Hid (X≠R):=hh (by have:=a0b HR2.out;have:=h3.out.eq;omega);clear h3 HB2 HR2
 go_wp2_with (refine a0a (t:=154) (old:=rvC RV.none) rfl 154 _ _ rfl X (rvC ⟨h,st,a,ok⟩) rfl rfl HX3.out (Tryz.sizeRoot (r:=⟨h,st,a,ok⟩) HH.out) (by rw [b0P (r:=⟨h,st,a,ok⟩) HH.out,b0P (r:=RV.none) b0t]) (i0l _) ?_)
 intro w4 hx4 k34 z34;have HX4:=hh hx4;have HB4:=hh (HB3.out.trans (k34.below (B:=w.heap.size) (fun y hy e=>by have:=HXW.out;omega) HB3.out.size));have HR4:=kb1 k34 HR3 HXR;clear hx4 k34 z34 HX3 HB3 HR3;have q1:w4.cell? ⟨X,32,none⟩=some (.int .i64 st):=(Lib.cell_of_heap HX4.out 32).trans (t0u HH.out);have q2:w4.cell? ⟨X,33,none⟩=some (.int .i64 a):=(Lib.cell_of_heap HX4.out 33).trans (t0w HH.out)
 cases ok with
 | false=>
  have HE:Hid (useE f i b=8∧useH f i b=z32):=hh (q0d (by rw [HRT.out]))
  go_wp2_with (refine a0a (t:=27) (old:=c8 z32) rfl 27 _ _ rfl R (c8 z32) rfl (congrArg Value.agg zeroH32) HR4.out (Tryz.sizeHsh b0t) rfl (l0G _) ?_)
  intro w5 hx5 k45 z45;have HR5:=hh hx5;have HB5:=hh (HB4.out.trans (k45.below (B:=w.heap.size) (fun y hy e=>by have:=HRW.out;omega) HB4.out.size));clear hx5 k45 z45;go_wp2_with fail
  exact bodyPost_ret (a0l rfl _ _ R _ _ _ _ rfl HR5.out Tryz.underlying27 rfl (Tryz.sizeHsh b0t) (.int .i64 8) rfl) rfl ⟨by rw [HE.out.1,HE.out.2],HB5.out⟩
 | true=>
 by_cases h1:st=1
 ·have hne:(st != 1)=false:=by rw [h1];rfl
  by_cases h2:b < a
  ·have HE:Hid (useE f i b=10∧useH f i b=z32):=hh (n0O (by rw [HRT.out]) (by rw [HRT.out];exact .inr h2));clear h1
   go_wp2_with (refine a0a (t:=27) (old:=c8 z32) rfl 27 _ _ rfl R (c8 z32) rfl (congrArg Value.agg zeroH32) HR4.out (Tryz.sizeHsh b0t) rfl (l0G _) ?_)
   intro w5 hx5 k45 z45;have HR5:=hh hx5;have HB5:=hh (HB4.out.trans (k45.below (B:=w.heap.size) (fun y hy e=>by have:=HRW.out;omega) HB4.out.size));clear hx5 k45 z45;go_wp2_with fail
   exact bodyPost_ret (a0l rfl _ _ R _ _ _ _ rfl HR5.out Tryz.underlying27 rfl (Tryz.sizeHsh b0t) (.int .i64 10) rfl) rfl ⟨by rw [HE.out.1,HE.out.2],HB5.out⟩
  ·have HE:Hid (useE f i b=0∧useH f i b=h):=hh (r0O (r:=⟨h,st,a,true⟩) HRT.out rfl h1 (by show a≤b;omega));clear h1
   go_wp2_with (first | (refine wpList_load_mid rfl 27 _ rfl X 0 rfl (h.map byteV) _ (rvC_h (r:=⟨h,st,a,true⟩) HX4.out) Tryz.underlying27 rfl (Tryz.sizeHshL HH.out) ?_) | (refine a0a (t:=27) (old:=c8 z32) rfl 27 _ _ rfl R (c8 h) rfl rfl HR4.out (Tryz.sizeHsh HH.out) (by rw [a0m,a0m,HH.out];rfl) (l0G _) ?_))
   intro w5 hx5 k45 z45;have HR5:=hh hx5;have HB5:=hh (HB4.out.trans (k45.below (B:=w.heap.size) (fun y hy e=>by have:=HRW.out;omega) HB4.out.size));clear hx5 k45 z45;go_wp2_with fail
   exact bodyPost_ret (a0l rfl _ _ R _ _ _ _ rfl HR5.out Tryz.underlying27 rfl (Tryz.sizeHsh HH.out) (.int .i64 0) rfl) rfl ⟨by rw [HE.out.1,HE.out.2],HB5.out⟩
 ·have hne:(st != 1)=true:=bne_iff_ne.2 h1;have HE:Hid (useE f i b=10∧useH f i b=z32):=hh (n0O (by rw [HRT.out]) (by rw [HRT.out];exact .inl h1));clear h1
  go_wp2_with (refine a0a (t:=27) (old:=c8 z32) rfl 27 _ _ rfl R (c8 z32) rfl (congrArg Value.agg zeroH32) HR4.out (Tryz.sizeHsh b0t) rfl (l0G _) ?_)
  intro w5 hx5 k45 z45;have HR5:=hh hx5;have HB5:=hh (HB4.out.trans (k45.below (B:=w.heap.size) (fun y hy e=>by have:=HRW.out;omega) HB4.out.size));clear hx5 k45 z45;go_wp2_with fail
  exact bodyPost_ret (a0l rfl _ _ R _ _ _ _ rfl HR5.out Tryz.underlying27 rfl (Tryz.sizeHsh b0t) (.int .i64 10) rfl) rfl ⟨by rw [HE.out.1,HE.out.2],HB5.out⟩
end
section
set_option maxHeartbeats 4000000
set_option maxRecDepth 100000
open Go.RowKit


theorem k0s {f:Txt→Option Txt} {b wt:Int} (h:badR b wt=true):postE f b wt=2∧postN f b wt=0:=by
 unfold postE postN;rw [if_pos h,if_pos (.inl h)];exact ⟨rfl,rfl⟩
theorem n0i {f:Txt→Option Txt} {b wt:Int} (h:badR b wt=false) (h2:1000≤cntF f):postE f b wt=7∧postN f b wt=0:=by
 unfold postE postN;rw [if_neg (by rw [h];decide),if_pos h2,if_pos (.inr h2)];exact ⟨rfl,rfl⟩
theorem n0o {f:Txt→Option Txt} {b wt:Int} (h:badR b wt=false) (h2:cntF f < 1000):postE f b wt=0∧postN f b wt=nextI (cntF f) - 1:=by
 have hc:¬ (badR b wt=true∨1000≤cntF f):=by rw [h];rintro (h | h);cases h;omega
 unfold postE postN;rw [if_neg (by rw [h];decide),if_neg (by omega),if_neg hc];exact ⟨rfl,rfl⟩
theorem n0t {s:PS} {x:Txt} {b wt:Int} (h:badR b wt=false) (h2:cntF (getP s.t) < 1000):postS s x b wt=((s.setInt kC (nextI (cntF (getP s.t)))).setRow (keyF 37 [nextI (cntF (getP s.t)) - 1]) [1,b+wt]).set (keyF 38 [nextI (cntF (getP s.t)) - 1]) x:=by
 have hc:¬ (badR b wt=true∨1000≤cntF (getP s.t)):=by rw [h];rintro (h | h);cases h;omega
 unfold postS;rw [if_neg hc]
theorem rdH {w:World} {g:Nat} {l:Txt} {T:TypeId} {fr:Nat × Nat} (h:w.heap[g]? = some (.cells (c8 l) T fr)) (hl:l.length=32):Rd w u8E 1 (.slice (some ⟨g,0,none⟩) 32 32) l:=by
 refine ⟨_,32,by rw [hl],by omega,by unfold maxLen;decide,fun _=>⟨g,0,rfl,a0b h,fun i hi j hj=>?_⟩⟩;obtain rfl:j=0:=by omega
 rw [show (⟨g,0+i*1+0,none⟩:Addr)=⟨g,i,none⟩ by simp,Lib.cell_of_heap h i]
 simp [c8,u8E,List.getElem?_map,List.getElem?_eq_getElem hi]

theorem m0B {w:World} {g:Nat} {s:PS} {F:List Nat} (h:St w g s F) (hz:s.sz < 1099511627700) (hf:Fit s) {x:Txt} (hx:x.length=32) (b wt:Int) :
  Calls Tryz.prog 50 #[.pointer (some ⟨g,0,none⟩),.agg (c8 x),.int .i64 b,.int .i64 wt] w (StRet w g F (postS s x b wt) (.tuple #[.int .i64 (postN (getP s.t) b wt),.int .i64 (postE (getP s.t) b wt)])):=by
 have L:=hh (Liv.start h);have HZ:Hid (s.sz < 1099511627776):=hh (by omega);have HZ2:=hh hz;have HF:=hh hf;have HXL:=hh hx;clear h hz hf hx
 go_enter Tryz.func50,Tryz.ntmps50
 go_wp2_with fail;obtain ⟨w1,hw1⟩:=nm (w.alloc (.cells (c8 x) 27));obtain ⟨B,hB⟩:=nm (w.heap.size);rw [← hw1,← hB];have hx1:w1.heap[B]? = some (.cells (c8 x) 27 (0,0)):=by rw [hw1,hB];exact heap_alloc_new _ _
 have hb01:Below w.heap.size w w1:=by rw [hw1];exact a0d w _
 have L1:=hh (L.out.later hb01);have HX1:=hh hx1;have HBW:Hid (w.heap.size≤B):=hh (Nat.le_of_eq hB.symm);clear hw1 hB hx1 hb01 L;obtain ⟨F1,p1,_⟩:=L1.out;have P1:=hh p1;clear p1;refine (c0E P1.out).mono ?_;rintro e w2 ⟨rfl,rfl⟩
 cases hb1:dgB b with
 | false=>
  have HE:=hh (k0s (f:=getP s.t) (b:=b) (wt:=wt) (by unfold badR;rw [hb1];rfl));have HP:=hh (b0O (s:=s) (h:=x) (b:=b) (wt:=wt) (.inl (by unfold badR;rw [hb1];rfl)));go_wp2_with fail;refine (c0l b _).mono ?_;rintro e w3 ⟨rfl,rfl⟩;rw [hb1];go_wp2_with fail
  go_ret2
  rw [HP.out,HE.out.1,HE.out.2]
  exact L1.out.ret
 | true=>
 cases hb2:dgB wt with
 | false=>
  have HE:=hh (k0s (f:=getP s.t) (b:=b) (wt:=wt) (by unfold badR;rw [hb1,hb2];rfl));have HP:=hh (b0O (s:=s) (h:=x) (b:=b) (wt:=wt) (.inl (by unfold badR;rw [hb1,hb2];rfl)));go_wp2_with fail;refine (c0l b _).mono ?_;rintro e w3 ⟨rfl,rfl⟩;rw [hb1];go_wp2_with fail;refine (c0l wt _).mono ?_;rintro e w3 ⟨rfl,rfl⟩;rw [hb2];go_wp2_with fail
  go_ret2
  rw [HP.out,HE.out.1,HE.out.2]
  exact L1.out.ret
 | true=>
 have HBAD:Hid (badR b wt=false):=hh (by unfold badR;rw [hb1,hb2];rfl);have HG:=hh (And.intro (c0y.1 hb1) (c0y.1 hb2));go_wp2_with fail;refine (c0l b _).mono ?_;rintro e w3 ⟨rfl,rfl⟩;rw [hb1];go_wp2_with fail;refine (c0l wt _).mono ?_;rintro e w3 ⟨rfl,rfl⟩;rw [hb2];clear hb1 hb2;go_wp2_with fail;refine (s0J (Look.of_st P1.out) HF.out.f).mono ?_;rintro e w3 ⟨rfl,hb3⟩;have L3:=hh (L1.out.later hb3);have HX3:=bA hb3 HX1;have h0c:=(b0d (getP s.t) kC).1;obtain ⟨n,hn⟩:=nm (cntF (getP s.t));rw [← hn];have HN:=hh hn;have h0n:0≤n:=by rw [hn];exact h0c
 have H0N:=hh h0n;clear hb3 L1 HX1 P1 hn h0c h0n
 by_cases hfull:1000≤n
 ·have HE:=hh (n0i HBAD.out (by rw [← HN.out];exact hfull));have HP:=hh (b0O (s:=s) (h:=x) (b:=b) (wt:=wt) (.inr (by rw [← HN.out];exact hfull)));go_wp2_with fail
  go_ret2
  rw [HP.out,HE.out.1,HE.out.2]
  exact L3.out.ret
 have hlt:n < 1000:=by omega
 have HE:=hh (n0o HBAD.out (by rw [← HN.out];exact hlt));have HP:=hh (n0t (s:=s) (x:=x) (b:=b) (wt:=wt) HBAD.out (by rw [← HN.out];exact hlt));have hnx:nextI n=n+1:=if_pos (by omega);have hn1:n+1 - 1=n:=by omega
 rw [← HN.out,hnx,hn1] at HE HP;have HNX:=hh hnx;have HLT:=hh hlt;clear hnx hn1 hlt;go_wp2_with fail;clear hfull;refine (a0X 36 [] _ _ (by simp) f0h (Rd.nil _ _ _)).mono ?_;rintro e w4 ⟨rfl,hb4⟩;have L4:=hh (L3.out.later hb4);have HX4:=bA hb4 HX3;clear hb4 L3 HX3;go_wp2_with fail;refine (L4.out.call fun F h=>q0E h HZ.out HF.out (keyF 36 [])).mono ?_;rintro e w5 ⟨rfl,l5,o5⟩;rw [show getI (getP s.t) (keyF 36 [])=n from HN.out.symm,HNX.out] at l5 ⊢;have hf5:=HF.out.setInt kC (n+1);have hz5:=g0t s kC (n+1);obtain ⟨s5,hs5⟩:=nm (s.setInt kC (n+1));have l5':Liv w F w5 g s5:=by rw [hs5];exact l5
 rw [← hs5] at HP hf5 hz5;have HF5:=hh hf5;have HZ5:Hid (s5.sz < 1099511627776):=hh (by have:=HZ2.out;omega);have HZ6:Hid (s5.sz < 1099511627706):=hh (by have:=HZ2.out;omega);have L5:=hh l5';have HX5:=hh (o5.2 B _ HX4.out rfl rfl);have i1:=H0N.out;have i2:=HLT.out;clear hf5 hz5 hs5 l5 l5' o5 L4 HX4;go_wp2_with fail;have hi:Hid (-9223372036854775808≤n∧n < 9223372036854775808):=hh (by omega);have hw1:=HG.out.1;have hw2:=HG.out.2;have hb6:=a0d w5 (.cells #[.int .i64 n] 3);refine (a0X 37 [n] _ _ (by simp) (I64s.one hi.out) (lit1 w5 n)).mono ?_;rintro e w6 ⟨rfl,hb7⟩;have hb8:=hb6.trans (hb7.mono hb6.size);have L6:=hh (L5.out.later hb8);have HX6:=bA hb8 HX5;clear hb6 hb7 hb8 L5 HX5;go_wp2_with fail;have hb6:=a0d w6 (.cells #[.int .i64 1,.int .i64 (b+wt)] 3);refine ((L6.out.later hb6).call fun F h=>m0L h HZ5.out (keyF 37 [n]) (by simp) (I64s.two (by decide) ⟨by omega,by omega⟩) (lit2 w6 1 (b+wt))).mono ?_;rintro e w7 ⟨rfl,l7,o7⟩;have hz7:=g0i s5 (keyF 37 [n]) [1,b+wt];obtain ⟨s7,hs7⟩:=nm (s5.setRow (keyF 37 [n]) [1,b+wt]);rw [← hs7] at HP hz7 l7;have HZ7:Hid (s7.t.length < 1099511627776∧s7.past.length < 1099511627776):=hh (by have:=HZ6.out;unfold PS.sz at *;omega);obtain ⟨wz,hwz,hbz⟩:=dr w7
 have LZ:=hh (l7.later hbz);have HXZ:=hh (a0e hbz (o7.2 B _ (a0e hb6 HX6.out) rfl rfl));clear hz7 hs7 l7 o7 hb6 hbz L6 HX6 hw1 hw2;go_wp2_with fail;refine rg1 7 7 hwz HXZ fun hS=>?_
 clear hwz;refine tA1 0 41 hS ?_;go_frame;refine tA1 1 42 hS ?_;go_frame;refine tA1 4 45 hS ?_;go_frame;refine tk 5 (some 46) rfl rfl (.inl ⟨by rfl,fun w' hS'=>(by have hcv:(convert 122 9 (.slice (some ⟨B,0,none⟩) 32 32)).run Tryz.prog w' = .ok (.string (bs x)) w':=g0m Tryz.underlying122 Tryz.underlying5 Tryz.underlying9 (rdH hS' HXL.out);go_simp;rfl)⟩) hS ?_;go_frame;refine t1 2 fun K hK=>?_
 simp only [gA,jB,gC];go_simp;obtain ⟨wa,hwa⟩:=nm (World.alloc wz (.cells #[.int .i64 n] 3));obtain ⟨A,hA⟩:=nm ((World.heap wz).size);rw [← hwa,← hA];have hb:Below wz.heap.size wz wa:=by rw [hwa];exact a0d _ _
 have RA:Hid (Rd wa intE 1 (.slice (some ⟨A,0,none⟩) 1 1) [n]):=hh (by rw [hwa,hA];exact lit1 _ _);have LA:=hh (LZ.out.later hb);have hS1:=a0e hb hS;refine hK _ _ (fun _ _=>hS1) ?_;clear hK hS hb hwa hA LZ HXZ;have hS:=hS1;clear hS1;refine t1 3 fun K hK=>?_
 simp only [gA,jB,gC];go_simp;refine (a0X 38 [n] _ _ (by simp) (I64s.one hi.out) RA.out).mono ?_;rintro e wb ⟨rfl,hb⟩;have LB:=hh (LA.out.later hb);have hS1:=a0e hb hS;refine hK _ _ (fun _ _=>hS1) ?_;clear hK hS hb LA RA;have hS:=hS1;clear hS1;refine t1 6 fun K hK=>?_
 simp only [gA,jB,gC];go_simp;refine (LB.out.call fun F h=>l0j h HZ7.out.1 HZ7.out.2 (keyF 38 [n]) x).mono ?_;rintro e wc ⟨rfl,LE,oe⟩;have LE:=hh LE;have hS1:=oe.2 B _ hS rfl rfl;refine hK _ _ (fun _ _=>hS1) ?_;clear hK hS oe LB;have hS:=hS1;clear hS1;refine tD ?_;clear hS;go_wp2_with fail
 go_ret2
 rw [HP.out,HE.out.1,HE.out.2]
 exact LE.out.ret

theorem j0R {w:World} {g:Nat} {s:PS} {F:List Nat} (h:RS w g s F) (hz:s.sz < 1099511627700) (hf:Fit s) {x:Txt} (hx:x.length=32) (b wt:Int) :
  Calls Tryz.prog 51 #[.pointer (some ⟨g,0,none⟩),.agg (c8 x),.int .i64 b,.int .i64 wt] w (RRet w g F (postS s x b wt) (.tuple #[.int .i64 (postN (getP s.t) b wt),.int .i64 (postE (getP s.t) b wt)])):=by
 have L:=hh (RLiv.start h);have HZ:Hid (s.sz < 1099511627776):=hh (by omega);have HZ2:=hh hz;have HF:=hh hf;have HXL:=hh hx;clear h hz hf hx
 go_enter Tryz.func51,Tryz.ntmps51
 have HBAD0:∀ (hbad:badR b wt=true),Hid (postE (getP s.t) b wt=2∧postN (getP s.t) b wt=0)∧Hid (postS s x b wt=s):=fun h=>⟨hh (k0s h),hh (b0O (.inl h))⟩
 by_cases c0:b < 0
 ·have hgd:dgB b=false:=g0Y.2 (.inl c0);obtain ⟨HE,HP⟩:=HBAD0 (by unfold badR;rw [hgd];simp);clear hgd HBAD0;go_wp2_with fail;obtain ⟨w1,hw1⟩:=nm (w.alloc (.cells (c8 x) 27));obtain ⟨B,hB⟩:=nm (w.heap.size);rw [← hw1,← hB];have hx1:w1.heap[B]? = some (.cells (c8 x) 27 (0,0)):=by rw [hw1,hB];exact heap_alloc_new _ _
  have hb01:Below w.heap.size w w1:=by rw [hw1];exact a0d w _
  have L1:=hh (L.out.later hb01);have HX1:=hh hx1;have HBW:Hid (w.heap.size≤B):=hh (Nat.le_of_eq hB.symm);clear hw1 hB hx1 hb01 L;obtain ⟨F1,p1,_⟩:=L1.out;have P1:=hh p1;clear p1
  go_ret2
  rw [HP.out,HE.out.1,HE.out.2]
  exact L1.out.ret
 have c1:=c0;clear c0
 by_cases c0:1099511627776 < b
 ·have hgd:dgB b=false:=g0Y.2 (.inr c0);obtain ⟨HE,HP⟩:=HBAD0 (by unfold badR;rw [hgd];simp);clear hgd HBAD0;go_wp2_with fail;obtain ⟨w1,hw1⟩:=nm (w.alloc (.cells (c8 x) 27));obtain ⟨B,hB⟩:=nm (w.heap.size);rw [← hw1,← hB];have hx1:w1.heap[B]? = some (.cells (c8 x) 27 (0,0)):=by rw [hw1,hB];exact heap_alloc_new _ _
  have hb01:Below w.heap.size w w1:=by rw [hw1];exact a0d w _
  have L1:=hh (L.out.later hb01);have HX1:=hh hx1;have HBW:Hid (w.heap.size≤B):=hh (Nat.le_of_eq hB.symm);clear hw1 hB hx1 hb01 L;obtain ⟨F1,p1,_⟩:=L1.out;have P1:=hh p1;clear p1
  go_ret2
  rw [HP.out,HE.out.1,HE.out.2]
  exact L1.out.ret
 have c2:=c0;clear c0
 by_cases c0:wt < 0
 ·have hgd:dgB wt=false:=g0Y.2 (.inl c0);obtain ⟨HE,HP⟩:=HBAD0 (by unfold badR;rw [hgd];simp);clear hgd HBAD0;go_wp2_with fail;obtain ⟨w1,hw1⟩:=nm (w.alloc (.cells (c8 x) 27));obtain ⟨B,hB⟩:=nm (w.heap.size);rw [← hw1,← hB];have hx1:w1.heap[B]? = some (.cells (c8 x) 27 (0,0)):=by rw [hw1,hB];exact heap_alloc_new _ _
  have hb01:Below w.heap.size w w1:=by rw [hw1];exact a0d w _
  have L1:=hh (L.out.later hb01);have HX1:=hh hx1;have HBW:Hid (w.heap.size≤B):=hh (Nat.le_of_eq hB.symm);clear hw1 hB hx1 hb01 L;obtain ⟨F1,p1,_⟩:=L1.out;have P1:=hh p1;clear p1
  go_ret2
  rw [HP.out,HE.out.1,HE.out.2]
  exact L1.out.ret
 have c3:=c0;clear c0
 by_cases c0:1099511627776 < wt
 ·have hgd:dgB wt=false:=g0Y.2 (.inr c0);obtain ⟨HE,HP⟩:=HBAD0 (by unfold badR;rw [hgd];simp);clear hgd HBAD0;go_wp2_with fail;obtain ⟨w1,hw1⟩:=nm (w.alloc (.cells (c8 x) 27));obtain ⟨B,hB⟩:=nm (w.heap.size);rw [← hw1,← hB];have hx1:w1.heap[B]? = some (.cells (c8 x) 27 (0,0)):=by rw [hw1,hB];exact heap_alloc_new _ _
  have hb01:Below w.heap.size w w1:=by rw [hw1];exact a0d w _
  have L1:=hh (L.out.later hb01);have HX1:=hh hx1;have HBW:Hid (w.heap.size≤B):=hh (Nat.le_of_eq hB.symm);clear hw1 hB hx1 hb01 L;obtain ⟨F1,p1,_⟩:=L1.out;have P1:=hh p1;clear p1
  go_ret2
  rw [HP.out,HE.out.1,HE.out.2]
  exact L1.out.ret
 have c4:=c0;clear c0;clear HBAD0;have hg1:dgB b=true:=c0y.2 ⟨by omega,by omega⟩;have hg2:dgB wt=true:=c0y.2 ⟨by omega,by omega⟩;have HBAD:Hid (badR b wt=false):=hh (by unfold badR;rw [hg1,hg2];rfl);have HG:=hh (And.intro (c0y.1 hg1) (c0y.1 hg2));clear hg1 hg2;go_wp2_with fail;obtain ⟨w1,hw1⟩:=nm (w.alloc (.cells (c8 x) 27));obtain ⟨B,hB⟩:=nm (w.heap.size);rw [← hw1,← hB];have hx1:w1.heap[B]? = some (.cells (c8 x) 27 (0,0)):=by rw [hw1,hB];exact heap_alloc_new _ _
 have hb01:Below w.heap.size w w1:=by rw [hw1];exact a0d w _
 have L1:=hh (L.out.later hb01);have HX1:=hh hx1;have HBW:Hid (w.heap.size≤B):=hh (Nat.le_of_eq hB.symm);clear hw1 hB hx1 hb01 L;obtain ⟨F1,p1,_⟩:=L1.out;have P1:=hh p1;clear p1;clear c1 c2 c3 c4;go_wp2_with fail;refine (q0t P1.out HZ.out HF.out).mono ?_;rintro e w3 ⟨rfl,hb3⟩;have L3:=hh (L1.out.later hb3);have HX3:=bA hb3 HX1;have h0c:=(b0d (getP s.t) kC).1;obtain ⟨n,hn⟩:=nm (cntF (getP s.t));rw [← hn];have HN:=hh hn;have h0n:0≤n:=by rw [hn];exact h0c
 have H0N:=hh h0n;clear hb3 L1 HX1 P1 hn h0c h0n
 by_cases hfull:1000≤n
 ·have HE:=hh (n0i HBAD.out (by rw [← HN.out];exact hfull));have HP:=hh (b0O (s:=s) (h:=x) (b:=b) (wt:=wt) (.inr (by rw [← HN.out];exact hfull)));go_wp2_with fail
  go_ret2
  rw [HP.out,HE.out.1,HE.out.2]
  exact L3.out.ret
 have hlt:n < 1000:=by omega
 have HE:=hh (n0o HBAD.out (by rw [← HN.out];exact hlt));have HP:=hh (n0t (s:=s) (x:=x) (b:=b) (wt:=wt) HBAD.out (by rw [← HN.out];exact hlt));have hnx:nextI n=n+1:=if_pos (by omega);have hn1:n+1 - 1=n:=by omega
 rw [← HN.out,hnx,hn1] at HE HP;have HNX:=hh hnx;have HLT:=hh hlt;clear hnx hn1 hlt;go_wp2_with fail;clear hfull;refine (a0I 36 [] _ _ (by simp) f0h (Rd.nil _ _ _)).mono ?_;rintro e w4 ⟨rfl,hb4⟩;have L4:=hh (L3.out.later hb4);have HX4:=bA hb4 HX3;clear hb4 L3 HX3;go_wp2_with fail;refine (L4.out.call fun F h=>p0r h HZ.out HF.out (keyF 36 [])).mono ?_;rintro e w5 ⟨rfl,l5,o5⟩;rw [show getI (getP s.t) (keyF 36 [])=n from HN.out.symm,HNX.out] at l5 ⊢;have hf5:=HF.out.setInt kC (n+1);have hz5:=g0t s kC (n+1);obtain ⟨s5,hs5⟩:=nm (s.setInt kC (n+1));have l5':RLiv w F w5 g s5:=by rw [hs5];exact l5
 rw [← hs5] at HP hf5 hz5;have HF5:=hh hf5;have HZ5:Hid (s5.sz < 1099511627776):=hh (by have:=HZ2.out;omega);have HZ6:Hid (s5.sz < 1099511627706):=hh (by have:=HZ2.out;omega);have L5:=hh l5';have HX5:=hh (o5.2 B _ HX4.out rfl rfl);have i1:=H0N.out;have i2:=HLT.out;clear hf5 hz5 hs5 l5 l5' o5 L4 HX4;go_wp2_with fail;have hi:Hid (-9223372036854775808≤n∧n < 9223372036854775808):=hh (by omega);have hw1:=HG.out.1;have hw2:=HG.out.2;have hb6:=a0d w5 (.cells #[.int .i64 n] 3);refine (a0I 37 [n] _ _ (by simp) (I64s.one hi.out) (lit1 w5 n)).mono ?_;rintro e w6 ⟨rfl,hb7⟩;have hb8:=hb6.trans (hb7.mono hb6.size);have L6:=hh (L5.out.later hb8);have HX6:=bA hb8 HX5;clear hb6 hb7 hb8 L5 HX5;go_wp2_with fail;have hb6:=a0d w6 (.cells #[.int .i64 1,.int .i64 (b+wt)] 3);refine ((L6.out.later hb6).call fun F h=>j0X h HZ5.out (keyF 37 [n]) (by simp) (I64s.two (by decide) ⟨by omega,by omega⟩) (lit2 w6 1 (b+wt))).mono ?_;rintro e w7 ⟨rfl,l7,o7⟩;have hz7:=g0i s5 (keyF 37 [n]) [1,b+wt];obtain ⟨s7,hs7⟩:=nm (s5.setRow (keyF 37 [n]) [1,b+wt]);rw [← hs7] at HP hz7 l7;have HZ7:Hid (s7.t.length < 1099511627776∧s7.past.length < 1099511627776):=hh (by have:=HZ6.out;unfold PS.sz at *;omega);obtain ⟨wz,hwz,hbz⟩:=dr w7
 have LZ:=hh (l7.later hbz);have HXZ:=hh (a0e hbz (o7.2 B _ (a0e hb6 HX6.out) rfl rfl));clear hz7 hs7 l7 o7 hb6 hbz L6 HX6 hw1 hw2;go_wp2_with fail;refine rg1 7 7 hwz HXZ fun hS=>?_
 clear hwz;refine tA1 0 41 hS ?_;go_frame;refine tA1 1 42 hS ?_;go_frame;refine tA1 4 45 hS ?_;go_frame;refine tk 5 (some 46) rfl rfl (.inl ⟨by rfl,fun w' hS'=>(by have hcv:(convert 122 9 (.slice (some ⟨B,0,none⟩) 32 32)).run Tryz.prog w' = .ok (.string (bs x)) w':=g0m Tryz.underlying122 Tryz.underlying5 Tryz.underlying9 (rdH hS' HXL.out);go_simp;rfl)⟩) hS ?_;go_frame;refine t1 2 fun K hK=>?_
 simp only [gA,jB,gC];go_simp;obtain ⟨wa,hwa⟩:=nm (World.alloc wz (.cells #[.int .i64 n] 3));obtain ⟨A,hA⟩:=nm ((World.heap wz).size);rw [← hwa,← hA];have hb:Below wz.heap.size wz wa:=by rw [hwa];exact a0d _ _
 have RA:Hid (Rd wa intE 1 (.slice (some ⟨A,0,none⟩) 1 1) [n]):=hh (by rw [hwa,hA];exact lit1 _ _);have LA:=hh (LZ.out.later hb);have hS1:=a0e hb hS;refine hK _ _ (fun _ _=>hS1) ?_;clear hK hS hb hwa hA LZ HXZ;have hS:=hS1;clear hS1;refine t1 3 fun K hK=>?_
 simp only [gA,jB,gC];go_simp;refine (a0I 38 [n] _ _ (by simp) (I64s.one hi.out) RA.out).mono ?_;rintro e wb ⟨rfl,hb⟩;have LB:=hh (LA.out.later hb);have hS1:=a0e hb hS;refine hK _ _ (fun _ _=>hS1) ?_;clear hK hS hb LA RA;have hS:=hS1;clear hS1;refine t1 6 fun K hK=>?_
 simp only [gA,jB,gC];go_simp;refine (LB.out.call fun F h=>f0e h HZ7.out.1 HZ7.out.2 (keyF 38 [n]) x).mono ?_;rintro e wc ⟨rfl,LE,oe⟩;have LE:=hh LE;have hS1:=oe.2 B _ hS rfl rfl;refine hK _ _ (fun _ _=>hS1) ?_;clear hK hS oe LB;have hS:=hS1;clear hS1;refine tD ?_;clear hS;go_wp2_with fail
 go_ret2
 rw [HP.out,HE.out.1,HE.out.2]
 exact LE.out.ret
end
end Go.Proofs.YtakkfabaeolbdaaGreat
