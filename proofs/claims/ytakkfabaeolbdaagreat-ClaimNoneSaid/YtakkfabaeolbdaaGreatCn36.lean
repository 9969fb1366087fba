/- proof.Fold, tallageref07.Fold. proof.Check, tallageref07.Check. -/
import Derived.Test.YtakkfabaeolbdaaGreatCn35
import Derived.Deep.Cut
namespace Go.Proofs.YtakkfabaeolbdaaGreat
section
set_option maxHeartbeats 4000000
set_option maxRecDepth 100000
open Go.RowKit

def stepK (k:Int) (q:Nat) (x h:List UInt8):List UInt8:=if q % 2=0 then nodeK k x h else nodeK k h x
def foldAt (k:Int) (x:List UInt8) (i:Nat) (p:List (List UInt8)):Nat→List UInt8
 | 0=>x
 | j+1=>stepK k (i / 2 ^ j) (foldAt k x i p j) (hAt p j)
def foldK (k:Int) (x:List UInt8) (i:Int) (p:List (List UInt8)):List UInt8:=foldAt k x i.toNat p p.length
theorem i0U (k:Int) (q:Nat) (x h:List UInt8):(stepK k q x h).length=32:=by unfold stepK;split<;>exact b0W _ _ _
theorem d0R (k:Int) (x:List UInt8) (hx:x.length=32) (i:Nat) (p:List (List UInt8)):∀ j,(foldAt k x i p j).length=32
 | 0=>hx
 | _+1=>i0U _ _ _ _
def FoldL (w:World) (g R:Nat) (s:List UInt8) (wr:World):Prop:=wr.heap[g]? = some (.cells (c8 s) 27 (0,0))∧Below g w wr∧wr.heap[R]? = some (.cells (cB 32 []) 27 (0,0))

theorem n0r (k i:Int) (x:List UInt8) (p:List (List UInt8)) (v:Value) (w:World) (hx:x.length=32) (hp:Rd w hE 32 v p) (h32:All32 p) (hlen:p.length < 1099511627776) (hi64:i < 9223372036854775808) :
  Calls Tryz.prog 158 #[.int .i64 k,.agg (c8 x),.int .i64 i,v] w (Ret w (.agg (c8 (foldK k x i p)))):=by
 obtain ⟨ad,cap,rfl,hc1,hc2⟩:=hp.shape;obtain ⟨i0,hi0⟩:=nm (i.toNat);obtain ⟨m,hm⟩:=nm (p.length);have hib:i0 < 9223372036854775808:=by omega
 have hi2:(i < 0∧i0=0)∨i=(i0:Int):=by omega
 have hf:foldK k x i p=foldAt k x i0 p m:=by rw [hi0,hm];rfl
 rw [hf];rw [← hm] at hc1 hp hlen ⊢;have HP:=hh hp;have H32:=hh h32;have HM:=hh hm;have HX:=hh hx;clear hp h32 hm hi0 hf hx hi64
 rcases hi2 with ⟨hi,h0⟩ | rfl
 all_goals
  go_enter Tryz.func158,Tryz.ntmps158
  go_wp2_with (refine sA _ Tryz.zeroHash ?_)
  intro R w1 h1;obtain ⟨g,hg⟩:=nm (w.heap.size);have hg1:w1.heap[g]? = some (.cells (c8 x) 27 (0,0)):=by rw [hg];exact (h1.out.below.block _ (by simp)).trans (heap_alloc_new _ _)
  have hR:R=g+1:=by rw [hg];have:=h1.out.eq;simpa using this
  have hb1:Below g w w1:=by rw [hg];exact ((Below.refl _ _).alloc (Nat.le_refl _) _).trans (h1.out.below.mono (by simp))
  have hr1:=h1.out.cells;rw [← hg];have HG1:=hh hg1;have HR:=hh hR;have HB1:=hh hb1;have HR1:=hh hr1;have HG:=hh hg;clear hg1 hR hb1 hr1 h1 hg;go_wp2_with fail
  go_loopw [2,15] (fun a b wr=>∃ j q:Nat,j≤m∧b = .int .i64 j∧Hid (q=i0 / 2 ^ j)∧a = .int .i64 q∧FoldL w g R (foldAt k x i0 p j) wr) (fun _ b _=>m - (intOf b).toNat)
  case atStart=>exact ⟨0,i0,Nat.zero_le _,rfl,hh (by simp),(by first | rfl | (rw [(by assumption:i0=0)];rfl)),HG1.out,HB1.out,HR1.out⟩
  case round=>
   obtain ⟨j,q,hj,rfl,hq,rfl,hgw,hbw,hrw⟩:=hrel;have hs32:=d0R k x HX.out i0 p j;obtain ⟨s,hs⟩:=nm (foldAt k x i0 p j);rw [← hs] at hgw hs32;have HGW:=hh hgw;have HBW:=hh hbw;have HRW:=hh hrw;have HS:=hh hs;have HS32:=hh hs32;clear hgw hbw hrw hs hs32
   by_cases hjm:j < m
   ·obtain ⟨pb,po,had,hpb⟩:=HP.out.ptr (by rw [← HM.out];omega);subst had;have hpw:Rd wr hE 32 _ p:=HP.out.later (by rw [← HG.out];exact HBW.out);obtain ⟨_,_,e1,_,hrange⟩:=hpw.hash H32.out j (by rw [← HM.out];exact hjm)
    cases e1
    rw [← f0t _ j (by rw [← HM.out];exact hjm)] at hrange;obtain ⟨y,hy⟩:=nm (hAt p j);have hy32:y.length=32:=by rw [hy];exact a0w H32.out _
    rw [← hy] at hrange;have HRG:=hh hrange;have HY:=hh hy;have HY32:=hh hy32;clear hrange hy hy32 hpw;have hq1:q≤i0:=by rw [hq.out];exact Nat.div_le_self _ _
    have hand:bits BinOp.and IntKind.i64 (q:Int) 1=(q:Int) % 2:=r0w _
    go_wp2_with (first
     | (refine wpList_load_mid rfl _ _ rfl pb (po+j*32) rfl (y.map byteV) _ HRG.out Tryz.underlying27 rfl (Tryz.sizeHm _ HY32.out) ?_)
     | (refine sA _ Tryz.zeroHash ?_))
    intro Q w2 h2
    go_wp2_with (refine a0a (t:=27) (old:=cB 32 []) rfl 27 _ _ rfl Q (c8 y) rfl rfl h2.out.cells (Tryz.sizeHs _ HY32.out) (by rw [a0m,HY32.out];rfl) (by rw [← a0O 32 _ HY32.out];exact one_b _ _) ?_)
    intro w3 h3 k3 z3;have hb3:Below wr.heap.size wr w3:=h2.out.below.trans (k3.below (B:=wr.heap.size) (fun z hz e=>by have:=h2.out.eq;omega) h2.out.below.size);have hgz:=HBW.out.size;have HG3:=hh ((hb3.block g (a0b HGW.out)).trans HGW.out);have HR3:=hh ((hb3.block R (a0b HRW.out)).trans HRW.out);have HQ3:=hh h3;have HB3:=hh (HBW.out.trans (hb3.mono (Nat.le_of_lt (a0b HGW.out))));clear hb3 h3 k3 z3 h2;have hq2:q % 2=0∨q % 2=1:=by omega
    rcases hq2 with hq2 | hq2
    ·have hm1:((q:Int) % 2 == 0)=true:=by simp;omega
     have hst:nodeK k s y=foldAt k x i0 p (j+1):=by
      show _=stepK k (i0 / 2 ^ j) (foldAt k x i0 p j) (hAt p j)
      unfold stepK
      rw [← hq.out,if_pos hq2,← HS.out,← HY.out]
     have HST:=hh hst;clear hst
     go_wp2_with (first
      | (refine lR HG3 Tryz.underlying27 (Tryz.sizeHs _ HS32.out) ?_)
      | (refine lR HQ3 Tryz.underlying27 (Tryz.sizeHs _ HY32.out) ?_))
     refine (f0T k s y HS32.out HY32.out _).mono ?_;rintro e w4 ⟨rfl,hb4⟩;obtain ⟨z,hz⟩:=nm (nodeK k s y);have hz32:z.length=32:=by rw [hz];exact b0W _ _ _
     rw [← hz] at HST ⊢;have HZ32:=hh hz32;have HG4:=hh ((hb4.block g (a0b HG3.out)).trans HG3.out);have HR4:=hh ((hb4.block R (a0b HR3.out)).trans HR3.out);have HB4:=hh (HB3.out.trans (hb4.mono (Nat.le_of_lt (a0b HG3.out))));clear hb4 hz hz32
     go_wp2_with (refine a0a (t:=27) (old:=c8 s) rfl 27 _ _ rfl g (c8 z) rfl rfl HG4.out (Tryz.sizeHs _ HZ32.out) (by rw [a0m,a0m,HS32.out,HZ32.out]) (by rw [← a0O 32 _ HZ32.out];exact one_b _ _) ?_)
     intro w5 h5 k5 z5;rw [HST.out] at h5;have HG5:=hh h5;have HB5:=hh (k5.onto HB4.out (by rw [HG.out];exact Nat.le_refl _) (Nat.le_refl _));have HR5:=hh (k5.at HR4.out (by have:=HR.out;omega));clear h5 k5 z5;go_wp2_with fail
     go_roundw
     case rel=>exact ⟨j+1,q / 2,by omega,by go_num,hh (by rw [hq.out,c0k]),by go_num,HG5.out,HB5.out,HR5.out⟩
     case measure=>simp [intOf];omega
    ·have hm1:((q:Int) % 2 == 0)=false:=by simp;omega
     have hst:nodeK k y s=foldAt k x i0 p (j+1):=by
      show _=stepK k (i0 / 2 ^ j) (foldAt k x i0 p j) (hAt p j)
      unfold stepK
      rw [← hq.out,if_neg (by omega),← HS.out,← HY.out]
     have HST:=hh hst;clear hst
     go_wp2_with (first
      | (refine lR HG3 Tryz.underlying27 (Tryz.sizeHs _ HS32.out) ?_)
      | (refine lR HQ3 Tryz.underlying27 (Tryz.sizeHs _ HY32.out) ?_))
     refine (f0T k y s HY32.out HS32.out _).mono ?_;rintro e w4 ⟨rfl,hb4⟩;obtain ⟨z,hz⟩:=nm (nodeK k y s);have hz32:z.length=32:=by rw [hz];exact b0W _ _ _
     rw [← hz] at HST ⊢;have HZ32:=hh hz32;have HG4:=hh ((hb4.block g (a0b HG3.out)).trans HG3.out);have HR4:=hh ((hb4.block R (a0b HR3.out)).trans HR3.out);have HB4:=hh (HB3.out.trans (hb4.mono (Nat.le_of_lt (a0b HG3.out))));clear hb4 hz hz32
     go_wp2_with (refine a0a (t:=27) (old:=c8 s) rfl 27 _ _ rfl g (c8 z) rfl rfl HG4.out (Tryz.sizeHs _ HZ32.out) (by rw [a0m,a0m,HS32.out,HZ32.out]) (by rw [← a0O 32 _ HZ32.out];exact one_b _ _) ?_)
     intro w5 h5 k5 z5;rw [HST.out] at h5;have HG5:=hh h5;have HB5:=hh (k5.onto HB4.out (by rw [HG.out];exact Nat.le_refl _) (Nat.le_refl _));have HR5:=hh (k5.at HR4.out (by have:=HR.out;omega));clear h5 k5 z5;go_wp2_with fail
     go_roundw
     case rel=>exact ⟨j+1,q / 2,by omega,by go_num,hh (by rw [hq.out,c0k]),by go_num,HG5.out,HB5.out,HR5.out⟩
     case measure=>simp [intOf];omega
   ·obtain rfl:j=m:=by omega
    rw [← HS.out]
    go_wp2_with (first
     | (refine lR HGW Tryz.underlying27 (Tryz.sizeHs _ HS32.out) ?_)
     | (refine a0a (t:=27) (old:=cB 32 []) rfl 27 _ _ rfl R (c8 s) rfl rfl HRW.out (Tryz.sizeHs _ HS32.out) (by rw [a0m,HS32.out];rfl) (by rw [← a0O 32 _ HS32.out];exact one_b _ _) ?_))
    intro w5 h5 k5 z5;have H5:=hh h5;have hbe:=k5.onto HBW.out (by rw [HG.out];exact Nat.le_refl _) (by have:=HR.out;omega);rw [HG.out] at hbe;have HB5:=hh hbe;clear h5 k5 z5 hbe;go_wp2_with fail
    exact bodyPost_ret (results_cell_row rfl _ _ R _ (c8 s) _ _ rfl H5.out Tryz.underlying27 rfl (Tryz.sizeHs _ HS32.out)) rfl ⟨by rw [HS.out],HB5.out⟩
end
section
set_option maxHeartbeats 4000000
set_option maxRecDepth 100000
open Go.RowKit

def checkF (k:Int) (root leaf:List UInt8) (i:Int) (p:List (List UInt8)):Int:=
 if k=1∨k=2 then (if 10 < p.length then 19 else if i < 0∨((2 ^ p.length:Nat):Int)≤i then 5 else if foldK k (leafK k leaf) i p=root then 0 else 15) else 2
theorem j0K (k:Int) (x:List UInt8) (hx:x.length=32) (i:Int) (p:List (List UInt8)):(foldK k x i p).length=32:=d0R k x hx _ p _

theorem h0k (k i:Int) (root leaf:List UInt8) (p:List (List UInt8)) (vb vp:Value) (w:World) (hr:root.length=32) (hb:Rd w u8E 1 vb leaf) (hl:leaf.length < 288230376151711744) (hp:Rd w hE 32 vp p) (h32:All32 p) (hi64:i < 9223372036854775808) :
  Calls Tryz.prog 82 #[.int .i64 k,.agg (c8 root),vb,.int .i64 i,vp] w (Ret w (.int .i64 (checkF k root leaf i p))):=by
 obtain ⟨ad,cap,rfl,hc1,hc2⟩:=hp.shape;obtain ⟨bad,bcap,rfl,hd1,hd2⟩:=hb.shape;obtain ⟨m,hm⟩:=nm (p.length);obtain ⟨n,hn⟩:=nm (leaf.length);rw [← hm] at hc1 hp ⊢;rw [← hn] at hd1 hb hl ⊢;have HP:=hh hp;have HBR:=hh hb;have H32:=hh h32;have HM:=hh hm;have HN:=hh hn;have HR:=hh hr;have HI64:=hh hi64;clear hp hb h32 hn hr hi64;have hb1:Below w.heap.size w (w.alloc (.cells (c8 root) 27)):=(Below.refl _ _).alloc (Nat.le_refl _) _;have HB1:=hh hb1;clear hb1;obtain ⟨z,hz⟩:=nm (foldK k (leafK k leaf) i p);have hz32:z.length=32:=by rw [hz];exact j0K _ _ (a0o _ _) _ _
 have HZ:=hh hz;have HZ32:=hh hz32;clear hz hz32;obtain ⟨res,hres⟩:=nm (checkF k root leaf i p);have HRES:=hh hres;clear hres
 rcases e0r k with hk | hk | ⟨h1,h2⟩
 case inr.inr=>
  have he:checkF k root leaf i p=2:=by unfold checkF;rw [if_neg (by omega)]
  rw [he];have b1:(k != 1)=true:=by simpa using h1
  have b2:(k != 2)=true:=by simpa using h2
  clear he hm
  go_enter Tryz.func82,Tryz.ntmps82
  go_wp2_with fail
  go_ret
  exact ⟨rfl,HB1.out⟩
 all_goals
  subst hk
  rcases Nat.lt_or_ge 10 m with h10 | h10
  ·have he:∀ k,(k=1∨k=2)→checkF k root leaf i p=19:=fun k hk=>by unfold checkF;rw [if_pos hk,if_pos (by rw [← hm];exact h10)]
   rw [he _ (by decide)];clear he hm;have j1:(m:Int) > 10:=by omega
   go_enter Tryz.func82,Tryz.ntmps82
   go_wp2_with fail
   go_ret
   exact ⟨rfl,HB1.out⟩
  ·have j1:¬ (m:Int) > 10:=by omega
   obtain ⟨N,hN⟩:=nm (2 ^ m);have hN2:N≤1024:=by rw [hN];exact Nat.le_trans (Nat.pow_le_pow_right (by omega) h10) (by decide)
   have hN3:(2:Int) ^ m=(N:Int):=by rw [hN];simp
   have hw1:IntKind.i64.wrap (N:Int)=(N:Int):=IntWalk.i64_in _ (by omega)
   by_cases hi:i < 0∨(N:Int)≤i
   ·have he:∀ k,(k=1∨k=2)→checkF k root leaf i p=5:=fun k hk=>by unfold checkF;rw [if_pos hk,if_neg (by rw [← hm];omega),if_pos (by rw [← hm,← hN];exact hi)]
    rw [he _ (by decide)];clear he hm hN;have hi2:i < 0∨(¬ i < 0∧(N:Int)≤i):=by omega
    clear hi
    rcases hi2 with hi | ⟨hi,hi2⟩
    all_goals
     go_enter Tryz.func82,Tryz.ntmps82
     go_wp2_with fail
     go_ret
     exact ⟨rfl,HB1.out⟩
   ·obtain ⟨i0,rfl⟩:∃ i0:Nat,i=(i0:Int):=⟨i.toNat,by omega⟩;have hi1:((i0:Int) < 0)=False:=eq_false (by omega);have hi2:¬ N≤i0:=by omega
    have hi3:¬ (N:Int)≤(i0:Int):=by omega
    have he:∀ k,(k=1∨k=2)→checkF k root leaf i0 p=if foldK k (leafK k leaf) i0 p=root then 0 else 15:=fun k hk=>by unfold checkF;rw [if_pos hk,if_neg (by rw [← hm];omega),if_neg (by rw [← hm,← hN];exact hi)]
    rw [← HRES.out];have HE:Hid (res=if z=root then 0 else 15):=hh (by rw [HRES.out,HZ.out];exact he _ (by decide));clear he hm hN hi
    go_enter Tryz.func82,Tryz.ntmps82
    go_upto_region 7 with fail
    have hg1:(w.alloc (.cells (c8 root) 27)).heap[w.heap.size]? = some (.cells (c8 root) 27 (0,0)):=heap_alloc_new _ _;obtain ⟨w1,hw1'⟩:∃ w1,w1=w.alloc (.cells (c8 root) 27):=⟨_,rfl⟩;rw [← hw1'] at hg1 HB1 ⊢;clear hw1';have L:Hid (∀ w',Below w1.heap.size w1 w'→(Instr.loadAt 27 (.pointer (some ⟨w.heap.size,0,none⟩))).run Tryz.prog w' = .ok (.agg (c8 root)) w'):=hh fun w' e=>by exact f0Y ((e.block _ (a0b hg1)).trans hg1) HR.out
    clear hg1;have hS:Below w1.heap.size w1 w1.drew:=(Below.refl _ _).drew;refine a0f (fun w'=>Below w1.heap.size w1 w') 9 10 (by kernel_rfl) rfl ?_;refine tA1 0 33 hS ?_;go_frame;refine tA1 1 34 hS ?_;go_frame;refine tA1 2 35 hS ?_;go_frame;refine tA1 4 37 hS ?_;go_frame;refine tA1 5 38 hS ?_;go_frame;refine tk 7 (some 40) rfl rfl (a0p (by rfl) 27 (.tmp 6) rfl (.pointer (some ⟨w.heap.size,0,none⟩)) rfl _ L.out) hS ?_;go_frame;refine t1 3 fun K hK=>?_
    simp only [gA,jB,gC];go_simp;refine (g0z _ leaf _ _ ((HBR.out.later HB1.out).later (Below.refl _ _).drew) (by rw [← HN.out];exact hl)).mono ?_;rintro e w2 ⟨rfl,hb2⟩;have hS2:Below w1.heap.size w1 w2:=hS.trans (hb2.mono hS.size);refine hK _ _ (fun _ _=>hS2) ?_;clear hK hb2 hS;refine t1 6 fun K hK=>?_
    simp only [gA,jB,gC];go_simp;refine (n0r _ i0 _ p _ _ (a0o _ _) ((HP.out.later HB1.out).later hS2) H32.out (by rw [← HM.out];omega) HI64.out).mono ?_;rintro e w3 ⟨rfl,hb3⟩;have hS3:Below w1.heap.size w1 w3:=hS2.trans (hb3.mono hS2.size);refine hK _ _ (fun _ _=>hS3) ?_;clear hK hb3 hS2;rw [← HZ.out];have heq:=Tryz.eqH z root HZ32.out HR.out
    by_cases hzr:z=root
    ·rw [decide_eq_true hzr] at heq;have HZR:=hh hzr;clear hzr;refine a0g 8 (some 41) rfl rfl (by kernel_rfl) (by kernel_rfl) (by kernel_rfl) (by kernel_rfl) (by kernel_rfl) (by kernel_rfl) (fun _ _ _ h=>h) (.inl ⟨by rfl,fun w' _=>(by go_simp;rfl)⟩) hS3 ?_;go_frame;refine t1 9 fun K hK=>?_
     simp only [gA,jB,gC];go_simp;refine hK _ _ (fun h=>absurd rfl h) ?_;clear hK heq;refine tD ?_;have HS3:=hh hS3;clear hS3;go_wp2_with fail
     go_ret
     exact ⟨by rw [HE.out,if_pos HZR.out];rfl,HB1.out.trans (HS3.out.mono HB1.out.size)⟩
    ·rw [decide_eq_false hzr] at heq;have HZR:=hh hzr;clear hzr;refine a0g 8 (some 41) rfl rfl (by kernel_rfl) (by kernel_rfl) (by kernel_rfl) (by kernel_rfl) (by kernel_rfl) (by kernel_rfl) (fun _ _ _ h=>h) (.inl ⟨by rfl,fun w' _=>(by go_simp;rfl)⟩) hS3 ?_;go_frame;refine t1 9 fun K hK=>?_
     simp only [gA,jB,gC];go_simp;refine hK _ _ (fun h=>absurd rfl h) ?_;clear hK heq;refine tD ?_;have HS3:=hh hS3;clear hS3;go_wp2_with fail
     go_ret
     exact ⟨by rw [HE.out,if_neg HZR.out];rfl,HB1.out.trans (HS3.out.mono HB1.out.size)⟩
end
end Go.Proofs.YtakkfabaeolbdaaGreat
