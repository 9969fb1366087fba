/- merkle.Levels. merkle.Root. -/
import Derived.Test.YtakkfabaeolbdaaGreatCn15
import Derived.Test.YtakkfabaeolbdaaGreatCn13
namespace Go.Proofs.YtakkfabaeolbdaaGreat
section
set_option maxHeartbeats 4000000
set_option maxRecDepth 100000
open Go.RowKit

def HashBlk (w:World) (u:Value):Prop:=∀ k,u.ownBlock=some k→∃ cs fr,w.heap[k]? = some (.cells cs 27 fr)
def RowsAt (w:World) (v:Value) (rows:List (List (List UInt8))):Prop:=
 ∃ vs:List Value,Rd w slE 1 v vs∧vs.length=rows.length∧∀ (i:Nat) u r,vs[i]? = some u→rows[i]? = some r→Rd w hE 32 u r
theorem RowsAt.later {w w':World} {v:Value} {rows:List (List (List UInt8))} (h:RowsAt w v rows) (hb:Below w.heap.size w w'):RowsAt w' v rows:=by
 obtain ⟨vs,h1,h2,h3⟩:=h
 exact ⟨vs,h1.later hb,h2,fun i u r p q=>(h3 i u r p q).later hb⟩
def RowsOwn (w:World) (B:Nat) (v:Value) (rows:List (List (List UInt8))):Prop:=
 ∃ vs:List Value,Own w B 28 slE 1 v vs∧vs.length=rows.length∧∀ (i:Nat) u r,vs[i]? = some u→rows[i]? = some r→Rd w hE 32 u r∧HashBlk w u
theorem Rd.same {α:Type} {w w':World} {B:Nat} {enc:α→List Value} {sz:Nat} {v:Value} {l:List α} (h:Rd w enc sz v l) (k:CellsSame B w w') (he:∀ x,(enc x).length=sz:=by first | exact f0p | exact b0U):Rd w' enc sz v l:=by
 obtain ⟨ad,cap,rfl,h1,h2,h3⟩:=h;refine ⟨ad,cap,rfl,h1,h2,fun hne=>?_⟩;obtain ⟨b,off,rfl,hb,hc⟩:=h3 hne;refine ⟨b,off,rfl,by rw [k.size];exact hb,fun i hi j hj=>?_⟩;have h4:=hc i hi j hj;rw [List.getElem?_eq_getElem (by rw [he];exact hj)] at h4 ⊢
 exact k.cell h4
theorem Own.same {α:Type} {w w':World} {B C:Nat} {e:TypeId} {enc:α→List Value} {sz:Nat} {v:Value} {l:List α} (h:Own w B e enc sz v l) (k:CellsSame C w w'):Own w' B e enc sz v l:=by
 refine ⟨h.1,?_⟩
 rcases h.2 with h2 | ⟨g,cap,cur,rfl,hg,hhq,r⟩
 ·exact .inl h2
 ·exact .inr ⟨g,cap,cur,rfl,hg,k.cells g cur _ _ hhq,r⟩
theorem RowsOwn.rows {w:World} {B:Nat} {v:Value} {rows:List (List (List UInt8))} (h:RowsOwn w B v rows):RowsAt w v rows:=by
 obtain ⟨vs,h1,h2,h3⟩:=h
 exact ⟨vs,h1.rd f0p,h2,fun i u r p q=>(h3 i u r p q).1⟩
def LevI (w:World) (k:Int) (G:List (List UInt8)) (wr:World) (j:Nat) (rv ov:Value):Prop:=
 wr.heap[w.heap.size]? = some (.cells #[.int .i64 k] 3 (0,0))∧Rd wr hE 32 rv (rowAt k.toNat G j)∧HashBlk wr rv∧RowsOwn wr w.heap.size ov ((List.range (j+1)).map (rowAt k.toNat G))∧Below w.heap.size w wr
theorem p0X (t:Array Value) (p q:Nat) (u v:Value):Array.foldl (fun (t:Array Value) (x:Tmp × Value)=>match x with | (p,v)=>t.setIfInBounds p v) t (#[p,q].zip #[u,v])=(t.setIfInBounds p u).setIfInBounds q v:=by
 simp [Array.zip]
theorem d0o {w w':World} {row:Option Nat} (h:w.grownBy w' row):Keep (fun x=>row=some x) w w':=⟨h.os,h.tape,h.output,h.size,fun k hk hn=>h.block k hk (fun e=>hn e.symm)⟩
theorem f0Y {w:World} {g:Nat} {l:List UInt8} {T:TypeId} {fr:Nat × Nat} (h:w.heap[g]? = some (.cells (c8 l) T fr)) (h32:l.length=32):(Instr.loadAt 27 (.pointer (some ⟨g,0,none⟩))).run Tryz.prog w = .ok (.agg (c8 l)) w:=by
 simp only [Instr.loadAt,Instr.sureAddr,Sem.run_bind,Sem.run_pure,Result.andThen_ok,run_loadVar_row (P:=Tryz.prog) w g T 27 (c8 l) fr _ h Tryz.underlying27 rfl (Tryz.sizeHs l h32)]
def LevLoop (w w2:World) (k:Int) (ad:Option Addr) (n cap b:Nat) (G:List (List UInt8)) (d:Nat) (a:Act) (wr:World):Prop:=
 ∃ (j:Nat) (rv ov x7 x19 x20 x21 x22 x23 x24 x25 x26 x27 x37 x38 x39 x40 x41:Value) (ds:List Deferred),a = { tmps:=#[.int .i64 k,.slice ad n cap,.pointer (some ⟨w.heap.size,0,none⟩),undef,.slice none 0 0,rv,ov,x7,undef,undef,.int .i64 k,.slice ad n cap,.int .i64 0,.bool false,.int .i64 k,.slice ad n cap,.slice (some ⟨b,0,none⟩) G.length G.length,.slice (some ⟨b,0,none⟩) G.length G.length,.slice (some ⟨w2.heap.size,0,none⟩) 1 1,x19,x20,x21,x22,x23,x24,x25,x26,x27,undef,undef,undef,undef,undef,undef,undef,undef,undef,x37,x38,x39,x40,x41,undef],defers:=ds }∧j≤d∧LevI w k G wr j rv ov∧Marks w.heap.size ds wr
theorem r0F (k:Nat) (row:List (List UInt8)):((List.range (row.length / 2)).map fun i=>nodeF k (hAt row (2*i)) (hAt row (2*i+1)))=upF k row:=by
 unfold upF upT
 rw [List.map_map];refine List.map_congr_left fun i hi=>?_
 have hi2:=List.mem_range.1 hi;have e:∀ q,q < row.length→row.getD q []=hAt row q:=fun q hq=>by
  rw [f0t row q hq,List.getD_eq_getElem?_getD,List.getElem?_eq_getElem hq];rfl
 show nodeF k _ _=shaF (nodeT k _ _)
 rw [e _ (by omega),e _ (by omega)]
 rfl
theorem Tryz.infoHs:(Tryz.prog.info? 28).map (fun i=>(i.zero,i.size,i.bytes))=some (some (.slice none 0 0),1,24):=by kernel_rfl
theorem Texts.alloc1 {w:World} {v:Value} {ls:List (List UInt8)} (h:Texts w v ls) (o:Obj):Texts (w.alloc o) v ls:=h.later ((Below.refl _ _).alloc (Nat.le_refl _) _)
theorem g0S (k:Int) (l:List (List UInt8)) (v:Value) (w:World) (h:Texts w v l) (hk:k=1∨k=2) (h1:0 < l.length) (hn:l.length≤1024) (hf:Fair l) :
  Calls Tryz.prog 154 #[.int .i64 k,v] w fun e w'=>∃ v',e = .returned v'∧RowsOwn w' w.heap.size v' (levelsF k.toNat l)∧Below w.heap.size w w':=by
 obtain ⟨ad,cap,rfl,hc1,hc2⟩:=h.shape;have hwhy:whyF k l.length=0:=by unfold whyF;rw [if_pos hk,if_neg (by omega),if_neg (by omega)]
 have H:=hh h;have HK:=hh hk;have HF:=hh hf;have HWHY:=hh hwhy;clear h hk hf hwhy;refine (callsIn_wide (n:=9)).1 (callsIn_of_wp_marks Tryz.func154 rfl trivial ?_ rfl);simp only [Tryz.ntmps154,List.size_toArray,List.length_cons,List.length_nil,Nat.reduceAdd,Nat.reduceSub,Array.replicate_succ,Array.replicate_zero,List.push_toArray,List.append_toArray,List.nil_append,List.cons_append];refine wpIn_wide.2 ?_;go_wp2_with fail;refine (h0L _ _ _ _ _).mono ?_;rintro e w1 ⟨rfl,hw1⟩;rw [HWHY.out];subst hw1;go_wp2_with fail;refine (l0T k l _ _ (H.out.alloc1 _) hn HF.out).mono ?_;rintro e w2 ⟨b,rfl,hbge,hbh,hb2⟩;have hGK:groundK k (depthF l.length) l=groundF k.toNat (depthF l.length) l:=k0J k _ l HK.out;rw [hGK] at hbh ⊢;clear hGK;obtain ⟨d,hd⟩:=nm (depthF l.length);obtain ⟨G,hG⟩:=nm (groundF k.toNat d l);rw [← hd] at hbh ⊢;rw [← hG] at hbh ⊢;have hGl:G.length=2 ^ d:=by rw [hG,b0g]
 have hG32:All32 G:=by rw [hG];exact c0j _ _ _
 have hd10:d≤10:=by rw [hd];exact c0g _ hn
 have HD:=hh hd;have HG:=hh hG;have HGL:=hh hGl;have HG32:=hh hG32;have HBH:=hh hbh;have HB2:=hh hb2;have HBGE:=hh hbge;clear hd hG hGl hG32 hbh hb2 hbge
 -- LOOP
 have hsz1:w2.heap.size=w2.heap.size:=rfl;clear hsz1;go_wp2_with fail;refine wp_loop (LevLoop w w2 k ad l.length cap b G d) (fun a _=>lenOf (a.tmps.getD 5 undef)) ?_ ?_
 ·refine ⟨0,_,_,_,_,_,_,_,_,_,_,_,_,_,_,_,_,_,[],rfl,Nat.zero_le _,?_,List.Pairwise.nil,fun _ h=>by cases h⟩;have hbw:Below w.heap.size w w2:=((Below.refl w.heap.size w).alloc (Nat.le_refl _) _).trans (HB2.out.mono (by simp));have hk2:w2.heap[w.heap.size]? = some (.cells #[.int .i64 k] 3 (0,0)):=(HB2.out.block _ (by simp)).trans (heap_alloc_new _ _);have hal:∀ (o:Obj) x,x < w2.heap.size→(w2.alloc o).heap[x]? = w2.heap[x]?:=fun o x hx=>Below.heap_alloc _ _ _ hx
  refine ⟨(hal _ _ (a0b hk2)).trans hk2,(o0N HBH.out rfl (by rw [HGL.out];exact Nat.le_trans (Nat.pow_le_pow_right (by omega) hd10) (by decide))).alloc _,fun x hx=>?_,⟨[_],l0D (heap_alloc_new _ _) rfl hbw.size,rfl,fun i u r p q=>?_⟩,hbw.alloc hbw.size _⟩
  ·simp only [Value.ownBlock,Option.some.injEq] at hx;subst hx
   exact ⟨_,_,(hal _ _ (a0b HBH.out)).trans HBH.out⟩
  ·match i,p,q with
   | 0,p,q=>
    simp only [List.getElem?_cons_zero,Option.some.injEq] at p;subst p;have:r=G:=by simpa [rowAt] using q.symm
    subst this;refine ⟨(o0N HBH.out rfl (by rw [HGL.out];exact Nat.le_trans (Nat.pow_le_pow_right (by omega) hd10) (by decide))).alloc _,fun x hx=>?_⟩;simp only [Value.ownBlock,Option.some.injEq] at hx;subst hx
    exact ⟨_,_,(hal _ _ (a0b HBH.out)).trans HBH.out⟩
   | i+1,p,q=>simp at p
 ·rintro a wr ⟨j,rv,ov,x7,x19,x20,x21,x22,x23,x24,x25,x26,x27,x37,x38,x39,x40,x41,ds,rfl,hj,hI,hM⟩;obtain ⟨i1,i2,i3,i4,i5⟩:=hI;obtain ⟨rad,rcap,hrv,hrc1,hrc2⟩:=i2.shape;obtain ⟨N,hN⟩:=nm (2 ^ (d - j));rw [c0Q k.toNat d G HGL.out j hj,← hN] at hrv hrc1;subst hrv;have HNN:=hh hN;have HM:=hh hM;have I1:=hh i1;have I2:=hh i2;have I3:=hh i3;have I4:=hh i4;have I5:=hh i5;clear hM i1 i2 i3 i4 i5
  by_cases hjd:j < d
  ·obtain ⟨h,hhq⟩:=nm (2 ^ (d - (j+1)));have hNh:N=2*h:=by rw [hN,hhq,show d - j=(d - (j+1))+1 by omega,Nat.pow_succ];omega
   have hh1:1≤h:=by rw [hhq];exact Nat.pow_pos (by omega)
   have hh2:h≤1024:=by rw [hhq];exact Nat.le_trans (Nat.pow_le_pow_right (by omega) (show d - (j+1)≤10 by omega)) (by decide)
   have HHH:=hh hhq;have HNH:=hh hNh;clear hN hhq;have j1:(1:Int) < (N:Int):=by omega
   have j2:(N:Int) / 2=(h:Int):=by omega
   clear hNh;have HJ2:=hh j2;clear j2;go_wp2_with fail;rw [HJ2.out,i0N wr .i64 .i64 0 (h:Int) 0 h rfl rfl (Nat.zero_le _) (by omega)];obtain ⟨U,hU⟩:=nm (wr.heap.size);rw [← hU];obtain ⟨w3,hw3⟩:=nm (wr.alloc (.cells (hrow [] h) 27));have hb3:Below wr.heap.size wr w3:=by rw [hw3];exact (Below.refl _ _).alloc (Nat.le_refl _) _
   have hu3:w3.heap[U]? = some (.cells (hrow [] h) 27 (0,0)):=by rw [hw3,hU];exact heap_alloc_new _ _
   rw [← hw3];have HU:=hh hU;have HB3:=hh hb3;have HU3:=hh hu3;clear hU hw3 hb3 hu3
   go_wp2_with (refine a0t rfl _ rfl (.slice none 0 0) _ (fun w=>(by kernel_rfl)) rfl ?_)
   intro T7 w4 h4;have hT7U:U < T7:=by have:=a0b HU3.out;have:=h4.out.eq;omega
   have hu4:=(h4.out.below.block U (a0b HU3.out)).trans HU3.out;have hb4:=HB3.out.trans (h4.out.below.mono HB3.out.size);have HU4:=hh hu4;have HB4:=hh hb4;clear hu4 hb4 HU3 HB3
   go_wp2_with (refine a0h rfl 28 _ _ rfl T7 0 (.slice (some ⟨U,0,none⟩) 0 h) rfl rfl rfl rfl 28 _ h4.out.cells (by kernel_rfl) (by simp) _ rfl ?_)
   intro w5 h5 k5 z5;have hu5:=k5.at HU4.out (by omega);have hb5:=k5.onto HB4.out (Nat.le_refl _) (by have:=HU.out;omega);have HT5:=hh h5;have HU5:=hh hu5;have HB5:=hh hb5;clear h5 k5 z5 hu5 hb5 HU4 HB4 h4;go_wp2_with fail;refine (p0E _ _ _ _).mono ?_;rintro e w6 ⟨rfl,hw6⟩;have hb6:Below w5.heap.size w5 w6:=by rw [hw6];exact (Below.refl _ _).alloc (Nat.le_refl _) _
   have hn6:w6.heap[w5.heap.size]? = some (.cells #[.slice rad N rcap] 28 (0,0)):=by rw [hw6];exact heap_alloc_new _ _
   have hz6:w6.heap.size=w5.heap.size+1:=by rw [hw6,World.size_alloc]
   obtain ⟨Bn,hBn⟩:=nm (w5.heap.size);rw [← hBn] at hn6 hz6 ⊢;have hT7B:T7 < Bn:=by have:=a0b HT5.out;omega
   have ht6:=(hb6.block T7 (a0b HT5.out)).trans HT5.out;have hu6:=(hb6.block U (a0b HU5.out)).trans HU5.out;have hbl6:=HB5.out.trans (hb6.mono HB5.out.size);have HT6:=hh ht6;have HU6:=hh hu6;have HBL6:=hh hbl6;have HN6:=hh hn6;have HZ6:=hh hz6;clear ht6 hu6 hbl6 hn6 hz6 hb6 hBn hw6 HT5 HU5 HB5;obtain ⟨row,hrw⟩:=nm (rowAt k.toNat G j);have hr32:All32 row:=by rw [hrw];exact d0G _ _ HG32.out j
   have hrl:row.length=N:=by rw [hrw,c0Q k.toNat d G HGL.out j hj,HNN.out]
   have hB6:Below wr.heap.size wr w6:=HBL6.out;have hrd6:Rd w6 hE 32 (.slice rad N rcap) row:=by rw [hrw];exact I2.out.later hB6
   obtain ⟨M,hM⟩:=nm (w6.heap.size);have hBM:Bn < M:=by rw [hM];exact a0b HN6.out
   have hUw:U=wr.heap.size:=HU.out;have hst:=k0x row hr32 (by rw [hrl];have:=HNH.out;omega) 8 Bn (fun x=>x=T7∨x=U∨M≤x) w6 (.slice rad N rcap) hrd6 (fun q hq=>by
     obtain ⟨cs,fr,hc⟩:=I3.out q hq;have:=a0b hc
     omega) (by omega) (by rw [Lib.cell_of_heap HN6.out];rfl)
   have hown6:Own w6 U 27 hE 32 (.slice (some ⟨U,0,none⟩) 0 h) ([]:List (List UInt8)):=
    ⟨rfl,.inr ⟨U,h,hrow [] h,rfl,Nat.le_refl _,HU6.out,Nat.zero_le _,by unfold maxLen;omega,i0V [] h (Nat.zero_le _),rfl⟩⟩
   have HROW:=hh hrw;have HR32:=hh hr32;have HRL:=hh hrl;have HME:=hh hM;have HST:=hh hst;have HOWN6:=hh hown6;have HUW:=hh hUw;clear hrw hr32 hrl hM hst hown6 hUw hrd6 hB6;go_wp2_with fail;refine (wpIn_wide (n:=9)).1 (wpIn_rangeFunc_ownH rfl (by omega) (gf:=223) (lb:=#[.pointer (some ⟨Bn,0,none⟩)]) rfl trivial (enters_of Tryz.func223 (by kernel_rfl) rfl) HST.out (fun h1 h2=>h1.then h2 (fun x hx=>.inl hx)) ?kb (Below.refl _ _) (fun _=>rfl)
    (fun pre W=>W.heap[T7]? = some (.cells #[.slice (some ⟨U,0,none⟩) pre.length h] 28 (0,0))∧Own W U 27 hE 32 (.slice (some ⟨U,0,none⟩) pre.length h) (pre.map fun i=>nodeF k.toNat (hAt row (2*i)) (hAt row (2*i+1)))∧Keep (fun x=>x=T7∨x=U∨M≤x) w6 W)
    (fun _ _ _=>False) ?hI (fun _ _ _ _ _ hs _ _=>hs) ⟨HT6.out,HOWN6.out,Keep.refl _ _⟩
    (fun x a' W=>∃ b8 b9:Nat,M≤b8∧M≤b9∧W.heap[b8]? = some (.cells (c8 (hAt row (2*x))) 27 (0,0))∧W.heap[b9]? = some (.cells (c8 (hAt row (2*x+1))) 27 (0,0))∧a' = { tmps:=#[.int .i64 k,.slice ad l.length cap,.pointer (some ⟨w.heap.size,0,none⟩),undef,.slice none 0 0,.slice rad N rcap,ov,.pointer (some ⟨T7,0,none⟩),.pointer (some ⟨b8,0,none⟩),.pointer (some ⟨b9,0,none⟩),.int .i64 k,.slice ad l.length cap,.int .i64 0,.bool false,.int .i64 k,.slice ad l.length cap,.slice (some ⟨b,0,none⟩) G.length G.length,.slice (some ⟨b,0,none⟩) G.length G.length,.slice (some ⟨w2.heap.size,0,none⟩) 1 1,.slice rad N rcap,.int .i64 N,.bool true,.slice rad N rcap,.int .i64 N,.int .i64 h,.slice (some ⟨U,0,none⟩) 0 h,.slice rad N rcap,.func (.func 223) #[] #[.pointer (some ⟨Bn,0,none⟩)],.agg (c8 (hAt row (2*x))),.agg (c8 (hAt row (2*x+1))),undef,undef,undef,undef,undef,undef,undef,x37,x38,x39,x40,x41,undef],defers:=[] }) ?hAx ?assign ?body ?done ?stop)
   case kb=>
    intro W l' o o' hl' ho _ _
    exact ⟨rfl,rfl,rfl,by simp,fun x _ hx=>World.putObj_heap_other (fun e=>hx (.inr (.inr (by rw [e,HME.out];exact hl'))))⟩
   case hI=>
    rintro pre A C rowb ⟨q1,q2,q3⟩ hg hr;have hk:=d0o hg;have hM7:∀ r,rowb=some r→M≤r:=fun r e=>by rw [HME.out];exact (hr r e).1
    refine ⟨(hk.at q1 (fun e=>?_)),q2.keep hk (fun q hq e=>?_),q3.then hk (fun x hx=>.inl (.inr (.inr (hM7 x hx))))⟩
    ·have:=hM7 _ e;omega
    ·simp only [Value.ownBlock,Option.some.injEq] at hq;have:=hM7 _ e;omega
   case hAx=>
    rintro x a' _ A C rowb ⟨b8,b9,g8,g9,q1,q2,rfl⟩ hg hr;have hk:=d0o hg;have hne:∀ {q:Nat} {cs:Array Value} {T:TypeId} {fr:Nat × Nat},A.heap[q]? = some (.cells cs T fr)→¬ rowb=some q:=by
     intro q cs T fr hq e;obtain ⟨_,o,ho,hc⟩:=hr q e;rw [hq] at ho
     cases ho
     cases hc
    exact ⟨b8,b9,g8,g9,hk.at q1 (hne q1),hk.at q2 (hne q2),rfl⟩
   case assign=>
    intro l' pre x W K hi hK;rw [mpairE,p0X];go_frame;refine wpIn_seq (b0q (by kernel_rfl) ?_);refine sA _ Tryz.zeroHash ?_;intro b8 w7 h7;go_frame;refine a0a (t:=27) (old:=cB 32 []) rfl 27 _ _ rfl b8 (c8 (hAt row (2*x))) rfl rfl h7.out.cells (Tryz.sizeHs _ (a0w HR32.out _)) (by rw [a0m,a0w HR32.out];rfl) (by rw [← a0O 32 _ (a0w HR32.out _)];exact one_b _ _) ?_;intro w8 h8 k8 z8;have hb8:Below W.heap.size W w8:=h7.out.below.trans (k8.below (B:=W.heap.size) (fun q hq e=>by have:=h7.out.eq;omega) h7.out.below.size);have hge8:W.heap.size≤b8:=by have:=h7.out.eq;omega
    have hlt8:b8 < w8.heap.size:=a0b h8;refine b0q (by kernel_rfl) ?_;refine sA _ Tryz.zeroHash ?_;intro b9 w9 h9;go_frame;refine a0a (t:=27) (old:=cB 32 []) rfl 27 _ _ rfl b9 (c8 (hAt row (2*x+1))) rfl rfl h9.out.cells (Tryz.sizeHs _ (a0w HR32.out _)) (by rw [a0m,a0w HR32.out];rfl) (by rw [← a0O 32 _ (a0w HR32.out _)];exact one_b _ _) ?_;intro w10 h10 k10 z10;have hge9:w8.heap.size≤b9:=by have:=h9.out.eq;omega
    have hb10:Below W.heap.size W w10:=hb8.trans ((h9.out.below.mono hb8.size).trans (k10.below (B:=W.heap.size) (fun q hq e=>by have:=hb8.size;omega) (Nat.le_trans hb8.size h9.out.below.size)));have h8':w10.heap[b8]? = some (.cells (c8 (hAt row (2*x))) 27 (0,0)):=k10.at ((h9.out.below.block b8 hlt8).trans h8) (by omega);obtain ⟨q1,q2,q3⟩:=hi;have hMW:M≤W.heap.size:=by rw [HME.out];exact q3.size
    exact hK _ _ ⟨hb10.size,fun q o _ hq _=>(hb10.block q (Array.getElem?_eq_some_iff.1 hq).1).trans hq⟩ (Keep.of_below hb10) ⟨(hb10.block T7 (a0b q1)).trans q1,q2.later hb10,q3.then_below hb10⟩ ⟨b8,b9,by omega,by have:=hb8.size;omega,h8',h10,rfl⟩
   case body=>
    rintro l' pre x a' W hl' hlr ⟨q1,q2,q3⟩ ⟨b8,b9,g8,g9,c8',c9',rfl⟩ hlt;have hkb:W.heap[w.heap.size]? = some (.cells #[.int .i64 k] 3 (0,0)):=q3.at ((HBL6.out.block _ (a0b I1.out)).trans I1.out) (by have:=a0b I1.out;have:=HUW.out;omega);have hkU:w.heap.size≠U:=by have:=a0b I1.out;have:=HUW.out;omega
    have kc:∀ w',Keep (· = U) W w'→w'.cell? ⟨w.heap.size,0,none⟩=some (.int .i64 k):=fun w' hw'=>by rw [Lib.cell_of_heap (hw'.at hkb hkU)];rfl
    have tc:∀ w',Keep (· = U) W w'→w'.cell? ⟨T7,0,none⟩=some (.slice (some ⟨U,0,none⟩) pre.length h):=fun w' hw'=>by rw [Lib.cell_of_heap (hw'.at q1 (by omega))];rfl
    have l8:∀ w',Keep (· = U) W w'→(Instr.loadAt 27 (.pointer (some ⟨b8,0,none⟩))).run Tryz.prog w' = .ok (.agg (c8 (hAt row (2*x)))) w':=fun w' hw'=>f0Y (hw'.at c8' (by omega)) (a0w HR32.out _)
    have l9:∀ w',Keep (· = U) W w'→(Instr.loadAt 27 (.pointer (some ⟨b9,0,none⟩))).run Tryz.prog w' = .ok (.agg (c8 (hAt row (2*x+1)))) w':=fun w' hw'=>f0Y (hw'.at c9' (by omega)) (a0w HR32.out _)
    have KC:=hh kc;have TC:=hh tc;have L8:=hh l8;have L9:=hh l9;have Q1:=hh q1;have Q2:=hh q2;have Q3:=hh q3;clear kc tc l8 l9 q1 q2 q3 hkb c8' c9';have hS:Keep (· = U) W W.drew:=(Keep.refl _ _).drew;refine wpIn_block (e0Q (fun w'=>Keep (· = U) W w') 7 8 (by kernel_rfl) (by kernel_rfl) rfl ?_);refine tk 0 (some 30) rfl rfl (.inl ⟨by rfl,fun w' hS'=>(by have hc:=TC.out w' hS';go_simp;rfl)⟩) hS ?_;go_frame;refine tk 1 (some 31) rfl rfl (.inl ⟨by rfl,fun w' hS'=>(by have hc:=KC.out w' hS';go_simp;rfl)⟩) hS ?_;go_frame;refine tk 2 (some 32) rfl rfl (a0p (by rfl) 27 (.tmp 8) rfl (.pointer (some ⟨b8,0,none⟩)) rfl _ L8.out) hS ?_;go_frame;refine tk 3 (some 33) rfl rfl (a0p (by rfl) 27 (.tmp 9) rfl (.pointer (some ⟨b9,0,none⟩)) rfl _ L9.out) hS ?_;go_frame;refine t1 4 fun K hK=>?_
    simp only [gA,jB,gC];go_simp;refine (f0T k _ _ (a0w HR32.out _) (a0w HR32.out _) _).mono ?_;rintro e w7 ⟨rfl,hb7⟩;have hS7:Keep (· = U) W w7:=hS.then_below hb7;refine hK _ _ (fun _ _=>hS7) ?_;clear hK;have hnk:nodeK k (hAt row (2*x)) (hAt row (2*x+1))=nodeF k.toNat (hAt row (2*x)) (hAt row (2*x+1)):=by unfold nodeK;rw [if_pos HK.out]
    rw [hnk];obtain ⟨y,hy⟩:=nm (nodeF k.toNat (hAt row (2*x)) (hAt row (2*x+1)));have hy32:y.length=32:=by rw [hy];exact e0H _ _ _
    rw [← hy];have hown7:Own w7 U 27 hE 32 (.slice (some ⟨U,0,none⟩) pre.length h) (pre.map fun i=>nodeF k.toNat (hAt row (2*i)) (hAt row (2*i+1))):=Q2.out.later ((Below.refl _ _).drew.trans hb7);have HO7:=hh hown7;have HY:=hh hy;have HY32:=hh hy32;have HS7:=hh hS7;clear hown7 hy hy32 hS7 hb7 hS hnk;refine t1 5 fun K hK=>?_
    simp only [gA,jB,gC];refine j0x 28 (.tmp 34) rfl Tryz.underlying28 Tryz.infoHash rfl (by omega) (by omega) (.agg (c8 y)) (c8 y) rfl rfl (by rw [a0m,HY32.out]) ?_;refine hK _ _ (fun _ _=>HS7.out.then_below ((Below.refl _ _).alloc (Nat.le_refl _) _)) ?_;clear hK;go_frame;refine t1 6 fun K hK=>?_
    simp only [gA,jB,gC];refine s0A (.tmp 30) (.tmp 35) 28 rfl Tryz.underlying28 Tryz.infoHash b0U y (HO7.out.alloc _) (by rw [List.length_map]) (by have:=HRL.out;have:=HNH.out;omega) rfl ⟨w7.heap.size,0,none⟩ rfl (fun q u hq=>o0L w7 q u (by rw [hE_32 _ HY32.out] at hq;exact hq)) (r0C _) ?_;intro w9 hown9 hg9;have hk9:Keep (· = U) W w9:=(HS7.out.then_below ((Below.refl _ _).alloc (Nat.le_refl _) _)).then (d0o hg9) (fun q hq=>.inl (by cases hq;rfl));refine hK _ _ (fun _ _=>hk9) ?_;clear hK;have hT9:=hk9.at Q1.out (by omega);have c9:w9.cell? ⟨T7,0,none⟩=some (.slice (some ⟨U,0,none⟩) pre.length h):=by rw [Lib.cell_of_heap hT9];rfl
    have f9:w9.frozen? ⟨T7,0,none⟩=false:=Lib.frozen_of_heap hT9 0;have HO9:=hh hown9;have HK9:=hh hk9;have HT9:=hh hT9;clear hown9 hg9 hk9 hT9;go_frame;refine t1 7 fun K hK=>?_
    simp only [gA,jB,gC];go_simp;refine hK _ _ (fun h=>absurd rfl h) ?_;clear hK c9 f9;refine tD ?_;have hkt:Keep (fun q=>q=T7) w9 (w9.setCell ⟨T7,0,none⟩ (.slice (some ⟨U,0,none⟩) (pre.length+1) h)):=Keep.setCell (S:=fun q=>q=T7) (p:=⟨T7,0,none⟩) (Keep.refl _ _) (.inl rfl) _;have hkW:Keep (fun q=>q=T7∨q=U) W _:=(HK9.out.mono (fun q _ hq=>.inr hq)).then hkt (fun q hq=>.inl (.inl hq));have hM2:∀ q,M≤q→¬ (q=T7∨q=U):=by omega
    have hl1:(pre ++ [x]).length=pre.length+1:=by simp
    refine ⟨⟨hkW.size,fun q o hq ho _=>(hkW.block q (Array.getElem?_eq_some_iff.1 ho).1 (hM2 q (by rw [HME.out];exact hq))).trans ho⟩,hkW.mono (fun q _ hq=>hq.elim .inl (fun e=>.inr (.inl e))),?_,?_,Q3.out.then (S:=fun q=>q=T7∨q=U∨M≤q) (hkW.mono (fun q _ hq=>(hq.elim .inl (fun e=>.inr (.inl e)):q=T7∨q=U∨M≤q))) (fun q hq=>.inl hq)⟩
    ·rw [heap_setCell_same _ _ _ _ _ _ HT9.out,hl1];rfl
    ·rw [List.map_append,hl1];have:=HO9.out.keep hkt (fun q hq e=>by simp only [Value.ownBlock,Option.some.injEq] at hq;omega);rw [HY.out] at this
     exact this
   case done=>
    rintro D xs W hD rfl ⟨q1,q2,q3⟩ hmk;have hxl:(List.range (row.length / 2)).length=h:=by rw [List.length_range,HRL.out,HNH.out];omega
    have hup:((List.range (row.length / 2)).map fun i=>nodeF k.toNat (hAt row (2*i)) (hAt row (2*i+1)))=rowAt k.toNat G (j+1):=by rw [r0F,HROW.out];rfl
    rw [hxl] at q1 q2;rw [hup] at q2;have hMD:M≤D:=by rw [HME.out];exact hD
    have hnT:∀ q,q < wr.heap.size→¬ (q=T7∨q=U∨M≤q):=by have:=HUW.out;omega
    obtain ⟨vs,v1,v2,v3⟩:=I4.out;have v1W:Own W w.heap.size 28 slE 1 ov vs:=(v1.later HBL6.out).keep q3 (fun q hq=>hnT q (v1.lt q hq).2);have v3W:∀ (i:Nat) u r,vs[i]? = some u→((List.range (j+1)).map (rowAt k.toNat G))[i]? = some r→Rd W hE 32 u r∧HashBlk W u:=fun i u r p q=>by
     obtain ⟨r1,r2⟩:=v3 i u r p q;refine ⟨(r1.later HBL6.out).keep q3 (fun x hx _=>?_),fun x hx=>?_⟩
     ·obtain ⟨cs,fr,hc⟩:=r2 x hx
      exact hnT x (a0b hc)
     ·obtain ⟨cs,fr,hc⟩:=r2 x hx
      exact ⟨cs,fr,q3.at ((HBL6.out.block x (a0b hc)).trans hc) (hnT x (a0b hc))⟩
    have i1W:=q3.at ((HBL6.out.block _ (a0b I1.out)).trans I1.out) (hnT _ (a0b I1.out));have hbW:Below w.heap.size w W:=(I5.out.trans (HBL6.out.mono I5.out.size)).trans (q3.below (B:=w.heap.size) (fun q hq e=>hnT q (Nat.lt_of_lt_of_le hq I5.out.size) e) (Nat.le_trans I5.out.size HBL6.out.size));have hmW:Marks w.heap.size ds W:=(HM.out.keep (Keep.of_below (S:=fun _=>False) HBL6.out) (fun _ h=>h.elim)).keep q3 (fun x hx c hc=>by
     rcases hx with rfl | rfl | hx
     ·rw [HT6.out] at hc;cases hc
     ·rw [HU6.out] at hc;cases hc
     ·have:=(Array.getElem?_eq_some_iff.1 hc).1;have:=HME.out;omega)
    have hmW2:Marks w.heap.size ({ target:=.collected D,args:=#[] } :: ds) W:=hmW.cons (by have:=I5.out.size;have:=HBL6.out.size;have:=HME.out;omega) hmk (fun x hx e=>by
     obtain ⟨D',e1,_,e3⟩:=HM.out.2 x hx;rw [e1] at e
     cases e
     have:=(Array.getElem?_eq_some_iff.1 e3).1;have:=HUW.out
     omega)
    have c7:W.cell? ⟨T7,0,none⟩=some (.slice (some ⟨U,0,none⟩) h h):=by rw [Lib.cell_of_heap q1];rfl
    have hr2:=q2.rd b0U;have hh2:=q2.at (k:=U) rfl;have V1:=hh v1W;have V3:=hh v3W;have IW:=hh i1W;have BW:=hh hbW;have MW:=hh hmW2;have R2:=hh hr2;have H2:=hh hh2;have V2:=hh v2;clear v1 v3 v1W v3W i1W hbW hmW hmW2 hr2 hh2 q1 q2 q3 hxl hup v2 hmk hnT;obtain ⟨oad,on,ocap,hov⟩:=V1.out.slice;subst hov
    go_wp2_with (at_builtin;refine i0h rfl _ _ _ rfl Tryz.underlying199 Tryz.infoHs rfl (by omega) (B:=w.heap.size) (base:=w.heap.size) (w0:=w) (.slice (some ⟨U,0,none⟩) h h) V1.out rfl rfl rfl rfl (by simp [slE,Value.oneCell']) (by rw [V2.out];simp;unfold maxLen;omega) (by rw [V2.out];simp;omega) BW.out (Nat.le_refl _) BW.out.size (Nat.le_refl _) ?_)
    intro ov' w9 hown9 hb9 hg9 _;obtain ⟨oad',on',ocap',hov'⟩:=hown9.slice;subst hov';have hk9:=d0o hg9;have i19:=hk9.at IW.out (fun e=>V1.out.type IW.out (by decide) e);have hne:∀ {q:Nat} {cs:Array Value} {fr:Nat × Nat},W.heap[q]? = some (.cells cs 27 fr)→¬ Value.ownBlock (.slice oad on ocap)=some q:=fun hc e=>V1.out.type hc (by decide) e
    have kh:∀ u r,Rd W hE 32 u r→HashBlk W u→Rd w9 hE 32 u r∧HashBlk w9 u:=fun u r r1 r2=>
     ⟨r1.keep hk9 (fun q hq _=>by obtain ⟨cs,fr,hc⟩:=r2 q hq;exact hne hc),fun q hq=>by obtain ⟨cs,fr,hc⟩:=r2 q hq;exact ⟨cs,fr,hk9.at hc (hne hc)⟩⟩
    have hnew:=kh (.slice (some ⟨U,0,none⟩) h h) (rowAt k.toNat G (j+1)) R2.out (fun q hq=>by cases hq;exact H2.out);have hm9:Marks w.heap.size ({ target:=.collected D,args:=#[] } :: ds) w9:=MW.out.keep hk9 (fun q hq c hc=>by
     obtain ⟨cs,fr,h3⟩:=V1.out.at hq;rw [h3] at hc;cases hc)
    have hrows:RowsOwn w9 w.heap.size (.slice oad' on' ocap') ((List.range (j+1+1)).map (rowAt k.toNat G)):=by
     refine ⟨_,hown9,by simp [V2.out],fun i u r p q=>?_⟩;rw [List.range_succ,List.map_append] at q;have hl:=V2.out
     rcases Nat.lt_or_ge i vs.length with hi | hi
     ·rw [List.getElem?_append_left hi] at p;rw [List.getElem?_append_left (by omega)] at q
      exact kh u r (V3.out i u r p q).1 (V3.out i u r p q).2
     ·rw [List.getElem?_append_right hi] at p;rw [List.getElem?_append_right (by omega),← hl] at q
      match hj:i - vs.length,p,q with
      | 0,p,q=>simp at p q;subst p;subst q;exact hnew
      | _+1,p,q=>simp at p
    have HI:Hid (LevI w k G w9 (j+1) (.slice (some ⟨U,0,none⟩) h h) (.slice oad' on' ocap')):=hh ⟨i19,hnew.1,hnew.2,hrows,hb9⟩;have HM9:=hh hm9;clear hnew hm9 hrows kh hne i19 hown9 hb9 hk9 hg9;go_wp2_with fail;refine ⟨⟨j+1,_,_,_,_,_,_,_,_,_,_,_,_,_,_,_,_,_,_,rfl,by omega,HI.out,HM9.out⟩,?_⟩
    show h < N
    have:=HNH.out
    omega
   case stop=>
    rintro D c pre W _ _ hf _
    exact hf.elim
  ·obtain rfl:j=d:=by omega
   obtain rfl:N=1:=by rw [HNN.out,Nat.sub_self]
   clear hN;go_wp2_with fail;refine d0B (B:=w.heap.size) ds wr HM.out fun w' hw'=>?_
   obtain ⟨vs,v1,v2,v3⟩:=I4.out;refine ⟨_,results_tmp rfl _ _ _,ov,rfl,⟨vs,v1.same hw',?_,fun i u r hi hr=>?_⟩,hw'.onto I5.out⟩
   ·rw [v2,a0N,← HD.out];simp
   ·obtain ⟨r1,r2⟩:=v3 i u r hi (by
     rw [← hr]
     unfold levelsF
     rw [HG.out,HD.out])
    exact ⟨r1.same hw',fun x hx=>by obtain ⟨cs,fr,hc⟩:=r2 x hx;exact ⟨cs,fr,hw'.cells x cs _ fr hc⟩⟩
end
section
set_option maxHeartbeats 1000000
set_option maxRecDepth 100000
open Go.RowKit

theorem Rd.hash {w:World} {ad:Option Addr} {n cap:Nat} {l:List (List UInt8)} (h:Rd w hE 32 (.slice ad n cap) l) (h32:All32 l) (i:Nat) (hi:i < l.length) :
  ∃ b off,ad=some ⟨b,off,none⟩∧b < w.heap.size∧w.rangeAt b (off+i*32) ((l[i]).map byteV):=by
 obtain ⟨ad',cap',he,h1,h2,h3⟩:=h
 cases he
 obtain ⟨b,off,rfl,hb,hc⟩:=h3 (by intro e;subst e;simp at hi);refine ⟨b,off,rfl,hb,fun j v hj=>?_⟩;have hx:=h32 _ (List.getElem_mem hi);have hj32:j < 32:=by have:=(List.getElem?_eq_some_iff.1 hj).1;rwa [List.length_map,hx] at this
 rw [hc i hi j hj32,hE_32 _ hx,hj]
theorem Tryz.sizeHm (l:List UInt8) (h:l.length=32):(Tryz.prog.info? 27).map (·.size)=some (l.map byteV).length:=by rw [List.length_map,h];kernel_rfl

def rootV (k:Int) (l:List (List UInt8)):Value:=if whyF k l.length=0 then .tuple #[.agg (c8 (rootF k.toNat l)),.int .i64 0] else .tuple #[.agg (c8 zero32),.int .i64 (whyF k l.length)]
theorem l0I {k:Int} {n:Nat} (h:whyF k n=0):(k=1∨k=2)∧0 < n∧n≤1024:=by
 unfold whyF at h
 split at h
 ·split at h
  ·cases h
  ·split at h
   ·cases h
   ·exact ⟨by assumption,by omega,by omega⟩
 ·cases h

theorem c0b (k:Int) (l:List (List UInt8)) (v:Value) (w:World) (h:Texts w v l) (hf:Fair l):Calls Tryz.prog 75 #[.int .i64 k,v] w (Ret w (rootV k l)):=by
 obtain ⟨ad,cap,rfl,hc1,hc2⟩:=h.shape
 by_cases hy:whyF k l.length=0
 ·have hv:rootV k l = .tuple #[.agg (c8 (rootF k.toNat l)),.int .i64 0]:=by unfold rootV;rw [if_pos hy]
  rw [hv];obtain ⟨hk,h1,hn⟩:=l0I hy;have H:=hh h;have HY:=hh hy;have HK:=hh hk;have HF:=hh hf;clear h hy hk hf hv
  go_enter Tryz.func75,Tryz.ntmps75
  go_wp2_with (refine sA _ Tryz.zeroHash ?_)
  intro R w1 h1';go_wp2_with fail;refine (h0L _ _ _ _ _).mono ?_;rintro e w1' ⟨rfl,hw1⟩;rw [HY.out];subst hw1;go_wp2_with fail;refine (g0S k l _ _ (H.out.later h1'.out.below) HK.out h1 hn HF.out).mono ?_;rintro e w2 ⟨v',rfl,hrows,hb2⟩;obtain ⟨vs,v1,v2,v3⟩:=hrows.rows;obtain ⟨d,hd⟩:=nm (depthF l.length);have hd10:d≤10:=by rw [hd];exact c0g _ hn
  rw [a0N,← hd] at v2;obtain ⟨rad,rcap,hv',hr1,hr2⟩:=v1.shape;rw [v2] at hv';subst hv';obtain ⟨rb,roff,hrad,hrb,hcell⟩:=v1.at d (by omega);subst hrad;obtain ⟨u,hu⟩:∃ u,vs[d]? = some u:=⟨_,List.getElem?_eq_getElem (by omega)⟩;have hlast:=v3 d u _ hu (h0b k.toNat l d (by rw [hd];exact Nat.le_refl _));have htop:rowAt k.toNat (groundF k.toNat (depthF l.length) l) d = [rootF k.toNat l]:=by rw [hd];exact j0D _ _
  rw [htop] at hlast;have hud:vs[d]'(by omega)=u:=by rw [List.getElem?_eq_getElem (by omega)] at hu;exact Option.some.inj hu
  replace hcell:w2.cell? ⟨rb,roff+d,none⟩=some u:=hcell.trans (congrArg some hud);obtain ⟨lad,lcap,hlv,_,_⟩:=hlast.shape;simp only [List.length_singleton] at hlv;subst hlv;have hcell':=hcell;have hlast':=hlast;obtain ⟨lb,loff,hlad,hlb,hrange⟩:=hlast'.hash (by intro x hx;simp at hx;subst hx;exact a0P _ _) 0 (by simp);subst hlad;simp only [Nat.zero_mul,Nat.add_zero,List.getElem_cons_zero] at hrange;have hR2:w2.heap[R]? = some (.cells (cB 32 []) 27 (0,0)):=(hb2.block R (a0b h1'.out.cells)).trans h1'.out.cells;have hB2:Below w.heap.size w w2:=h1'.out.below.trans (hb2.mono h1'.out.below.size);have HC:=hh hcell';have HRG:=hh hrange;have HR2:=hh hR2;have HB2:=hh hB2;have HWR:=hh h1'.out.eq;clear hcell hcell' hlast hlast' hu hud htop hrange hR2 hB2 hb2 v1 v2 v3 hd h1';have q:=HC.out
  go_wp2_with (first
   | (refine wpList_load_mid rfl _ _ rfl lb loff rfl ((rootF k.toNat l).map byteV) _ HRG.out Tryz.underlying27 rfl (Tryz.sizeHm _ (a0P _ _)) ?_)
   | (refine a0a (t:=27) (old:=cB 32 []) rfl 27 _ _ rfl R (c8 (rootF k.toNat l)) rfl rfl HR2.out (Tryz.sizeHs _ (a0P _ _)) (by rw [a0m,a0P];rfl) (by rw [← a0O 32 _ (a0P _ _)];exact one_b _ _) ?_))
  intro w5 h5 k5 z5;have H5:=hh h5;have H6:=hh (k5.onto HB2.out (Nat.le_refl _) (by have:=HWR.out;omega));clear h5 k5 z5 q;go_wp2_with fail
  exact bodyPost_ret (a0l rfl _ _ R _ (c8 (rootF k.toNat l)) _ _ rfl H5.out Tryz.underlying27 rfl (Tryz.sizeHs _ (a0P _ _)) _ rfl) rfl ⟨rfl,H6.out⟩
 ·have hv:rootV k l = .tuple #[.agg (c8 zero32),.int .i64 (whyF k l.length)]:=by unfold rootV;rw [if_neg hy]
  rw [hv];have hne:(whyF k l.length != 0)=true:=by simpa using hy
  clear h hf hv hy
  go_enter Tryz.func75,Tryz.ntmps75
  go_wp2_with (refine sA _ Tryz.zeroHash ?_)
  intro R w1 h1';go_wp2_with fail;refine (h0L _ _ _ _ _).mono ?_;rintro e w1' ⟨rfl,hw1⟩;subst hw1
  go_wp2_with (refine a0a (t:=27) (old:=cB 32 []) rfl 27 _ _ rfl R (c8 zero32) rfl rfl h1'.out.cells (Tryz.sizeHs _ a0i) (by rw [a0m,a0i];rfl) (by rw [← a0O 32 _ a0i];exact one_b _ _) ?_)
  intro w5 h5 k5 z5;have H5:=hh h5;have H6:=hh (k5.onto h1'.out.below (Nat.le_refl _) (by have:=h1'.out.eq;omega));clear h5 k5 z5;go_wp2_with fail
  exact bodyPost_ret (a0l rfl _ _ R _ (c8 zero32) _ _ rfl H5.out Tryz.underlying27 rfl (Tryz.sizeHs _ a0i) _ rfl) rfl ⟨rfl,H6.out⟩
end
end Go.Proofs.YtakkfabaeolbdaaGreat
