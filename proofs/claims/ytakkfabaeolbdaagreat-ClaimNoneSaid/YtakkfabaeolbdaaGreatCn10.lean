/- sha.State.Sum. sha.Hex and its reference. Plain facts on digits of sixteen, and '==' of hashes. No condition. -/
import Derived.Test.YtakkfabaeolbdaaGreatCn9
import Derived.Test.YtakkfabaeolbdaaGreatCn2
import Derived.Deep.RegionHeld3
namespace Go.Proofs.YtakkfabaeolbdaaGreat
section
set_option maxHeartbeats 2000000
set_option maxRecDepth 100000
open Go.RowKit

def cB (n:Nat) (l:List UInt8):Array Value:=(l.map byteV ++ List.replicate (n - l.length) (Value.int .u8 0)).toArray
theorem f0r (n:Nat) (l:List UInt8) (h:l.length≤n):(cB n l).size=n:=by simp [cB];omega
theorem t0i (n:Nat) (l:List UInt8) (x:UInt8) (h:l.length < n):(cB n l).setIfInBounds l.length (.int .u8 x.toNat)=cB n (l ++ [x]):=by
 apply Array.ext'
 simp only [cB,Array.toList_setIfInBounds];rw [List.set_append_right _ _ (by simp),show n - l.length=(n - (l ++ [x]).length)+1 by simp;omega,List.replicate_succ]
 simp [byteV]
theorem a0O (n:Nat) (l:List UInt8) (h:l.length=n):cB n l=c8 l:=by simp [cB,c8,h]
theorem one_b (n:Nat) (l:List UInt8):(cB n l).all (·.oneCell')=true:=by
 rw [cB,← Array.all_toList]
 simp [byteV,Value.oneCell',List.all_append]
theorem Tryz.sizeZ (l:List UInt8) (h:l.length≤32):(Tryz.prog.info? 27).map (·.size)=some (cB 32 l).size:=by rw [f0r _ _ h];kernel_rfl

theorem Tryz.zeroHash (w:World):(zeroValue 27).run Tryz.prog w = .ok (.agg (cB 32 [])) w:=by kernel_rfl
theorem Off.below {w w':World} {v:Value} (h:Off w v) (hb:Below w.heap.size w w'):Off w' v:=by
 rcases h with rfl | ⟨g,rfl,h⟩
 ·exact .inl rfl
 ·exact .inr ⟨g,rfl,(hb.cell (World.block_lt_of_cell? w _ h)).trans h⟩
theorem g0x (n:Nat):(padL n).length=9+padZ n:=by simp [padL,lenB];omega
theorem s0Q (n:Nat):(n+1+padZ n) % 64=56:=by unfold padZ;omega
theorem s0B (n k:Nat) (h:k < padZ n):¬ (n+1+k) % 64=56:=by unfold padZ at h;omega
theorem n0S (n:Nat):padZ n < 64:=by unfold padZ;omega
def lenTo (n i:Nat):List UInt8:=(List.range i).map fun i=>UInt8.ofNat (8*n / 256 ^ (7 - i) % 256)
theorem m0I (n i:Nat):lenTo n (i+1)=lenTo n i ++ [UInt8.ofNat (8*n / 256 ^ (7 - i) % 256)]:=by
 rw [lenTo,List.range_succ,List.map_append];rfl
theorem i0s (n i:Nat):(lenTo n i).length=i:=by simp [lenTo]
def outTo (v:V8) (i:Nat):List UInt8:=(List.range i).map fun i=>UInt8.ofNat ((v.list.getD (i / 4) 0).toNat / 256 ^ (3 - i % 4) % 256)
theorem m0U (v:V8) (i:Nat):outTo v (i+1)=outTo v i ++ [UInt8.ofNat ((v.list.getD (i / 4) 0).toNat / 256 ^ (3 - i % 4) % 256)]:=by
 rw [outTo,List.range_succ,List.map_append];rfl
theorem b0N (v:V8) (i:Nat):(outTo v i).length=i:=by simp [outTo]
theorem l0D {α:Type} {w:World} {B g:Nat} {e:TypeId} {enc:α→List Value} {x:α} {u:Value} (h:w.heap[g]? = some (.cells #[u] e (0,0))) (hx:enc x = [u]) (hB:B≤g):Own w B e enc 1 (.slice (some ⟨g,0,none⟩) 1 1) [x]:=
 ⟨by simp [hx],.inr ⟨g,1,_,rfl,hB,h,Nat.le_refl _,by unfold maxLen;omega,rfl,by simp [hx]⟩⟩
theorem StM.below {w w':World} {g:Nat} {L:List UInt8} (h:StM w g L) (hb:Below w.heap.size w w'):StM w' g L:=by
 obtain ⟨wt,h,h2⟩:=h
 exact ⟨wt,⟨(hb.block g (a0b h.1)).trans h.1,h.2⟩,h2⟩

theorem p0I (N i:Nat):u8E (UInt8.ofNat (8*N / 256 ^ (7 - i) % 256)) = [Value.int IntKind.u8 ((N:Int)*8 / 2 ^ (8*(7 - i)) % 256)]:=by
 have e:(2:Int) ^ (8*(7 - i))=((256 ^ (7 - i):Nat):Int):=by rw [Int.pow_mul];simp
 have h2:(UInt8.ofNat (8*N / 256 ^ (7 - i) % 256)).toNat=8*N / 256 ^ (7 - i) % 256:=by
  rw [UInt8.toNat_ofNat'];omega
 unfold u8E byteV
 rw [h2,e,show (N:Int)*8=((8*N:Nat):Int) by omega,← Int.natCast_ediv]
 rfl
theorem s0T (V:V8) (i:Nat) (hi:i < 32):(cB 32 (outTo V i)).setIfInBounds i (.int .u8 (((gW V.list (i / 4)).toNat:Int) / 2 ^ (24 - 8*(i % 4)) % 256))=cB 32 (outTo V (i+1)):=by
 have h1:=t0i 32 (outTo V i) (UInt8.ofNat ((V.list.getD (i / 4) 0).toNat / 256 ^ (3 - i % 4) % 256)) (by rw [b0N];exact hi);rw [b0N] at h1;rw [m0U,← h1]
 congr 2
 have e:(2:Int) ^ (24 - 8*(i % 4))=((256 ^ (3 - i % 4):Nat):Int):=by rw [show 24 - 8*(i % 4)=8*(3 - i % 4) by omega,Int.pow_mul];simp
 have h2:(UInt8.ofNat ((V.list.getD (i / 4) 0).toNat / 256 ^ (3 - i % 4) % 256)).toNat=(V.list.getD (i / 4) 0).toNat / 256 ^ (3 - i % 4) % 256:=by
  rw [UInt8.toNat_ofNat'];omega
 rw [h2,e,← Int.natCast_ediv]
 rfl
theorem r0s (w:World) (g:Nat) (L:List UInt8) (hs:StM w g L) (hlen:L.length < 1152921504606846976):Calls Tryz.prog 226 #[.pointer (some ⟨g,0,none⟩)] w (Ret w (.agg (c8 (shaF L)))):=by
 have H:=Lib.hid hs;clear hs
 go_enter Tryz.func226,Tryz.ntmps226
 go_wp2_with (refine a0t rfl _ rfl _ _ Tryz.zeroHash rfl ?_)
 intro R w1 h1
 go_wp2_with (refine a0t rfl _ rfl _ _ Tryz.zeroHash rfl ?_)
 intro E w2 h2;have hst2:=(H.out.below h1.out.below).below h2.out.below;have HST2:=Lib.hid hst2;go_wp2_with fail;refine (is_at _ _ _ (k0O hst2)).mono ?_;clear hst2;rintro e w3 ⟨rfl,rfl⟩;go_wp2_with fail;refine (q0h _ _ _ HST2.out).mono ?_;rintro e w3 ⟨G,rfl,hG,hst3,hb3⟩;obtain ⟨N,hN⟩:∃ N,N=L.length:=⟨_,rfl⟩;have hst4:=HST2.out.below hb3;have HST3:=Lib.hid hst3;have HST4:=Lib.hid hst4;have HB3:=Lib.hid hb3;clear hb3;obtain ⟨wt,hs4,d1⟩:=hst4;clear d1;have q:=Lib.cell_of_heap hs4.1 73;rw [stC_n _ _ _ _ hs4.2.1 hs4.2.2,← hN] at q;obtain ⟨wt',hs5,d2⟩:=hst3;clear d2;have q2:=Lib.cell_of_heap hs5.1 73;rw [stC_n _ _ _ _ hs5.2.1 hs5.2.2,← hN] at q2;rw [← hN] at hlen;have hgG:G < w3.heap.size:=a0b hs5.1;have HN:=Lib.hid hN;clear hN hs4 hs5;go_wp2_with fail
 go_loopw [6] (fun x wr=>∃ k:Nat,k≤padZ N∧Own wr w3.heap.size 5 u8E 1 x (128 :: List.replicate k 0)∧Below w3.heap.size w3 wr) (fun x _=>64 - lenOf x)
 case atStart=>exact ⟨0,Nat.zero_le _,l0D (heap_alloc_new _ _) rfl (Nat.le_refl _),(Below.refl _ _).alloc (Nat.le_refl _) _⟩
 case round=>
  obtain ⟨k,hk,hown,hb⟩:=hrel;obtain ⟨ad,cap,rfl,hcap,hcap2⟩:=(hown.rd (fun _=>rfl)).shape
  generalize hn:(128 :: List.replicate k (0:UInt8)).length=n at *
  have hn2:n=k+1:=by rw [← hn];simp
  have q3:wr.cell? ⟨G,73,none⟩=some (.int .i64 (N:Int)):=(hb.cell (p:=⟨G,73,none⟩) hgG).trans q2;have hp:=n0S N;have hn4:n < 65:=by omega
  have HOWN:=Lib.hid hown;have HBW:=Lib.hid hb;have HNK:=Lib.hid hn2;have HNL:=Lib.hid hn;clear hown hb hn2 hn
  by_cases hlt:k < padZ N
  ·have e1:¬ ((N:Int)+(n:Int)) % 64=56:=by have:=s0B N k hlt;have:=HNK.out;omega
   go_wp2_with (at_builtin;refine b0x rfl _ _ _ rfl Tryz.underlying122 Tryz.infoU8 rfl (0:UInt8) HOWN.out rfl rfl rfl rfl (by rw [HNL.out];unfold maxLen;omega) (by rw [HNL.out];omega) HBW.out (Nat.le_refl _) HBW.out.size (Nat.le_refl _) ?_)
   intro v' w' h5 h6 h7;clear h7;have H5:=Lib.hid h5;have H6:=Lib.hid h6;clear h5 h6;go_wp2_with fail
   go_roundw
   case rel=>
    refine ⟨k+1,by omega,?_,H6.out⟩;have:=H5.out
    rwa [← List.replicate_succ'] at this
   case measure=>
    rw [(H5.out.rd (fun _=>rfl)).lenOf_eq]
    simp [lenOf]
    have:=HNK.out
    omega
  ·obtain rfl:k=padZ N:=by omega
   have e1:((N:Int)+(n:Int)) % 64=56:=by have:=s0Q N;have:=HNK.out;omega
   go_wp2_with fail;clear e1;obtain ⟨P0,hP0⟩:∃ P0,P0=128 :: List.replicate (padZ N) (0:UInt8):=⟨_,rfl⟩;rw [← hP0] at HOWN HNL;have HP0:=Lib.hid hP0;clear hP0;obtain ⟨wo,hwo⟩:∃ wo,wo=wr:=⟨_,rfl⟩;rw [← hwo] at HOWN HBW q3 ⊢;clear hwo wr
   go_loopw [6,7,34] (fun x _ y wr=>∃ i:Nat,i≤8∧y = .int .i64 i∧Own wr w3.heap.size 5 u8E 1 x (P0 ++ lenTo N i)∧Below w3.heap.size w3 wr) (fun _ _ y _=>8 - (intOf y).toNat)
   case atStart=>exact ⟨0,Nat.zero_le _,rfl,by simpa [lenTo] using HOWN.out,HBW.out⟩
   case round=>
    clear q3;obtain ⟨i,hi,rfl,hown,hb⟩:=hrel
    by_cases hlt:i < 8
    ·have j0:(i:Int) < 8:=by omega
     have t0:(8*(7 - (i:Int))).toNat=8*(7 - i):=by omega
     have t1:(0:Int)≤8*(7 - (i:Int)):=by omega
     have hlenP:(P0 ++ lenTo N i).length < 100:=by rw [List.length_append,i0s,HNL.out];omega
     have HOW:=Lib.hid hown;have HB:=Lib.hid hb;have HLP:=Lib.hid hlenP;clear hown hb hlenP
     go_wp2_with (at_builtin;refine b0x rfl _ _ _ rfl Tryz.underlying122 Tryz.infoU8 rfl (UInt8.ofNat (8*N / 256 ^ (7 - i) % 256)) HOW.out rfl rfl ?c1 rfl (by have:=HLP.out;unfold maxLen;omega) (by have:=HLP.out;omega) HB.out (Nat.le_refl _) HB.out.size (Nat.le_refl _) ?_)
     case c1=>exact p0I N i
     intro v' w' h5 h6 h7;clear h7;have H5:=Lib.hid h5;have H6:=Lib.hid h6;clear h5 h6;go_wp2_with fail
     go_roundw
     case rel=>
      refine ⟨i+1,by omega,by go_num,?_,H6.out⟩;have:=H5.out
      rwa [m0I]
     case measure=>simp [intOf];omega
    ·obtain rfl:i=8:=by omega
     have hL:P0 ++ lenTo N 8=padL N:=by rw [HP0.out];rfl
     rw [hL] at hown;have hown2:=hown.lt;have HR:=Lib.hid (hown.rd (fun _=>rfl));have HO:=Lib.hid hown2;have HB:=Lib.hid hb;clear hown hb hown2 hL;go_wp2_with fail;refine (g0k _ G L (padL N) _ HR.out (HST3.out.below HB.out) (by intro k hk _ e;have:=HO.out k hk;omega) (by rw [g0x,← HN.out];have:=n0S N;omega)).mono ?_;rintro e w5 ⟨rfl,hst5,hk5⟩;have hw5:Below w.heap.size w wr:=h1.out.below.trans ((h2.out.below.mono h1.out.below.size).trans ((HB3.out.mono (Nat.le_trans h1.out.below.size h2.out.below.size)).trans (HB.out.mono (Nat.le_trans h1.out.below.size (Nat.le_trans h2.out.below.size HB3.out.size)))));have s1:=h1.out.below.size;have s2:=h2.out.below.size;have s3:=HB3.out.size;have s4:=HB.out.size;have eR:=h1.out.eq;have eE:=h2.out.eq;have z1:=h1.out.size;have z2:=h2.out.size;have hbR:w5.heap[R]? = some (.cells (cB 32 []) 27 (0,0)):=hk5.at ((HB.out.block R (by omega)).trans ((HB3.out.block R (by omega)).trans ((h2.out.below.block R (by omega)).trans h1.out.cells))) (by omega);have hbE:w5.heap[E]? = some (.cells (cB 32 []) 27 (0,0)):=hk5.at ((HB.out.block E (by omega)).trans ((HB3.out.block E (by omega)).trans h2.out.cells)) (by omega);have hw6:Below w.heap.size w w5:=hw5.trans (hk5.below (by intro k hk e;omega) (by omega));have hRE:R < E:=by omega
     have hwR:w.heap.size≤R:=by omega
     have hGE:E < G:=by omega
     have hV:(L ++ padL N).length / 64=(N+9+padZ N) / 64:=by rw [List.length_append,g0x,← HN.out];congr 1;omega
     obtain ⟨wt2,hst6,hwt2⟩:=hst5;rw [hV] at hst6;obtain ⟨V,hVe⟩:∃ V,V=hTo (L ++ padL N) ((N+9+padZ N) / 64):=⟨_,rfl⟩;rw [← hVe] at hst6;have HVE:=Lib.hid hVe;have HST6:=Lib.hid hst6;have HBR:=Lib.hid hbR;have HBE:=Lib.hid hbE;have HW6:=Lib.hid hw6;clear hVe hst6 hbR hbE hw6 hw5 hV hwt2 eR eE z1 z2 s1 s2 s3 s4 hk5;go_wp2_with fail
     generalize w3.heap.size=D at *
     have hEw:w.heap.size≤E:=by omega
     go_loopw [8,50] (fun _ y wq=>∃ i:Nat,i≤32∧y = .int .i64 i∧wq.heap[E]? = some (.cells (cB 32 (outTo V i)) 27 (0,0))∧Keep (· = E) w5 wq) (fun _ y _=>32 - (intOf y).toNat)
     case atStart=>exact ⟨0,Nat.zero_le _,rfl,HBE.out,Keep.refl _ _⟩
     case round=>
      obtain ⟨i,hi,rfl,hE,hk⟩:=hrel
      by_cases hlt:i < 32
      ·have j0:(i:Int) < 32:=by omega
       have hG2:wr.heap[G]? = _:=hk.at HST6.out.1 (by omega);have q5:=Lib.cell_of_heap hG2 (1+i / 4);rw [stC_h _ _ _ _ rfl (i / 4) (by omega)] at q5;have t0:((i:Int) / 4).toNat=i / 4:=by omega
       have t1:(0:Int)≤(i:Int) / 4:=by omega
       have t2:(i:Int) / 4 < 8:=by omega
       have t3:(0:Int)≤24 - 8*((i:Int) % 4):=by omega
       have t4:(24 - 8*((i:Int) % 4)).toNat=24 - 8*(i % 4):=by omega
       have HE:=Lib.hid hE;have HK:=Lib.hid hk;clear hE hk hG2
       go_wp2_with ((refine a0h rfl _ _ _ rfl E i (.int .u8 (((gW V.list (i / 4)).toNat:Int) / 2 ^ (24 - 8*(i % 4)) % 256)) rfl rfl rfl rfl 27 _ HE.out (by kernel_rfl) (by rw [f0r _ _ (by rw [b0N];omega)];exact hlt) _ (s0T V i hlt) ?_))
       intro w6 h6 k6 z6;have H6:=Lib.hid h6;have K6:=Lib.hid k6;clear h6 k6 z6;go_wp2_with fail
       go_roundw
       case rel=>exact ⟨i+1,by omega,by go_num,H6.out,HK.out.then K6.out (fun x hx=>.inl hx)⟩
       case measure=>simp [intOf];omega
      ·obtain rfl:i=32:=by omega
       have hR:wr.heap[R]? = _:=hk.at HBR.out (by omega);have hbl:Below w.heap.size w wr:=HW6.out.trans (hk.below (by intro k hk2 e;omega) HW6.out.size);have HE:=Lib.hid hE;have HK:=Lib.hid hk;have HR6:=Lib.hid hR;have HBL:=Lib.hid hbl;clear hE hk hR hbl;have hout:Hid (cB 32 (outTo V 32)=c8 (shaF L)):=by
        refine Lib.hid ?_;rw [a0O _ _ (b0N _ _),shaF,← HN.out,← HVE.out];rfl
       go_wp2_with (first | (refine wpList_load_row rfl _ _ rfl E rfl _ (cB 32 (outTo V 32)) _ _ HE.out Tryz.underlying27 rfl (Tryz.sizeZ _ (by simp [outTo])) ?_) | (refine a0a (t:=27) (old:=cB 32 []) rfl 27 (.tmp 2) _ rfl R (cB 32 (outTo V 32)) rfl rfl HR6.out (Tryz.sizeZ _ (by simp [outTo])) (by rw [f0r _ _ (by simp),f0r _ _ (by simp [outTo])]) (one_b _ _) ?_))
       intro w7 h7 k7 z7;have H7:=Lib.hid h7;have H8:=Lib.hid (HBL.out.trans (k7.below (B:=w.heap.size) (by intro k hk2 e;omega) HBL.out.size));clear h7 k7 z7;go_wp2_with fail
       exact bodyPost_ret (results_cell_row rfl _ _ R _ (cB 32 (outTo V 32)) _ _ rfl H7.out Tryz.underlying27 rfl (Tryz.sizeZ _ (by simp [outTo]))) rfl ⟨by rw [hout.out],H8.out⟩
end
section
open Go.RowKit

theorem Tryz.sizeHs (l:List UInt8) (h:l.length=32):(Tryz.prog.info? 27).map (·.size)=some (c8 l).size:=by rw [a0m,h];kernel_rfl
end
section
open Go.RowKit

theorem p0u (l:List UInt8):c8 l=((l.map fun c=>(c.toNat:Int)).map (Value.int .u8)).toArray:=by
 simp [c8,byteV]
theorem h0B (l m:List UInt8):((l.map fun c=>(c.toNat:Int))=m.map fun c=>(c.toNat:Int))↔l=m:=by
 refine ⟨fun h=>?_,fun h=>h▸rfl⟩
 induction l generalizing m with
 | nil=>cases m with
  | nil=>rfl
  | cons y m=>simp at h
 | cons x l ih=>cases m with
  | nil=>simp at h
  | cons y m=>
   simp only [List.map_cons,List.cons.injEq] at h;have hxy:x=y:=UInt8.toNat_inj.1 (by omega);rw [hxy,ih m h.2]
theorem Tryz.eqH (l m:List UInt8) (h1:l.length=32) (h2:m.length=32) (w:World):(Op.equalIn 10000 27 (.agg (c8 l)) (.agg (c8 m))).run Tryz.prog w = .ok (decide (l=m)) w:=by
 obtain ⟨i,hi,hs⟩:∃ i,Tryz.prog.info? 5 = some i∧i.size=1:=by
  obtain ⟨i,hi,_,h1,_⟩:=info_parts Tryz.infoU8
  exact ⟨i,hi,h1⟩
 rw [p0u,p0u,c0V w 9998 27 5 .u8 32 Tryz.underlying27 Tryz.underlying5 i hi hs _ _ (by simpa using h1) (by simpa using h2)];have:decide ((l.map fun c=>(c.toNat:Int))=m.map fun c=>(c.toNat:Int))=decide (l=m):=decide_eq_decide.2 (h0B l m);rw [this]
end
end Go.Proofs.YtakkfabaeolbdaaGreat
