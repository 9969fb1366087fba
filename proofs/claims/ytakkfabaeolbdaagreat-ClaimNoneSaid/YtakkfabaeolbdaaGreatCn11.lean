/- merkle.sum, Leaf, Node, Empty, Depth, why. merkle.is, Leaf, Node, Empty, Depth, why. merkle.Node. -/
import Derived.Test.YtakkfabaeolbdaaGreatCn10
import Derived.Test.YtakkfabaeolbdaaGreatCn6
import Derived.Deep.RegionHeld3
namespace Go.Proofs.YtakkfabaeolbdaaGreat
section
set_option maxHeartbeats 1000000
set_option maxRecDepth 100000
open Go.RowKit

def slE (v:Value):List Value:=[v]
theorem f0p (v:Value):(slE v).length=1:=rfl
def Texts (w:World) (v:Value) (ls:List (List UInt8)):Prop:=∃ vs:List Value,Rd w slE 1 v vs∧vs.length=ls.length∧∀ (i:Nat) u l,vs[i]? = some u→ls[i]? = some l→Rd w u8E 1 u l
theorem Texts.later {w w':World} {v:Value} {ls:List (List UInt8)} (h:Texts w v ls) (hb:Below w.heap.size w w'):Texts w' v ls:=by
 obtain ⟨vs,h1,h2,h3⟩:=h
 exact ⟨vs,h1.later hb,h2,fun i u l a b=>(h3 i u l a b).later hb⟩
theorem Texts.shape {w:World} {v:Value} {ls:List (List UInt8)} (h:Texts w v ls):∃ ad cap,v = .slice ad ls.length cap∧ls.length≤cap∧cap≤9223372036854775807:=by
 obtain ⟨vs,h1,h2,_⟩:=h;rw [← h2];exact h1.shape
theorem Texts.at {w:World} {ad:Option Addr} {n cap:Nat} {ls:List (List UInt8)} (h:Texts w (.slice ad n cap) ls) (k:Nat) (hk:k < ls.length) :
  ∃ b off u,ad=some ⟨b,off,none⟩∧b < w.heap.size∧w.cell? ⟨b,off+k,none⟩=some u∧Rd w u8E 1 u ls[k]:=by
 obtain ⟨vs,h1,h2,h3⟩:=h;obtain ⟨b,off,h4,h5,h6⟩:=h1.at k (by omega)
 exact ⟨b,off,vs[k],h4,h5,h6,h3 k _ _ (List.getElem?_eq_getElem (by omega)) (List.getElem?_eq_getElem hk)⟩
theorem n0b {w w':World} {u:Value} {l:List UInt8} (h:Rd w u8E 1 u l) (e:TypeId) (hw:w'=w.alloc (.cells #[u] e)):Texts w' (.slice (some ⟨w.heap.size,0,none⟩) 1 1) [l]:=by
 subst hw;refine ⟨[u],c0w w slE f0p e [u] _ 1 rfl (by omega) rfl,rfl,fun i x y hx hy=>?_⟩
 match i,hx,hy with
 | 0,hx,hy=>simp at hx hy;subst hx;subst hy;exact h.alloc _
 | i+1,hx,hy=>simp at hx
theorem m0d {w w':World} {u v:Value} {l m:List UInt8} (h:Rd w u8E 1 u l) (h2:Rd w u8E 1 v m) (e:TypeId) (hw:w'=w.alloc (.cells #[u,v] e)):Texts w' (.slice (some ⟨w.heap.size,0,none⟩) 2 2) [l,m]:=by
 subst hw;refine ⟨[u,v],c0w w slE f0p e [u,v] _ 2 rfl (by omega) rfl,rfl,fun i x y hx hy=>?_⟩
 match i,hx,hy with
 | 0,hx,hy=>simp at hx hy;subst hx;subst hy;exact h.alloc _
 | 1,hx,hy=>simp at hx hy;subst hx;subst hy;exact h2.alloc _
 | i+2,hx,hy=>simp at hx
theorem j0k (ls:List (List UInt8)) (k:Nat) (hk:k < ls.length):(ls.take (k+1)).flatten=(ls.take k).flatten ++ ls[k]:=by
 rw [List.take_succ_eq_append_getElem hk,List.flatten_append];simp
theorem s0u (ls:List (List UInt8)) (k:Nat) (hk:k < ls.length):((ls.take k).flatten).length+ls[k].length≤ls.flatten.length:=by
 have h:=j0k ls k hk;have h2:((ls.take (k+1)).flatten).length≤ls.flatten.length:=by
  conv=>rhs;rw [← List.take_append_drop (k+1) ls,List.flatten_append,List.length_append]
  omega
 rw [h,List.length_append] at h2
 exact h2

theorem l0d (f:Int) (hf:0≤f) (hf2:f < 256) (ls:List (List UInt8)) (v:Value) (w:World) (h:Texts w v ls) (hlen:ls.flatten.length < 576460752303423488) :
  Calls Tryz.prog 203 #[.int .i64 f,v] w (Ret w (.agg (c8 (shaF (UInt8.ofNat f.toNat :: ls.flatten))))):=by
 obtain ⟨ad,cap,rfl,hc1,hc2⟩:=h.shape;have H:=Lib.hid h;clear h;have hw0:f % 256=f:=by omega
 go_enter Tryz.func203,Tryz.ntmps203
 go_wp2_with (refine a0t rfl _ rfl _ _ Tryz.zeroHash rfl ?_)
 intro R w1 h1;go_wp2_with fail;refine (s0G _).mono ?_;rintro e w2 ⟨g,rfl,hg,hst,hb2⟩;have hT2:=(H.out.later h1.out.below).later hb2;have hR2:w2.heap[R]? = some (.cells (cB 32 []) 27 (0,0)):=(hb2.block R (a0b h1.out.cells)).trans h1.out.cells;have hwR:=h1.out.eq;have hB2:Below w.heap.size w w2:=h1.out.below.trans (hb2.mono h1.out.below.size);have hlt:w.heap.size≤w1.heap.size:=h1.out.below.size;have HT2:=Lib.hid hT2;have HR2:=Lib.hid hR2;have HB2:=Lib.hid hB2;have HST:=Lib.hid hst;have HWR:=Lib.hid hwR;have hRg:R < g:=by have:=a0b h1.out.cells;omega
 have hgw:w.heap.size≤g:=by omega
 clear hT2 hR2 hB2 hst hb2 h1 hwR hlt;go_wp2_with fail;have hrd0:Rd (w2.alloc (.cells #[.int .u8 f] 5)) u8E 1 (.slice (some ⟨w2.heap.size,0,none⟩) 1 1) [UInt8.ofNat f.toNat]:=c0w w2 u8E (fun _=>rfl) 5 _ _ 1 rfl (by omega) (by simp [u8E,byteV_of f hf hf2]);have hst0:StM (w2.alloc (.cells #[.int .u8 f] 5)) g []:=HST.out.below ((Below.refl _ _).alloc (Nat.le_refl _) _);have hg2:g < w2.heap.size:=by obtain ⟨wt,h,_⟩:=HST.out;exact a0b h.1
 refine (g0k _ g [] [UInt8.ofNat f.toNat] _ hrd0 hst0 (fun k hk _ e=>?_) (by simp)).mono ?_
 ·simp [Value.ownBlock] at hk;omega
 rintro e w3 ⟨rfl,hst3,hk3⟩;have hk23:Keep (· = g) w2 w3:=(Keep.refl _ _ |>.alloc _).then hk3 (fun x hx=>.inl hx);have HK3:=Lib.hid hk23;have HST3:=Lib.hid hst3;clear hrd0 hst0 hst3 hk3 hk23;go_wp2_with fail
 go_loopw [16] (fun x wr=>∃ i:Nat,i≤ls.length∧x = .int .i64 i∧StM wr g (UInt8.ofNat f.toNat :: (ls.take i).flatten)∧Keep (· = g) w2 wr) (fun x _=>ls.length - (intOf x).toNat)
 case atStart=>exact ⟨0,Nat.zero_le _,rfl,HST3.out,HK3.out⟩
 case round=>
  obtain ⟨i,hi,rfl,hst,hk⟩:=hrel;have HS:=Lib.hid hst;have HK:=Lib.hid hk;clear hst hk HST3 HK3
  by_cases hlt:i < ls.length
  ·obtain ⟨b,off,u,rfl,hb,hcell,hru⟩:=H.out.at i hlt;have hbg:b≠g:=by omega
   have hcw:wr.cell? ⟨b,off+i,none⟩=some u:=by
    rw [World.cell?_of_block (w:=w2) (w':=wr) (HK.out.block b (Nat.lt_of_lt_of_le hb HB2.out.size) hbg),HB2.out.cell (p:=⟨b,_,none⟩) hb,hcell]
   have hrw:Rd wr u8E 1 u ls[i]:=((hru.later HB2.out).keep HK.out (fun k hk hl e=>by have:=hru.lt k hk hl;omega));have hug:∀ k,u.ownBlock=some k→ls[i]≠[]→k≠g:=fun k hk hl e=>by have:=hru.lt k hk hl;omega
   have hfl:=s0u ls i hlt;have hft:=j0k ls i hlt;have HRW:=Lib.hid hrw;have HUG:=Lib.hid hug;have HFT:=Lib.hid hft;have HFL:=Lib.hid hfl;clear hru hrw hug hft hcell hfl;go_wp2_with fail;refine (g0k _ g _ ls[i] u HRW.out HS.out HUG.out (by have:=HFL.out;simp only [List.length_cons];omega)).mono ?_;rintro e w4 ⟨rfl,hst4,hk4⟩;rw [List.cons_append,← HFT.out] at hst4;have HS4:=Lib.hid hst4;have HK4:=Lib.hid (HK.out.then hk4 (fun x hx=>.inl hx));clear hst4 hk4 hcw;go_wp2_with fail
   go_roundw
   case rel=>exact ⟨i+1,by omega,by go_num,HS4.out,HK4.out⟩
   case measure=>simp [intOf];omega
  ·obtain rfl:i=ls.length:=by omega
   rw [List.take_length] at HS;go_wp2_with fail;refine (r0s _ g _ HS.out (by simp only [List.length_cons];omega)).mono ?_;rintro e w4 ⟨rfl,hb4⟩;have hR4:w4.heap[R]? = some (.cells (cB 32 []) 27 (0,0)):=(hb4.block R (by have:=a0b HR2.out;have:=HK.out.size;omega)).trans (HK.out.at HR2.out (by omega));have hbl:Below w.heap.size w w4:=HB2.out.trans ((HK.out.below (B:=w.heap.size) (by intro k hk e;omega) HB2.out.size).trans (hb4.mono (Nat.le_trans HB2.out.size HK.out.size)));have HR4:=Lib.hid hR4;have HBL:=Lib.hid hbl;clear hR4 hbl hb4 HS HK
   go_wp2_with (refine a0a (t:=27) (old:=cB 32 []) rfl 27 _ _ rfl R (c8 (shaF (UInt8.ofNat f.toNat :: ls.flatten))) rfl rfl HR4.out (Tryz.sizeHs _ (b0l _)) (by rw [a0m,b0l];rfl) (by rw [← a0O 32 _ (b0l _)];exact one_b _ _) ?_)
   intro w5 h5 k5 z5;have H5:=Lib.hid h5;have H6:=Lib.hid (k5.onto HBL.out (Nat.le_refl _) (by have:=HWR.out;omega));clear h5 k5 z5;go_wp2_with fail
   exact bodyPost_ret (results_cell_row rfl _ _ R _ (c8 (shaF (UInt8.ofNat f.toNat :: ls.flatten))) _ _ rfl H5.out Tryz.underlying27 rfl (Tryz.sizeHs _ (b0l _))) rfl ⟨rfl,H6.out⟩
end
section
set_option maxHeartbeats 1000000
set_option maxRecDepth 100000
open Go.RowKit

def kindB (k:Int):Bool:=decide (k=1∨k=2)
theorem f0X {k:Int} (h:k=1∨k=2):kindB k=true:=by unfold kindB;simpa using h
theorem e0Y {k:Int} (h1:¬ k=1) (h2:¬ k=2):kindB k=false:=by unfold kindB;simp [h1,h2]
theorem e0r (k:Int):k=1∨k=2∨(¬ k=1∧¬ k=2):=by omega
theorem d0D (k:Int) (w:World):Calls Tryz.prog 199 #[.int .i64 k] w fun e w'=>e = .returned (.bool (kindB k))∧w=w':=by
 rcases e0r k with rfl | rfl | ⟨h1,h2⟩
 ·go_enter Tryz.func199,Tryz.ntmps199
  go_wp2
  go_ret
  exact ⟨rfl,rfl⟩
 ·go_enter Tryz.func199,Tryz.ntmps199
  go_wp2
  go_ret
  exact ⟨rfl,rfl⟩
 ·rw [e0Y h1 h2];have b1:(k == 1)=false:=by simpa using h1
  have b2:(k == 2)=false:=by simpa using h2
  go_enter Tryz.func199,Tryz.ntmps199
  go_wp2
  go_ret
  exact ⟨rfl,rfl⟩

def zero32:List UInt8:=List.replicate 32 0
theorem a0i:zero32.length=32:=rfl
def leafK (k:Int) (b:List UInt8):List UInt8:=if k=1∨k=2 then leafF k.toNat b else zero32
def nodeK (k:Int) (a b:List UInt8):List UInt8:=if k=1∨k=2 then nodeF k.toNat a b else zero32
theorem a0o (k:Int) (b:List UInt8):(leafK k b).length=32:=by unfold leafK;split;exact i0B _ _;rfl
theorem b0W (k:Int) (a b:List UInt8):(nodeK k a b).length=32:=by unfold nodeK;split;exact e0H _ _ _;rfl

theorem g0z (k:Int) (b:List UInt8) (v:Value) (w:World) (h:Rd w u8E 1 v b) (hlen:b.length < 288230376151711744) :
  Calls Tryz.prog 159 #[.int .i64 k,v] w (Ret w (.agg (c8 (leafK k b)))):=by
 obtain ⟨ad,cap,rfl,hc1,hc2⟩:=h.shape;have H:=Lib.hid h;clear h;have key:∀ (f:Int),0≤f→f < 256→leafK k b=shaF (UInt8.ofNat f.toNat :: b)→k=1∨k=2→2*k=f→Calls Tryz.prog 159 #[.int .i64 k,.slice ad b.length cap] w (Ret w (.agg (c8 (leafK k b)))):=by
  intro f hf hf2 he hk hkf;have HE:=Lib.hid he;have hkb:=f0X hk;have HKF:=Lib.hid hkf;have hk1:1≤k:=by omega
  have hk2:k≤2:=by omega
  clear he hk hkf
  go_enter Tryz.func159,Tryz.ntmps159
  go_wp2_with (refine a0t rfl _ rfl _ _ Tryz.zeroHash rfl ?_)
  intro R w1 h1;go_wp2_with fail;refine (d0D _ _).mono ?_;rintro e w2 ⟨rfl,rfl⟩;go_wp2_with fail;rw [HKF.out];refine (l0d f hf hf2 [b] _ _ (n0b (H.out.later h1.out.below) _ rfl) (by simp;omega)).mono ?_;rintro e w3 ⟨rfl,hb3⟩;simp only [List.flatten_cons,List.flatten_nil,List.append_nil];rw [← HE.out];obtain ⟨q1,q2,q3⟩:=boxed1 hb3;have hR3:w3.heap[R]? = some (.cells (cB 32 []) 27 (0,0)):=(q1.block R (a0b h1.out.cells)).trans h1.out.cells;have hb4:Below w.heap.size w w3:=h1.out.below.trans (q1.mono h1.out.below.size);have HR3:=Lib.hid hR3;have HB4:=Lib.hid hb4;have HW:=Lib.hid h1.out.eq;clear hb3 q1 q2 q3 hR3 hb4 h1
  go_wp2_with (refine a0a (t:=27) (old:=cB 32 []) rfl 27 _ _ rfl R (c8 (leafK k b)) rfl rfl HR3.out (Tryz.sizeHs _ (a0o _ _)) (by rw [a0m,a0o];rfl) (by rw [← a0O 32 _ (a0o _ _)];exact one_b _ _) ?_)
  intro w5 h5 k5 z5;have H5:=Lib.hid h5;have H6:=Lib.hid (k5.onto HB4.out (Nat.le_refl _) (by have:=HW.out;omega));clear h5 k5 z5;go_wp2_with fail
  exact bodyPost_ret (results_cell_row rfl _ _ R _ (c8 (leafK k b)) _ _ rfl H5.out Tryz.underlying27 rfl (Tryz.sizeHs _ (a0o _ _))) rfl ⟨rfl,H6.out⟩
 rcases e0r k with rfl | rfl | ⟨h1,h2⟩
 ·exact key 2 (by omega) (by omega) rfl (by omega) rfl
 ·exact key 4 (by omega) (by omega) rfl (by omega) rfl
 ·have he:leafK k b=zero32:=by unfold leafK;rw [if_neg (by omega)]
  rw [he];have hkb:=e0Y h1 h2;clear he key
  go_enter Tryz.func159,Tryz.ntmps159
  go_wp2_with (refine a0t rfl _ rfl _ _ Tryz.zeroHash rfl ?_)
  intro R w1 h1;go_wp2_with fail;refine (d0D _ _).mono ?_;rintro e w2 ⟨rfl,rfl⟩
  go_wp2_with (refine a0a (t:=27) (old:=cB 32 []) rfl 27 _ _ rfl R (c8 zero32) rfl rfl h1.out.cells (Tryz.sizeHs _ a0i) (by rw [a0m,a0i];rfl) (by rw [← a0O 32 _ a0i];exact one_b _ _) ?_)
  intro w5 h5 k5 z5;have H5:=Lib.hid h5;have H6:=Lib.hid (k5.onto h1.out.below (Nat.le_refl _) (by have:=h1.out.eq;omega));clear h5 k5 z5;go_wp2_with fail
  exact bodyPost_ret (results_cell_row rfl _ _ R _ (c8 zero32) _ _ rfl H5.out Tryz.underlying27 rfl (Tryz.sizeHs _ a0i)) rfl ⟨rfl,H6.out⟩

theorem m0g (k:Int) (w:World):Calls Tryz.prog 222 #[.int .i64 k] w (Ret w (.agg (c8 (leafK k [])))):=by
 go_enter Tryz.func222,Tryz.ntmps222
 go_wp2_with (refine a0t rfl _ rfl _ _ Tryz.zeroHash rfl ?_)
 intro R w1 h1;go_wp2_with fail;refine (g0z k [] _ _ (Rd.nil _ _ _) (by simp)).mono ?_;rintro e w2 ⟨rfl,hb2⟩;have hR2:w2.heap[R]? = some (.cells (cB 32 []) 27 (0,0)):=(hb2.block R (a0b h1.out.cells)).trans h1.out.cells;have hb4:Below w.heap.size w w2:=h1.out.below.trans (hb2.mono h1.out.below.size);have HR3:=Lib.hid hR2;have HB4:=Lib.hid hb4;have HW:=Lib.hid h1.out.eq;clear hb2 hR2 hb4 h1
 go_wp2_with (refine a0a (t:=27) (old:=cB 32 []) rfl 27 _ _ rfl R (c8 (leafK k [])) rfl rfl HR3.out (Tryz.sizeHs _ (a0o _ _)) (by rw [a0m,a0o];rfl) (by rw [← a0O 32 _ (a0o _ _)];exact one_b _ _) ?_)
 intro w5 h5 k5 z5;have H5:=Lib.hid h5;have H6:=Lib.hid (k5.onto HB4.out (Nat.le_refl _) (by have:=HW.out;omega));clear h5 k5 z5;go_wp2_with fail
 exact bodyPost_ret (results_cell_row rfl _ _ R _ (c8 (leafK k [])) _ _ rfl H5.out Tryz.underlying27 rfl (Tryz.sizeHs _ (a0o _ _))) rfl ⟨rfl,H6.out⟩
end
section
set_option maxHeartbeats 1000000
set_option maxRecDepth 100000
open Go.RowKit

theorem c0s (b:Nat):∀ (vs:List Value) (o:Nat) (w:World),Keep (· = b) w (w.setCells b o vs)∧(w.setCells b o vs).heap.size=w.heap.size
 | [],_,w=>⟨Keep.refl _ _,rfl⟩
 | v :: r,o,w=>by
  obtain ⟨h1,h2⟩:=c0s b r (o+1) (w.setCell ⟨b,o,none⟩ v);refine ⟨(Keep.setCell (S:=(· = b)) (p:=⟨b,o,none⟩) (Keep.refl _ _) (.inl rfl) v).then h1 (fun x hx=>.inl hx),?_⟩;rw [World.setCells,h2];simp [World.setCell]
theorem d0E (b:Nat) (t:TypeId):∀ (vs:List Value) (o:Nat) (w:World) (cs:List Value),w.heap[b]? = some (.cells cs.toArray t (0,0))→o+vs.length≤cs.length →
  (w.setCells b o vs).heap[b]? = some (.cells (cs.take o ++ vs ++ cs.drop (o+vs.length)).toArray t (0,0))
 | [],o,w,cs,h,hl=>by rw [World.setCells,h];simp
 | v :: r,o,w,cs,h,hl=>by
  simp only [List.length_cons] at hl;have h1:=heap_setCell_same w b o cs.toArray t v h;rw [List.setIfInBounds_toArray] at h1;rw [World.setCells,d0E b t r (o+1) _ (cs.set o v) h1 (by simp;omega)];have e:(cs.set o v).take (o+1)=cs.take o ++ [v]:=by
   rw [List.take_set,List.take_succ_eq_append_getElem (by omega),List.set_append_right _ _ (by simp;omega)]
   simp [Nat.min_eq_left (show o≤cs.length by omega)]
  rw [e,List.drop_set_of_lt (by omega),List.length_cons,show o+1+r.length=o+(r.length+1) by omega]
  simp
theorem j0l {b:Nat} {t:TypeId} {vs:List Value} {w:World} {old:Array Value} (h:w.heap[b]? = some (.cells old t (0,0))) (hl:vs.length=old.size):(w.setCells b 0 vs).heap[b]? = some (.cells vs.toArray t (0,0)):=by
 have:=d0E b t vs 0 w old.toList h (by simp;omega);rw [this]
 simp [hl]
theorem p0h {b:Nat} {t:TypeId} {w:World} {cs:Array Value} (h:w.heap[b]? = some (.cells cs t (0,0))):w.there b 0 cs.size:=fun j hj=>by
 rw [Nat.zero_add]
 exact ⟨by rw [Lib.cell_of_heap h,Array.getElem?_eq_getElem hj];rfl,Lib.frozen_of_heap h j⟩
theorem o0t {w:World} {g:Nat} {l:List UInt8} {T:TypeId} {fr:Nat × Nat} (h:w.heap[g]? = some (.cells (c8 l) T fr)) (n:Nat) (hn:n=l.length) (hm:n≤9223372036854775807):Rd w u8E 1 (.slice (some ⟨g,0,none⟩) n n) l:=by
 subst hn;refine ⟨_,_,rfl,Nat.le_refl _,by unfold maxLen;omega,fun _=>⟨g,0,rfl,a0b h,fun i hi j hj=>?_⟩⟩;obtain rfl:j=0:=by omega
 rw [Lib.cell_of_heap h]
 simp [c8,u8E,List.getElem?_eq_getElem hi]

theorem f0T (k:Int) (a b:List UInt8) (ha:a.length=32) (hb:b.length=32) (w:World) :
  Calls Tryz.prog 202 #[.int .i64 k,.agg (c8 a),.agg (c8 b)] w (Ret w (.agg (c8 (nodeK k a b)))):=by
 have HA:=Lib.hid ha;have HB:=Lib.hid hb;clear ha hb
 rcases (show (k=1∨k=2)∨(¬ k=1∧¬ k=2) by omega) with hk | ⟨h1,h2⟩
 ·have hkb:=f0X hk;have hn:nodeK k a b=shaF (UInt8.ofNat (2*k+1).toNat :: (a ++ b)):=by
   unfold nodeK;rw [if_pos hk];rcases hk with rfl | rfl<;>rfl
  have HN:=Lib.hid hn;have hk1:1≤k:=by omega
  have hk2:k≤2:=by omega
  clear hk hn
  go_enter Tryz.func202,Tryz.ntmps202
  go_wp2_with (refine a0t rfl _ rfl _ _ Tryz.zeroHash rfl ?_)
  intro R w1 h1;go_wp2_with fail;refine (d0D _ _).mono ?_;rintro e w2 ⟨rfl,rfl⟩;go_wp2_with fail;have w0:IntKind.i64.wrap (2*k)=2*k:=IntWalk.i64_in _ (by omega);have w1':IntKind.i64.wrap (2*k+1)=2*k+1:=IntWalk.i64_in _ (by omega);have hA1:w1.heap[w.heap.size]? = some (.cells (c8 a) 27 (0,0)):=(h1.out.below.block _ (by simp;omega)).trans (by rw [Below.heap_alloc _ _ _ (by simp)];exact heap_alloc_new _ _);have hB1:w1.heap[w.heap.size+1]? = some (.cells (c8 b) 27 (0,0)):=(h1.out.below.block _ (by simp)).trans (by have:=heap_alloc_new (w.alloc (.cells (c8 a) 27)) (.cells (c8 b) 27 (0,0));rwa [World.size_alloc] at this);have hT:Texts (w1.alloc (.cells #[.slice (some ⟨w.heap.size,0,none⟩) 32 32,.slice (some ⟨w.heap.size+1,0,none⟩) 32 32] 122)).drew (.slice (some ⟨w1.heap.size,0,none⟩) 2 2) [a,b]:=
   (m0d (o0t hA1 32 HA.out.symm (by omega)) (o0t hB1 32 HB.out.symm (by omega)) _ rfl).later (Below.refl _ _).drew
  have hC:=l0d (2*k+1) (by omega) (by omega) [a,b] _ _ hT (by simp [HA.out,HB.out]);simp only [List.flatten_cons,List.flatten_nil,List.append_nil] at hC;rw [← HN.out] at hC;obtain ⟨cs,hcs⟩:∃ cs,cs=(nodeK k a b).map byteV:=⟨_,rfl⟩;have hc8:c8 (nodeK k a b)=cs.toArray:=by rw [hcs];rfl
  have hc32:cs.length=32:=by rw [hcs,List.length_map,b0W]
  have hone:∀ v∈cs,v.oneCell'=true:=by rw [hcs];intro v hv;obtain ⟨x,_,rfl⟩:=List.mem_map.1 hv;rfl
  have hsz:(Tryz.prog.info? 27).map (·.size)=some cs.length:=by rw [hc32];kernel_rfl
  have hz1:w1.heap.size=w.heap.size+3:=by have:=h1.out.size;simpa using this
  have hR:R=w.heap.size+2:=by have:=h1.out.eq;simpa using this
  rw [hc8] at hC;have HC:=Lib.hid hC;have HZ:=Lib.hid hz1;have HRE:=Lib.hid hR;have HC8:=Lib.hid hc8;have HONE:=Lib.hid hone;have HCS:=Lib.hid hcs;clear hC hz1 hR hc8 hcs hT hA1 hB1;rw [HC8.out]
  go_region_held3 (fun _=>True) (trivial) (first
   | (go_at_call 203;((with_reducible refine HC.out.mono ?_);rintro e w' ⟨rfl,hbq⟩;have hR4:w'.heap[R]? = some (.cells (cB 32 []) 27 (0,0)):=(hbq.block R (by show _ < (World.alloc _ _).heap.size;rw [World.size_alloc];have:=a0b h1.out.cells;omega)).trans ((Below.heap_alloc _ _ _ (a0b h1.out.cells)).trans h1.out.cells);have hth:=p0h hR4)))
  all_goals
   have h5:=j0l (vs:=cs) hR4 (by rw [f0r _ _ (by simp)];exact hc32);have h0:Below w.heap.size w w1:=((Below.refl _ _).alloc (Nat.le_refl _) _ |>.alloc (by simp) _).trans (h1.out.below.mono (by simp;omega));have h6:Below w.heap.size w w':=(h0.alloc h0.size _).drew.trans (hbq.mono (by show _≤(World.alloc _ _).heap.size;rw [World.size_alloc];have:=h0.size;omega));have h7:=(c0s R cs 0 w').1.onto h6 (Nat.le_refl _) (by have:=HRE.out;omega);have H5:=Lib.hid h5;have H7:=Lib.hid h7;have HS:=Lib.hid hsz;clear h5 h6 h7 h0 hbq hth hR4 hsz;go_wp2_with fail
   exact bodyPost_ret (results_cell_row rfl _ _ R _ cs.toArray _ _ rfl H5.out Tryz.underlying27 rfl (by rw [List.size_toArray];exact HS.out)) rfl ⟨by rw [HC8.out],H7.out⟩
 ·have he:nodeK k a b=zero32:=by unfold nodeK;rw [if_neg (by omega)]
  rw [he];have hkb:=e0Y h1 h2;clear he
  go_enter Tryz.func202,Tryz.ntmps202
  go_wp2_with (refine a0t rfl _ rfl _ _ Tryz.zeroHash rfl ?_)
  intro R w1 h1;go_wp2_with fail;refine (d0D _ _).mono ?_;rintro e w2 ⟨rfl,rfl⟩
  go_wp2_with (refine a0a (t:=27) (old:=cB 32 []) rfl 27 _ _ rfl R (c8 zero32) rfl rfl h1.out.cells (Tryz.sizeHs _ a0i) (by rw [a0m,a0i];rfl) (by rw [← a0O 32 _ a0i];exact one_b _ _) ?_)
  intro w5 h5 k5 z5;have h0:Below w.heap.size w w1:=((Below.refl _ _).alloc (Nat.le_refl _) _ |>.alloc (by simp) _).trans (h1.out.below.mono (by simp;omega));have H5:=Lib.hid h5;have H6:=Lib.hid (k5.onto h0 (Nat.le_refl _) (by have:=h1.out.eq;simp at this;omega));clear h5 k5 z5 h0;go_wp2_with fail
  exact bodyPost_ret (results_cell_row rfl _ _ R _ (c8 zero32) _ _ rfl H5.out Tryz.underlying27 rfl (Tryz.sizeHs _ a0i)) rfl ⟨rfl,H6.out⟩
end
end Go.Proofs.YtakkfabaeolbdaaGreat
