/- sha.State: its block, and what block does to it. sha.State.Write. sha.New, State.Copy, Len, Reset. -/
import Derived.Test.YtakkfabaeolbdaaGreatCn8
import Derived.Test.YtakkfabaeolbdaaGreatCn2
import Derived.Outline
namespace Go.Proofs.YtakkfabaeolbdaaGreat
section
set_option maxHeartbeats 1000000
set_option maxRecDepth 100000
open Go.RowKit

def stC (m:Bool) (h:List UInt32) (wt:List UInt8) (n:Int):Array Value:=(.bool m :: (h.map w32V ++ (wt.map byteV ++ [.int .i64 n]))).toArray
theorem f0k (m:Bool) (h:List UInt32) (wt:List UInt8) (n:Int) (h1:h.length=8) (h2:wt.length=64):(stC m h wt n).size=74:=by simp [stC,h1,h2]
theorem stC_m (m:Bool) (h:List UInt32) (wt:List UInt8) (n:Int):(stC m h wt n)[0]? = some (.bool m):=by simp [stC]
theorem stC_h (m:Bool) (h:List UInt32) (wt:List UInt8) (n:Int) (h1:h.length=8) (i:Nat) (hi:i < 8):(stC m h wt n)[1+i]? = some (.int .u32 ((gW h i).toNat:Int)):=by
 simp only [stC,List.getElem?_toArray];rw [Nat.add_comm 1 i,List.getElem?_cons_succ,List.getElem?_append_left (by simp;omega),List.getElem?_map,List.getElem?_eq_getElem (by omega)]
 simp [w32V,gW,List.getD,List.getElem?_eq_getElem (show i < h.length by omega)]
theorem stC_n (m:Bool) (h:List UInt32) (wt:List UInt8) (n:Int) (h1:h.length=8) (h2:wt.length=64):(stC m h wt n)[73]? = some (.int .i64 n):=by
 simp only [stC,List.getElem?_toArray];rw [show 73=(8+64)+1 by omega,List.getElem?_cons_succ,List.getElem?_append_right (by simp;omega),List.getElem?_append_right (by simp;omega)]
 simp [h1,h2]
theorem o0R (m:Bool) (h:List UInt32) (wt:List UInt8) (n:Int) (h1:h.length=8) (i:Nat) (hi:i < 8) (x:UInt32):(stC m h wt n).setIfInBounds (1+i) (.int .u32 (x.toNat:Int))=stC m (h.set i x) wt n:=by
 apply Array.ext'
 simp only [stC,Array.toList_setIfInBounds];rw [Nat.add_comm 1 i,List.set_cons_succ,List.set_append_left _ _ (by simp;omega),List.map_set]
 rfl
theorem n0W (m:Bool) (h:List UInt32) (wt:List UInt8) (n k:Int) (h1:h.length=8) (h2:wt.length=64):(stC m h wt n).setIfInBounds 73 (.int .i64 k)=stC m h wt k:=by
 apply Array.ext'
 simp only [stC,Array.toList_setIfInBounds];rw [show 73=(8+64)+1 by omega,List.set_cons_succ,List.set_append_right _ _ (by simp;omega),List.set_append_right _ _ (by simp;omega)]
 simp [h1,h2]
theorem n0m (m:Bool) (h:List UInt32) (wt:List UInt8) (n:Int) (h1:h.length=8):((stC m h wt n).toList.drop 1).take 8=h.map w32V:=by
 simp only [stC];rw [List.drop_succ_cons,List.drop_zero,List.take_append_of_le_length (by simp;omega),List.take_of_length_le (by simp;omega)]
theorem o0P (m:Bool) (h:List UInt32) (wt:List UInt8) (n:Int) (h1:h.length=8) (h2:wt.length=64):((stC m h wt n).toList.drop 9).take 64=wt.map byteV:=by
 simp only [stC];rw [show 9=8+1 by omega,List.drop_succ_cons,List.drop_append_of_le_length (by simp;omega),List.drop_of_length_le (by simp;omega),List.nil_append,List.take_append_of_le_length (by simp;omega),List.take_of_length_le (by simp;omega)]

def ShSt (w:World) (g:Nat) (m:Bool) (h:List UInt32) (wt:List UInt8) (n:Int):Prop:=w.heap[g]? = some (.cells (stC m h wt n) 311 (0,0))∧h.length=8∧wt.length=64

def addTo (h v:List UInt32) (k:Nat):List UInt32:=(List.range 8).map fun j=>if j < k then gW h j+gW v j else gW h j
theorem c0F (h v:List UInt32) (k:Nat):(addTo h v k).length=8:=by simp [addTo]
theorem p0N (h v:List UInt32) (k:Nat) (hk:k < 8):gW (addTo h v k) k=gW h k:=by
 simp [addTo,gW,List.getD,List.getElem?_range hk]
theorem o0m (h v:List UInt32) (k:Nat):(addTo h v k).set k (gW h k+gW v k)=addTo h v (k+1):=by
 apply List.ext_getElem (by simp [addTo])
 intro i h1 h2;rw [List.getElem_set];simp only [addTo,List.getElem_map,List.getElem_range]
 by_cases e:k=i
 ·subst e;simp
 ·rw [if_neg e]
  by_cases h3:i < k
  ·rw [if_pos h3,if_pos (by omega)]
  ·rw [if_neg h3,if_neg (by omega)]
theorem m0Y (h v:List UInt32) (h8:h.length=8):addTo h v 0=h:=by
 apply List.ext_getElem (by simp [addTo,h8])
 intro i h1 h2
 simp [addTo,gW,List.getD,List.getElem?_eq_getElem h2]
theorem m0p (u v:V8):addTo u.list v.list 8=(addV u v).list:=rfl
theorem s0W (l:List UInt32):(l.map w32V).toArray.all (·.oneCell')=true:=by
 rw [← Array.all_toList];simp [w32V,Value.oneCell']

theorem Tryz.sizeB:(Tryz.prog.info? 309).map (·.size)=some 64:=by kernel_rfl
theorem Tryz.sizeBl (b:List UInt8) (h:b.length=64):(Tryz.prog.info? 309).map (·.size)=some (c8 b).size:=by rw [a0m,h];exact Tryz.sizeB

def cV (v:V8):Array Value:=#[.int .u32 v.a.toNat,.int .u32 v.b.toNat,.int .u32 v.c.toNat,.int .u32 v.d.toNat,.int .u32 v.e.toNat,.int .u32 v.f.toNat,.int .u32 v.g.toNat,.int .u32 v.h.toNat]
theorem cV_eq (v:V8):cV v=(v.list.map w32V).toArray:=rfl
theorem Tryz.sizeV (v:V8):(Tryz.prog.info? 219).map (·.size)=some (cV v).size:=by show _=some 8;exact Tryz.sizeH
theorem Tryz.sizeVl (v:V8):(Tryz.prog.info? 219).map (·.size)=some (v.list.map w32V).length:=by show _=some 8;exact Tryz.sizeH
theorem one_v (v:V8):(cV v).all (·.oneCell')=true:=by rw [cV_eq];exact s0W _

theorem m0P (x:UInt32):bits BinOp.xor IntKind.u32 IntKind.u32.max (x.toNat:Int)=((~~~x).toNat:Int):=by
 have e:IntKind.u32.max=(((4294967295:UInt32).toNat:Nat):Int):=by rfl
 rw [e,b0A]
 congr 2
theorem ch_t (e f g:UInt32):bits BinOp.xor IntKind.u32 (bits BinOp.and IntKind.u32 (e.toNat:Int) (f.toNat:Int)) (bits BinOp.and IntKind.u32 (bits BinOp.xor IntKind.u32 IntKind.u32.max (e.toNat:Int)) (g.toNat:Int))=((chF e f g).toNat:Int):=by
 rw [m0P,c0M,c0M,b0A];rfl
theorem maj_t (a b c:UInt32):bits BinOp.xor IntKind.u32 (bits BinOp.xor IntKind.u32 (bits BinOp.and IntKind.u32 (a.toNat:Int) (b.toNat:Int)) (bits BinOp.and IntKind.u32 (a.toNat:Int) (c.toNat:Int))) (bits BinOp.and IntKind.u32 (b.toNat:Int) (c.toNat:Int))=((majF a b c).toNat:Int):=by
 rw [c0M,c0M,c0M,b0A,b0A];rfl
theorem t0j (z a b c d e:UInt32):((z.toNat:Int)+((a.toNat:Int)+b.toNat+c.toNat+d.toNat+e.toNat)) % 4294967296=((z+(a+b+c+d+e)).toNat:Int):=by
 simp only [UInt32.toNat_add];omega
theorem t0d (a b c d e f g:UInt32):((a.toNat:Int)+b.toNat+c.toNat+d.toNat+e.toNat+f.toNat+g.toNat) % 4294967296=((a+b+c+d+e+f+g).toNat:Int):=by
 simp only [UInt32.toNat_add];omega
theorem q0q (R:V8) (kk ww:UInt32):((#[.int .u32 R.a.toNat,.int .u32 R.a.toNat,.int .u32 R.b.toNat,.int .u32 R.c.toNat,.int .u32 R.d.toNat,.int .u32 R.e.toNat,.int .u32 R.f.toNat,.int .u32 R.g.toNat]:Array Value).setIfInBounds 4
   (.int .u32 (((R.d.toNat:Int)+((R.h.toNat:Int)+(grtF R.e 6 11 25).toNat+(chF R.e R.f R.g).toNat+kk.toNat+ww.toNat)) % 4294967296))).setIfInBounds 0
   (.int .u32 (((R.h.toNat:Int)+(grtF R.e 6 11 25).toNat+(chF R.e R.f R.g).toNat+kk.toNat+ww.toNat+(grtF R.a 2 13 22).toNat+(majF R.a R.b R.c).toNat) % 4294967296))=cV (stepV kk ww R):=by
 rw [t0j,t0d];rfl
theorem n0u (w:World) (g:Nat) (m:Bool) (V:V8) (wt:List UInt8) (n:Int) (b:List UInt8) (hb:b.length=64) (hs:ShSt w g m V.list wt n) :
  Calls Tryz.prog 250 #[.pointer (some ⟨g,0,none⟩),.agg (c8 b)] w fun e w'=>e = .returned (.tuple #[])∧ShSt w' g m (compress V b).list wt n∧Keep (· = g) w w':=by
 have HB:=Lib.hid hb;clear hb;have HS:=Lib.hid hs;clear hs
 go_enter Tryz.func250,Tryz.ntmps250
 go_wp2_with (first | (refine wpList_load_row rfl _ _ rfl _ rfl _ (c8 b) _ _ (heap_alloc_new _ _) Tryz.underlying309 rfl (Tryz.sizeBl b HB.out) ?_))
 refine (i0P b HB.out _).mono ?_;rintro e w1 ⟨rfl,hb1⟩;go_wp2_with fail;refine (i0m _).mono ?_;rintro e w2 ⟨rfl,hb2⟩
 go_wp2_with ((refine a0a (t:=221) (old:=cW 64 []) rfl 221 (.tmp 4) (.tmp 14) rfl w2.heap.size (cW 64 (schedTo b 64)) rfl rfl ((heap_alloc2_old _ _ _).trans (by kernel_rfl)) (Tryz.sizeS b 64 (Nat.le_refl _)) (by rw [k0p _ _ (by simp),f0z b 64 (Nat.le_refl _)]) (one_w _ _) ?_))
 intro w3 h3 k3 z3;have h4:w3.heap[w2.heap.size+1]? = some (.cells (cW 64 []) 221 (0,0)):=k3.at ((heap_alloc2_new _ _ _).trans (by kernel_rfl)) (by simp);replace k3:Below w2.heap.size w2 w3:=((((Below.refl _ _).alloc (Nat.le_refl _) _).alloc (by simp) _).trans (k3.below (B:=w2.heap.size) (by intro k hk e;omega) (by simp;omega)));replace z3:w3.heap.size=w2.heap.size+2:=z3.trans (by simp);have Z3:=Lib.hid z3;clear z3
 go_wp2_with ((refine a0a (t:=221) (old:=cW 64 []) rfl 221 (.tmp 5) (.tmp 15) rfl (w2.heap.size+1) (cW 64 conK) rfl rfl h4 (Tryz.sizeCon) (by kernel_rfl) (one_w _ _) ?_))
 intro w4 h5 k4 z4;have h6:w4.heap[w2.heap.size]? = some (.cells (cW 64 (schedTo b 64)) 221 (0,0)):=k4.at h3 (by omega);have hb0:Below w.heap.size w w4:=(boxed1 hb1).1.trans ((hb2.mono ((boxed1 hb1).1.size)).trans ((k3.mono (Nat.le_trans (boxed1 hb1).1.size hb2.size)).trans (k4.below (B:=w.heap.size) (by intro k hk e;have:=(boxed1 hb1).1.size;have:=hb2.size;omega) (by have:=(boxed1 hb1).1.size;have:=hb2.size;have:=Z3.out;omega))));have hB1:w.heap.size≤w2.heap.size:=Nat.le_trans (boxed1 hb1).1.size hb2.size;replace z4:w4.heap.size=w2.heap.size+2:=by rw [z4,Z3.out]
 have HS4:Hid (ShSt w4 g m V.list wt n):=Lib.hid ⟨(hb0.block g (a0b HS.out.1)).trans HS.out.1,HS.out.2⟩;have hg:g < w.heap.size:=a0b HS.out.1;have Z4:=Lib.hid z4;clear z4 k4 h4 Z3 k3 h3 hb1 hb2
 go_wp2_with (first
  | (refine wpList_load_mid rfl _ _ rfl g 1 rfl (V.list.map w32V) _ (a0C HS4.out.1 1 _ (n0m _ _ _ _ rfl)) Tryz.underlying219 rfl (Tryz.sizeVl V) ?_)
  | (refine a0a (t:=219) (old:=cW 8 []) rfl 219 (.tmp 6) (.tmp 19) rfl w4.heap.size (cV V) rfl rfl ((heap_alloc_new _ _).trans (by kernel_rfl)) (Tryz.sizeV V) (by kernel_rfl) (one_v V) ?_))
 intro w5 h7 k7 z7;have h8:w5.heap[w2.heap.size]? = some (.cells (cW 64 (schedTo b 64)) 221 (0,0)):=k7.at ((Below.heap_alloc _ _ _ (a0b h6)).trans h6) (by have:=a0b h6;omega);have h9:w5.heap[w2.heap.size+1]? = some (.cells (cW 64 conK) 221 (0,0)):=k7.at ((Below.heap_alloc _ _ _ (a0b h5)).trans h5) (by have:=a0b h5;omega);have hb5:Below w.heap.size w w5:=(hb0.alloc (by have:=a0b h6;omega) _).trans (k7.below (B:=w.heap.size) (by intro k hk e;have:=a0b h6;omega) (by have:=a0b h6;simp;omega));have hBD:w2.heap.size+1 < w4.heap.size:=a0b h5;have hD:w4.heap.size < w5.heap.size:=a0b h7;clear h5 h6 hb0 HS4 z7 k7 Z4
 generalize w2.heap.size=B at *
 generalize w4.heap.size=D at *
 go_wp2_with fail
 go_loopw [7,8,9,10,20] (fun _ _ _ _ i wr=>∃ k:Nat,k≤64∧i = .int .i64 k∧wr.heap[D]? = some (.cells (cV (roundsTo (schedTo b 64) V k)) 219 (0,0))∧wr.heap[B]? = some (.cells (cW 64 (schedTo b 64)) 221 (0,0))∧wr.heap[B+1]? = some (.cells (cW 64 conK) 221 (0,0))∧Below w.heap.size w wr) (fun _ _ _ _ i _=>64 - (intOf i).toNat)
 case atStart=>exact ⟨0,by omega,rfl,h7,h8,h9,hb5⟩
 case round=>
  clear h7 h8 h9 hb5;obtain ⟨k,hk,rfl,h7,h8,h9,hb5⟩:=hrel
  by_cases hlt:k < 64
  ·generalize hR:roundsTo (schedTo b 64) V k=R at *
   have HR:=Lib.hid hR;clear hR;have d0:=Lib.cell_of_heap h7 0;have d1:=Lib.cell_of_heap h7 1;have d2:=Lib.cell_of_heap h7 2;have d3:=Lib.cell_of_heap h7 3;have d4:=Lib.cell_of_heap h7 4;have d5:=Lib.cell_of_heap h7 5;have d6:=Lib.cell_of_heap h7 6;have d7:=Lib.cell_of_heap h7 7;simp only [cV,List.getElem?_toArray,List.getElem?_cons_zero,List.getElem?_cons_succ] at d0 d1 d2 d3 d4 d5 d6 d7;have kw:=Lib.cell_of_heap h8 k;have kk:=Lib.cell_of_heap h9 k;rw [cW_at _ _ _ (by rw [a0n];omega)] at kw;rw [cW_at _ _ _ (show k < conK.length from hlt)] at kk;have H7:=Lib.hid h7;have H8:=Lib.hid h8;have H9:=Lib.hid h9;have HB5:=Lib.hid hb5;clear h7 h8 h9 hb5;have j0:(k:Int) < 64:=by omega
   have hu:IntKind.u32.signed=false:=rfl;have hch:=ch_t R.e R.f R.g;have hmj:=maj_t R.a R.b R.c;go_wp2_with fail
   go_quiet ((go_at_call 265;(with_reducible exact Calls.quiet_of (i0W R.e 6 11 25 _ (by omega) (by omega) (by omega) (by omega) (by omega) (by omega)))))
   go_wp2_with fail;refine b0S 2 (by kernel_rfl) (by kernel_rfl) fun w6 hw6=>?_
   simp only [List.take_succ_cons,List.take_zero,List.drop_succ_cons,List.drop_zero];have g7:w6.heap[D]? = some (.cells (cV R) 219 (0,0)):=by rw [hw6];exact H7.out
   have g8:Keep (fun _=>False) wr w6:=by rw [hw6];exact ((Keep.refl _ _).drewN _).drew
   clear hw6;have G7:=Lib.hid g7;have G8:=Lib.hid g8;clear g7 g8
   repeat still_step
   refine wpStill_nil ?_;refine b0b rfl _ _ _ _ rfl 218 (by kernel_rfl) (by kernel_rfl) D 1 7 7 ⟨D,0,none⟩ 7 8 rfl rfl (cV R) 219 G7.out [.int .u32 R.a.toNat,.int .u32 R.b.toNat,.int .u32 R.c.toNat,.int .u32 R.d.toNat,.int .u32 R.e.toNat,.int .u32 R.f.toNat,.int .u32 R.g.toNat] rfl ?c1 (by show 1+7≤8;omega) ?c2 #[.int .u32 R.a.toNat,.int .u32 R.a.toNat,.int .u32 R.b.toNat,.int .u32 R.c.toNat,.int .u32 R.d.toNat,.int .u32 R.e.toNat,.int .u32 R.f.toNat,.int .u32 R.g.toNat] rfl 7 rfl ?_
   case c1=>
    intro j v hj;rw [Addr.add_mid,Nat.zero_add,Lib.cell_of_heap G7.out];have hj7:j < 7:=(List.getElem?_eq_some_iff.1 hj).1;rw [← hj]
    match j,hj7 with
    | 0,_=>rfl
    | 1,_=>rfl
    | 2,_=>rfl
    | 3,_=>rfl
    | 4,_=>rfl
    | 5,_=>rfl
    | 6,_=>rfl
   case c2=>intro v hv;simp only [List.mem_cons,List.not_mem_nil,or_false] at hv;rcases hv with rfl | rfl | rfl | rfl | rfl | rfl | rfl<;>rfl
   intro w7 r7 r8 r9;have q0:=Lib.cell_of_heap r7 0;have q1:=Lib.cell_of_heap r7 1;have q4:=Lib.cell_of_heap r7 4;simp only [List.getElem?_toArray,List.getElem?_cons_zero,List.getElem?_cons_succ] at q0 q1 q4;have f0:w7.frozen? ⟨D,0,none⟩=false:=Lib.frozen_of_heap r7 0;have f4:w7.frozen? ⟨D,4,none⟩=false:=Lib.frozen_of_heap r7 4;have hb7:Below w.heap.size w w7:=HB5.out.trans ((G8.out.below (B:=w.heap.size) (by intro k hk e;exact e) HB5.out.size).trans (r8.below (by intro k hk e;omega) (Nat.le_trans HB5.out.size G8.out.size)));have hc7:w7.heap[B]? = some (.cells (cW 64 (schedTo b 64)) 221 (0,0)):=r8.at (G8.out.at H8.out (fun e=>e)) (by omega);have hd7:w7.heap[B+1]? = some (.cells (cW 64 conK) 221 (0,0)):=r8.at (G8.out.at H9.out (fun e=>e)) (by omega);have R7:=Lib.hid r7;have HB7:=Lib.hid hb7;have HC7:=Lib.hid hc7;have HD7:=Lib.hid hd7;clear r7 r8 r9 hb7 hc7 hd7 G7 G8 H7 H8 H9 HB5;go_wp2_with fail;refine (i0W R.a 2 13 22 _ (by omega) (by omega) (by omega) (by omega) (by omega) (by omega)).mono ?_;rintro e w8 ⟨rfl,nq8,rfl⟩;go_wp2_with fail;refine ⟨?rel,?measure⟩
   case rel=>
    refine ⟨k+1,by omega,by go_num,?_,?_,?_,?_⟩
    ·refine (heap_setCell_same _ _ _ _ _ _ (show (((w7.setCell ⟨D,4,none⟩ _).drewN nq8).heap[D]? = _) from heap_setCell_same _ _ _ _ _ _ R7.out)).trans (congrArg (fun x=>some (Obj.cells x _ _)) ?_);rw [q0q,roundsTo,HR.out];rfl
    ·exact (heap_setCell_other _ _ _ _ (by simp;omega)).trans ((heap_setCell_other _ _ _ _ (by simp;omega)).trans HC7.out)
    ·exact (heap_setCell_other _ _ _ _ (by simp;omega)).trans ((heap_setCell_other _ _ _ _ (by simp;omega)).trans HD7.out)
    ·exact (below_drewN (HB7.out.setCell (p:=⟨D,4,none⟩) (by simp;omega) _) _).setCell (p:=⟨D,0,none⟩) (by simp;omega) _
   case measure=>simp [intOf];omega
  ·obtain rfl:k=64:=by omega
   generalize hR:roundsTo (schedTo b 64) V 64=R at *
   have HR:=Lib.hid hR;clear hR;have H7:=Lib.hid h7;have HB5:=Lib.hid hb5;clear h7 h8 h9 hb5
   go_wp2_with (first | (refine wpList_load_row rfl _ _ rfl D rfl _ (cV R) _ _ H7.out Tryz.underlying219 rfl (Tryz.sizeV R) ?_))
   have HS6:Hid (ShSt wr g m V.list wt n):=Lib.hid ⟨(HB5.out.block g hg).trans HS.out.1,HS.out.2⟩
   go_loopw [11,12,86] (fun _ _ i wq=>∃ k:Nat,k≤8∧i = .int .i64 k∧ShSt wq g m (addTo V.list R.list k) wt n∧Keep (· = g) w wq) (fun _ _ i _=>8 - (intOf i).toNat)
   case atStart=>exact ⟨0,by omega,rfl,by rw [m0Y _ _ rfl];exact HS6.out,Keep.of_below HB5.out⟩
   case round=>
    obtain ⟨k,hk,rfl,hst,hkp⟩:=hrel
    by_cases hlt:k < 8
    ·have j0:(k:Int) < 8:=by omega
     have hix:∀ w,(Instr.index 219 (.agg (cV R)) (.int .i64 (k:Int))).run Tryz.prog w = .ok (.int .u32 ((gW R.list k).toNat:Int)) w:=fun w=>
      m0C w Tryz.underlying219 Tryz.underlying218 (by kernel_rfl) (cV R) k hlt _ (by
       match k,hlt with
       | 0,_=>rfl
       | 1,_=>rfl
       | 2,_=>rfl
       | 3,_=>rfl
       | 4,_=>rfl
       | 5,_=>rfl
       | 6,_=>rfl
       | 7,_=>rfl)
     have HST:=Lib.hid hst;have HKP:=Lib.hid hkp;clear hst hkp;go_wp2_with fail;refine b0S 11 (by kernel_rfl) (by kernel_rfl) fun w6 hw6=>?_
     simp only [List.take_succ_cons,List.take_zero,List.drop_succ_cons,List.drop_zero];have g7:ShSt w6 g m (addTo V.list R.list k) wt n:=by rw [hw6];exact HST.out
     have g8:Keep (· = g) w w6:=by rw [hw6];exact HKP.out.drew
     clear hw6;have G7:=Lib.hid g7;have G8:=Lib.hid g8;clear g7 g8;have q:=Lib.cell_of_heap G7.out.1 (1+k);rw [stC_h _ _ _ _ (c0F _ _ _) k hlt,p0N _ _ _ hlt] at q;have f:w6.frozen? ⟨g,1+k,none⟩=false:=Lib.frozen_of_heap G7.out.1 _
     repeat still_step
     refine wpStill_nil ?_;go_wp2_with fail
     go_roundw
     case rel=>
      refine ⟨k+1,by omega,by go_num,⟨(heap_setCell_same _ _ _ _ _ _ G7.out.1).trans (congrArg (fun x=>some (Obj.cells x _ _)) ?_),c0F _ _ _,HS.out.2.2⟩,G8.out.setCell (p:=⟨g,1+k,none⟩) (.inl rfl) _⟩;rw [d0h,o0R _ _ _ _ (c0F _ _ _) k hlt,o0m]
     case measure=>simp [intOf];omega
    ·obtain rfl:k=8:=by omega
     have HST:=Lib.hid hst;have HKP:=Lib.hid hkp;clear hst hkp;go_wp2_with fail
     go_end0
     refine ⟨rfl,?_,HKP.out⟩;have:=HST.out
     rwa [m0p,← HR.out] at this
end
section
set_option maxHeartbeats 1000000
set_option maxRecDepth 100000
open Go.RowKit

theorem p0z (L M:List UInt8):∀ k,64*k≤L.length→hTo (L ++ M) k=hTo L k:=by
 intro k
 induction k with
 | zero=>intro _;rfl
 | succ k ih=>
  intro h;rw [hTo,hTo,ih (by omega),List.drop_append_of_le_length (by omega),List.take_append_of_le_length (by simp;omega)]
def StM (w:World) (g:Nat) (L:List UInt8):Prop:=∃ wt:List UInt8,ShSt w g true (hTo L (L.length / 64)).list wt L.length∧wt.take (L.length % 64)=L.drop (64*(L.length / 64))
def waitTo (wt:List UInt8) (r:Nat) (c:List UInt8):List UInt8:=wt.take r ++ (c ++ wt.drop (r+c.length))
theorem i0k (wt:List UInt8) (r:Nat) (c:List UInt8) (h:wt.length=64) (hc:r+c.length≤64):(waitTo wt r c).length=64:=by
 simp [waitTo];omega
theorem o0e (L c wt:List UInt8) (_:wt.length=64) (h:wt.take (L.length % 64)=L.drop (64*(L.length / 64))) (hc:L.length % 64+c.length=64) :
  compress (hTo L (L.length / 64)) (waitTo wt (L.length % 64) c)=hTo (L ++ c) ((L ++ c).length / 64):=by
 have e:(L ++ c).length / 64=L.length / 64+1:=by rw [List.length_append];omega
 rw [e,hTo,p0z _ _ _ (by omega)]
 congr 1
 rw [waitTo,h,List.drop_of_length_le (i:=L.length % 64+c.length) (by omega),List.append_nil,List.drop_append_of_le_length (by omega),List.take_of_length_le]
 simp;omega
theorem n0B (L c wt:List UInt8) (h:wt.take (L.length % 64)=L.drop (64*(L.length / 64))) (_:wt.length=64) (hc:L.length % 64+c.length < 64) :
  hTo L (L.length / 64)=hTo (L ++ c) ((L ++ c).length / 64)∧(waitTo wt (L.length % 64) c).take ((L ++ c).length % 64)=(L ++ c).drop (64*((L ++ c).length / 64)):=by
 have e:(L ++ c).length / 64=L.length / 64:=by rw [List.length_append];omega
 have e2:(L ++ c).length % 64=L.length % 64+c.length:=by rw [List.length_append];omega
 rw [e,e2,p0z _ _ _ (by omega)];refine ⟨rfl,?_⟩;rw [waitTo,h,← List.append_assoc,List.take_append_of_le_length (by simp;omega),List.take_of_length_le (by simp;omega),List.drop_append_of_le_length (by omega)]
theorem m0o (m:Bool) (h:List UInt32) (wt:List UInt8) (n:Int) (h1:h.length=8) (h2:wt.length=64) (r:Nat) (c:List UInt8) (hc:r+c.length≤64) :
  ((stC m h wt n).toList.take (9+r) ++ (c.map byteV ++ (stC m h wt n).toList.drop (9+r+(c.map byteV).length))).toArray=stC m h (waitTo wt r c) n:=by
 apply Array.ext'
 simp only [stC,waitTo,List.length_map];rw [show 9+r=(8+r)+1 by omega,show 8+r+1+c.length=(8+(r+c.length))+1 by omega,List.take_succ_cons,List.drop_succ_cons,
  List.take_append,List.drop_append,List.take_append,List.drop_append]
 simp only [List.length_map,h1,h2];rw [List.take_of_length_le (l:=h.map w32V) (by simp;omega),List.drop_of_length_le (l:=h.map w32V) (by simp;omega),show 8+r - 8=r by omega,show 8+(r+c.length) - 8=r+c.length by omega,show r - 64=0 by omega,show r+c.length - 64=0 by omega]
 simp

def lenOf:Value→Nat | .slice _ n _=>n | _=>0
theorem q0c {w:World} {g:Nat} {M C wt:List UInt8} {n:Int} (hst:ShSt w g true (compress (hTo M (M.length / 64)) (waitTo wt (M.length % 64) C)).list (waitTo wt (M.length % 64) C) n) (hn:n=(M.length:Int)+C.length)
  (hw:wt.length=64) (h:wt.take (M.length % 64)=M.drop (64*(M.length / 64))) (hc:M.length % 64+C.length=64):StM w g (M ++ C):=by
 rw [o0e M C wt hw h hc] at hst;subst hn;refine ⟨_,by rw [List.length_append,Int.natCast_add] ;rwa [List.length_append] at hst,?_⟩;rw [List.length_append,show (M.length+C.length) % 64=0 by omega,List.drop_of_length_le (by rw [List.length_append];omega)]
 rfl
theorem q0e {w:World} {g:Nat} {M C wt:List UInt8} {n:Int} (hst:ShSt w g true (hTo M (M.length / 64)).list (waitTo wt (M.length % 64) C) n) (hn:n=(M.length:Int)+C.length)
  (hw:wt.length=64) (h:wt.take (M.length % 64)=M.drop (64*(M.length / 64))) (hc:M.length % 64+C.length < 64):StM w g (M ++ C):=by
 have:=n0B M C wt h hw hc;rw [this.1] at hst;subst hn
 exact ⟨_,by rw [show ((M ++ C).length:Int)=(M.length:Int)+C.length by rw [List.length_append];rfl];exact hst,this.2⟩
theorem Rd.lenOf_eq {α:Type} {w:World} {enc:α→List Value} {sz:Nat} {v:Value} {l:List α} (h:Rd w enc sz v l):lenOf v=l.length:=by
 obtain ⟨ad,cap,rfl,_⟩:=h;rfl
theorem g0k (w:World) (g:Nat) (L b:List UInt8) (v:Value) (hb:Rd w u8E 1 v b) (hs:StM w g L) (hg:∀ k,v.ownBlock=some k→b≠[]→k≠g) (hlen:L.length+b.length < 4611686018427387904) :
  Calls Tryz.prog 225 #[.pointer (some ⟨g,0,none⟩),v] w fun e w'=>e = .returned (.tuple #[])∧StM w' g (L ++ b)∧Keep (· = g) w w':=by
 have HB:=Lib.hid hb;clear hb;have HS:=Lib.hid hs;clear hs;have HG:=Lib.hid hg;clear hg;have him:w.cell? ⟨g,0,none⟩=some (.bool true):=by
  obtain ⟨wt,h,_⟩:=HS.out;rw [Lib.cell_of_heap h.1];exact stC_m _ _ _ _
 go_enter Tryz.func225,Tryz.ntmps225
 go_wp2_with fail;refine (is_at _ _ _ him).mono ?_;rintro e w1 ⟨rfl,rfl⟩;clear him;go_wp2_with fail
 go_loopw [1,4] (fun x _ wr=>∃ j:Nat,j≤b.length∧Rd wr u8E 1 x (b.drop j)∧(∀ k,x.ownBlock=some k→b≠[]→k≠g)∧StM wr g (L ++ b.take j)∧Keep (· = g) w wr) (fun x _ _=>lenOf x)
 case atStart=>exact ⟨0,by omega,HB.out,HG.out,by simpa using HS.out,Keep.refl _ _⟩
 case round=>
  obtain ⟨j,hj,hx,hxg,hst,hkp⟩:=hrel;obtain ⟨ad,cap,rfl,hcap,hcap2⟩:=hx.shape;rw [List.length_drop] at *;have HX:=Lib.hid hx;have HXG:=Lib.hid hxg;have HST:=Lib.hid hst;have HKP:=Lib.hid hkp;clear hx hxg hst hkp
  by_cases hlt:j < b.length
  ·have l0:0 < b.length - j:=by omega
   have hne:b≠[]:=by intro e;rw [e] at hlt;simp at hlt
   have HNE:=Lib.hid hne;clear hne;have hM:(L ++ b.take j).length=L.length+j:=by simp;omega
   have hMb:L.length+j < 4611686018427387904:=by omega
   obtain ⟨M,hMe⟩:∃ M,M=L ++ b.take j:=⟨_,rfl⟩;rw [← hMe] at hM HST;obtain ⟨N,hN⟩:∃ N,N=M.length:=⟨_,rfl⟩;obtain ⟨r,hr⟩:∃ r,r=N % 64:=⟨_,rfl⟩;have e1:(N:Int) % 64=(r:Int):=by omega
   have e2:(N:Int).tmod 64=(r:Int):=by rw [Int.tmod_eq_emod_of_nonneg (by omega)];exact e1
   have r0:(r:Int)≤64:=by omega
   have r1:¬ (64=r):=by omega
   have n0:(0:Int)≤(N:Int):=by omega
   have hN2:N+(b.length - j) < 4611686018427387904:=by omega
   obtain ⟨wt,hst,hwt⟩:=HST.out;have q:=Lib.cell_of_heap hst.1 73;rw [stC_n _ _ _ _ hst.2.1 hst.2.2,← hN] at q;have HME:=Lib.hid hMe;have HM:=Lib.hid hM;have HN:=Lib.hid hN;have HR:=Lib.hid hr;have ST:=Lib.hid hst;have HWT:=Lib.hid hwt;clear hMe hM hN hr hst hwt;go_wp2_with fail;refine b0S 10 (by kernel_rfl) (by kernel_rfl) fun w6 hw6=>?_
   simp only [List.take_succ_cons,List.take_zero,List.drop_succ_cons,List.drop_zero];have g7:ShSt w6 g true (hTo M (M.length / 64)).list wt M.length:=by rw [hw6];exact ST.out
   have g8:Keep (· = g) w w6:=by rw [hw6];exact HKP.out.drew
   have g9:Rd w6 u8E 1 (.slice ad (b.length - j) cap) (b.drop j):=by rw [hw6];exact HX.out.keep (Keep.refl (fun _=>False) _).drew (fun _ _ _ e=>e)
   replace q:w6.cell? ⟨g,73,none⟩=some (.int .i64 (N:Int)):=by rw [hw6];exact q
   clear hw6;have G7:=Lib.hid g7;have G8:=Lib.hid g8;have G9:=Lib.hid g9;clear g7 g8 g9 HX ST HKP
   repeat still_step
   refine wpStill_nil ?_;obtain ⟨c,hc⟩:∃ c,c=min (b.length - j) (64 - r):=⟨_,rfl⟩;have hc1:c≤b.length - j:=by omega
   have hc2:r+c≤64:=by omega
   have hc3:0 < c:=by omega
   have hC:((b.drop j).take c).length=c:=by simp;omega
   obtain ⟨sb,rfl⟩:∃ sb,ad=some sb:=by
    obtain ⟨x,y,h4,_⟩:=G9.out.ptr (by simp;omega)
    exact ⟨_,h4⟩
   have HC:=Lib.hid hC;have HCE:=Lib.hid hc;clear hC hc;refine b0b rfl _ _ _ _ rfl 5 (by kernel_rfl) (by kernel_rfl) g (9+r) (64 - r) (64 - r) sb (b.length - j) cap rfl rfl (stC true (hTo M (M.length / 64)).list wt M.length) 311 G7.out.1 (((b.drop j).take c).map byteV) ?c0 (G9.out.src (fun _=>rfl) c) ?c1 ?c2 (stC true (hTo M (M.length / 64)).list (waitTo wt r ((b.drop j).take c)) M.length) (m0o _ _ _ _ rfl G7.out.2.2 _ _ (by rw [HC.out];exact hc2)) (c:Int) ?c3 ?_
   case c0=>rw [List.length_map,HC.out,HCE.out]
   case c1=>rw [List.length_map,HC.out,f0k _ _ _ _ rfl G7.out.2.2];omega
   case c2=>intro v hv;simp only [List.mem_map] at hv;obtain ⟨x,_,rfl⟩:=hv;rfl
   case c3=>rw [List.length_map,HC.out]
   intro w7 h7 k7 z7;have hw7:(waitTo wt r ((b.drop j).take c)).length=64:=i0k _ _ _ G7.out.2.2 (by rw [HC.out];exact hc2);have hrd7:Rd w7 u8E 1 (.slice (some sb) (b.length - j) cap) (b.drop j):=G9.out.keep k7 (fun k hk _=>HXG.out k hk HNE.out);obtain ⟨v',hsl,hv',hvb⟩:=hrd7.from (P:=Tryz.prog) Tryz.underlying122 (by kernel_rfl) c (by rw [List.length_drop];omega);have q:=Lib.cell_of_heap h7 73;rw [stC_n _ _ _ _ rfl hw7,← HN.out] at q;have K7:Hid (Keep (· = g) w w7):=Lib.hid (G8.out.then k7 (fun x hx=>.inl hx));have H7:=Lib.hid h7;have HW7:=Lib.hid hw7;have HV':=Lib.hid hv';have HVB:=Lib.hid hvb;have Z7:=Lib.hid z7;have HS8:=G7;clear h7 k7 z7 hw7 hrd7 hv' hvb G7 G8 G9
   go_wp2_with ((refine a0h rfl _ _ _ rfl g 73 (.int .i64 ((N:Int)+(c:Int))) rfl rfl rfl rfl 311 _ H7.out (by kernel_rfl) (by rw [f0k _ _ _ _ rfl HW7.out];omega) _ (n0W _ _ _ _ _ rfl HW7.out) ?_))
   intro w8 h8 k8 z8;have q8:=Lib.cell_of_heap h8 73;rw [stC_n _ _ _ _ rfl HW7.out] at q8;have hrd8:Rd w8 u8E 1 v' ((b.drop j).drop c):=HV'.out.keep k8 (fun k hk _=>HXG.out k (HVB.out k hk) HNE.out);have K8:Hid (Keep (· = g) w w8):=Lib.hid (K7.out.then k8 (fun x hx=>.inl hx));have H8:=Lib.hid h8;have RD8:=Lib.hid hrd8;clear h8 k8 z8 q hrd8 H7 K7 Z7 HV';have hjc:L ++ b.take (j+c)=M ++ (b.drop j).take c:=by rw [HME.out,List.append_assoc,← List.take_add]
   have HJC:=Lib.hid hjc;clear hjc
   by_cases hfull:r+c=64
   ·have e8:((N:Int)+(c:Int)) % 64=0:=by omega
    have HF:=Lib.hid hfull;clear hfull
    go_wp2_with (first | (refine wpList_load_mid rfl _ _ rfl g 9 rfl ((waitTo wt r ((b.drop j).take c)).map byteV) _ (a0C H8.out 9 _ (by rw [List.length_map,HW7.out];exact o0P _ _ _ _ rfl HW7.out)) Tryz.underlying309 rfl (by rw [List.length_map,HW7.out];kernel_rfl) ?_))
    refine (n0u w8 g true (hTo M (M.length / 64)) _ ((N:Int)+(c:Int)) _ HW7.out ⟨H8.out,rfl,HW7.out⟩).mono ?_;rintro e w9 ⟨rfl,hst9,hk9⟩;have hrd9:Rd w9 u8E 1 v' ((b.drop j).drop c):=RD8.out.keep hk9 (fun k hk _=>HXG.out k (HVB.out k hk) HNE.out);have K9:Hid (Keep (· = g) w w9):=Lib.hid (K8.out.then hk9 (fun x hx=>.inl hx));have HST9:=Lib.hid hst9;have RD9:=Lib.hid hrd9;clear hst9 hk9 hrd9;go_wp2_with fail
    go_roundw
    case rel=>
     refine ⟨j+c,by omega,by rw [List.drop_drop] at RD9;exact RD9.out,fun k hk=>HXG.out k (HVB.out k hk),?_,K9.out⟩;rw [HJC.out];have hr2:r=M.length % 64:=by rw [HR.out,HN.out]
     rw [hr2] at HST9
     exact q0c HST9.out (by rw [HN.out,HC.out]) HS8.out.2.2 HWT.out (by rw [HC.out,← hr2];exact HF.out)
    case measure=>
     rw [RD9.out.lenOf_eq]
     simp [lenOf]
     omega
   ·have e8:¬ ((N:Int)+(c:Int)) % 64=0:=by omega
    go_wp2_with fail
    go_roundw
    case rel=>
     refine ⟨j+c,by omega,by rw [List.drop_drop] at RD8;exact RD8.out,fun k hk=>HXG.out k (HVB.out k hk),?_,K8.out⟩;rw [HJC.out];have hr2:r=M.length % 64:=by rw [HR.out,HN.out]
     rw [hr2] at H8
     exact q0e (n:=(N:Int)+(c:Int)) ⟨H8.out,rfl,by rw [← hr2];exact HW7.out⟩ (by rw [HN.out,HC.out]) HS8.out.2.2 HWT.out (by rw [HC.out,← hr2];omega)
    case measure=>
     rw [RD8.out.lenOf_eq]
     simp [lenOf]
     omega
  ·have l0:b.length - j=0:=by omega
   obtain rfl:j=b.length:=by omega
   go_wp2_with fail
   go_end0
   exact ⟨rfl,by have:=HST.out;rwa [List.take_length] at this,HKP.out⟩
end
section
set_option maxHeartbeats 1000000
set_option maxRecDepth 100000
open Go.RowKit

theorem p0H:cW 8 begV.list=cV begV:=rfl
theorem p0S (w:World):Calls Tryz.prog 248 #[] w (Ret w (.agg (cV begV))):=by
 rw [← p0H];exact o0G w
def NewSt (w:World) (L:List UInt8) (e:Ending) (w':World):Prop:=∃ g,e = .returned (.pointer (some ⟨g,0,none⟩))∧w.heap.size≤g∧StM w' g L∧Below w.heap.size w w'
theorem s0z {w:World} {g:Nat} (h:w.heap[g]? = some (.cells (stC true begV.list (List.replicate 64 0) 0) 311 (0,0))):StM w g []:=⟨_,⟨h,rfl,by simp⟩,rfl⟩

theorem q0A:(Array.foldl (fun cs x=>cs.setIfInBounds (1+x.snd) x.fst) (Tryz.zeroCells311.setIfInBounds 0 (Value.bool true)) (cV begV).zipIdx 0 (cV begV).size)=stC true begV.list (List.replicate 64 0) 0:=by kernel_rfl
theorem s0G (w:World):Calls Tryz.prog 224 #[] w (NewSt w []):=by
 go_enter Tryz.func224,Tryz.ntmps224
 go_wp2_with fail;refine (p0S _).mono ?_;rintro e w1 ⟨rfl,hb1⟩;go_wp2_with fail;rw [q0A]
 go_ret
 exact ⟨_,rfl,hb1.size,s0z (heap_alloc_new _ _),hb1.alloc hb1.size _⟩

theorem Tryz.sizeSt (h:List UInt32) (m:Bool) (wt:List UInt8) (n:Int) (h1:h.length=8) (h2:wt.length=64):(Tryz.prog.info? 311).map (·.size)=some (stC m h wt n).size:=by
 rw [f0k _ _ _ _ h1 h2];kernel_rfl
theorem t0k (m:Bool) (h:List UInt32) (wt:List UInt8) (n:Int):(stC m h wt n).all (·.oneCell')=true:=by
 rw [stC,← Array.all_toList]
 simp [w32V,byteV,Value.oneCell',List.all_append]
theorem k0O {w:World} {g:Nat} {L:List UInt8} (h:StM w g L):w.cell? ⟨g,0,none⟩=some (.bool true):=by
 obtain ⟨wt,h,_⟩:=h;rw [Lib.cell_of_heap h.1];exact stC_m _ _ _ _

theorem q0h (w:World) (g:Nat) (L:List UInt8) (hs:StM w g L):Calls Tryz.prog 251 #[.pointer (some ⟨g,0,none⟩)] w (NewSt w L):=by
 have him:=k0O hs;obtain ⟨wt,hst,hwt⟩:=hs;have HST:=Lib.hid hst;have HWT:=Lib.hid hwt;clear hst hwt
 go_enter Tryz.func251,Tryz.ntmps251
 go_wp2_with fail;refine (is_at _ _ _ him).mono ?_;rintro e w1 ⟨rfl,rfl⟩
 go_wp2_with (first
  | (refine wpList_load_row rfl _ _ rfl g rfl _ (stC true (hTo L (L.length / 64)).list wt L.length) _ _ HST.out.1 Tryz.underlying311 rfl (Tryz.sizeSt _ _ _ _ rfl HST.out.2.2) ?_)
  | (refine a0a (t:=311) (old:=stC false (List.replicate 8 0) (List.replicate 64 0) 0) rfl 311 (.tmp 3) (.tmp 9) rfl w.heap.size (stC true (hTo L (L.length / 64)).list wt L.length) rfl rfl ((heap_alloc_new _ _).trans (by kernel_rfl)) (Tryz.sizeSt _ _ _ _ rfl HST.out.2.2) (by rw [f0k _ _ _ _ rfl HST.out.2.2];kernel_rfl) (t0k _ _ _ _) ?_))
 intro w1 h1 k1 z1;have hb1:Below w.heap.size w w1:=((Below.refl _ _).alloc (Nat.le_refl _) _).trans (k1.below (B:=w.heap.size) (by intro k hk e;omega) (by simp));have H1:=Lib.hid h1;have HB1:=Lib.hid hb1;clear h1 k1 z1 hb1;go_wp2_with fail
 go_ret
 exact ⟨_,rfl,Nat.le_refl _,⟨wt,⟨H1.out,rfl,HST.out.2.2⟩,HWT.out⟩,HB1.out⟩
end
end Go.Proofs.YtakkfabaeolbdaaGreat
