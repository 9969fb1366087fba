/- Rows of hashes; merkle.ground. merkle.ground. merkle.pairs: its contract as an iterator. A slice of one element, built; an append that fits: as steps of a region. No condition. -/
import Derived.Test.YtakkfabaeolbdaaGreatCn12
import Derived.Test.YtakkfabaeolbdaaGreatCnReg
import Derived.Shelf.Abstract
import Derived.Shelf.RegionOpen
import Derived.WalkKit
import Derived.OwnWalkIn
import Derived.TacticsInMore
import Derived.LoopNIn
import Derived.LoopIn
import Derived.Test.YtakkfabaeolbdaaGreatCn2
import Derived.Great.BuildSlice
import Derived.Great.FillDense
namespace Go.Proofs.YtakkfabaeolbdaaGreat
section
open Go.RowKit

def hE (l:List UInt8):List Value:=(List.range 32).map fun i=>byteV (gB l i)
theorem b0U (l:List UInt8):(hE l).length=32:=by simp [hE]
theorem hE_32 (l:List UInt8) (h:l.length=32):hE l=l.map byteV:=by
 apply List.ext_getElem
 ·simp [hE,h]
 ·intro i h1 h2;simp only [hE,List.getElem_map,List.getElem_range,gB]
  congr 1
  rw [List.getD_eq_getElem?_getD,List.getElem?_eq_getElem (by simpa using h2)];rfl
theorem r0C (l:List UInt8):∀ u∈hE l,u.oneCell'=true:=by
 intro u hu;obtain ⟨i,_,rfl⟩:=List.mem_map.1 hu
 rfl
def hrow (l:List (List UInt8)) (n:Nat):Array Value:=((l ++ List.replicate (n - l.length) zero32).flatMap hE).toArray
theorem i0V (l:List (List UInt8)) (n:Nat) (h:l.length≤n):(hrow l n).size=n*32:=by
 simp only [hrow,List.size_toArray];rw [a0R hE 32 b0U]
 simp;omega
theorem p0L (l:List (List UInt8)) (n:Nat) (x:List UInt8) (h:l.length < n) (hx:x.length=32) :
  ((hrow l n).toList.take (l.length*32) ++ x.map byteV ++ (hrow l n).toList.drop (l.length*32+(x.map byteV).length)).toArray=hrow (l ++ [x]) n:=by
 have e1:(l.flatMap hE).length=l.length*32:=a0R hE 32 b0U l;have e2:n - l.length=(n - (l ++ [x]).length)+1:=by simp;omega
 simp only [hrow];rw [e2,List.replicate_succ,List.flatMap_append,List.flatMap_cons,List.flatMap_append,List.flatMap_append,List.take_append_of_le_length (by omega),List.take_of_length_le (by omega),
  List.drop_append,List.drop_of_length_le (by omega),← e1,List.nil_append,show (l.flatMap hE).length+(x.map byteV).length - (l.flatMap hE).length=(hE zero32).length by rw [b0U,List.length_map,hx];omega,List.drop_left]
 simp [hE_32 x hx]
theorem m0a:(Value.agg (c8 zero32)).cells=c8 zero32:=rfl
theorem q0p (n:Nat):madeCells (Value.agg (c8 zero32)).cells (n*32)=hrow [] n:=by
 apply Array.toList_inj.1
 have e1:(hrow [] n).toList=List.replicate (n*32) (Value.int .u8 0):=by
  simp only [hrow,List.nil_append,List.length_nil,Nat.sub_zero];have e0:hE zero32=List.replicate 32 (Value.int .u8 0):=rfl
  induction n with
  | zero=>rfl
  | succ n ih=>rw [List.replicate_succ,List.flatMap_cons,ih,e0,List.replicate_append_replicate,Nat.add_mul,Nat.add_comm]
 rw [e1]
 apply List.ext_getElem
 ·rw [Array.length_toList,size_madeCells];simp
 ·intro i h1 h2;have h3:i % 32 < 32:=Nat.mod_lt _ (by omega);have e2:(c8 zero32)[i % 32]! = Value.int .u8 0:=by
   have:(c8 zero32)[i % 32]? = some (Value.int .u8 0):=by
    have:=c8_at zero32 (i % 32) h3;rw [this];have:gB zero32 (i % 32)=0:=by unfold gB zero32;rw [List.getD_eq_getElem?_getD,List.getElem?_replicate,if_pos h3];rfl
    rw [this];rfl
   rw [getElem!_def,this]
  have e3:(c8 zero32).size=32:=by rw [a0m];rfl
  simp only [m0a] at h1 ⊢
  unfold madeCells at h1 ⊢
  simp only [e3] at h1 ⊢;simp only [Array.toList_map,List.getElem_map,List.getElem_replicate]
  simpa using e2
theorem Tryz.infoHash:(Tryz.prog.info? 27).map (fun i=>(i.zero,i.size,i.bytes))=some (some (.agg (c8 zero32)),32,32):=by kernel_rfl
theorem i0N (w:World) (kl kc:IntKind) (l c:Int) (n m:Nat) (hl:l=(n:Int)) (hc:c=(m:Int)) (hnm:n≤m) (hb:32*m≤281474976710656) :
  (Instr.makeSlice 28 (.int kl l) (.int kc c)).run Tryz.prog w = .ok (.slice (some ⟨w.heap.size,0,none⟩) n m) (w.alloc (.cells (hrow [] m) 27)):=by
 obtain ⟨i,hi,hz0,hz1,hz2⟩:=info_parts Tryz.infoHash;subst hl;subst hc;have hb2:(i.bytes:Int)*(m:Int)≤281474976710656:=by
  rw [hz2,← Int.natCast_mul];omega
 rw [run_make w 28 27 i _ Tryz.underlying28 hi hz0 kl kc n m (by omega) (by omega) hb2 (by omega)];simp only [Int.toNat_natCast,hz1,q0p]
theorem d0s {ops:Array Oper} {rest:List Oper} {o:Oper} {a:Act} {w:World} {Q:Exit→Act→World→Prop} (hgd:o.guard=none) (x y:Operand) (ho:o.op = .store 27 x y)
  (b off:Nat) (hx:a.eval x = .pointer (some ⟨b,off,none⟩)) (h:List UInt8) (hhq:h.length=32) (hy:a.eval y = .agg (c8 h)) (l:List (List UInt8)) (n:Nat) (hl:l.length < n) (hoff:off=l.length*32) (T:TypeId)
  (hg:w.heap[b]? = some (.cells (hrow l n) T (0,0)))
  (hk:∀ w',w'.heap[b]? = some (.cells (hrow (l ++ [h]) n) T (0,0))→Keep (· = b) w w'→w'.heap.size=w.heap.size→wpList Tryz.prog ops Q rest (a.put o.dst undef) w'):wpList Tryz.prog ops Q (o :: rest) a w:=by
 subst hoff;have hs:(c8 h).size=32:=by rw [a0m,hhq]
 have hsz:=i0V l n (by omega);have hle:l.length*32+32≤n*32:=by omega
 have ht:w.there b (l.length*32) (c8 h).size:=fun j hj=>by
  rw [hs] at hj
  exact ⟨by rw [Lib.cell_of_heap hg,Array.getElem?_eq_getElem (by omega)];rfl,Lib.frozen_of_heap hg _⟩
 refine wpList_store_mid hgd _ _ _ ho b _ (c8 h) hx hy ht (Tryz.sizeHs h hhq) (by rw [← a0O 32 h hhq];exact one_b _ _) ?_;obtain ⟨k1,k2⟩:=c0s b (c8 h).toList (l.length*32) w;refine hk _ ?_ k1 k2;have hg':w.heap[b]? = some (.cells ((hrow l n).toList).toArray T (0,0)):=hg;have h3:=d0E b T (c8 h).toList (l.length*32) w (hrow l n).toList hg' (by simp only [Array.length_toList,hs,hsz];exact hle);rw [h3]
 exact congrArg (fun x=>some (Obj.cells x T (0,0))) (p0L l n h hl hhq)
theorem o0N {w:World} {b n:Nat} {l:List (List UInt8)} {T:TypeId} {fr:Nat × Nat} (hg:w.heap[b]? = some (.cells (hrow l n) T fr)) (hl:l.length=n) (hm:n≤9223372036854775807):Rd w hE 32 (.slice (some ⟨b,0,none⟩) n n) l:=by
 subst hl;refine ⟨_,_,rfl,Nat.le_refl _,by unfold maxLen;omega,fun _=>⟨b,0,rfl,a0b hg,fun i hi j hj=>?_⟩⟩;rw [Lib.cell_of_heap hg];have:=a0Z hE 32 b0U l i hi j hj
 simpa [hrow] using this
end
section
set_option maxHeartbeats 1000000
set_option maxRecDepth 100000
open Go.RowKit

def groundK (k:Int) (d:Nat) (l:List (List UInt8)):List (List UInt8):=(List.range (2 ^ d)).map fun i=>leafK k (l.getD i [])
theorem d0q (k:Int) (d:Nat) (l:List (List UInt8)):(groundK k d l).length=2 ^ d:=by simp [groundK]
theorem i0w (k:Int) (d:Nat) (l:List (List UInt8)) (i:Nat) (h:i < 2 ^ d):(groundK k d l).take (i+1)=(groundK k d l).take i ++ [leafK k (l.getD i [])]:=by
 rw [List.take_succ_eq_append_getElem (by rw [d0q];exact h)]
 simp [groundK]
theorem k0J (k:Int) (d:Nat) (l:List (List UInt8)) (h:k=1∨k=2):groundK k d l=groundF k.toNat d l:=by
 unfold groundK groundF groundT
 rw [List.map_map];refine List.map_congr_left fun i _=>?_
 unfold leafK;rw [if_pos h];rfl
def NewRow (w:World) (l:List (List UInt8)) (e:Ending) (w':World):Prop:=
 ∃ b,e = .returned (.slice (some ⟨b,0,none⟩) l.length l.length)∧w.heap.size≤b∧w'.heap[b]? = some (.cells (hrow l l.length) 27 (0,0))∧Below w.heap.size w w'
def Fair (l:List (List UInt8)):Prop:=∀ b∈l,b.length < 1000000000

theorem l0T (k:Int) (l:List (List UInt8)) (v:Value) (w:World) (h:Texts w v l) (hn:l.length≤1024) (hf:Fair l) :
  Calls Tryz.prog 200 #[.int .i64 k,v] w (NewRow w (groundK k (depthF l.length) l)):=by
 obtain ⟨ad,cap,rfl,hc1,hc2⟩:=h.shape;obtain ⟨n,hnn⟩:∃ n,n=l.length:=⟨_,rfl⟩;have hd10:=c0g l.length hn;have hge:=c0Y l.length;obtain ⟨d,hd⟩:∃ d,d=depthF l.length:=⟨_,rfl⟩;rw [← hnn] at hn hc1 hge ⊢;rw [← hd] at hd10;rw [← hnn] at hd;rw [← hd] at hge ⊢;obtain ⟨N,hN⟩:∃ N,N=2 ^ d:=⟨_,rfl⟩;have hN1:N≤1024:=by rw [hN];exact Nat.le_trans (Nat.pow_le_pow_right (by omega) hd10) (by decide)
 rw [← hN] at hge;obtain ⟨G,hG⟩:∃ G,G=groundK k d l:=⟨_,rfl⟩;have hGl:G.length=N:=by rw [hG,d0q,hN]
 rw [← hG];have hGs:∀ i,i < N→G.take (i+1)=G.take i ++ [leafK k (l.getD i [])]:=fun i hi=>by rw [hG];exact i0w k d l i (by rw [← hN];exact hi)
 have H:=Lib.hid h;have HNN:=Lib.hid hnn;have HD:=Lib.hid hd;have HN:=Lib.hid hN;have HG:=Lib.hid hG;have HGL:=Lib.hid hGl;have HGS:=Lib.hid hGs;have HF:=Lib.hid hf;clear h hnn hd hN hG hGl hGs hf;have hw:wrap64 ((2:Int) ^ d)=(N:Int):=by
  have:(2:Int) ^ d=(N:Int):=by rw [HN.out];push_cast;rfl
  rw [this];unfold wrap64;omega
 have HW:=Lib.hid hw;clear hw
 go_enter Tryz.func200,Tryz.ntmps200
 go_wp2_with fail;refine (m0G (n:Int) (by omega) _).mono ?_;rintro e w2 ⟨rfl,rfl⟩;rw [Int.toNat_natCast,← HD.out];go_wp2_with fail;rw [HW.out,i0N w .i64 .i64 (N:Int) (N:Int) N N rfl rfl (Nat.le_refl _) (by omega)];obtain ⟨w1,hw1⟩:∃ w1,w1=w.alloc (.cells (hrow [] N) 27):=⟨_,rfl⟩;rw [← hw1];have hb1:w1.heap[w.heap.size]? = some (.cells (hrow [] N) 27 (0,0)):=by rw [hw1];exact heap_alloc_new _ _
 have hbel1:Below w.heap.size w w1:=by rw [hw1];exact (Below.refl _ _).alloc (Nat.le_refl _) _
 have HB1:=Lib.hid hb1;have HBEL1:=Lib.hid hbel1;clear hw1 hb1 hbel1;obtain ⟨B,hB⟩:∃ B,B=w.heap.size:=⟨_,rfl⟩;rw [← hB];have HBE:=Lib.hid hB;clear hB;go_wp2_with fail
 go_loopw [17] (fun x wr=>∃ i:Nat,i≤n∧x = .int .i64 i∧wr.heap[B]? = some (.cells (hrow (G.take i) N) 27 (0,0))∧Below w.heap.size w wr) (fun x _=>n - (intOf x).toNat)
 case atStart=>exact ⟨0,Nat.zero_le _,rfl,by rw [HBE.out];exact HB1.out,HBEL1.out⟩
 case round=>
  obtain ⟨i,hi,rfl,hg,hb⟩:=hrel;have HGR:=Lib.hid hg;have HB:=Lib.hid hb;clear hg hb HB1 HBEL1
  by_cases hlt:i < n
  ·have hlt':i < l.length:=by have:=HNN.out;omega
   obtain ⟨lb,off,u,rfl,hlb,hcell,hru⟩:=(H.out.later HB.out).at i hlt';have hli:l.getD i []=l[i]:=by rw [List.getD_eq_getElem?_getD,List.getElem?_eq_getElem hlt'];rfl
   have hfi:=HF.out l[i] (List.getElem_mem hlt');have hgs:=HGS.out i (by omega);rw [hli] at hgs;have HRU:=Lib.hid hru;have HFI:=Lib.hid hfi;have HGS1:=Lib.hid hgs;clear hru hfi hgs hli;have hiN:(i:Int) < (N:Int):=by omega
   go_wp2_with fail;refine (g0z k l[i] u _ HRU.out (by have:=HFI.out;omega)).mono ?_;rintro e w4 ⟨rfl,hb4⟩;have hg4:=(hb4.block B (a0b HGR.out)).trans HGR.out;have HG4:=Lib.hid hg4;have HB4:=Lib.hid (HB.out.trans (hb4.mono HB.out.size));clear hg4 hb4 hcell
   go_wp2_with (refine d0s rfl _ _ rfl B _ rfl (leafK k l[i]) (a0o _ _) rfl (G.take i) N ?c1 ?c2 27 HG4.out ?_)
   case c1=>rw [List.length_take,HGL.out];omega
   case c2=>rw [List.length_take,HGL.out];omega
   intro w5 h5 k5 z5;rw [← HGS1.out] at h5;have H5:=Lib.hid h5;have HB5:=Lib.hid (k5.onto HB4.out (Nat.le_refl _) (by rw [HBE.out];exact Nat.le_refl _));clear h5 k5 z5;go_wp2_with fail
   go_roundw
   case rel=>exact ⟨i+1,by omega,by go_num,H5.out,HB5.out⟩
   case measure=>simp [intOf];omega
  ·obtain rfl:i=n:=by omega
   go_wp2_with fail;refine (m0g k _).mono ?_;rintro e w4 ⟨rfl,hb4⟩;have hg4:=(hb4.block B (a0b HGR.out)).trans HGR.out;have HG4:=Lib.hid hg4;have HB4:=Lib.hid (HB.out.trans (hb4.mono HB.out.size));clear hg4 hb4 HGR HB
   go_wp2_with (refine a0t rfl _ rfl _ _ Tryz.zeroHash rfl ?_)
   intro R w5 h5;have hBR:B < R:=by have:=a0b HG4.out;have:=h5.out.eq;omega
   have hg5:=(h5.out.below.block B (a0b HG4.out)).trans HG4.out;have hb5:=HB4.out.trans (h5.out.below.mono HB4.out.size);have HG5:=Lib.hid hg5;have HB5:=Lib.hid hb5;clear hg5 hb5 HG4 HB4
   go_wp2_with (refine a0a (t:=27) (old:=cB 32 []) rfl 27 _ _ rfl R (c8 (leafK k [])) rfl rfl h5.out.cells (Tryz.sizeHs _ (a0o _ _)) (by rw [a0m,a0o];rfl) (by rw [← a0O 32 _ (a0o _ _)];exact one_b _ _) ?_)
   intro w6 h6 k6 z6;have hg6:=k6.at HG5.out (by omega);have hb6:=k6.onto HB5.out (Nat.le_refl _) (by have:=HBE.out;omega);have HG6:=Lib.hid hg6;have HB6:=Lib.hid hb6;have HR6:=Lib.hid h6;clear hg6 hb6 h6 k6 z6 HG5 HB5 h5;go_wp2_with fail
   go_loopw [9] (fun x wr=>∃ j:Nat,i≤j∧j≤N∧x = .int .i64 j∧wr.heap[B]? = some (.cells (hrow (G.take j) N) 27 (0,0))∧wr.heap[R]? = some (.cells (c8 (leafK k [])) 27 (0,0))∧Below w.heap.size w wr) (fun x _=>N - (intOf x).toNat)
   case atStart=>exact ⟨i,Nat.le_refl _,hge,rfl,HG6.out,HR6.out,HB6.out⟩
   case round=>
    obtain ⟨j,hij,hj,rfl,hg,hr,hb⟩:=hrel;have HGR:=Lib.hid hg;have HB:=Lib.hid hb;have HR:=Lib.hid hr;clear hg hb hr HG6 HR6 HB6
    by_cases hlt:j < N
    ·have hli:l.getD j [] = []:=by rw [List.getD_eq_getElem?_getD,List.getElem?_eq_none (by have:=HNN.out;omega)];rfl
     have hgs:=HGS.out j hlt;rw [hli] at hgs;have HGS1:=Lib.hid hgs;clear hgs hli;have hjN:(j:Int) < (N:Int):=by omega
     go_wp2_with (first
      | (refine wpList_load_row rfl _ _ rfl R rfl _ (c8 (leafK k [])) _ _ HR.out Tryz.underlying27 rfl (Tryz.sizeHs _ (a0o _ _)) ?_)
      | (refine d0s rfl _ _ rfl B _ rfl (leafK k []) (a0o _ _) rfl (G.take j) N ?c1 ?c2 27 HGR.out ?_))
     case c1=>rw [List.length_take,HGL.out];omega
     case c2=>rw [List.length_take,HGL.out];omega
     intro w5 h5 k5 z5;rw [← HGS1.out] at h5;have hr5:=k5.at HR.out (by omega);have H5:=Lib.hid h5;have HB5:=Lib.hid (k5.onto HB.out (Nat.le_refl _) (by rw [HBE.out];exact Nat.le_refl _));have HR5:=Lib.hid hr5;clear h5 k5 z5 hr5;go_wp2_with fail
     go_roundw
     case rel=>exact ⟨j+1,by omega,by omega,by go_num,H5.out,HR5.out,HB5.out⟩
     case measure=>simp [intOf];omega
    ·obtain rfl:j=N:=by omega
     go_wp2_with fail
     go_ret
     have hfin:=HGR.out;rw [List.take_of_length_le (by rw [HGL.out];exact Nat.le_refl _)] at hfin;refine ⟨B,?_,by rw [HBE.out];exact Nat.le_refl _,by rw [HGL.out];exact hfin,HB.out⟩;rw [HGL.out]
     rfl
end
section
set_option maxHeartbeats 1000000
set_option maxRecDepth 100000
open Go.RowKit Go.Shelf
attribute [local go_sem] Oper.semAt_some

theorem m0W (w:World) (row:Option Nat):w.grownBy w.drew row:=⟨rfl,rfl,rfl,Nat.le_refl _,fun _ _ _=>rfl⟩
def hAt (row:List (List UInt8)) (i:Nat):List UInt8:=row.getD i zero32
theorem a0w {row:List (List UInt8)} (h:All32 row) (i:Nat):(hAt row i).length=32:=by
 unfold hAt
 rw [List.getD_eq_getElem?_getD]
 cases hx:row[i]? with
 | none=>rfl
 | some x=>exact h x (List.mem_of_getElem? hx)
theorem f0t (row:List (List UInt8)) (i:Nat) (h:i < row.length):hAt row i=row[i]:=by
 unfold hAt
 rw [List.getD_eq_getElem?_getD,List.getElem?_eq_getElem h];rfl
theorem e0A {S:Nat→Prop} {w w':World} {b o:Nat} {v:Value} (h:Keep S w w') (hc:w.cell? ⟨b,o,none⟩=some v) (hS:¬ S b):w'.cell? ⟨b,o,none⟩=some v:=by
 rw [World.cell?_of_block (w:=w) (w':=w') (h.block b (block_lt_of_cell hc) hS)];exact hc
def mpairE (row:List (List UInt8)) (i:Nat):Array Value:=#[.agg (c8 (hAt row (2*i))),.agg (c8 (hAt row (2*i+1)))]

theorem k0x (row:List (List UInt8)) (h32:All32 row) (hlen:row.length < 1099511627776) (n Bn:Nat) (T:Nat→Prop) (w:World) (v:Value) (hr:Rd w hE 32 v row) (hv:∀ k,v.ownBlock=some k→¬ T k) (hBn:¬ T Bn)
  (hb:w.cell? ⟨Bn,0,none⟩=some v) :
  SeqStopsK Fence.wide n Tryz.prog 223 #[.pointer (some ⟨Bn,0,none⟩)] (mpairE row) (Keep T) (fun xs=>xs=List.range (row.length / 2)) (fun _=>True) (row.length / 2) w:=by
 intro l J Jx W hbW hJ hJx hY h0;obtain ⟨ad,cap,rfl,hc1,hc2⟩:=hr.shape;refine callsIn_of_wp Tryz.func223 rfl trivial ?_ rfl;simp only [Tryz.ntmps223,List.size_toArray,List.length_cons,List.length_nil,Nat.reduceAdd,Nat.reduceSub,Array.replicate_succ,Array.replicate_zero,List.push_toArray,List.append_toArray,List.nil_append,List.cons_append]
 gi_wp2
 gi_loopw [3] (fun p wr=>∃ i:Nat,i≤row.length / 2∧p = .int .i64 (2*(i:Int))∧J (List.range i) wr∧Keep T w wr) (fun p _=>row.length - (intOf p).toNat)
 case atStart=>exact ⟨0,Nat.zero_le _,rfl,h0,Keep.of_below hbW⟩
 case round=>
  obtain ⟨i,hi,rfl,hj,hbl⟩:=hrel;have HJ:=hh hj;have HBL:=hh hbl;have c0:wr.cell? ⟨Bn,0,none⟩=some (.slice ad row.length cap):=e0A hbl hb hBn;clear hj hbl
  by_cases hlt:i < row.length / 2
  ·have j1:2*(i:Int)+1 < (row.length:Int):=by omega
   have j2:2*(i:Int) < (row.length:Int):=by omega
   have j3:(0:Int)≤2*(i:Int):=by omega
   have j4:(0:Int)≤2*(i:Int)+1:=by omega
   have j5:((2*(i:Int)).toNat)=2*i:=by omega
   have j6:((2*(i:Int)+1).toNat)=2*i+1:=by omega
   obtain ⟨b,off,rfl,hbb⟩:=hr.ptr (by omega);have hbn:¬ T b:=hv b rfl;have hcell:∀ w',Keep T w w'→w'.cell? ⟨Bn,0,none⟩=some (.slice (some ⟨b,off,none⟩) row.length cap):=fun w' h=>e0A h hb hBn
   have hrow:∀ j,j < row.length→∀ w',Keep T w w'→w'.rangeAt b (off+j*32) ((hAt row j).map byteV):=by
    intro j hj w' hw' q u hq;have hq32:q < 32:=by have:=(List.getElem?_eq_some_iff.1 hq).1;rwa [List.length_map,a0w h32] at this
    obtain ⟨ad',cap',he,_,_,h3⟩:=hr
    cases he
    obtain ⟨b',off',h4,_,h6⟩:=h3 (by intro e;subst e;simp at hj)
    cases h4
    refine e0A hw' ?_ hbn;rw [h6 j hj q hq32,← f0t row j hj,hE_32 _ (a0w h32 j),hq]
   have hl1:=hrow (2*i) (by omega);have hl2:=hrow (2*i+1) (by omega);have hs32:∀ j,(Tryz.prog.info? 27).map (·.size)=some ((hAt row j).map byteV).length:=fun j=>by rw [List.length_map,a0w h32];kernel_rfl
   have hld:∀ j,(∀ w',Keep T w w'→w'.rangeAt b (off+j*32) ((hAt row j).map byteV))→∀ w',Keep T w w'→(Instr.loadAt 27 (.pointer (some ⟨b,off+j*32,none⟩))).run Tryz.prog w' = .ok (.agg (c8 (hAt row j))) w':=fun j h w' hw'=>
    run_loadAt_mid w' b (off+j*32) 27 _ _ (h w' hw') Tryz.underlying27 rfl (hs32 j)
   have HL1:=hh (hld (2*i) hl1);have HL2:=hh (hld (2*i+1) hl2);have HC:=hh hcell;clear hl1 hl2 hrow hcell hld hs32;have hS:Keep T w wr.drew:=HBL.out.drew
   gi_wp2
   have jw:IntKind.i64.wrap (2*(i:Int)+1)=2*(i:Int)+1:=IntWalk.i64_in _ (by omega);refine e0B (Keep T w) 10 12 (by kernel_rfl) rfl ?_;refine a0U 0 (some 11) rfl rfl (by kernel_rfl) (by kernel_rfl) (by kernel_rfl) (by kernel_rfl) (by kernel_rfl) (by kernel_rfl) (fun _ _ _ h=>h) (.inl ⟨by rfl,fun w' _=>(by go_simp;rfl)⟩) hS ?_;go_frame;refine a0U 1 (some 12) rfl rfl (by kernel_rfl) (by kernel_rfl) (by kernel_rfl) (by kernel_rfl) (by kernel_rfl) (by kernel_rfl) (fun _ _ _ h=>h) (.inl ⟨by rfl,fun w' hS'=>(by have hc:=HC.out w' hS';go_simp;rfl)⟩) hS ?_;go_frame;refine a0U 2 (some 13) rfl rfl (by kernel_rfl) (by kernel_rfl) (by kernel_rfl) (by kernel_rfl) (by kernel_rfl) (by kernel_rfl) (fun _ _ _ h=>h) (.inl ⟨by rfl,fun w' _=>(by go_simp;rfl)⟩) hS ?_;go_frame;refine a0U 3 (some 14) rfl rfl (by kernel_rfl) (by kernel_rfl) (by kernel_rfl) (by kernel_rfl) (by kernel_rfl) (by kernel_rfl) (fun _ _ _ h=>h) (.inl ⟨by rfl,fun w' _=>(by go_simp;rfl)⟩) hS ?_;go_frame;refine a0U 4 (some 15) rfl rfl (by kernel_rfl) (by kernel_rfl) (by kernel_rfl) (by kernel_rfl) (by kernel_rfl) (by kernel_rfl) (fun _ _ _ h=>h) (a0p (by rfl) 27 (.tmp 14) rfl (.pointer (some ⟨b,off+2*i*32,none⟩)) rfl _ HL1.out) hS ?_;go_frame
   refine a0U 5 (some 16) rfl rfl (by kernel_rfl) (by kernel_rfl) (by kernel_rfl) (by kernel_rfl) (by kernel_rfl) (by kernel_rfl) (fun _ _ _ h=>h) (.inl ⟨by rfl,fun w' hS'=>(by have hc:=HC.out w' hS';go_simp;rfl)⟩) hS ?_;go_frame;refine a0U 6 (some 17) rfl rfl (by kernel_rfl) (by kernel_rfl) (by kernel_rfl) (by kernel_rfl) (by kernel_rfl) (by kernel_rfl) (fun _ _ _ h=>h) (.inl ⟨by rfl,fun w' _=>(by go_simp;rfl)⟩) hS ?_;go_frame;refine a0U 7 (some 18) rfl rfl (by kernel_rfl) (by kernel_rfl) (by kernel_rfl) (by kernel_rfl) (by kernel_rfl) (by kernel_rfl) (fun _ _ _ h=>h) (.inl ⟨by rfl,fun w' _=>(by go_simp;rfl)⟩) hS ?_;go_frame;refine a0U 8 (some 19) rfl rfl (by kernel_rfl) (by kernel_rfl) (by kernel_rfl) (by kernel_rfl) (by kernel_rfl) (by kernel_rfl) (fun _ _ _ h=>h) (.inl ⟨by rfl,fun w' _=>(by go_simp;rfl)⟩) hS ?_;go_frame;refine a0U 9 (some 20) rfl rfl (by kernel_rfl) (by kernel_rfl) (by kernel_rfl) (by kernel_rfl) (by kernel_rfl) (by kernel_rfl) (fun _ _ _ h=>h) (a0p (by rfl) 27 (.tmp 19) rfl (.pointer (some ⟨b,off+(2*i+1)*32,none⟩)) rfl _ HL2.out) hS ?_;go_frame;obtain ⟨fn,tmps,assign,body,hy,hR⟩:=hY (List.range i) i wr.drew (hJ _ _ _ none HJ.out (m0W wr none) (fun r e=>by cases e)) (by simpa using hlt);simp only [mpairE] at hy;have HR:=hh hR;clear hR;refine f0C 10 rfl (by kernel_rfl) fun K hK=>?_
   simp only [gA,jB,gC];rw [if_pos (by rfl)];refine o0s (by go_simp) HR.out ?_;rintro e W' (⟨rfl,hj',hk'⟩ | ⟨rfl,hjx'⟩)
   ·have hS2:Keep T w W':=hS.then hk' (fun x hx=>.inl hx);refine hK _ _ (fun h=>absurd rfl h) ?_;clear hK;go_frame;refine f0C 11 rfl (by kernel_rfl) fun K hK=>?_
    simp only [gA,jB,gC];rw [if_pos (by rfl)];refine ⟨fun _ h=>(by cases h),?_⟩;go_simp;refine hK _ _ (fun _ h=>by cases h) ?_;clear hK;refine h0q (by kernel_rfl) ?_ _;have HJ2:=hh hj';have HS2:=hh hS2;clear hj' hS2 hk' hS
    gi_wp2
    go_roundw
    case rel=>
     refine ⟨i+1,by omega,by go_num,?_,HS2.out⟩;rw [List.range_succ];exact HJ2.out
    case measure=>simp [intOf];omega
   ·refine hK _ _ (fun h=>absurd rfl h) ?_;clear hK;go_frame;refine f0C 11 rfl (by kernel_rfl) fun K hK=>?_
    simp only [gA,jB,gC];rw [if_pos (by rfl)];refine ⟨fun _ h=>(by cases h),?_⟩;go_simp;refine hK _ _ (fun _ h=>by cases h) ?_;clear hK;refine h0q (by kernel_rfl) ?_ _
    gi_wp2
    refine bodyPost_ret (results_none rfl _ _ _) rfl ?_
    exact ⟨⟨_,rfl⟩,.inr ⟨_,trivial,hjx'⟩⟩
  ·have j1:¬ 2*(i:Int)+1 < (row.length:Int):=by omega
   gi_wp2
   go_end0
   refine ⟨⟨_,rfl⟩,.inl ?_⟩;obtain rfl:i=row.length / 2:=by omega
   exact HJ.out
theorem p0E (ad:Option Addr) (n cap:Nat) (w:World):Calls Tryz.prog 201 #[.slice ad n cap] w fun e w'=>e = .returned (.func (.func 223) #[] #[.pointer (some ⟨w.heap.size,0,none⟩)])∧w'=w.alloc (.cells #[.slice ad n cap] 28):=by
 go_enter Tryz.func201,Tryz.ntmps201
 go_wp2
 go_ret
 exact ⟨rfl,rfl⟩
end
section
open Go.RowKit

section
variable {P:Program}
theorem m0v (w:World) {t e:TypeId} {z:Value} {s bytes:Nat} (ht:P.underlying t=some (.slice e)) (hi:(P.info? e).map (fun i=>(i.zero,i.size,i.bytes))=some (some z,s,bytes)) (_:z.cells.size=s) (hs:0 < s) (hs2:s≤16777216)
  (v:Value) (hv:v.cells.size=s):(Instr.buildSlice t 1 #[(0,v)]).run P w = .ok (.slice (some ⟨w.heap.size,0,none⟩) 1 1) (w.alloc (.cells v.cells e)):=by
 obtain ⟨i,hi,hz0,hz1,hz2⟩:=info_parts hi;have hc:v.cells=v.cells.toList.toArray:=by simp
 have hfw:=Go.Great.fill_whole hs [v] ((Array.range (1*i.size)).map (z.cells[· % z.cells.size]!)) (by intro x hx;simp at hx;subst hx;exact hv) (by simp [hz1]);rw [run_buildSlice w t e 1 #[(0,v)] v.cells i z ht hi hz0 (by rw [hz1];omega) (by rw [hz1];omega) (by
  rw [hz1] at hfw ⊢
  simpa using hfw)]
 
theorem j0x {o:Oper} {a:Act} {w:World} {K:Act→World→Prop} {Q:Exit→Act→World→Prop} (t:TypeId) (x:Operand) (ho:o.op = .buildSlice t 1 #[(0,x)])
  {e:TypeId} {z:Value} {s bytes:Nat} (ht:P.underlying t=some (.slice e)) (hi:(P.info? e).map (fun i=>(i.zero,i.size,i.bytes))=some (some z,s,bytes)) (hz:z.cells.size=s) (hs:0 < s) (hs2:s≤16777216)
  (v:Value) (cs:Array Value) (hx:a.eval x=v) (hc:v.cells=cs) (hv:cs.size=s) (h:K (a.put o.dst (.slice (some ⟨w.heap.size,0,none⟩) 1 1)) (w.alloc (.cells cs e))):o.wp P a w K Q:=by
 subst hc
 unfold Oper.wp execOp
 simp only [ho,hx,Sem.run_bind,List.map_toArray,List.map_cons,List.map_nil,m0v w ht hi hz hs hs2 v hv,Result.andThen_ok]
 exact h
theorem e0e {ops:Array Oper} {rest:List Oper} {o:Oper} {a:Act} {w:World} {Q:Exit→Act→World→Prop} (hgd:o.guard=none) (t:TypeId) (x:Operand) (ho:o.op = .buildSlice t 1 #[(0,x)])
  {e:TypeId} {z:Value} {s bytes:Nat} (ht:P.underlying t=some (.slice e)) (hi:(P.info? e).map (fun i=>(i.zero,i.size,i.bytes))=some (some z,s,bytes)) (hz:z.cells.size=s) (hs:0 < s) (hs2:s≤16777216)
  (v:Value) (cs:Array Value) (hx:a.eval x=v) (hc:v.cells=cs) (hv:cs.size=s) (h:wpList P ops Q rest (a.put o.dst (.slice (some ⟨w.heap.size,0,none⟩) 1 1)) (w.alloc (.cells cs e))):wpList P ops Q (o :: rest) a w:=
 wpList_plain hgd fun _ hK=>j0x t x ho ht hi hz hs hs2 v cs hx hc hv (hK _ _ h)
theorem o0L {e:TypeId} {cs:Array Value} (w:World) (j:Nat) (u:Value) (hj:cs.toList[j]? = some u):(w.alloc (.cells cs e)).cell? ((⟨w.heap.size,0,none⟩:Addr).add j)=some u:=by
 have e1:(⟨w.heap.size,0,none⟩:Addr).add j=⟨w.heap.size,j,none⟩:=by unfold Addr.add;split<;>simp_all
 rw [e1,Lib.cell_of_heap (heap_alloc_new w _),← hj]
 simp
theorem s0A {o:Oper} {a:Act} {w:World} {K:Act→World→Prop} {Q:Exit→Act→World→Prop} (s x:Operand) (t:TypeId)
  (ho:o.op = .call { callee:=.builtin .append,args:=#[s,x],argTypes:=#[t,t] })
  {e:TypeId} {z:Value} {sz bytes:Nat} (ht:P.underlying t=some (.slice e)) (hi:(P.info? e).map (fun i=>(i.zero,i.size,i.bytes))=some (some z,sz,bytes))
  {α:Type} {enc:α→List Value} (hel:∀ x,(enc x).length=sz) {B g n cap:Nat} {l:List α} (y:α) (hown:Own w B e enc sz (.slice (some ⟨g,0,none⟩) n cap) l) (hn:n=l.length) (hcap:n+1≤cap) (hs:a.eval s = .slice (some ⟨g,0,none⟩) n cap)
  (ad:Addr) (hx:a.eval x = .slice (some ad) 1 1) (hc:∀ j u,(enc y)[j]? = some u→w.cell? (ad.add j)=some u) (hu:∀ u∈enc y,u.oneCell'=true)
  (h:∀ w',Own w' B e enc sz (.slice (some ⟨g,0,none⟩) (n+1) cap) (l ++ [y])→w.grownBy w' (some g)→K (a.put o.dst (.slice (some ⟨g,0,none⟩) (n+1) cap)) w') :
  o.wp P a w K Q:=by
 obtain ⟨i,hi,hz0,hz1,hz2⟩:=info_parts hi;subst hn;obtain ⟨w',hrun,r1,r2⟩:=run_append_fits (P:=P) w B t o.type e i sz ht hi hz1 g l.length cap (l.flatMap enc) hown ad 1 1 (enc y) (by rw [hel];omega) hc hu hcap
 unfold Oper.wp
 simp [execOp,ho,resolve,invoke,builtin,hs,hx,hrun,Result.andThen]
 refine h w' ?_ r2
 unfold Own
 rw [List.length_append,List.flatMap_append]
 simpa using r1
end
end
end Go.Proofs.YtakkfabaeolbdaaGreat
