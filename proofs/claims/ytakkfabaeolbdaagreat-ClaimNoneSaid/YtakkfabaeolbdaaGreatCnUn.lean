/- u256.FromBytes, Bytes: their contracts; amounts as numbers. No condition. -/
import Derived.Test.YtakkfabaeolbdaaGreatCn1
import Derived.Test.YtakkfabaeolbdaaGreatCnKeysA
namespace Go.Proofs.YtakkfabaeolbdaaGreat
set_option maxHeartbeats 2000000
set_option maxRecDepth 100000
open Go.RowKit

def uV (a b c d:Int):Value:=.agg #[.int .u64 a,.int .u64 b,.int .u64 c,.int .u64 d]
def uOf (l:List UInt8):Value:=uV (wd l 0) (wd l 1) (wd l 2) (wd l 3)
def uCells (l:List UInt8) (n:Nat):Array Value:=#[.int .u64 (pw l n 0),.int .u64 (pw l n 1),.int .u64 (pw l n 2),.int .u64 (pw l n 3)]
def u0:Array Value:=#[.int .u64 0,.int .u64 0,.int .u64 0,.int .u64 0]
theorem f0n (l:List UInt8):uCells l 0=u0:=by simp [uCells,u0,s0p]
theorem g0P (l:List UInt8):uCells l 32=#[.int .u64 (wd l 0),.int .u64 (wd l 1),.int .u64 (wd l 2),.int .u64 (wd l 3)]:=by
 simp [uCells,r0N]

theorem i0a (p s:Nat) (x:UInt8) (hp:p < 18446744073709551616) (hs:s≤7) (hm:p % 256 ^ (s+1)=0) :
  bits BinOp.or IntKind.u64 (p:Int) (IntKind.u64.wrap (IntKind.u64.wrap (x.toNat:Int)*2 ^ (8*s)))=((p+x.toNat*256 ^ s:Nat):Int):=by
 have hx:=x.toNat_lt;have h1:IntKind.u64.wrap (x.toNat:Int)=(x.toNat:Int):=by rw [IntKind.wrap_u64];omega
 have h2:((2:Int) ^ (8*s))=((256 ^ s:Nat):Int):=by rw [Int.pow_mul];simp
 have h3:x.toNat*256 ^ s < 256 ^ (s+1):=by
  rw [Nat.pow_succ,Nat.mul_comm];exact Nat.mul_lt_mul_of_pos_left hx (Nat.pow_pos (by omega))
 have h4:256 ^ (s+1)≤256 ^ 8:=Nat.pow_le_pow_right (by omega) (by omega);have h5:256 ^ 8=18446744073709551616:=by decide
 rw [h1,h2,← Int.natCast_mul,IntKind.wrap_u64];have h6:(((x.toNat*256 ^ s:Nat):Int)) % 18446744073709551616=((x.toNat*256 ^ s:Nat):Int):=by omega
 rw [h6,u64_or_nat _ _ hp (by omega)];have h7:256 ^ (s+1)=2 ^ (8*(s+1)):=by rw [Nat.pow_mul]
 rw [h7] at hm h3;rw [nat_join (8*(s+1)) p _ hm h3]

theorem Tryz.sizeU:(Tryz.prog.info? 25).map (·.size)=some 4:=by kernel_rfl
theorem a0Y (a b c d:Int):(#[Value.int .u64 a,.int .u64 b,.int .u64 c,.int .u64 d].all (·.oneCell'))=true:=by simp [Value.oneCell']
theorem Tryz.eqGuardU:Tryz.prog.eqGuardType Tryz.prog.depth 25 = false:=by kernel_rfl
@[go_sem] theorem Tryz.guardU (op:BinOp) (x y:Operand) (xs ys:Array Value) (w:World):(eqGuard op 25 x y (.agg xs) (.agg ys)).run Tryz.prog w = .ok () w:=run_eqGuard_agg w op _ x y xs ys Tryz.eqGuardU
theorem Tryz.infoU64:(Tryz.prog.info? 23).map (fun i=>(i.zero,i.size,i.bytes))=some (some (.int .u64 0),1,8):=by kernel_rfl
theorem Tryz.eqU (a b c d a' b' c' d':Int) (w:World):(Op.equalIn 10000 25 (.agg #[.int .u64 a,.int .u64 b,.int .u64 c,.int .u64 d]) (.agg #[.int .u64 a',.int .u64 b',.int .u64 c',.int .u64 d'])).run Tryz.prog w = .ok (decide ([a,b,c,d] = [a',b',c',d'])) w:=by
 obtain ⟨i,hi,_,hs,_⟩:=info_parts Tryz.infoU64
 exact c0V w 9998 _ _ .u64 4 Tryz.underlying25 Tryz.underlying23 i hi hs [a,b,c,d] [a',b',c',d'] rfl rfl
theorem f0V (l:List UInt8) (n:Nat) (x:UInt8) (h1:24≤n) (h2:n < 32) (h:n < l.length) (hx:x=l[n]'h) :
  (uCells l n).setIfInBounds 0 (.int .u64 (bits BinOp.or IntKind.u64 (pw l n 0:Int) (IntKind.u64.wrap (IntKind.u64.wrap (x.toNat:Int)*2 ^ (8*(31 - n))))))=uCells l (n+1):=by
 have hm:=l0t l n 3 0 (by omega) (by omega) (by omega);rw [show 8+8*3 - n=31 - n+1 by omega] at hm;rw [i0a _ _ _ (pw_lt _ _ _) (by omega) hm];have e:=i0j l n 3 0 (by omega) (by omega) (by omega) h;rw [show 7+8*3 - n=31 - n by omega,← hx] at e;rw [← e]
 simp [uCells,b0C l n 3 1 (by omega) (by omega) (by omega),b0C l n 3 2 (by omega) (by omega) (by omega),b0C l n 3 3 (by omega) (by omega) (by omega)]
theorem g0l (l:List UInt8) (n:Nat) (x:UInt8) (h1:16≤n) (h2:n < 24) (h:n < l.length) (hx:x=l[n]'h) :
  (uCells l n).setIfInBounds 1 (.int .u64 (bits BinOp.or IntKind.u64 (pw l n 1:Int) (IntKind.u64.wrap (IntKind.u64.wrap (x.toNat:Int)*2 ^ (8*(23 - n))))))=uCells l (n+1):=by
 have hm:=l0t l n 2 1 (by omega) (by omega) (by omega);rw [show 8+8*2 - n=23 - n+1 by omega] at hm;rw [i0a _ _ _ (pw_lt _ _ _) (by omega) hm];have e:=i0j l n 2 1 (by omega) (by omega) (by omega) h;rw [show 7+8*2 - n=23 - n by omega,← hx] at e;rw [← e]
 simp [uCells,b0C l n 2 0 (by omega) (by omega) (by omega),b0C l n 2 2 (by omega) (by omega) (by omega),b0C l n 2 3 (by omega) (by omega) (by omega)]
theorem g0C (l:List UInt8) (n:Nat) (x:UInt8) (h1:8≤n) (h2:n < 16) (h:n < l.length) (hx:x=l[n]'h) :
  (uCells l n).setIfInBounds 2 (.int .u64 (bits BinOp.or IntKind.u64 (pw l n 2:Int) (IntKind.u64.wrap (IntKind.u64.wrap (x.toNat:Int)*2 ^ (8*(15 - n))))))=uCells l (n+1):=by
 have hm:=l0t l n 1 2 (by omega) (by omega) (by omega);rw [show 8+8*1 - n=15 - n+1 by omega] at hm;rw [i0a _ _ _ (pw_lt _ _ _) (by omega) hm];have e:=i0j l n 1 2 (by omega) (by omega) (by omega) h;rw [show 7+8*1 - n=15 - n by omega,← hx] at e;rw [← e]
 simp [uCells,b0C l n 1 0 (by omega) (by omega) (by omega),b0C l n 1 1 (by omega) (by omega) (by omega),b0C l n 1 3 (by omega) (by omega) (by omega)]
theorem g0w (l:List UInt8) (n:Nat) (x:UInt8) (h1:0≤n) (h2:n < 8) (h:n < l.length) (hx:x=l[n]'h) :
  (uCells l n).setIfInBounds 3 (.int .u64 (bits BinOp.or IntKind.u64 (pw l n 3:Int) (IntKind.u64.wrap (IntKind.u64.wrap (x.toNat:Int)*2 ^ (8*(7 - n))))))=uCells l (n+1):=by
 have hm:=l0t l n 0 3 (by omega) (by omega) (by omega);rw [show 8+8*0 - n=7 - n+1 by omega] at hm;rw [i0a _ _ _ (pw_lt _ _ _) (by omega) hm];have e:=i0j l n 0 3 (by omega) (by omega) (by omega) h;rw [show 7+8*0 - n=7 - n by omega,← hx] at e;rw [← e]
 simp [uCells,b0C l n 0 0 (by omega) (by omega) (by omega),b0C l n 0 1 (by omega) (by omega) (by omega),b0C l n 0 2 (by omega) (by omega) (by omega)]

theorem h0F (l:List UInt8) (v:Value) (w:World) (hl:l.length=32) (hv:Rd w u8E 1 v l) :
  Calls Tryz.prog 169 #[v] w (Ret w (.tuple #[uOf l,.bool true])):=by
 obtain ⟨ad,cap,rfl,hc1,hc2⟩:=hv.shape;rw [hl];rw [hl] at hv;have HL:=Lib.hid hl;clear hl
 go_enter Tryz.func169,Tryz.ntmps169
 go_wp2
 go_loopw [14] (fun i wr=>∃ n:Nat,n≤32∧i = .int .i64 n∧wr.heap[w.heap.size+1]? = some (.cells (uCells l n) 25 (0,0))∧wr.heap[w.heap.size]? = some (.cells u0 25 (0,0))∧Below w.heap.size w wr) (fun i _=>32 - (intOf i).toNat)
 case atStart=>exact ⟨0,by omega,rfl,by rw [f0n];exact heap_alloc2_new _ _ _,heap_alloc2_old _ _ _,((Below.refl _ _).alloc (Nat.le_refl _) _).alloc (by simp) _⟩
 case round=>
  obtain ⟨n,hn,rfl,hblk,hres,hb⟩:=hrel
  by_cases hlt:n < 32
  ·obtain ⟨b,off,rfl,hbb,hcell⟩:=(hv.later hb).at n (by rw [HL.out];exact hlt);obtain ⟨x,hx⟩:∃ x,x=l[n]'(by rw [HL.out];exact hlt):=⟨_,rfl⟩;rw [← hx] at hcell;replace hcell:wr.cell? ⟨b,off+n,none⟩=some (.int .u8 (x.toNat:Int)):=hcell;have HX:=Lib.hid hx;clear hx
   rcases (show n < 8∨(8≤n∧n < 16)∨(16≤n∧n < 24)∨24≤n by omega) with hc | hc | hc | hc
   ·have e1:(31 - (n:Int)) / 8=3:=by omega
    have e2:(31 - (n:Int)) % 8=7 - n:=by omega
    have k1:=Lib.cell_of_heap hblk 3;have k2:wr.frozen? ⟨w.heap.size+1,3,none⟩=false:=Lib.frozen_of_heap hblk 3;replace k1:wr.cell? ⟨w.heap.size+1,3,none⟩=some (.int .u64 (pw l n 3)):=k1
    go_wp2
    go_region
    go_wp2
    go_roundw
    case rel=>
     refine ⟨n+1,by omega,by go_num,?_,?_,?_⟩
     ·rw [← g0w l n x (by omega) (by omega) (by rw [HL.out];exact hlt) HX.out]
      exact heap_setCell_same _ _ _ _ _ _ hblk
     ·exact (heap_setCell_other _ _ _ _ (by simp)).trans hres
     ·exact Below.drew (hb.setCell (p:=⟨w.heap.size+1,3,none⟩) (by simp) _)
    case measure=>simp [intOf];omega
   ·have e1:(31 - (n:Int)) / 8=2:=by omega
    have e2:(31 - (n:Int)) % 8=15 - n:=by omega
    have k1:=Lib.cell_of_heap hblk 2;have k2:wr.frozen? ⟨w.heap.size+1,2,none⟩=false:=Lib.frozen_of_heap hblk 2;replace k1:wr.cell? ⟨w.heap.size+1,2,none⟩=some (.int .u64 (pw l n 2)):=k1
    go_wp2
    go_region
    go_wp2
    go_roundw
    case rel=>
     refine ⟨n+1,by omega,by go_num,?_,?_,?_⟩
     ·rw [← g0C l n x (by omega) (by omega) (by rw [HL.out];exact hlt) HX.out]
      exact heap_setCell_same _ _ _ _ _ _ hblk
     ·exact (heap_setCell_other _ _ _ _ (by simp)).trans hres
     ·exact Below.drew (hb.setCell (p:=⟨w.heap.size+1,2,none⟩) (by simp) _)
    case measure=>simp [intOf];omega
   ·have e1:(31 - (n:Int)) / 8=1:=by omega
    have e2:(31 - (n:Int)) % 8=23 - n:=by omega
    have k1:=Lib.cell_of_heap hblk 1;have k2:wr.frozen? ⟨w.heap.size+1,1,none⟩=false:=Lib.frozen_of_heap hblk 1;replace k1:wr.cell? ⟨w.heap.size+1,1,none⟩=some (.int .u64 (pw l n 1)):=k1
    go_wp2
    go_region
    go_wp2
    go_roundw
    case rel=>
     refine ⟨n+1,by omega,by go_num,?_,?_,?_⟩
     ·rw [← g0l l n x (by omega) (by omega) (by rw [HL.out];exact hlt) HX.out]
      exact heap_setCell_same _ _ _ _ _ _ hblk
     ·exact (heap_setCell_other _ _ _ _ (by simp)).trans hres
     ·exact Below.drew (hb.setCell (p:=⟨w.heap.size+1,1,none⟩) (by simp) _)
    case measure=>simp [intOf];omega
   ·have e1:(31 - (n:Int)) / 8=0:=by omega
    have e2:(31 - (n:Int)) % 8=31 - n:=by omega
    have k1:=Lib.cell_of_heap hblk 0;have k2:wr.frozen? ⟨w.heap.size+1,0,none⟩=false:=Lib.frozen_of_heap hblk 0;replace k1:wr.cell? ⟨w.heap.size+1,0,none⟩=some (.int .u64 (pw l n 0)):=k1
    go_wp2
    go_region
    go_wp2
    go_roundw
    case rel=>
     refine ⟨n+1,by omega,by go_num,?_,?_,?_⟩
     ·rw [← f0V l n x (by omega) (by omega) (by rw [HL.out];exact hlt) HX.out]
      exact heap_setCell_same _ _ _ _ _ _ hblk
     ·exact (heap_setCell_other _ _ _ _ (by simp)).trans hres
     ·exact Below.drew (hb.setCell (p:=⟨w.heap.size+1,0,none⟩) (by simp) _)
    case measure=>simp [intOf];omega
  ·obtain rfl:n=32:=by omega
   rw [g0P] at hblk
   go_wp2_with (first | (refine wpList_load_row rfl _ _ rfl _ rfl _ _ _ _ hblk Tryz.underlying25 rfl Tryz.sizeU ?_) | (refine wpList_store_row (t:=25) (old:=u0) rfl 25 (.tmp 2) _ rfl w.heap.size #[.int .u64 (wd l 0),.int .u64 (wd l 1),.int .u64 (wd l 2),.int .u64 (wd l 3)] rfl rfl hres Tryz.sizeU rfl (a0Y _ _ _ _) ?_))
   refine bodyPost_ret (b0m rfl _ _ w.heap.size _ #[.int .u64 (wd l 0),.int .u64 (wd l 1),.int .u64 (wd l 2),.int .u64 (wd l 3)] _ _ rfl (setRow_heap _ _ _ _ _ _ hres) Tryz.underlying25 rfl Tryz.sizeU) rfl ⟨rfl,below_setRow hb (Nat.le_refl _) _⟩

theorem j0q (l:List UInt8) (v:Value) (w:World) (hl:l.length≠32) (hv:Rd w u8E 1 v l) :
  Calls Tryz.prog 169 #[v] w (Ret w (.tuple #[.agg u0,.bool false])):=by
 obtain ⟨ad,cap,rfl,hc1,hc2⟩:=hv.shape;have hne:((l.length:Int) != 32)=true:=by simp;omega
 go_enter Tryz.func169,Tryz.ntmps169
 go_wp2
 refine bodyPost_ret (b0m rfl _ _ w.heap.size _ u0 _ _ rfl (heap_alloc2_old _ _ _) Tryz.underlying25 rfl Tryz.sizeU) rfl ⟨rfl,((Below.refl _ _).alloc (Nat.le_refl _) _).alloc (by simp) _⟩


def ub (a:Nat→Int) (i:Nat):UInt8:=UInt8.ofNat (a (3 - i / 8) / 256 ^ (7 - i % 8) % 256).toNat
def ubytes (a:Nat→Int):List UInt8:=(List.range 32).map (ub a)
theorem b0p (a:Nat→Int):(ubytes a).length=32:=by simp [ubytes]
def ucell (a:Nat→Int) (n i:Nat):Value:=if i < n then byteV (ub a i) else .int .u8 0
def ucells (a:Nat→Int) (n:Nat):Array Value:=((List.range 32).map (ucell a n)).toArray
theorem d0f (a:Nat→Int) (n:Nat) (v:Value) (hv:v=byteV (ub a n)):(ucells a n).setIfInBounds n v=ucells a (n+1):=by
 apply Array.ext
 ·simp [ucells]
 ·intro i h1 h2;rw [Array.getElem_setIfInBounds (by simpa [ucells] using h1)];simp only [ucells,List.getElem_toArray,List.getElem_map,List.getElem_range,ucell]
  by_cases h:n=i
  ·subst h;simp [hv]
  ·rw [if_neg h]
   by_cases h3:i < n
   ·rw [if_pos h3,if_pos (by omega)]
   ·rw [if_neg h3,if_neg (by omega)]
theorem e0G (a:Nat→Int) (n c j:Nat) (h1:8*c≤n) (h2:n < 8*c+8) (hj:3 - c=j):byteV (ub a n) = .int .u8 (a j / 2 ^ (8*(7+8*c - n)) % 256):=by
 unfold ub
 rw [byteV_of _ (Int.emod_nonneg _ (by decide)) (Int.emod_lt_of_pos _ (by decide)),pow256,show n / 8=c by omega,hj,show 7 - n % 8=7+8*c - n by omega]

theorem j0W (a:Nat→Int):ucells a 0=zrow (.int .u8 0) 32:=by
 simp [ucells,zrow,ucell,List.range_succ,List.replicate]
theorem o0r {a:Nat→Int} {n i g:Nat} {w:World} {e:TypeId} (h:w.heap[g]? = some (.cells (ucells a n) e (0,0))) (hi:i < 32):w.cell? ⟨g,i,none⟩=some (ucell a n i):=by
 rw [Lib.cell_of_heap h];simp [ucells,hi]
theorem n0a {a:Nat→Int} {g B:Nat} {w:World} {e:TypeId} (h:w.heap[g]? = some (.cells (ucells a 32) e (0,0))) (hB:B≤g:=by simp):Own w B e u8E 1 (.slice (some ⟨g,0,none⟩) 32 32) (ubytes a):=by
 have hl:=b0p a;have hf:(ubytes a).flatMap u8E=(ucells a 32).toList:=by
  have h1:∀ l:List UInt8,l.flatMap u8E=l.map byteV:=by
   intro l;induction l with
   | nil=>rfl
   | cons x l ih=>rw [List.flatMap_cons,ih];rfl
  rw [h1];simp only [ubytes,ucells,List.map_map]
  apply List.map_congr_left
  intro x hx
  simp [ucell,List.mem_range.1 hx]
 refine ⟨by rw [a0R u8E 1 (fun _=>rfl)],.inr ⟨g,32,ucells a 32,by rw [hl],hB,h,by omega,by unfold maxLen;omega,by simp [ucells],?_⟩⟩;rw [hf,List.take_of_length_le (by simp [ucells,hl])]
def w4 (a b c d:Int) (j:Nat):Int:=match j with | 0=>a | 1=>b | 2=>c | _=>d

theorem j0e (a0 a1 a2 a3:Int) (w:World) (_h0:0≤a0) (_h0':a0 < 18446744073709551616) (_h1:0≤a1) (_h1':a1 < 18446744073709551616) (_h2:0≤a2) (_h2':a2 < 18446744073709551616) (_h3:0≤a3) (_h3':a3 < 18446744073709551616) :
  Calls Tryz.prog 206 #[uV a0 a1 a2 a3] w fun e w'=>∃ v,e = .returned v∧Own w' w.heap.size 5 u8E 1 v (ubytes (w4 a0 a1 a2 a3))∧Below w.heap.size w w':=by
 unfold uV
 have hmk:∀ w,Sem.run Tryz.prog (Instr.makeSlice 122 (.int .i64 32) (.int .i64 32)) w = .ok (.slice (some ⟨w.heap.size,0,none⟩) 32 32) (w.alloc (.cells (zrow (.int .u8 0) 32) 5)):=
  fun w=>o0Z w _ Tryz.underlying122 Tryz.infoU8 rfl _ _ _ _ 32 32 rfl rfl (by omega) (by omega) (by omega)
 go_enter Tryz.func206,Tryz.ntmps206
 go_wp2
 clear hmk
 go_loopw [9] (fun i wr=>∃ n:Nat,n≤32∧i = .int .i64 n∧wr.heap[w.heap.size+1]? = some (.cells (ucells (w4 a0 a1 a2 a3) n) 5 (0,0))∧wr.heap[w.heap.size]? = some (.cells #[.int .u64 a0,.int .u64 a1,.int .u64 a2,.int .u64 a3] 25 (0,0))∧Below w.heap.size w wr) (fun i _=>32 - (intOf i).toNat)
 case atStart=>exact ⟨0,by omega,rfl,by rw [j0W];exact heap_alloc2_new _ _ _,heap_alloc2_old _ _ _,((Below.refl _ _).alloc (Nat.le_refl _) _).alloc (by simp) _⟩
 case round=>
  obtain ⟨n,hn,rfl,hblk,hpar,hb⟩:=hrel
  by_cases hlt:n < 32
  ·have k2:wr.frozen? ⟨w.heap.size+1,n,none⟩=false:=Lib.frozen_of_heap hblk n;have k3:wr.cell? ⟨w.heap.size+1,n,none⟩=some (ucell (w4 a0 a1 a2 a3) n n):=o0r hblk (by omega)
   rcases (show n < 8∨(8≤n∧n < 16)∨(16≤n∧n < 24)∨24≤n by omega) with hc | hc | hc | hc
   ·have e1:(31 - (n:Int)) / 8=3:=by omega
    have e2:(31 - (n:Int)) % 8=7 - n:=by omega
    have k1:wr.cell? ⟨w.heap.size,3,none⟩=some (.int .u64 a3):=Lib.cell_of_heap hpar 3
    go_wp2
    go_roundw
    case rel=>
     refine ⟨n+1,by omega,by go_num,?_,?_,?_⟩
     ·rw [← d0f (w4 a0 a1 a2 a3) n _ (e0G (w4 a0 a1 a2 a3) n 0 3 (by omega) (by omega) rfl).symm]
      exact heap_setCell_same _ _ _ _ _ _ hblk
     ·exact (heap_setCell_other _ _ _ _ (by simp)).trans hpar
     ·exact hb.setCell (p:=⟨w.heap.size+1,n,none⟩) (by simp) _
    case measure=>simp [intOf];omega
   ·have e1:(31 - (n:Int)) / 8=2:=by omega
    have e2:(31 - (n:Int)) % 8=15 - n:=by omega
    have k1:wr.cell? ⟨w.heap.size,2,none⟩=some (.int .u64 a2):=Lib.cell_of_heap hpar 2
    go_wp2
    go_roundw
    case rel=>
     refine ⟨n+1,by omega,by go_num,?_,?_,?_⟩
     ·rw [← d0f (w4 a0 a1 a2 a3) n _ (e0G (w4 a0 a1 a2 a3) n 1 2 (by omega) (by omega) rfl).symm]
      exact heap_setCell_same _ _ _ _ _ _ hblk
     ·exact (heap_setCell_other _ _ _ _ (by simp)).trans hpar
     ·exact hb.setCell (p:=⟨w.heap.size+1,n,none⟩) (by simp) _
    case measure=>simp [intOf];omega
   ·have e1:(31 - (n:Int)) / 8=1:=by omega
    have e2:(31 - (n:Int)) % 8=23 - n:=by omega
    have k1:wr.cell? ⟨w.heap.size,1,none⟩=some (.int .u64 a1):=Lib.cell_of_heap hpar 1
    go_wp2
    go_roundw
    case rel=>
     refine ⟨n+1,by omega,by go_num,?_,?_,?_⟩
     ·rw [← d0f (w4 a0 a1 a2 a3) n _ (e0G (w4 a0 a1 a2 a3) n 2 1 (by omega) (by omega) rfl).symm]
      exact heap_setCell_same _ _ _ _ _ _ hblk
     ·exact (heap_setCell_other _ _ _ _ (by simp)).trans hpar
     ·exact hb.setCell (p:=⟨w.heap.size+1,n,none⟩) (by simp) _
    case measure=>simp [intOf];omega
   ·have e1:(31 - (n:Int)) / 8=0:=by omega
    have e2:(31 - (n:Int)) % 8=31 - n:=by omega
    have k1:wr.cell? ⟨w.heap.size,0,none⟩=some (.int .u64 a0):=Lib.cell_of_heap hpar 0
    go_wp2
    go_roundw
    case rel=>
     refine ⟨n+1,by omega,by go_num,?_,?_,?_⟩
     ·rw [← d0f (w4 a0 a1 a2 a3) n _ (e0G (w4 a0 a1 a2 a3) n 3 0 (by omega) (by omega) rfl).symm]
      exact heap_setCell_same _ _ _ _ _ _ hblk
     ·exact (heap_setCell_other _ _ _ _ (by simp)).trans hpar
     ·exact hb.setCell (p:=⟨w.heap.size+1,n,none⟩) (by simp) _
    case measure=>simp [intOf];omega
  ·obtain rfl:n=32:=by omega
   go_wp2
   go_ret
   exact ⟨_,rfl,n0a hblk,hb⟩
def uArr (l:List UInt8):Array Value:=if l.length=32 then #[.int .u64 (wd l 0),.int .u64 (wd l 1),.int .u64 (wd l 2),.int .u64 (wd l 3)] else u0
theorem g0r (l:List UInt8):(uArr l).size=4:=by unfold uArr;split<;>rfl
theorem d0X (l:List UInt8):(Tryz.prog.info? 25).map (·.size)=some (uArr l).size:=by rw [g0r];exact Tryz.sizeU
theorem l0h (l:List UInt8):(uArr l).all (·.oneCell')=true:=by unfold uArr;split<;>simp [Value.oneCell',u0]
theorem k0S {l:List UInt8} (h:l.length=32):Value.agg (uArr l)=uOf l:=by unfold uArr uOf uV;rw [if_pos h]
theorem j0T {l:List UInt8} (h:l.length≠32):uArr l=u0:=by unfold uArr;rw [if_neg h]

theorem i0p (l:List UInt8) (v:Value) (w:World) (hv:Rd w u8E 1 v l) :
  Calls Tryz.prog 169 #[v] w (Ret w (.tuple #[.agg (uArr l),.bool (decide (l.length=32))])):=by
 by_cases h:l.length=32
 ·rw [k0S h,decide_eq_true h];exact h0F l v w h hv
 ·rw [j0T h,decide_eq_false h];exact j0q l v w h hv
theorem q0k (n:Int) (h0:0≤n) (h1:n < 18446744073709551616):(be (numL n):Int)=n:=by
 have e:∀ i:Nat,((UInt8.ofNat (n / 256 ^ i % 256).toNat).toNat:Int)=n / 256 ^ i % 256:=fun i=>u8_of _ (Int.emod_nonneg _ (by decide)) (Int.emod_lt_of_pos _ (by decide))
 have e0:=e 0;have e1:=e 1;have e2:=e 2;have e3:=e 3;have e4:=e 4;have e5:=e 5;have e6:=e 6;have e7:=e 7;have hb:be (numL n)=((((((((0*256+(UInt8.ofNat (n / 256 ^ 7 % 256).toNat).toNat)*256+(UInt8.ofNat (n / 256 ^ 6 % 256).toNat).toNat)*256+(UInt8.ofNat (n / 256 ^ 5 % 256).toNat).toNat)*256+(UInt8.ofNat (n / 256 ^ 4 % 256).toNat).toNat)*256+(UInt8.ofNat (n / 256 ^ 3 % 256).toNat).toNat)*256+(UInt8.ofNat (n / 256 ^ 2 % 256).toNat).toNat)*256+(UInt8.ofNat (n / 256 ^ 1 % 256).toNat).toNat)*256+(UInt8.ofNat (n / 256 ^ 0 % 256).toNat).toNat):=rfl;rw [hb]
 generalize (UInt8.ofNat (n / 256 ^ 0 % 256).toNat).toNat=c0 at *
 generalize (UInt8.ofNat (n / 256 ^ 1 % 256).toNat).toNat=c1 at *
 generalize (UInt8.ofNat (n / 256 ^ 2 % 256).toNat).toNat=c2 at *
 generalize (UInt8.ofNat (n / 256 ^ 3 % 256).toNat).toNat=c3 at *
 generalize (UInt8.ofNat (n / 256 ^ 4 % 256).toNat).toNat=c4 at *
 generalize (UInt8.ofNat (n / 256 ^ 5 % 256).toNat).toNat=c5 at *
 generalize (UInt8.ofNat (n / 256 ^ 6 % 256).toNat).toNat=c6 at *
 generalize (UInt8.ofNat (n / 256 ^ 7 % 256).toNat).toNat=c7 at *
 omega

theorem upart (a:Nat→Int) (j:Nat) (hj:j < 4) (h0:0≤a j) (h1:a j < 18446744073709551616):(wd (ubytes a) j:Int)=a j:=by
 have hc:chunk (ubytes a) (3 - j)=numL (a j):=by
  unfold chunk ubytes numL
  apply List.ext_getElem
  ·simp;omega
  ·intro i h2 h3
   simp at h3
   simp only [List.getElem_take,List.getElem_drop,List.getElem_map,List.getElem_range,ub];rw [show 3 - (8*(3 - j)+i) / 8=j by omega,show 7 - (8*(3 - j)+i) % 8=7 - i by omega]
 rw [wd,hc,q0k _ h0 h1]

theorem o0C (x y:List UInt8):be (x ++ y)=be x*256 ^ y.length+be y:=by
 have key:∀ n (y:List UInt8),y.length=n→be (x ++ y)=be x*256 ^ y.length+be y:=by
  intro n
  induction n with
  | zero=>intro y hy;rw [List.length_eq_zero_iff.1 hy];simp [r0K]
  | succ n ih=>
   intro y hy;have hne:y≠[]:=by intro e;subst e;cases hy
   obtain ⟨z,c,rfl⟩:∃ z c,y=z ++ [c]:=⟨y.dropLast,y.getLast hne,(List.dropLast_concat_getLast hne).symm⟩;have hz:z.length=n:=by simpa using hy
   rw [← List.append_assoc,e0D,e0D,ih z hz,List.length_append,List.length_singleton,Nat.pow_succ,Nat.add_mul,Nat.mul_assoc]
   omega
 exact key _ y rfl
def UIs (a b c d:Int) (n:Nat):Prop:=(0≤a∧a < 18446744073709551616)∧(0≤b∧b < 18446744073709551616)∧(0≤c∧c < 18446744073709551616)∧(0≤d∧d < 18446744073709551616)∧(n:Int)=a+b*18446744073709551616+c*340282366920938463463374607431768211456+d*6277101735386680763835789423207666416102355444464034512896
abbrev uMax:Nat:=115792089237316195423570985008687907853269984665640564039457584007913129639936
theorem UIs.zero:UIs 0 0 0 0 0:=by unfold UIs;omega
theorem UIs.lt {a b c d:Int} {n:Nat} (h:UIs a b c d n):n < uMax:=by unfold UIs uMax at *;omega
theorem UIs.words {a b c d:Int} {n:Nat} (h:UIs a b c d n):a=(n:Int) % 18446744073709551616∧b=(n:Int) / 18446744073709551616 % 18446744073709551616∧c=(n:Int) / 340282366920938463463374607431768211456 % 18446744073709551616∧d=(n:Int) / 6277101735386680763835789423207666416102355444464034512896:=by
 unfold UIs at h
 refine ⟨?_,?_,?_,?_⟩<;>omega
theorem UIs.of {n:Nat} (h:n < uMax):UIs ((n:Int) % 18446744073709551616) ((n:Int) / 18446744073709551616 % 18446744073709551616) ((n:Int) / 340282366920938463463374607431768211456 % 18446744073709551616) ((n:Int) / 6277101735386680763835789423207666416102355444464034512896) n:=by
 unfold UIs;unfold uMax at h
 refine ⟨⟨?_,?_⟩,⟨?_,?_⟩,⟨?_,?_⟩,⟨?_,?_⟩,?_⟩<;>omega
theorem UIs.same {a b c d:Int} {n m:Nat} (h:UIs a b c d n) (h':UIs a b c d m):n=m:=by
 unfold UIs at h h';omega
theorem UIs.eq {a b c d a' b' c' d':Int} {n m:Nat} (h:UIs a b c d n) (h':UIs a' b' c' d' m):decide ([a,b,c,d] = [a',b',c',d'])=decide (n=m):=by
 by_cases e:n=m
 ·subst e;obtain ⟨e1,e2,e3,e4⟩:=h.words;obtain ⟨f1,f2,f3,f4⟩:=h'.words;rw [decide_eq_true rfl,decide_eq_true];rw [e1,e2,e3,e4,f1,f2,f3,f4]
 ·rw [decide_eq_false e,decide_eq_false];intro k
  injection k with k1 k
  injection k with k2 k
  injection k with k3 k
  injection k with k4 k
  subst k1 k2 k3 k4
  exact e (h.same h')
def uw0 (n:Nat):Int:=(n:Int) % 18446744073709551616
def uw1 (n:Nat):Int:=(n:Int) / 18446744073709551616 % 18446744073709551616
def uw2 (n:Nat):Int:=(n:Int) / 340282366920938463463374607431768211456 % 18446744073709551616
def uw3 (n:Nat):Int:=(n:Int) / 6277101735386680763835789423207666416102355444464034512896
theorem UIs.uw {a b c d:Int} {n:Nat} (h:UIs a b c d n):a=uw0 n∧b=uw1 n∧c=uw2 n∧d=uw3 n:=h.words
theorem uw_is {n:Nat} (h:n < uMax):UIs (uw0 n) (uw1 n) (uw2 n) (uw3 n) n:=UIs.of h
theorem UIs.some {a b c d:Int} (ha:0≤a∧a < 18446744073709551616) (hb:0≤b∧b < 18446744073709551616) (hc:0≤c∧c < 18446744073709551616) (hd:0≤d∧d < 18446744073709551616):∃ n,UIs a b c d n:=
 ⟨(a+b*18446744073709551616+c*340282366920938463463374607431768211456+d*6277101735386680763835789423207666416102355444464034512896).toNat,ha,hb,hc,hd,by omega⟩
theorem Tryz.eqUn {a b c d a' b' c' d':Int} {n m:Nat} (h:UIs a b c d n) (h':UIs a' b' c' d' m) (w:World):(Op.equalIn 10000 25 (.agg #[.int .u64 a,.int .u64 b,.int .u64 c,.int .u64 d]) (.agg #[.int .u64 a',.int .u64 b',.int .u64 c',.int .u64 d'])).run Tryz.prog w = .ok (decide (n=m)) w:=by
 rw [Tryz.eqU,h.eq h']
def amtF (l:List UInt8):Nat:=if l.length=32 then be l else 0
theorem wd_is {l:List UInt8} (h:l.length=32):UIs (wd l 0) (wd l 1) (wd l 2) (wd l 3) (be l):=by
 have h0:=wd_lt l 0 (by omega);have h1:=wd_lt l 1 (by omega);have h2:=wd_lt l 2 (by omega);have h3:=wd_lt l 3 (by omega);have e:l=chunk l 0 ++ (chunk l 1 ++ (chunk l 2 ++ chunk l 3)):=by
  have e3:chunk l 3=l.drop 24:=by
   unfold chunk;rw [List.take_of_length_le];simp;omega
  have e2:chunk l 2 ++ chunk l 3=l.drop 16:=by
   rw [e3,show l.drop 24=(l.drop 16).drop 8 by simp];exact List.take_append_drop 8 _
  have e1:chunk l 1 ++ l.drop 16=l.drop 8:=by
   rw [show l.drop 16=(l.drop 8).drop 8 by simp];exact List.take_append_drop 8 _
  rw [e2,e1]
  exact (List.take_append_drop 8 l).symm
 have c1:=c0U l 1 (by omega);have c2:=c0U l 2 (by omega);have c3:=c0U l 3 (by omega);have hb:be l=wd l 3*256 ^ 24+(wd l 2*256 ^ 16+(wd l 1*256 ^ 8+wd l 0)):=by
  have hb:=congrArg be e;rw [o0C,o0C,o0C,List.length_append,List.length_append,c1,c2,c3] at hb
  exact hb
 unfold UIs
 refine ⟨by omega,by omega,by omega,by omega,?_⟩;rw [hb];have:(256:Nat) ^ 24=6277101735386680763835789423207666416102355444464034512896:=by decide
 have:(256:Nat) ^ 16=340282366920938463463374607431768211456:=by decide
 have:(256:Nat) ^ 8=18446744073709551616:=by decide
 omega
theorem p0b (l:List UInt8):∃ a b c d:Int,uArr l=#[.int .u64 a,.int .u64 b,.int .u64 c,.int .u64 d]∧UIs a b c d (amtF l):=by
 by_cases h:l.length=32
 ·unfold uArr amtF
  rw [if_pos h,if_pos h]
  exact ⟨_,_,_,_,rfl,wd_is h⟩
 ·unfold amtF
  rw [j0T h,if_neg h]
  exact ⟨_,_,_,_,rfl,UIs.zero⟩
def uWord (n:Nat) (j:Nat):Int:=(((n / 18446744073709551616 ^ j) % 18446744073709551616:Nat):Int)
def amtB (n:Nat):List UInt8:=ubytes (uWord n)
theorem a0J (n:Nat):(amtB n).length=32:=b0p _
theorem s0m (n:Nat):amtB n≠[]:=by
 intro e;have:=a0J n;rw [e] at this;cases this
theorem l0J {a b c d:Int} {n:Nat} (h:UIs a b c d n):∀ j,j < 4→w4 a b c d j=uWord n j:=by
 obtain ⟨e1,e2,e3,e4⟩:=h.words;have hl:=h.lt;intro j hj
 unfold uWord
 match j,hj with
 | 0,_=>show a=_;rw [e1,Nat.pow_zero,Nat.div_one];omega
 | 1,_=>show b=_;rw [e2,Nat.pow_one];omega
 | 2,_=>show c=_;rw [e3,show (18446744073709551616:Nat) ^ 2=340282366920938463463374607431768211456 by decide];omega
 | 3,_=>show d=_;rw [e4,show (18446744073709551616:Nat) ^ 3=6277101735386680763835789423207666416102355444464034512896 by decide];unfold uMax at hl;omega
theorem g0q {a b c d:Int} {n:Nat} (h:UIs a b c d n):ubytes (w4 a b c d)=amtB n:=by
 unfold amtB ubytes
 refine List.map_congr_left fun i hi=>?_
 have hi2:i < 32:=List.mem_range.1 hi
 unfold ub
 rw [l0J h _ (by omega)]
theorem i0v {n:Nat} (h:n < uMax):amtF (amtB n)=n:=by
 unfold amtF
 rw [if_pos (a0J n)];have h1:=wd_is (a0J n);have h2:=UIs.of h;have hw:∀ j,j < 4→(wd (amtB n) j:Int)=uWord n j:=fun j hj=>upart _ j hj (by unfold uWord;omega) (by unfold uWord;omega)
 have hs:=l0J h2;have e0:=(hw 0 (by omega)).trans (hs 0 (by omega)).symm;have e1:=(hw 1 (by omega)).trans (hs 1 (by omega)).symm;have e2:=(hw 2 (by omega)).trans (hs 2 (by omega)).symm;have e3:=(hw 3 (by omega)).trans (hs 3 (by omega)).symm;rw [e0,e1,e2,e3] at h1
 exact h1.same h2
end Go.Proofs.YtakkfabaeolbdaaGreat
