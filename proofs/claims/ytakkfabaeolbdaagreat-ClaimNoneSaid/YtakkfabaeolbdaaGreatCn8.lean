/- sha.schedule: the walk. sha.begin, sha.constants: what they hold. sha.State: is, Len of a state that no call made. -/
import Derived.Test.YtakkfabaeolbdaaGreatCn7
import Derived.StillTailTactics
import Derived.Deep.RegionHeld3
import Derived.LoopTactic
namespace Go.Proofs.YtakkfabaeolbdaaGreat
section
set_option maxHeartbeats 4000000
set_option maxRecDepth 100000
open Go.RowKit

theorem i0P (b:List UInt8) (h64:b.length=64) (w:World) :
  Calls Tryz.prog 263 #[.agg (c8 b)] w (Ret w (.agg (cW 64 (schedTo b 64)))):=by
 have HL:=Lib.hid h64;clear h64
 go_enter Tryz.func263,Tryz.ntmps263
 go_wp2
 go_loopw [4,5,6] (fun _ _ i wr=>∃ n:Nat,n≤64∧i = .int .i64 n∧wr.heap[w.heap.size]? = some (.cells (c8 b) 309 (0,0))∧wr.heap[w.heap.size+1]? = some (.cells (cW 64 []) 221 (0,0))∧wr.heap[w.heap.size+1+1]? = some (.cells (cW 64 (schedTo b n)) 221 (0,0))∧Below w.heap.size w wr) (fun _ _ i _=>64 - (intOf i).toNat)
 case atStart=>
  exact ⟨0,by omega,rfl,(heap3 _ _ _ _).1,(heap3 _ _ _ _).2.1.trans (by kernel_rfl),(heap3 _ _ _ _).2.2.trans (show _=some (Obj.cells (cW 64 []) 221 (0,0)) by kernel_rfl),(((Below.refl _ _).alloc (Nat.le_refl _) _).alloc (by simp) _).alloc (by simp;omega) _⟩
 case round=>
  obtain ⟨n,hn,rfl,hblk,hres,hw,hb⟩:=hrel
  by_cases hlt:n < 64
  ·have ks:=Lib.cell_of_heap hw n;have kf:wr.frozen? ⟨w.heap.size+1+1,n,none⟩=false:=Lib.frozen_of_heap hw n;rw [p0B _ _ _ (by rw [a0n];omega) hlt] at ks
   rcases (show n < 16∨16≤n by omega) with hc | hc
   ·go_wp2
    refine b0S 27 (by kernel_rfl) (by kernel_rfl) fun w2 hw2=>?_
    simp only [List.take_succ_cons,List.take_zero,List.drop_succ_cons,List.drop_zero];replace hblk:w2.heap[w.heap.size]? = some (.cells (c8 b) 309 (0,0)):=by rw [hw2];exact hblk
    replace hres:w2.heap[w.heap.size+1]? = some (.cells (cW 64 []) 221 (0,0)):=by rw [hw2];exact hres
    replace hw:w2.heap[w.heap.size+1+1]? = some (.cells (cW 64 (schedTo b n)) 221 (0,0)):=by rw [hw2];exact hw
    replace hb:Below w.heap.size w w2:=by rw [hw2];exact hb.drew
    clear hw2 ks kf;have ks:=Lib.cell_of_heap hw n;have kf:w2.frozen? ⟨w.heap.size+1+1,n,none⟩=false:=Lib.frozen_of_heap hw n;rw [p0B _ _ _ (by rw [a0n];omega) hlt] at ks;have k0:=Lib.cell_of_heap hblk (4*n);have k1:=Lib.cell_of_heap hblk (4*n+1);have k2:=Lib.cell_of_heap hblk (4*n+2);have k3:=Lib.cell_of_heap hblk (4*n+3);rw [c8_at _ _ (by rw [HL.out];omega)] at k0 k1 k2 k3;have i0:(0:Int)≤4*(n:Int):=by omega
    have j0:4*(n:Int) < 64:=by omega
    have t0:(4*(n:Int)).toNat=4*n:=by omega
    have x1:IntKind.i64.wrap (4*(n:Int)+1)=4*(n:Int)+1:=by rw [IntKind.wrap_i64];omega
    have i1:(0:Int)≤4*(n:Int)+1:=by omega
    have j1:4*(n:Int)+1 < 64:=by omega
    have t1:(4*(n:Int)+1).toNat=4*n+1:=by omega
    have x2:IntKind.i64.wrap (4*(n:Int)+2)=4*(n:Int)+2:=by rw [IntKind.wrap_i64];omega
    have i2:(0:Int)≤4*(n:Int)+2:=by omega
    have j2:4*(n:Int)+2 < 64:=by omega
    have t2:(4*(n:Int)+2).toNat=4*n+2:=by omega
    have x3:IntKind.i64.wrap (4*(n:Int)+3)=4*(n:Int)+3:=by rw [IntKind.wrap_i64];omega
    have i3:(0:Int)≤4*(n:Int)+3:=by omega
    have j3:4*(n:Int)+3 < 64:=by omega
    have t3:(4*(n:Int)+3).toNat=4*n+3:=by omega
    have j4:(n:Int) < 64:=by omega
    repeat still_step
    refine wpStill_nil ?_
    go_wp2
    go_roundw
    case rel=>
     refine ⟨n+1,by omega,by go_num,(heap_setCell_other _ _ _ _ (by simp;omega)).trans hblk,(heap_setCell_other _ _ _ _ (by simp)).trans hres,(heap_setCell_same _ _ _ _ _ _ hw).trans (by rw [m0K b n hc]),hb.setCell (p:=⟨w.heap.size+1+1,n,none⟩) (by simp;omega) _⟩
    case measure=>simp [intOf];omega
   ·replace ks:=g0B ks;have hlen:=a0n b n;have x2:IntKind.i64.wrap ((n:Int) - 2)=(n:Int) - 2:=by rw [IntKind.wrap_i64];omega
    have i2:(0:Int)≤(n:Int) - 2:=by omega
    have y2:(2:Int)≤(n:Int):=by omega
    have j2:(n:Int) - 2 < 64:=by omega
    have t2:((n:Int) - 2).toNat=n - 2:=by omega
    have d2:¬ (n=n - 2):=by omega
    have k2:=Lib.cell_of_heap hw (n - 2);rw [cW_at _ _ _ (by rw [a0n];omega)] at k2;have x7:IntKind.i64.wrap ((n:Int) - 7)=(n:Int) - 7:=by rw [IntKind.wrap_i64];omega
    have i7:(0:Int)≤(n:Int) - 7:=by omega
    have y7:(7:Int)≤(n:Int):=by omega
    have j7:(n:Int) - 7 < 64:=by omega
    have t7:((n:Int) - 7).toNat=n - 7:=by omega
    have d7:¬ (n=n - 7):=by omega
    have k7:=Lib.cell_of_heap hw (n - 7);rw [cW_at _ _ _ (by rw [a0n];omega)] at k7;have x15:IntKind.i64.wrap ((n:Int) - 15)=(n:Int) - 15:=by rw [IntKind.wrap_i64];omega
    have i15:(0:Int)≤(n:Int) - 15:=by omega
    have y15:(15:Int)≤(n:Int):=by omega
    have j15:(n:Int) - 15 < 64:=by omega
    have t15:((n:Int) - 15).toNat=n - 15:=by omega
    have d15:¬ (n=n - 15):=by omega
    have k15:=Lib.cell_of_heap hw (n - 15);rw [cW_at _ _ _ (by rw [a0n];omega)] at k15;have x16:IntKind.i64.wrap ((n:Int) - 16)=(n:Int) - 16:=by rw [IntKind.wrap_i64];omega
    have i16:(0:Int)≤(n:Int) - 16:=by omega
    have y16:(16:Int)≤(n:Int):=by omega
    have j16:(n:Int) - 16 < 64:=by omega
    have t16:((n:Int) - 16).toNat=n - 16:=by omega
    have d16:¬ (n=n - 16):=by omega
    have k16:=Lib.cell_of_heap hw (n - 16);rw [cW_at _ _ _ (by rw [a0n];omega)] at k16;clear hlen;have j0:(n:Int) < 64:=by omega
    have hc2:∀ w2:World,Calls Tryz.prog 270 #[.int .u32 (gW (schedTo b n) (n - 2)).toNat,.int .i64 17,.int .i64 19,.int .i64 10] w2 fun e w'=>e = .returned (.int .u32 (smlF (gW (schedTo b n) (n - 2)) 17 19 10).toNat)∧∃ k,w'=w2.drewN k:=fun w2=>j0i (gW (schedTo b n) (n - 2)) 17 19 10 w2 (by omega) (by omega) (by omega) (by omega) (by omega) (by omega)
    have hc15:∀ w2:World,Calls Tryz.prog 270 #[.int .u32 (gW (schedTo b n) (n - 15)).toNat,.int .i64 7,.int .i64 18,.int .i64 3] w2 fun e w'=>e = .returned (.int .u32 (smlF (gW (schedTo b n) (n - 15)) 7 18 3).toNat)∧∃ k,w'=w2.drewN k:=fun w2=>j0i (gW (schedTo b n) (n - 15)) 7 18 3 w2 (by omega) (by omega) (by omega) (by omega) (by omega) (by omega)
    have HC2:=Lib.hid hc2;have HC15:=Lib.hid hc15;clear hc2 hc15;have HW:=Lib.hid hw;have HBLK:=Lib.hid hblk;have HRES:=Lib.hid hres;have HB:=Lib.hid hb;clear hw hblk hres hb
    go_wp2
    go_region_held3 (fun w'=>w'.cell? ⟨w.heap.size+1+1,n - 2,none⟩=some (.int .u32 (gW (schedTo b n) (n - 2)).toNat)∧w'.cell? ⟨w.heap.size+1+1,n - 7,none⟩=some (.int .u32 (gW (schedTo b n) (n - 7)).toNat)∧w'.cell? ⟨w.heap.size+1+1,n - 15,none⟩=some (.int .u32 (gW (schedTo b n) (n - 15)).toNat)∧w'.cell? ⟨w.heap.size+1+1,n - 16,none⟩=some (.int .u32 (gW (schedTo b n) (n - 16)).toNat)∧w'.frozen? ⟨w.heap.size+1+1,n,none⟩=false∧w'.cell? ⟨w.heap.size+1+1,n,none⟩=some (cellAt w' ⟨w.heap.size+1+1,n,none⟩))
     (first
      | exact ⟨k2,k7,k15,k16,kf,ks⟩
      | (refine ⟨?_,?_,?_,?_,?_,?_⟩<;>first | (go_keep;done) | (refine g0B (v:=cellAt wr _) ?_;go_keep;done))
      | exact near6 _ _ k2 k7 k15 k16 kf ks d2 d7 d15 d16)
     (first
      | (go_at_call 270;((with_reducible refine (HC2.out _).mono ?_);rintro e w' ⟨rfl,kq,rfl⟩))
      | (go_at_call 270;((with_reducible refine (HC15.out _).mono ?_);rintro e w' ⟨rfl,kq,rfl⟩)))
    all_goals
     go_split_ands
     go_wp2
     go_roundw
     case rel=>
      refine ⟨n+1,by omega,by go_num,(heap_setCell_other _ _ _ _ (by simp;omega)).trans HBLK.out,(heap_setCell_other _ _ _ _ (by simp)).trans HRES.out,(heap_setCell_same _ _ _ _ _ _ HW.out).trans (congrArg (fun x=>some (Obj.cells x _ _)) (m0b b n hc hlt)),(below_drewN HB.out _).setCell (p:=⟨w.heap.size+1+1,n,none⟩) (by simp;omega) _⟩
     case measure=>simp [intOf];omega
  ·obtain rfl:n=64:=by omega
   go_wp2_with (first | (refine wpList_load_row rfl _ _ rfl _ rfl _ _ _ _ hw Tryz.underlying221 rfl (Tryz.sizeS b 64 (Nat.le_refl _)) ?_) | (refine wpList_store_row (t:=221) (old:=cW 64 []) rfl 221 (.tmp 2) _ rfl (w.heap.size+1) (cW 64 (schedTo b 64)) rfl rfl hres (Tryz.sizeS b 64 (Nat.le_refl _)) (by rw [k0p _ _ (by simp),f0z b 64 (Nat.le_refl _)]) (one_w _ _) ?_))
   exact bodyPost_ret (results_cell_row rfl _ _ (w.heap.size+1) _ (cW 64 (schedTo b 64)) _ _ rfl (setRow_heap _ _ _ _ _ _ hres) Tryz.underlying221 rfl (Tryz.sizeS b 64 (Nat.le_refl _))) rfl ⟨rfl,below_setRow hb (by omega) _⟩
end
section
set_option maxHeartbeats 4000000
set_option maxRecDepth 100000
open Go.RowKit

theorem Tryz.sizeH:(Tryz.prog.info? 219).map (·.size)=some 8:=by kernel_rfl
theorem Tryz.sizeCon:(Tryz.prog.info? 221).map (·.size)=some (cW 64 conK).size:=by kernel_rfl
theorem Tryz.sizeBeg:(Tryz.prog.info? 219).map (·.size)=some (cW 8 begV.list).size:=by kernel_rfl

theorem i0m (w:World):Calls Tryz.prog 264 #[] w (Ret w (.agg (cW 64 conK))):=by
 go_enter Tryz.func264,Tryz.ntmps264
 go_wp2_with (first | (refine wpList_store_row (t:=221) (old:=cW 64 []) rfl 221 (.tmp 0) _ rfl w.heap.size (cW 64 conK) rfl (by kernel_rfl) ((heap_alloc_new _ _).trans (by kernel_rfl)) Tryz.sizeCon (by kernel_rfl) (one_w _ _) ?_))
 exact bodyPost_ret (results_cell_row rfl _ _ w.heap.size _ (cW 64 conK) _ _ rfl (setRow_heap _ _ _ _ _ _ ((heap_alloc_new _ _))) Tryz.underlying221 rfl Tryz.sizeCon) rfl ⟨rfl,below_setRow ((Below.refl _ _).alloc (Nat.le_refl _) _) (Nat.le_refl _) _⟩

theorem o0G (w:World):Calls Tryz.prog 248 #[] w (Ret w (.agg (cW 8 begV.list))):=by
 go_enter Tryz.func248,Tryz.ntmps248
 go_wp2_with (first | (refine wpList_store_row (t:=219) (old:=cW 8 []) rfl 219 (.tmp 0) _ rfl w.heap.size (cW 8 begV.list) rfl (by kernel_rfl) ((heap_alloc_new _ _).trans (by kernel_rfl)) Tryz.sizeBeg (by kernel_rfl) (one_w _ _) ?_))
 exact bodyPost_ret (results_cell_row rfl _ _ w.heap.size _ (cW 8 begV.list) _ _ rfl (setRow_heap _ _ _ _ _ _ ((heap_alloc_new _ _))) Tryz.underlying219 rfl Tryz.sizeBeg) rfl ⟨rfl,below_setRow ((Below.refl _ _).alloc (Nat.le_refl _) _) (Nat.le_refl _) _⟩
end
section
open Go.RowKit

theorem is_at (w:World) (g:Nat) (m:Bool) (h:w.cell? ⟨g,0,none⟩=some (.bool m)):Calls Tryz.prog 249 #[.pointer (some ⟨g,0,none⟩)] w fun e w'=>e = .returned (.bool m)∧w=w':=by
 go_enter Tryz.func249,Tryz.ntmps249
 go_wp2
 go_ret
 exact ⟨rfl,rfl⟩
def Off (w:World) (v:Value):Prop:=v = .pointer none∨∃ g,v = .pointer (some ⟨g,0,none⟩)∧w.cell? ⟨g,0,none⟩=some (.bool false)
end
end Go.Proofs.YtakkfabaeolbdaaGreat
