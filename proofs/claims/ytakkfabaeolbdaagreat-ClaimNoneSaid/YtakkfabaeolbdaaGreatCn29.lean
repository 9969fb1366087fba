/- The reference's FromBytes and ToAmount. No condition. tallageref09.ToAmount. No condition. -/
import Derived.Test.YtakkfabaeolbdaaGreatCnUn
import Derived.Test.YtakkfabaeolbdaaGreatCn28
namespace Go.Proofs.YtakkfabaeolbdaaGreat
section
set_option maxHeartbeats 2000000
open Go.RowKit
theorem e0R (l:List UInt8) (v:Value) (w:World) (hl:l.length=32) (hv:Rd w u8E 1 v l) :
  Calls Tryz.prog 193 #[v] w (Ret w (.tuple #[uOf l,.bool true])):=by
 obtain ⟨ad,cap,rfl,hc1,hc2⟩:=hv.shape;rw [hl];rw [hl] at hv;have HL:=Lib.hid hl;clear hl
 go_enter Tryz.func193,Tryz.ntmps193
 go_wp2
 go_loopw [14] (fun i wr=>∃ n:Nat,n≤32∧i = .int .i64 n∧wr.heap[w.heap.size+1]? = some (.cells (uCells l n) 25 (0,0))∧wr.heap[w.heap.size]? = some (.cells u0 25 (0,0))∧Below w.heap.size w wr) (fun i _=>32 - (intOf i).toNat)
 case atStart=>exact ⟨0,by omega,rfl,by rw [f0n];exact heap_alloc2_new _ _ _,heap_alloc2_old _ _ _,((Below.refl _ _).alloc (Nat.le_refl _) _).alloc (by simp) _⟩
 case round=>
  obtain ⟨n,hn,rfl,hblk,hres,hb⟩:=hrel
  by_cases hlt:n < 32
  ·obtain ⟨b,off,rfl,hbb,hcell⟩:=(hv.later hb).at n (by rw [HL.out];exact hlt);obtain ⟨x,hx⟩:∃ x,x=l[n]'(by rw [HL.out];exact hlt):=⟨_,rfl⟩;rw [← hx] at hcell;replace hcell:wr.cell? ⟨b,off+n,none⟩=some (.int .u8 (x.toNat:Int)):=hcell;have HX:=Lib.hid hx;clear hx
   rcases (show n < 8∨(8≤n∧n < 16)∨(16≤n∧n < 24)∨24≤n by omega) with hc | hc | hc | hc
   ·have e1:(31 - (n:Int)) / 8=3:=by omega
    have e2:(31 - (n:Int)) % 8=7 - n:=by omega
    have k1:=Lib.cell_of_heap hblk 3;have k2:wr.frozen? ⟨w.heap.size+1,3,none⟩=false:=Lib.frozen_of_heap hblk 3;replace k1:wr.cell? ⟨w.heap.size+1,3,none⟩=some (.int .u64 (pw l n 3)):=k1
    go_wp2
    go_roundw
    case rel=>
     refine ⟨n+1,by omega,by go_num,?_,?_,?_⟩
     ·rw [← g0w l n x (by omega) (by omega) (by rw [HL.out];exact hlt) HX.out]
      exact heap_setCell_same _ _ _ _ _ _ hblk
     ·exact (heap_setCell_other _ _ _ _ (by simp)).trans hres
     ·exact (hb.setCell (p:=⟨w.heap.size+1,3,none⟩) (by simp) _)
    case measure=>simp [intOf];omega
   ·have e1:(31 - (n:Int)) / 8=2:=by omega
    have e2:(31 - (n:Int)) % 8=15 - n:=by omega
    have k1:=Lib.cell_of_heap hblk 2;have k2:wr.frozen? ⟨w.heap.size+1,2,none⟩=false:=Lib.frozen_of_heap hblk 2;replace k1:wr.cell? ⟨w.heap.size+1,2,none⟩=some (.int .u64 (pw l n 2)):=k1
    go_wp2
    go_roundw
    case rel=>
     refine ⟨n+1,by omega,by go_num,?_,?_,?_⟩
     ·rw [← g0C l n x (by omega) (by omega) (by rw [HL.out];exact hlt) HX.out]
      exact heap_setCell_same _ _ _ _ _ _ hblk
     ·exact (heap_setCell_other _ _ _ _ (by simp)).trans hres
     ·exact (hb.setCell (p:=⟨w.heap.size+1,2,none⟩) (by simp) _)
    case measure=>simp [intOf];omega
   ·have e1:(31 - (n:Int)) / 8=1:=by omega
    have e2:(31 - (n:Int)) % 8=23 - n:=by omega
    have k1:=Lib.cell_of_heap hblk 1;have k2:wr.frozen? ⟨w.heap.size+1,1,none⟩=false:=Lib.frozen_of_heap hblk 1;replace k1:wr.cell? ⟨w.heap.size+1,1,none⟩=some (.int .u64 (pw l n 1)):=k1
    go_wp2
    go_roundw
    case rel=>
     refine ⟨n+1,by omega,by go_num,?_,?_,?_⟩
     ·rw [← g0l l n x (by omega) (by omega) (by rw [HL.out];exact hlt) HX.out]
      exact heap_setCell_same _ _ _ _ _ _ hblk
     ·exact (heap_setCell_other _ _ _ _ (by simp)).trans hres
     ·exact (hb.setCell (p:=⟨w.heap.size+1,1,none⟩) (by simp) _)
    case measure=>simp [intOf];omega
   ·have e1:(31 - (n:Int)) / 8=0:=by omega
    have e2:(31 - (n:Int)) % 8=31 - n:=by omega
    have k1:=Lib.cell_of_heap hblk 0;have k2:wr.frozen? ⟨w.heap.size+1,0,none⟩=false:=Lib.frozen_of_heap hblk 0;replace k1:wr.cell? ⟨w.heap.size+1,0,none⟩=some (.int .u64 (pw l n 0)):=k1
    go_wp2
    go_roundw
    case rel=>
     refine ⟨n+1,by omega,by go_num,?_,?_,?_⟩
     ·rw [← f0V l n x (by omega) (by omega) (by rw [HL.out];exact hlt) HX.out]
      exact heap_setCell_same _ _ _ _ _ _ hblk
     ·exact (heap_setCell_other _ _ _ _ (by simp)).trans hres
     ·exact (hb.setCell (p:=⟨w.heap.size+1,0,none⟩) (by simp) _)
    case measure=>simp [intOf];omega
  ·obtain rfl:n=32:=by omega
   rw [g0P] at hblk
   go_wp2_with (first | (refine wpList_load_row rfl _ _ rfl _ rfl _ _ _ _ hblk Tryz.underlying25 rfl Tryz.sizeU ?_) | (refine wpList_store_row (t:=25) (old:=u0) rfl 25 (.tmp 2) _ rfl w.heap.size #[.int .u64 (wd l 0),.int .u64 (wd l 1),.int .u64 (wd l 2),.int .u64 (wd l 3)] rfl rfl hres Tryz.sizeU rfl (a0Y _ _ _ _) ?_))
   refine bodyPost_ret (b0m rfl _ _ w.heap.size _ #[.int .u64 (wd l 0),.int .u64 (wd l 1),.int .u64 (wd l 2),.int .u64 (wd l 3)] _ _ rfl (setRow_heap _ _ _ _ _ _ hres) Tryz.underlying25 rfl Tryz.sizeU) rfl ⟨rfl,below_setRow hb (Nat.le_refl _) _⟩

theorem g0y (l:List UInt8) (v:Value) (w:World) (hl:l.length≠32) (hv:Rd w u8E 1 v l) :
  Calls Tryz.prog 193 #[v] w (Ret w (.tuple #[.agg u0,.bool false])):=by
 obtain ⟨ad,cap,rfl,hc1,hc2⟩:=hv.shape;have hne:((l.length:Int) != 32)=true:=by simp;omega
 go_enter Tryz.func193,Tryz.ntmps193
 go_wp2
 refine bodyPost_ret (b0m rfl _ _ w.heap.size _ u0 _ _ rfl (heap_alloc2_old _ _ _) Tryz.underlying25 rfl Tryz.sizeU) rfl ⟨rfl,((Below.refl _ _).alloc (Nat.le_refl _) _).alloc (by simp) _⟩
theorem e0S (l:List UInt8) (v:Value) (w:World) (hv:Rd w u8E 1 v l) :
  Calls Tryz.prog 193 #[v] w (Ret w (.tuple #[.agg (uArr l),.bool (decide (l.length=32))])):=by
 by_cases h:l.length=32
 ·rw [k0S h,decide_eq_true h];exact e0R l v w h hv
 ·rw [j0T h,decide_eq_false h];exact g0y l v w h hv
end
section
set_option maxHeartbeats 1000000
open Go.RowKit

theorem f0B (s:ByteArray) (w:World) (hs:s.size≤1000000000) :
  Calls Tryz.prog 149 #[.string s] w (Ret w (.tuple #[.agg (uArr s.data.toList),.bool (decide (s.size=32))])):=by
 have hdl:Hid (s.data.toList.length=s.size):=by unfold Hid;simp
 go_enter Tryz.func149,Tryz.ntmps149
 go_wp2_with (first | (refine l0B rfl _ _ _ rfl Tryz.underlying9 Tryz.underlying122 Tryz.underlying5 s rfl (by omega) ?_;intro ad cap w1 hrd hb1 hcap) | fail)
 have hz1:=hb1.size;have hd1:w1.heap[w.heap.size]? = some (.cells u0 25 (0,0)):=(hb1.block _ (by simp)).trans (heap_alloc_new _ _);refine (e0S _ _ _ hrd).mono ?_;rintro e w2 ⟨rfl,hb2⟩;rw [hdl.out];have hd2:w2.heap[w.heap.size]? = some (.cells u0 25 (0,0)):=(hb2.block _ (by simp at hz1;omega)).trans hd1;have hb:Below w.heap.size w w2:=(((Below.refl _ _).alloc (Nat.le_refl _) _).trans (hb1.mono (by simp))).trans (hb2.mono (by simp at hz1;omega));clear hd1 hb1 hb2 hrd
 go_wp2_with (refine wpList_store_row (t:=25) (old:=u0) rfl 25 (.tmp 2) _ rfl w.heap.size (uArr s.data.toList) rfl rfl hd2 (d0X _) (by rw [g0r];rfl) (l0h _) ?_)
 refine bodyPost_ret (b0m rfl _ _ w.heap.size _ (uArr s.data.toList) _ _ rfl (setRow_heap _ _ _ _ _ _ hd2) Tryz.underlying25 rfl (d0X _)) rfl ⟨rfl,below_setRow hb (Nat.le_refl _) _⟩



theorem m0h (l:List UInt8) (w:World) (hs:l.length≤1000000000):Calls Tryz.prog 149 #[.string (bs l)] w (ToAmtRet w l):=by
 refine (f0B (bs l) w (by rw [b0e];exact hs)).mono ?_;rintro e w' ⟨rfl,hb⟩;obtain ⟨a,b,c,d,h1,h2⟩:=p0b l;refine ⟨a,b,c,d,h2,?_,hb⟩;rw [i0t,b0e,h1]
end
end Go.Proofs.YtakkfabaeolbdaaGreat
