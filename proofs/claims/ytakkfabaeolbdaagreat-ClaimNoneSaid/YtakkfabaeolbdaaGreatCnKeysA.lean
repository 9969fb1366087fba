/- keys.Num: its contract; no condition but that the number is an int. -/
import Derived.Test.YtakkfabaeolbdaaGreatCnBase
namespace Go.Proofs.YtakkfabaeolbdaaGreat
set_option maxHeartbeats 1000000
set_option maxRecDepth 100000
open Go.RowKit

def numL (n:Int):List UInt8:=(List.range 8).map fun i=>UInt8.ofNat (n / 256 ^ (7 - i) % 256).toNat
theorem a0s (n:Int):(numL n).length=8:=by simp [numL]

theorem j0S (n:Int) (w:World) (h0:0≤n) (h1:n < 9223372036854775808) :
  Calls Tryz.prog 90 #[.int .i64 n] w (Ret w (.string (bs (numL n)))):=by
 go_enter Tryz.func90,Tryz.ntmps90
 go_wp2
 go_rounds 9
 rw [k0R _ _ _ 5 Tryz.underlying122 Tryz.underlying5 Tryz.underlying9 _ _ _ _ (numL n) (a0s n) _ _ _ (heap_alloc_new _ _) (by
  simp [numL,List.range_succ,byteV_of,Int.emod_nonneg,Int.emod_lt_of_pos];omega)]
 go_wp2
 go_ret
 exact ⟨rfl,(Below.refl _ _).alloc (Nat.le_refl _) _⟩

def nb (n:Int) (i:Nat):UInt8:=UInt8.ofNat (n / 256 ^ (7 - i) % 256).toNat
def numTo (n:Int) (k:Nat):List UInt8:=(List.range k).map (nb n)
theorem e0N (n:Int) (k:Nat):(numTo n k).length=k:=by simp [numTo]
theorem m0e (n:Int) (k:Nat):numTo n (k+1)=numTo n k ++ [nb n k]:=by simp [numTo,List.range_succ]
theorem pow256 (m:Nat):(256:Int) ^ m=2 ^ (8*m):=by rw [Int.pow_mul];rfl
theorem s0c (n:Int) (k:Nat):u8E (nb n k) = [.int .u8 (n / 2 ^ (8*(7 - k)) % 256)]:=by
 unfold u8E nb
 rw [byteV_of _ (Int.emod_nonneg _ (by decide)) (Int.emod_lt_of_pos _ (by decide)),pow256]

theorem e0t (n:Int) (w:World) (h0:0≤n) (h1:n < 9223372036854775808) :
  Calls Tryz.prog 147 #[.int .i64 n] w (Ret w (.string (bs (numL n)))):=by
 go_enter Tryz.func147,Tryz.ntmps147
 go_wp2
 go_loopw [3,4] (fun v i wr=>∃ k:Nat,k≤8∧i = .int .i64 (7 - (k:Int))∧Own wr w.heap.size 5 u8E 1 v (numTo n k)∧Below w.heap.size w wr) (fun _ i _=>(intOf i+1).toNat)
 case atStart=>exact ⟨0,by omega,rfl,Own.nil _ _ _ _ _,Below.refl _ _⟩
 case round=>
  obtain ⟨k,hk,rfl,hown,hb⟩:=hrel
  by_cases hlt:k < 8
  ·have hz:=hb.size
   go_wp2_with (at_builtin;refine b0x rfl _ _ _ rfl Tryz.underlying122 Tryz.infoU8 rfl (nb n k) hown rfl rfl (s0c n k) rfl (by rw [e0N];unfold maxLen;omega) (by rw [e0N];omega) hb (Nat.le_refl _) hz (Nat.le_refl _) ?_)
   rw [← m0e];intro v' w' hown' hb' _;clear hown hb
   go_wp2
   go_roundw
   case rel=>exact ⟨k+1,by omega,by go_num,hown',hb'⟩
   case measure=>simp [intOf];omega
  ·obtain rfl:k=8:=by omega
   have hcv:=g0m (dst:=9) Tryz.underlying122 Tryz.underlying5 Tryz.underlying9 (hown.rd (fun _=>rfl))
   go_wp2
   go_ret
   exact ⟨rfl,hb⟩

end Go.Proofs.YtakkfabaeolbdaaGreat
