/- keys.Nums and its reference: their contracts. -/
import Derived.Test.YtabminbgoclnkaaGreatVaKeysA
import Derived.Test.YtabminbgoclnkaaGreatVa1
namespace Go.Proofs.YtabminbgoclnkaaGreat
set_option maxHeartbeats 1000000
open Go.RowKit

def NumsSays (w:World) (l:List UInt8) (e:Ending) (w':World):Prop:=
 Below w.heap.size w w'∧match numsF l with
  | some xs=>∃ v,e = .returned (.tuple #[v,.bool true])∧Own w' w.heap.size 3 intE 1 v xs
  | none=>e = .returned (.tuple #[.slice none 0 0,.bool false])

theorem d0f {w w':World} {l:List UInt8} (h:numsF l=none) (hb:Below w.heap.size w w'):NumsSays w l (.returned (.tuple #[.slice none 0 0,.bool false])) w':=by
 unfold NumsSays;rw [h];exact ⟨hb,rfl⟩
theorem g0y {w w':World} {l:List UInt8} {xs:List Int} {v:Value} (h:numsF l=some xs) (hb:Below w.heap.size w w') (ho:Own w' w.heap.size 3 intE 1 v xs):NumsSays w l (.returned (.tuple #[v,.bool true])) w':=by
 unfold NumsSays;rw [h];exact ⟨hb,v,rfl,ho⟩

theorem l0h (s:ByteArray) (k m:Nat) (hm:m < 8) (h:8*k+m < s.size):bits BinOp.or IntKind.u64 ((part s.data.toList k m:Int)*256) (IntKind.u64.wrap ((s[8*k+m]'h).toNat:Int))=((part s.data.toList k (m+1):Nat):Int):=by
 rw [m0T _ _ (f0G _ _ _ hm),g0H _ _ _ (by simpa using h)];rfl

theorem g0e (s:ByteArray) (w:World) (hs:s.size≤1000000000) :
  Calls Tryz.prog 95 #[.string s] w (NumsSays w s.data.toList):=by
 by_cases h8:s.size % 8=0
 ·have hd:((s.size:Int) % 8 != 0)=false:=by simp;omega
  go_enter Tryz.func95,Tryz.ntmps95
  go_wp2
  go_loopw [4,5] (fun v i wr=>∃ (k:Nat) (xs:List Int),8*k≤s.size∧i = .int .i64 (8*(k:Int))∧Hid (numsTo s.data.toList k=some xs)∧xs.length≤k∧Own wr w.heap.size 3 intE 1 v xs∧Below w.heap.size w wr) (fun _ i _=>s.size - (intOf i).toNat)
  case atStart=>exact ⟨0,[],by omega,rfl,rfl,by simp,Own.nil _ _ _ _ _,Below.refl _ _⟩
  case round=>
   obtain ⟨k,xs,hk,rfl,hn,hx,hown,hb⟩:=hrel
   by_cases hlt:8*k < s.size
   ·have hd2:decide (8*(k:Int) < (s.size:Int))=true:=by simp;omega
    go_wp2
    go_loop [6,18] (fun x j=>∃ m:Nat,m≤8∧j = .int .i64 m∧x = .int .u64 (part s.data.toList k m)) (fun _ j=>8 - (intOf j).toNat)
    case atStart=>exact ⟨0,by omega,rfl,by rw [e0F];rfl⟩
    case round=>
     obtain ⟨m,hm,rfl,rfl⟩:=hrel
     by_cases hm8:m < 8
     ·have hp:=f0G s.data.toList k m hm8
      go_wp2
      go_round
      case rel=>exact ⟨m+1,by omega,by go_num,l0t (l0h s k m hm8 (by omega))⟩
      case measure=>simp [intOf];omega
     ·obtain rfl:m=8:=by omega
      have hp:=i0p s.data.toList k 8 (by omega);have hz:=hb.size
      by_cases hy:part s.data.toList k 8 < 9223372036854775808
      ·go_wp2_with (at_builtin;refine f0z rfl _ _ _ rfl Tryz.underlying103 Tryz.infoInt rfl (part s.data.toList k 8:Int) hown rfl rfl rfl rfl (by unfold maxLen;omega) (by omega) hb (Nat.le_refl _) hz (Nat.le_refl _) ?_)
       intro v' w' hown' hb' _;have hn':=Lib.hid (e0V hn.out hy);clear hown hb hn
       go_wp2
       go_roundw
       case rel=>exact ⟨k+1,_,by omega,by go_num,hn',by simp;omega,hown',hb'⟩
       case measure=>simp [intOf];omega
      ·go_wp2
       go_ret2
       exact d0f (i0A (by simpa using h8) (by simpa using hlt) hy) hb
   ·go_wp2
    go_ret2
    exact g0y (e0v (by simpa using h8) (by simp;omega) hn.out) hb hown
 ·go_enter Tryz.func95,Tryz.ntmps95
  go_wp2
  go_ret2
  exact d0f (g0L (by simpa using h8)) (Below.refl _ _)
theorem h0s (s:ByteArray) (w:World) (hs:s.size≤1000000000) :
  Calls Tryz.prog 122 #[.string s] w (NumsSays w s.data.toList):=by
 by_cases h8:s.size % 8=0
 ·have hd:((s.size:Int) % 8 != 0)=false:=by simp;omega
  go_enter Tryz.func122,Tryz.ntmps122
  go_wp2
  go_loopw [4,5] (fun v i wr=>∃ (k:Nat) (xs:List Int),8*k≤s.size∧i = .int .i64 (8*(k:Int))∧Hid (numsTo s.data.toList k=some xs)∧xs.length≤k∧Own wr w.heap.size 3 intE 1 v xs∧Below w.heap.size w wr) (fun _ i _=>s.size - (intOf i).toNat)
  case atStart=>exact ⟨0,[],by omega,rfl,rfl,by simp,Own.nil _ _ _ _ _,Below.refl _ _⟩
  case round=>
   obtain ⟨k,xs,hk,rfl,hn,hx,hown,hb⟩:=hrel
   by_cases hlt:8*k < s.size
   ·have hd2:decide (8*(k:Int) < (s.size:Int))=true:=by simp;omega
    go_wp2
    go_loop [6,7] (fun x j=>∃ m:Nat,m≤8∧j = .int .i64 m∧x = .int .u64 (part s.data.toList k m)) (fun _ j=>8 - (intOf j).toNat)
    case atStart=>exact ⟨0,by omega,rfl,by rw [e0F];rfl⟩
    case round=>
     obtain ⟨m,hm,rfl,rfl⟩:=hrel
     by_cases hm8:m < 8
     ·have hp:=f0G s.data.toList k m hm8
      go_wp2
      go_round
      case rel=>exact ⟨m+1,by omega,by go_num,l0t (l0h s k m hm8 (by omega))⟩
      case measure=>simp [intOf];omega
     ·obtain rfl:m=8:=by omega
      have hp:=i0p s.data.toList k 8 (by omega);have hz:=hb.size
      by_cases hy:part s.data.toList k 8 < 9223372036854775808
      ·go_wp2_with (at_builtin;refine f0z rfl _ _ _ rfl Tryz.underlying103 Tryz.infoInt rfl (part s.data.toList k 8:Int) hown rfl rfl rfl rfl (by unfold maxLen;omega) (by omega) hb (Nat.le_refl _) hz (Nat.le_refl _) ?_)
       intro v' w' hown' hb' _;have hn':=Lib.hid (e0V hn.out hy);clear hown hb hn
       go_wp2
       go_roundw
       case rel=>exact ⟨k+1,_,by omega,by go_num,hn',by simp;omega,hown',hb'⟩
       case measure=>simp [intOf];omega
      ·go_wp2
       go_ret2
       exact d0f (i0A (by simpa using h8) (by simpa using hlt) hy) hb
   ·go_wp2
    go_ret2
    exact g0y (e0v (by simpa using h8) (by simp;omega) hn.out) hb hown
 ·go_enter Tryz.func122,Tryz.ntmps122
  go_wp2
  go_ret2
  exact d0f (g0L (by simpa using h8)) (Below.refl _ _)
end Go.Proofs.YtabminbgoclnkaaGreat
