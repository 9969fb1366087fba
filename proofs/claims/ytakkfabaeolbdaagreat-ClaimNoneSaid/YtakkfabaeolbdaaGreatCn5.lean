/- keys.Nums and its reference: their contracts. strings.Builder: what copyCheck, WriteByte, WriteString and String do to a builder of the call's own. Turned from the shelf's walks to this program's texts. keys.Key and its reference: their contracts. -/
import Derived.Test.YtakkfabaeolbdaaGreatCnKeysA
import Derived.Test.YtakkfabaeolbdaaGreatCn1
import Derived.Test.YtakkfabaeolbdaaGreatCnBase
import Derived.Shelf.Strings.Builder1
namespace Go.Proofs.YtakkfabaeolbdaaGreat
section
set_option maxHeartbeats 1000000
open Go.RowKit

def NumsSays (w:World) (l:List UInt8) (e:Ending) (w':World):Prop:=
 Below w.heap.size w w'∧match numsF l with
  | some xs=>∃ v,e = .returned (.tuple #[v,.bool true])∧Own w' w.heap.size 3 intE 1 v xs
  | none=>e = .returned (.tuple #[.slice none 0 0,.bool false])

theorem e0g {w w':World} {l:List UInt8} (h:numsF l=none) (hb:Below w.heap.size w w'):NumsSays w l (.returned (.tuple #[.slice none 0 0,.bool false])) w':=by
 unfold NumsSays;rw [h];exact ⟨hb,rfl⟩
theorem i0x {w w':World} {l:List UInt8} {xs:List Int} {v:Value} (h:numsF l=some xs) (hb:Below w.heap.size w w') (ho:Own w' w.heap.size 3 intE 1 v xs):NumsSays w l (.returned (.tuple #[v,.bool true])) w':=by
 unfold NumsSays;rw [h];exact ⟨hb,v,rfl,ho⟩

theorem o0i (s:ByteArray) (k m:Nat) (hm:m < 8) (h:8*k+m < s.size):bits BinOp.or IntKind.u64 ((part s.data.toList k m:Int)*256) (IntKind.u64.wrap ((s[8*k+m]'h).toNat:Int))=((part s.data.toList k (m+1):Nat):Int):=by
 rw [s0D _ _ (i0g _ _ _ hm),j0A _ _ _ (by simpa using h)];rfl

theorem r0v (s:ByteArray) (w:World) (hs:s.size≤1000000000) :
  Calls Tryz.prog 168 #[.string s] w (NumsSays w s.data.toList):=by
 by_cases h8:s.size % 8=0
 ·have hd:((s.size:Int) % 8 != 0)=false:=by simp;omega
  go_enter Tryz.func168,Tryz.ntmps168
  go_wp2
  go_loopw [4,5] (fun v i wr=>∃ (k:Nat) (xs:List Int),8*k≤s.size∧i = .int .i64 (8*(k:Int))∧Hid (numsTo s.data.toList k=some xs)∧xs.length≤k∧Own wr w.heap.size 3 intE 1 v xs∧Below w.heap.size w wr) (fun _ i _=>s.size - (intOf i).toNat)
  case atStart=>exact ⟨0,[],by omega,rfl,rfl,by simp,Own.nil _ _ _ _ _,Below.refl _ _⟩
  case round=>
   obtain ⟨k,xs,hk,rfl,hn,hx,hown,hb⟩:=hrel
   by_cases hlt:8*k < s.size
   ·have hd2:decide (8*(k:Int) < (s.size:Int))=true:=by simp;omega
    go_wp2
    go_loop [6,18] (fun x j=>∃ m:Nat,m≤8∧j = .int .i64 m∧x = .int .u64 (part s.data.toList k m)) (fun _ j=>8 - (intOf j).toNat)
    case atStart=>exact ⟨0,by omega,rfl,by rw [f0E];rfl⟩
    case round=>
     obtain ⟨m,hm,rfl,rfl⟩:=hrel
     by_cases hm8:m < 8
     ·have hp:=i0g s.data.toList k m hm8
      go_wp2
      go_round
      case rel=>exact ⟨m+1,by omega,by go_num,o0p (o0i s k m hm8 (by omega))⟩
      case measure=>simp [intOf];omega
     ·obtain rfl:m=8:=by omega
      have hp:=l0f s.data.toList k 8 (by omega);have hz:=hb.size
      by_cases hy:part s.data.toList k 8 < 9223372036854775808
      ·go_wp2_with (at_builtin;refine b0x rfl _ _ _ rfl Tryz.underlying22 Tryz.infoInt rfl (part s.data.toList k 8:Int) hown rfl rfl rfl rfl (by unfold maxLen;omega) (by omega) hb (Nat.le_refl _) hz (Nat.le_refl _) ?_)
       intro v' w' hown' hb' _;have hn':=Lib.hid (g0X hn.out hy);clear hown hb hn
       go_wp2
       go_roundw
       case rel=>exact ⟨k+1,_,by omega,by go_num,hn',by simp;omega,hown',hb'⟩
       case measure=>simp [intOf];omega
      ·go_wp2
       go_ret2
       exact e0g (k0U (by simpa using h8) (by simpa using hlt) hy) hb
   ·go_wp2
    go_ret2
    exact i0x (f0G (by simpa using h8) (by simp;omega) hn.out) hb hown
 ·go_enter Tryz.func168,Tryz.ntmps168
  go_wp2
  go_ret2
  exact e0g (j0F (by simpa using h8)) (Below.refl _ _)
theorem k0G (s:ByteArray) (w:World) (hs:s.size≤1000000000) :
  Calls Tryz.prog 191 #[.string s] w (NumsSays w s.data.toList):=by
 by_cases h8:s.size % 8=0
 ·have hd:((s.size:Int) % 8 != 0)=false:=by simp;omega
  go_enter Tryz.func191,Tryz.ntmps191
  go_wp2
  go_loopw [4,5] (fun v i wr=>∃ (k:Nat) (xs:List Int),8*k≤s.size∧i = .int .i64 (8*(k:Int))∧Hid (numsTo s.data.toList k=some xs)∧xs.length≤k∧Own wr w.heap.size 3 intE 1 v xs∧Below w.heap.size w wr) (fun _ i _=>s.size - (intOf i).toNat)
  case atStart=>exact ⟨0,[],by omega,rfl,rfl,by simp,Own.nil _ _ _ _ _,Below.refl _ _⟩
  case round=>
   obtain ⟨k,xs,hk,rfl,hn,hx,hown,hb⟩:=hrel
   by_cases hlt:8*k < s.size
   ·have hd2:decide (8*(k:Int) < (s.size:Int))=true:=by simp;omega
    go_wp2
    go_loop [6,7] (fun x j=>∃ m:Nat,m≤8∧j = .int .i64 m∧x = .int .u64 (part s.data.toList k m)) (fun _ j=>8 - (intOf j).toNat)
    case atStart=>exact ⟨0,by omega,rfl,by rw [f0E];rfl⟩
    case round=>
     obtain ⟨m,hm,rfl,rfl⟩:=hrel
     by_cases hm8:m < 8
     ·have hp:=i0g s.data.toList k m hm8
      go_wp2
      go_round
      case rel=>exact ⟨m+1,by omega,by go_num,o0p (o0i s k m hm8 (by omega))⟩
      case measure=>simp [intOf];omega
     ·obtain rfl:m=8:=by omega
      have hp:=l0f s.data.toList k 8 (by omega);have hz:=hb.size
      by_cases hy:part s.data.toList k 8 < 9223372036854775808
      ·go_wp2_with (at_builtin;refine b0x rfl _ _ _ rfl Tryz.underlying22 Tryz.infoInt rfl (part s.data.toList k 8:Int) hown rfl rfl rfl rfl (by unfold maxLen;omega) (by omega) hb (Nat.le_refl _) hz (Nat.le_refl _) ?_)
       intro v' w' hown' hb' _;have hn':=Lib.hid (g0X hn.out hy);clear hown hb hn
       go_wp2
       go_roundw
       case rel=>exact ⟨k+1,_,by omega,by go_num,hn',by simp;omega,hown',hb'⟩
       case measure=>simp [intOf];omega
      ·go_wp2
       go_ret2
       exact e0g (k0U (by simpa using h8) (by simpa using hlt) hy) hb
   ·go_wp2
    go_ret2
    exact i0x (f0G (by simpa using h8) (by simp;omega) hn.out) hb hown
 ·go_enter Tryz.func191,Tryz.ntmps191
  go_wp2
  go_ret2
  exact e0g (j0F (by simpa using h8)) (Below.refl _ _)
end
section
set_option maxHeartbeats 2000000
set_option maxRecDepth 100000
open Go.RowKit Go.Shelf

def Tryz.bld_ren:Go.Shelf.Ren:=⟨fun | 169=>93 | n=>n,fun | 70=>163 | 9=>9 | 0=>0 | 72=>165 | 37=>122 | 127=>248 | 3=>3 | 5=>5 | n=>n,fun | n=>n⟩
theorem Tryz.bld_lays:Go.Proofs.Lays.n169 Tryz.prog Tryz.bld_ren:={
 mixed:=by kernel_rfl
 f169:=Tryz.func93.trans (congrArg some (by kernel_rfl))
 t0:=Tryz.underlying0
 a0:=Tryz.isAgg0
 z0:=Tryz.sizeOf0
 v0:=Tryz.zeroValue0
 t3:=Tryz.underlying3
 a3:=Tryz.isAgg3
 z3:=Tryz.sizeOf3
 v3:=Tryz.zeroValue3
 t9:=Tryz.underlying9
 a9:=Tryz.isAgg9
 z9:=Tryz.sizeOf9
 v9:=Tryz.zeroValue9
 t37:=Tryz.underlying122
 a37:=Tryz.isAgg122
 z37:=Tryz.sizeOf122
 v37:=Tryz.zeroValue122
 t70:=Tryz.underlying163
 a70:=Tryz.isAgg163
 z70:=Tryz.sizeOf163
 v70:=Tryz.zeroValue163
 t72:=Tryz.underlying165
 a72:=Tryz.isAgg165
 z72:=Tryz.sizeOf165
 v72:=Tryz.zeroValue165
 t127:=Tryz.underlying248
 a127:=Tryz.isAgg248
 z127:=Tryz.sizeOf248
 v127:=Tryz.zeroValue248 }
theorem Tryz.bld_extra:Builder.Extra Tryz.prog Tryz.bld_ren:={
 sizeBuilder:=by kernel_rfl
 liesBuilder:=by kernel_rfl
 t5:=Tryz.underlying5
 a5:=Tryz.isAgg5
 z5:=Tryz.sizeOf5
 v5:=Tryz.zeroValue5
 infoByte:=by kernel_rfl
 cellsByte:=by kernel_rfl
 sizeByte:=by kernel_rfl
 neB5:=by decide }

def Bld (w:World) (B b:Nat) (l:List UInt8):Prop:=Lib.IsBuilder 165 5 B b (l.map byteV) w

theorem Bld.fresh (w:World) (B:Nat) (hB:B≤w.heap.size):Bld (w.alloc (.cells #[.pointer none,.slice none 0 0] 165)) B w.heap.size []:=by
 refine .inl ⟨hB,.slice none 0 0,heap_alloc_new w _,World.ownsRow_nil _ _ _ _,by simp [Value.ownBlock]⟩
theorem Bld.lt {w:World} {B b:Nat} {l:List UInt8} (h:Bld w B b l):b < w.heap.size:=by
 rcases h with h | h<;>exact h.lt
theorem Bld.later {w w':World} {B b:Nat} {l:List UInt8} (h:Bld w B b l) (hb:Below w.heap.size w w'):Bld w' B b l:=by
 have key:∀ p,Lib.BuilderAt 165 5 B b p (l.map byteV) w→Lib.BuilderAt 165 5 B b p (l.map byteV) w':=by
  rintro p ⟨h1,v,h2,h3,h4⟩;refine ⟨h1,v,by rw [hb.block b (Array.getElem?_eq_some_iff.1 h2).1];exact h2,?_,h4⟩;refine ⟨h3.1,?_⟩
  rcases h3.2 with h5 | ⟨g,cap,cur,rfl,hg,hhq,r⟩
  ·exact .inl h5
  ·exact .inr ⟨g,cap,cur,rfl,hg,by rw [hb.block g (Array.getElem?_eq_some_iff.1 hhq).1];exact hhq,r⟩
 rcases h with h | h
 ·exact .inl (key _ h)
 ·exact .inr (key _ h)

theorem g0G (b:Nat) (w:World) (h0:w.cell? ⟨b,0,none⟩=some (.pointer (some ⟨b,0,none⟩))) :
  Calls Tryz.prog 167 #[.pointer (some ⟨b,0,none⟩)] w fun e w'=>e = .returned (.tuple #[])∧w'=w:=by
 obtain ⟨j,hj,_⟩:=Option.map_eq_some_iff.1 Tryz.bld_extra.sizeBuilder
 go_enter Tryz.func167,Tryz.ntmps167
 go_wp2
 rw [Lib.run_neq_ptr_same w _ Tryz.underlying163 hj]
 go_wp2
 go_end0
 exact ⟨rfl,rfl⟩

theorem f0S (b:Nat) (w:World) (h0:w.cell? ⟨b,0,none⟩=some (.pointer none)) (hsh:w.shape? b=some (165,2)) (hfz:w.frozen? ⟨b,0,none⟩=false) :
  Calls Tryz.prog 167 #[.pointer (some ⟨b,0,none⟩)] w fun e w'=>e = .returned (.tuple #[])∧w'=w.setCell ⟨b,0,none⟩ (.pointer (some ⟨b,0,none⟩)):=by
 obtain ⟨j,hj,hjs⟩:=Option.map_eq_some_iff.1 Tryz.bld_extra.sizeBuilder
 go_enter Tryz.func167,Tryz.ntmps167
 go_wp2
 rw [Lib.run_to_unsafe w ⟨b,0,none⟩ Tryz.underlying163 Tryz.underlying280 hj (by rw [hjs];decide) hsh (Nat.zero_lt_succ 1)];simp only [Result.andThen];rw [Oper.upon_value]
 go_wp2
 rw [run_callFunc_extern Tryz.func209 (by kernel_rfl) (by kernel_rfl) (by kernel_rfl) (e:=Extern.AbiNoEscape.same) (by kernel_rfl)];rw [Lib.run_noEscape];simp only [Result.andThen];rw [Oper.upon_value]
 go_wp2
 rw [Lib.run_from_unsafe w ⟨b,0,none⟩ Tryz.underlying280 Tryz.underlying163 hj hsh Tryz.bld_extra.liesBuilder];simp only [Result.andThen];rw [Oper.upon_value]
 go_wp2
 go_end0
 exact ⟨rfl,rfl⟩

theorem e0d (B b:Nat) (bs:List Value) (w:World) (h:Lib.IsBuilder 165 5 B b bs w) :
  Calls Tryz.prog 167 #[.pointer (some ⟨b,0,none⟩)] w fun e w'=>e = .returned (.tuple #[])∧(Lib.BuilderAt 165 5 B b (.pointer (some ⟨b,0,none⟩)) bs w'∧Below B w w'):=by
 rcases h with h | h
 ·refine (f0S b w h.cell0 h.shape h.frozen0).mono ?_;rintro e w' ⟨rfl,rfl⟩
  exact ⟨rfl,h.used _,(Below.refl B w).setCell (p:=⟨b,0,none⟩) h.1 _⟩
 ·refine (g0G b w h.cell0).mono ?_;rintro e w' ⟨rfl,rfl⟩
  exact ⟨rfl,h,Below.refl B _⟩

theorem h0A (B b:Nat) (l:List UInt8) (c:Int) (w:World) (hc0:0≤c) (hc1:c < 256) (h:Bld w B b l) (hlen:l.length+1≤140737488355328) (hBw:B≤w.heap.size) :
  Calls Tryz.prog 91 #[.pointer (some ⟨b,0,none⟩),.int .u8 c] w fun e w'=>e = .returned .nilIface∧(Bld w' B b (l ++ [UInt8.ofNat c.toNat])∧Below B w w'):=by
 obtain ⟨i0,hi,hz0,hz1,hz2⟩:=info_parts Tryz.infoU8;have hll:Hid ((l.map byteV).length=l.length):=List.length_map _
 go_enter Tryz.func91,Tryz.ntmps91
 go_wp2_with (go_at_call 167;refine (e0d B b _ _ h).mono ?_)
 rintro e w1 ⟨rfl,h1,hb1⟩;obtain ⟨hB,v,hbk,hown,hne⟩:=h1;rw [hll.out] at hown;have c0:w1.cell? ⟨b,0,none⟩=some (.pointer (some ⟨b,0,none⟩)):=by rw [Lib.cell_of_heap hbk];rfl
 have c1:w1.cell? ⟨b,1,none⟩=some v:=by rw [Lib.cell_of_heap hbk];rfl
 go_wp2_with (at_builtin;refine wpList_append_own _ rfl _ _ 122 rfl B 5 i0 (.int .u8 0) 1 1 Tryz.underlying122 hi hz0 hz1 hz2 rfl (by decide) _ _ _ rfl (hown.alloc _) ⟨w1.heap.size,0,none⟩ 1 1 [.int .u8 c] rfl rfl ?c1 ?c2 ?c3 ?c4 ?c5 ?_)
 case c1=>
  intro j u hj
  match j,hj with
  | 0,hj=>simp at hj;subst hj;simp [Addr.add]
 case c2=>intro u hu;simp at hu;subst hu;rfl
 case c3=>unfold maxLen;omega
 case c4=>omega
 case c5=>have:=hb1.size;simp;omega
 intro v' w2 hown' hgrow _;have hlt:b < w1.heap.size:=by
  rcases Nat.lt_or_ge b w1.heap.size with h' | h'
  ·exact h'
  ·simp [Array.getElem?_eq_none h'] at hbk
 have hb2:w2.heap[b]? = some (.cells #[.pointer (some ⟨b,0,none⟩),v] 165 (0,0)):=by
  rw [hgrow.block b (by simp;omega) (fun e=>hne e.symm),Lib.alloc_old w1 _ b hlt]
  exact hbk
 have d0:w2.cell? ⟨b,0,none⟩=some (.pointer (some ⟨b,0,none⟩)):=by rw [Lib.cell_of_heap hb2];rfl
 have d1:w2.cell? ⟨b,1,none⟩=some v:=by rw [Lib.cell_of_heap hb2];rfl
 have f1:w2.frozen? ⟨b,1,none⟩=false:=Lib.frozen_of_heap hb2 1;obtain ⟨g,cap,rfl⟩:∃ g cap,v' = .slice (some ⟨g,0,none⟩) (l.length+1) cap:=by
  rcases hown'.2 with ⟨_,h0⟩ | ⟨g,cap,cur,hv,_⟩
  ·omega
  ·exact ⟨g,cap,hv⟩
 go_wp2
 go_ret
 refine ⟨rfl,?_,?_⟩
 ·refine .inr ?_;rw [List.map_append];refine Lib.BuilderAt.put (T:=165) (e:=5) hB hb2 ?_ Tryz.bld_extra.neB5;rw [List.map_cons,List.map_nil,byteV_of c hc0 hc1]
  simpa using hown'
 ·exact ((hb1.alloc (by have:=hb1.size;omega) _).grown hgrow (by have:=hb1.size;simp;omega) (fun k hk=>(hown.lt k hk).1)).setCell (p:=⟨b,1,none⟩) hB _

theorem c0I (B b:Nat) (l:List UInt8) (s:ByteArray) (w:World) (h:Bld w B b l) (hlen:l.length+s.size≤140737488355328) (hBw:B≤w.heap.size) :
  Calls Tryz.prog 92 #[.pointer (some ⟨b,0,none⟩),.string s] w fun e w'=>e = .returned (.tuple #[.int .i64 s.size,.nilIface])∧(Bld w' B b (l ++ s.data.toList)∧Below B w w'):=by
 obtain ⟨i0,hi,hz0,hz1,hz2⟩:=info_parts Tryz.infoU8;have hll:Hid ((l.map byteV).length=l.length):=List.length_map _
 go_enter Tryz.func92,Tryz.ntmps92
 go_wp2_with (go_at_call 167;refine (e0d B b _ _ h).mono ?_)
 rintro e w1 ⟨rfl,h1,hb1⟩;obtain ⟨hB,v,hbk,hown,hne⟩:=h1;rw [hll.out] at hown;have c0:w1.cell? ⟨b,0,none⟩=some (.pointer (some ⟨b,0,none⟩)):=by rw [Lib.cell_of_heap hbk];rfl
 have c1:w1.cell? ⟨b,1,none⟩=some v:=by rw [Lib.cell_of_heap hbk];rfl
 go_wp2_with (at_builtin;refine Lib.wpList_append_own_string _ rfl _ _ 122 9 rfl B 5 i0 Tryz.underlying122 Tryz.underlying9 hi hz0 hz1 hz2 _ _ _ rfl hown s rfl ?c3 ?c4 ?c5 ?_)
 case c3=>unfold maxLen;omega
 case c4=>omega
 case c5=>have:=hb1.size;omega
 intro v' w2 hown' hgrow _;have hlt:b < w1.heap.size:=by
  rcases Nat.lt_or_ge b w1.heap.size with h' | h'
  ·exact h'
  ·simp [Array.getElem?_eq_none h'] at hbk
 have hb2:w2.heap[b]? = some (.cells #[.pointer (some ⟨b,0,none⟩),v] 165 (0,0)):=by
  rw [hgrow.block b hlt (fun e=>hne e.symm)]
  exact hbk
 have d0:w2.cell? ⟨b,0,none⟩=some (.pointer (some ⟨b,0,none⟩)):=by rw [Lib.cell_of_heap hb2];rfl
 have d1:w2.cell? ⟨b,1,none⟩=some v:=by rw [Lib.cell_of_heap hb2];rfl
 have f1:w2.frozen? ⟨b,1,none⟩=false:=Lib.frozen_of_heap hb2 1;obtain ⟨ao,n',cap,rfl⟩:∃ ao n' cap,v' = .slice ao n' cap:=by
  rcases hown'.2 with ⟨hv,_⟩ | ⟨g,cap,cur,hv,_⟩
  ·exact ⟨_,_,_,hv⟩
  ·exact ⟨_,_,_,hv⟩
 go_wp2
 go_ret2
 refine ⟨rfl,?_,?_⟩
 ·refine .inr ?_;rw [List.map_append];refine Lib.BuilderAt.put (T:=165) (e:=5) hB hb2 ?_ Tryz.bld_extra.neB5;have e1:(l.map byteV ++ s.data.toList.map byteV).length=l.length+s.size:=by rw [List.length_append,List.length_map,List.length_map];rfl
  rw [e1]
  exact hown'
 ·exact (hb1.grown hgrow (by have:=hb1.size;omega) (fun k hk=>(hown.lt k hk).1)).setCell (p:=⟨b,1,none⟩) hB _

theorem g0h (B b:Nat) (l:List UInt8) (w:World) (h:Bld w B b l) (hBw:B≤w.heap.size) :
  Calls Tryz.prog 93 #[.pointer (some ⟨b,0,none⟩)] w fun e w'=>e = .returned (.string (bs l))∧Below B w w':=
 Any.Builder_String_any Tryz.bld_lays Tryz.bld_extra B b l w h hBw
end
section
set_option maxHeartbeats 1000000
open Go.RowKit

def keyF (t:Int) (l:List Int):List UInt8:=if t < 1∨255 < t∨∃ x∈l,x < 0 then [] else UInt8.ofNat t.toNat :: l.flatMap numL
def keyTo (t:Int) (l:List Int) (k:Nat):List UInt8:=UInt8.ofNat t.toNat :: (l.take k).flatMap numL
theorem e0V (t:Int) (l:List Int) (h:t < 1∨255 < t):keyF t l = []:=by
 unfold keyF;rw [if_pos (by rcases h with h | h;exact .inl h;exact .inr (.inl h))]
theorem k0Q (t:Int) (l:List Int) (k:Nat) (hk:k < l.length) (h:l[k] < 0):keyF t l = []:=by
 unfold keyF;rw [if_pos (.inr (.inr ⟨_,List.getElem_mem hk,h⟩))]
theorem j0I (t:Int) (l:List Int) (k:Nat) (hk:¬ k < l.length) (h1:¬ t < 1) (h2:¬ 255 < t) (hp:∀ x∈l.take k,0≤x):keyTo t l k=keyF t l:=by
 have ht:l.take k=l:=List.take_of_length_le (by omega);rw [ht] at hp
 unfold keyTo keyF
 rw [ht,if_neg];rintro (h | h | ⟨x,hx,h⟩)
 ·exact h1 h
 ·exact h2 h
 ·have:=hp x hx;omega
theorem h0i (t:Int) (l:List Int):keyTo t l 0 = [] ++ [UInt8.ofNat t.toNat]:=by simp [keyTo]
theorem g0U (t:Int) (l:List Int) (k:Nat) (hk:k < l.length):keyTo t l (k+1)=keyTo t l k ++ numL l[k]:=by
 unfold keyTo;rw [List.take_succ_eq_append_getElem hk,List.flatMap_append];simp
theorem j0a (t:Int) (l:List Int) (k:Nat):(keyTo t l k).length≤8*l.length+1:=by
 have h:∀ m:List Int,(m.flatMap numL).length=8*m.length:=by
  intro m;induction m with
  | nil=>rfl
  | cons x m ih=>rw [List.flatMap_cons,List.length_append,ih,a0s,List.length_cons];omega
 rw [keyTo,List.length_cons,h,List.length_take];omega
theorem c0v {l:List Int} {k:Nat} (hk:k < l.length) (h:∀ x∈l.take k,0≤x) (h0:0≤l[k]):∀ x∈l.take (k+1),0≤x:=by
 rw [List.take_succ_eq_append_getElem hk];intro x hx
 rcases List.mem_append.1 hx with h1 | h1
 ·exact h x h1
 ·simp at h1;subst h1;exact h0

theorem a0X (t:Int) (l:List Int) (v:Value) (w:World) (hl:l.length≤100000000) (hi:I64s l) (hrd:Rd w intE 1 v l) :
  Calls Tryz.prog 39 #[.int .i64 t,v] w (Ret w (.string (bs (keyF t l)))):=by
 obtain ⟨ad,cap,rfl,hc1,hc2⟩:=hrd.shape
 by_cases h1:t < 1
 ·go_enter Tryz.func39,Tryz.ntmps39
  go_wp2
  go_ret
  exact ⟨by rw [e0V _ _ (.inl h1)];rfl,Below.refl _ _⟩
 by_cases h2:255 < t
 ·go_enter Tryz.func39,Tryz.ntmps39
  go_wp2
  go_ret
  exact ⟨by rw [e0V _ _ (.inr h2)];rfl,Below.refl _ _⟩
 have hw0:t % 256=t:=by omega
 go_enter Tryz.func39,Tryz.ntmps39
 go_wp2_with (go_at_call 91;refine (h0A w.heap.size w.heap.size [] t _ (by omega) (by omega) (Bld.fresh w _ (Nat.le_refl _)) (by simp) (by simp)).mono ?_;rintro e w1 ⟨rfl,hbl,hb1⟩)
 have hb2:=(Below.refl w.heap.size w).alloc (Nat.le_refl _) (.cells #[.pointer none,.slice none 0 0] 165) |>.trans hb1;rw [← h0i t l] at hbl;clear hb1
 go_loopw [19] (fun i wr=>∃ k:Nat,k≤l.length∧i = .int .i64 k∧Hid (∀ x∈l.take k,0≤x)∧Bld wr w.heap.size w.heap.size (keyTo t l k)∧Below w.heap.size w wr) (fun i _=>l.length - (intOf i).toNat)
 case atStart=>exact ⟨0,by omega,rfl,by simp [Hid],hbl,hb2⟩
 case round=>
  clear hbl hb2;obtain ⟨k,hk,rfl,hp,hbl,hb⟩:=hrel;have hz:=hb.size
  by_cases hlt:k < l.length
  ·obtain ⟨b,off,rfl,hbb,hcell⟩:=(hrd.later hb).at k hlt;obtain ⟨n,hn⟩:∃ n,n=l[k]:=⟨_,rfl⟩;rw [← hn] at hcell;have hni:=hi n (by rw [hn];exact List.getElem_mem hlt);replace hcell:wr.cell? ⟨b,off+k,none⟩=some (.int .i64 n):=hcell;have hlen:=j0a t l k;have HN:=Lib.hid hn;clear hn
   by_cases hneg:n < 0
   ·go_wp2
    go_ret
    exact ⟨by rw [k0Q t l k hlt (by rw [← HN.out];exact hneg)];rfl,hb⟩
   ·go_wp2_with (first | (go_at_call 90;refine (j0S n _ (by omega) hni.2).mono ?_;rintro e w1 ⟨rfl,hb1⟩;have hbl1:=hbl.later hb1;have hb2:=hb.trans (hb1.mono hz);have hz2:=hb2.size;clear hb1) | (go_at_call 92;refine (c0I w.heap.size w.heap.size _ _ _ hbl1 (by rw [b0e,a0s];omega) hz2).mono ?_;rintro e w2 ⟨rfl,hbl2,hb3⟩))
    have hkt:bs (numL n)=bs (numL l[k]):=by rw [HN.out]
    rw [show (bs (numL n)).data.toList=numL l[k] by rw [HN.out];rfl,← g0U t l k hlt] at hbl2;have hp2:=c0v hlt hp.out (by rw [← HN.out];omega)
    go_roundw
    case rel=>exact ⟨k+1,by omega,by go_num,hp2,hbl2,hb2.trans hb3⟩
    case measure=>simp [intOf];omega
  ·have hke:=j0I t l k hlt (by omega) (by omega) hp.out;rw [hke] at hbl;clear hke
   go_wp2_with (go_at_call 93;refine (g0h w.heap.size w.heap.size _ _ hbl hz).mono ?_;rintro e w1 ⟨rfl,hb1⟩)
   go_ret
   exact ⟨rfl,hb.trans hb1⟩

theorem a0I (t:Int) (l:List Int) (v:Value) (w:World) (hl:l.length≤100000000) (hi:I64s l) (hrd:Rd w intE 1 v l) :
  Calls Tryz.prog 68 #[.int .i64 t,v] w (Ret w (.string (bs (keyF t l)))):=by
 obtain ⟨ad,cap,rfl,hc1,hc2⟩:=hrd.shape
 by_cases h1:t < 1
 ·go_enter Tryz.func68,Tryz.ntmps68
  go_wp2
  go_ret
  exact ⟨by rw [e0V _ _ (.inl h1)];rfl,Below.refl _ _⟩
 by_cases h2:255 < t
 ·go_enter Tryz.func68,Tryz.ntmps68
  go_wp2
  go_ret
  exact ⟨by rw [e0V _ _ (.inr h2)];rfl,Below.refl _ _⟩
 have hw0:t % 256=t:=by omega
 have hcv:=k0R (P:=Tryz.prog) (w.alloc (.cells #[.int .u8 t] 5)) 122 9 5 Tryz.underlying122 Tryz.underlying5 Tryz.underlying9 w.heap.size 0 1 1 [UInt8.ofNat t.toNat] rfl _ _ _ (heap_alloc_new _ _) (by simp [byteV_of t (by omega) (by omega)])
 go_enter Tryz.func68,Tryz.ntmps68
 go_wp2
 clear hcv
 go_loopw [5,20] (fun s i wr=>∃ k:Nat,k≤l.length∧i = .int .i64 k∧Hid (∀ x∈l.take k,0≤x)∧s = .string (bs (keyTo t l k))∧Below w.heap.size w wr) (fun _ i _=>l.length - (intOf i).toNat)
 case atStart=>exact ⟨0,by omega,rfl,by simp [Hid],by rw [h0i];rfl,(Below.refl _ _).alloc (Nat.le_refl _) _⟩
 case round=>
  obtain ⟨k,hk,rfl,hp,rfl,hb⟩:=hrel;have hz:=hb.size
  by_cases hlt:k < l.length
  ·obtain ⟨b,off,rfl,hbb,hcell⟩:=(hrd.later hb).at k hlt;obtain ⟨n,hn⟩:∃ n,n=l[k]:=⟨_,rfl⟩;rw [← hn] at hcell;have hni:=hi n (by rw [hn];exact List.getElem_mem hlt);replace hcell:wr.cell? ⟨b,off+k,none⟩=some (.int .i64 n):=hcell;have hlen:=j0a t l k;have HN:=Lib.hid hn;clear hn
   by_cases hneg:n < 0
   ·go_wp2
    go_ret
    exact ⟨by rw [k0Q t l k hlt (by rw [← HN.out];exact hneg)];rfl,hb⟩
   ·have hsz:=b0e (keyTo t l k);have hszn:(bs (numL n)).size=8:=by rw [b0e,a0s]
    go_wp2_with (first | (go_at_call 147;refine (e0t n _ (by omega) hni.2).mono ?_;rintro e w1 ⟨rfl,hb1⟩;have hb2:=hb.trans (hb1.mono hz);have hz2:=hb2.size;clear hb1))
    have hp2:=c0v hlt hp.out (by rw [← HN.out];omega)
    go_roundw
    case rel=>exact ⟨k+1,by omega,by go_num,hp2,by rw [j0t,g0U t l k hlt,HN.out],hb2⟩
    case measure=>simp [intOf];omega
  ·have hke:=j0I t l k hlt (by omega) (by omega) hp.out;have HK:=Lib.hid hke;clear hke
   go_wp2
   go_ret
   exact ⟨by rw [← HK.out];rfl,hb⟩

theorem f0h:I64s []:=fun _ h=>by cases h
end
end Go.Proofs.YtakkfabaeolbdaaGreat
