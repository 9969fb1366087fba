/- From the frame's reading of an amount to its words. No condition. From the frame's reading of acts of chapter 19 to the walks' own. No condition. -/
import Derived.Test.YtabminbgoclnkaaGreatVaOpen
import Derived.Test.YtabminbgoclnkaaGreatVaUn
import Derived.Test.YtabminbgoclnkaaGreatVa15
namespace Go.Proofs.YtabminbgoclnkaaGreat
section
open Go.RowKit

section
variable {H:Type} {enc:TypeId × Value→H} {P:Program} {w:World} {base:Nat} {spare:Nat→Bool} {held:Bool}
theorem open_u {t e:TypeId} (ht:P.underlying t=some (.array 4 e)) (he:P.underlying e=some (.int .u64)) (hce:P.cellsOf e=1) (hct:P.cellsOf t=4) {fuel:Nat} {cs:List Value} {x:DataW H × List MemPlace} (h:DataW.trod enc P w base spare held fuel t cs=some x) :
  ∃ n:Nat,cs = [.int .u64 (uw0 n),.int .u64 (uw1 n),.int .u64 (uw2 n),.int .u64 (uw3 n)]∧n < uMax:=by
 obtain ⟨l,rfl,hn,hw⟩:=open_arr_ints ht he hce hct h
 match l,hn with
 | [a,b,c,d],_=>
  obtain ⟨n,hu⟩:=UIs.some (wf_u64 (hw a (by simp))) (wf_u64 (hw b (by simp))) (wf_u64 (hw c (by simp))) (wf_u64 (hw d (by simp)));obtain ⟨e1,e2,e3,e4⟩:=hu.uw;refine ⟨n,?_,hu.lt⟩;rw [← e1,← e2,← e3,← e4];rfl
end
end
section
set_option maxRecDepth 100000
open Go.RowKit

section
variable {H:Type} {enc:TypeId × Value→H} {w:World} {base:Nat} {spare:Nat→Bool} {held:Bool}
theorem open_act19 {fuel:Nat} {cs:List Value} {x:DataW H × List MemPlace} (h:DataW.trod enc Tryz.prog w base spare held fuel 35 cs=some x) (_hw:Sized Tryz.prog 35 x.1):∃ a:Act19,cs=act19E a∧Good19 w a:=by
 obtain ⟨xs,n,_,rfl,hl,hlen,hf⟩:=DataW.trod_struct Tryz.underlying35 h
 match xs,hlen with
 | [y0,y1,y2,y3,y4,y5],_=>
  have g0:DataW.trod enc Tryz.prog w base spare held n 3 ((cs.drop 0).take (Tryz.prog.cellsOf 3))=some y0:=hf 0 _ rfl;rw [show Tryz.prog.cellsOf 3 = 1 by kernel_rfl] at g0;obtain ⟨v0,e0,b0⟩:=open_i64 Tryz.underlying3 g0;have g1:DataW.trod enc Tryz.prog w base spare held n 3 ((cs.drop 1).take (Tryz.prog.cellsOf 3))=some y1:=hf 1 _ rfl;rw [show Tryz.prog.cellsOf 3 = 1 by kernel_rfl] at g1;obtain ⟨v1,e1,b1⟩:=open_i64 Tryz.underlying3 g1;have g2:DataW.trod enc Tryz.prog w base spare held n 3 ((cs.drop 2).take (Tryz.prog.cellsOf 3))=some y2:=hf 2 _ rfl;rw [show Tryz.prog.cellsOf 3 = 1 by kernel_rfl] at g2;obtain ⟨v2,e2,b2⟩:=open_i64 Tryz.underlying3 g2;have g3:DataW.trod enc Tryz.prog w base spare held n 3 ((cs.drop 3).take (Tryz.prog.cellsOf 3))=some y3:=hf 3 _ rfl;rw [show Tryz.prog.cellsOf 3 = 1 by kernel_rfl] at g3;obtain ⟨v3,e3,b3⟩:=open_i64 Tryz.underlying3 g3;have g4:DataW.trod enc Tryz.prog w base spare held n 4 ((cs.drop 4).take (Tryz.prog.cellsOf 4))=some y4:=hf 4 _ rfl;rw [show Tryz.prog.cellsOf 4 = 1 by kernel_rfl] at g4;obtain ⟨v4,e4,_⟩:=DataW.trod_bool Tryz.underlying4 g4;have g5:DataW.trod enc Tryz.prog w base spare held n 25 ((cs.drop 5).take (Tryz.prog.cellsOf 25))=some y5:=hf 5 _ rfl;rw [show Tryz.prog.cellsOf 25 = 4 by kernel_rfl] at g5
  obtain ⟨z5,e5,k5⟩:=open_u Tryz.underlying25 Tryz.underlying23 (by kernel_rfl) (by kernel_rfl) g5;refine ⟨⟨v0,v1,v2,v3,v4,z5⟩,?_,⟨b0,b1,b2,b3,k5⟩⟩;rw [show Tryz.prog.cellsOf 35 = 9 by kernel_rfl] at hl;have a0:cs=(cs.drop 0).take 1 ++ ((cs.drop 1).take 1 ++ ((cs.drop 2).take 1 ++ ((cs.drop 3).take 1 ++ ((cs.drop 4).take 1 ++ ((cs.drop 5).take 4))))):=by
   have q (m j:Nat):cs.drop m=(cs.drop m).take j ++ cs.drop (m+j):=by rw [← List.drop_drop,List.take_append_drop]
   conv=>lhs;rw [show cs=cs.drop 0 from rfl,q 0 1,q 1 1,q 2 1,q 3 1,q 4 1,q 5 4]
   simp [List.drop_of_length_le (show cs.length≤9 by omega)]
  rw [a0,e0,e1,e2,e3,e4,e5]
  rfl
theorem open_acts19 {fuel:Nat} {cs:List Value} {x:DataW H × List MemPlace} (h:DataW.trod enc Tryz.prog w base spare held fuel 22 cs=some x) (hw:Sized Tryz.prog 22 x.1):∃ v,∃ l:List Act19,cs = [v]∧Rd w act19E 9 v l∧∀ a∈l,Good19 w a:=by
 obtain ⟨v,l,h1,h2,_,h4⟩:=open_slice_rd act19E (Good19 w) Tryz.underlying22 (by kernel_rfl) (by omega) i0W (fun fuel cs x h1 h2=>open_act19 h1 h2) h hw
 exact ⟨v,l,h1,h2,h4⟩
end
end
end Go.Proofs.YtabminbgoclnkaaGreat
