/- From the frame's reading of an amount to its words. No condition. From the frame's reading of rows of a table to the walks' own. No condition. From the frame's reading of a claim to the walks' own. No condition. -/
import Derived.Test.YtakkfabaeolbdaaGreatCnOpen
import Derived.Test.YtakkfabaeolbdaaGreatCnUn
import Derived.Test.YtakkfabaeolbdaaGreatCn17
import Derived.Test.YtakkfabaeolbdaaGreatCn39
namespace Go.Proofs.YtakkfabaeolbdaaGreat
section
open Go.RowKit

section
variable {H:Type} {enc:TypeId × Value→H} {P:Program} {w:World} {base:Nat} {spare:Nat→Bool} {held:Bool}
theorem open_u {t e:TypeId} (ht:P.underlying t=some (.array 4 e)) (he:P.underlying e=some (.int .u64)) (hce:P.cellsOf e=1) (hct:P.cellsOf t=4) {fuel:Nat} {cs:List Value} {x:DataW H × List MemPlace} (h:DataW.trod enc P w base spare held fuel t cs=some x) :
  ∃ n:Nat,cs = [.int .u64 (uw0 n),.int .u64 (uw1 n),.int .u64 (uw2 n),.int .u64 (uw3 n)]∧n < uMax:=by
 obtain ⟨l,rfl,hn,hw⟩:=open_arr_ints ht he hce hct h
 match l,hn with
 | [a,b,c,d],_=>
  obtain ⟨n,hu⟩:=UIs.some (wf_u64 (hw a (by simp))) (wf_u64 (hw b (by simp))) (wf_u64 (hw c (by simp))) (wf_u64 (hw d (by simp)));obtain ⟨e1,e2,e3,e4⟩:=hu.uw;refine ⟨n,?_,hu.lt⟩;rw [← e1,← e2,← e3,← e4];rfl
end
end
section
set_option maxRecDepth 100000
open Go.RowKit

section
variable {H:Type} {enc:TypeId × Value→H} {w:World} {base:Nat} {spare:Nat→Bool} {held:Bool}
theorem open_lrow {fuel:Nat} {cs:List Value} {x:DataW H × List MemPlace} (h:DataW.trod enc Tryz.prog w base spare held fuel 63 cs=some x) (_hw:Sized Tryz.prog 63 x.1):∃ a:LRow,cs=rowE a∧ROk a:=by
 obtain ⟨xs,n,_,rfl,hl,hlen,hf⟩:=DataW.trod_struct Tryz.underlying63 h
 match xs,hlen with
 | [y0,y1,y2],_=>
  have g0:DataW.trod enc Tryz.prog w base spare held n 3 ((cs.drop 0).take (Tryz.prog.cellsOf 3))=some y0:=hf 0 _ rfl;rw [show Tryz.prog.cellsOf 3 = 1 by kernel_rfl] at g0;obtain ⟨v0,e0,b0⟩:=open_i64 Tryz.underlying3 g0;have g1:DataW.trod enc Tryz.prog w base spare held n 3 ((cs.drop 1).take (Tryz.prog.cellsOf 3))=some y1:=hf 1 _ rfl;rw [show Tryz.prog.cellsOf 3 = 1 by kernel_rfl] at g1;obtain ⟨v1,e1,b1⟩:=open_i64 Tryz.underlying3 g1;have g2:DataW.trod enc Tryz.prog w base spare held n 25 ((cs.drop 2).take (Tryz.prog.cellsOf 25))=some y2:=hf 2 _ rfl;rw [show Tryz.prog.cellsOf 25 = 4 by kernel_rfl] at g2;obtain ⟨z2,e2,k2⟩:=open_u Tryz.underlying25 Tryz.underlying23 (by kernel_rfl) (by kernel_rfl) g2;refine ⟨⟨v0,v1,z2⟩,?_,⟨⟨b0,b1⟩,k2⟩⟩;rw [show Tryz.prog.cellsOf 63 = 6 by kernel_rfl] at hl;have a0:cs=(cs.drop 0).take 1 ++ ((cs.drop 1).take 1 ++ ((cs.drop 2).take 4)):=by
   have q (m j:Nat):cs.drop m=(cs.drop m).take j ++ cs.drop (m+j):=by rw [← List.drop_drop,List.take_append_drop]
   conv=>lhs;rw [show cs=cs.drop 0 from rfl,q 0 1,q 1 1,q 2 4]
   simp [List.drop_of_length_le (show cs.length≤6 by omega)]
  rw [a0,e0,e1,e2]
  rfl
theorem open_lrows {fuel:Nat} {cs:List Value} {x:DataW H × List MemPlace} (h:DataW.trod enc Tryz.prog w base spare held fuel 60 cs=some x) (hw:Sized Tryz.prog 60 x.1):∃ v,∃ l:List LRow,cs = [v]∧Rd w rowE 6 v l∧(∀ r∈l,ROk r)∧l.length≤2932031007317:=by
 obtain ⟨v,l,h1,h2,h3,h4⟩:=open_slice_rd rowE ROk Tryz.underlying60 (by kernel_rfl) (by omega) h0S (fun fuel cs x h1 h2=>open_lrow h1 h2) h hw;rw [show Tryz.prog.bytesOf 63 = 48 by kernel_rfl] at h3
 exact ⟨v,l,h1,h2,h4,by omega⟩
end
end
section
set_option maxRecDepth 100000
open Go.RowKit

section
variable {H:Type} {enc:TypeId × Value→H} {w:World} {base:Nat} {spare:Nat→Bool} {held:Bool}
theorem open_hashesL {fuel:Nat} {cs:List Value} {x:DataW H × List MemPlace} (h:DataW.trod enc Tryz.prog w base spare held fuel 28 cs=some x) (hw:Sized Tryz.prog 28 x.1) :
  ∃ (s:SlV) (l:List (List UInt8)),cs = [slV s]∧Rd w hE 32 (slV s) l∧All32 l:=by
 obtain ⟨v,l,h1,h2,_,h4⟩:=open_slice_rd hE (fun y=>y.length=32) Tryz.underlying28 (sz:=32) (by kernel_rfl) (by omega) b0U (fun fuel cs x h1 _=>by
  obtain ⟨y,hy,hy2⟩:=open_arr_u8 Tryz.underlying27 Tryz.underlying5 (by kernel_rfl) (by kernel_rfl) h1
  exact ⟨y,by rw [hE_32 y hy2];exact hy,hy2⟩) h hw
 obtain ⟨ad,cap,rfl,_,_⟩:=h2.shape
 exact ⟨(ad,l.length,cap),l,h1,h2,h4⟩
def GoodLf (w:World) (y:CLf × SlV):Prop:=I64 y.1.t∧(y.1.t < 9223372036854775808∧y.1.i < 9223372036854775808∧y.1.m < 2 ^ 256∧All32 y.1.p)∧Rd w hE 32 (slV y.2) y.1.p
theorem open_lf {fuel:Nat} {cs:List Value} {x:DataW H × List MemPlace} (h:DataW.trod enc Tryz.prog w base spare held fuel 72 cs=some x) (hw:Sized Tryz.prog 72 x.1):∃ a:CLf × SlV,cs=lfE a∧GoodLf w a:=by
 obtain ⟨xs,n,_,rfl,hl,hlen,hf⟩:=DataW.trod_struct Tryz.underlying72 h
 match xs,hlen with
 | [y0,y1,y2,y3],_=>
  have s3:Sized Tryz.prog 28 y3.1:=Sized.field Tryz.underlying72 hw (i:=3) rfl rfl;have g0:DataW.trod enc Tryz.prog w base spare held n 3 ((cs.drop 0).take (Tryz.prog.cellsOf 3))=some y0:=hf 0 _ rfl;rw [show Tryz.prog.cellsOf 3 = 1 by kernel_rfl] at g0;obtain ⟨v0,e0,b0⟩:=open_i64 Tryz.underlying3 g0;have g1:DataW.trod enc Tryz.prog w base spare held n 3 ((cs.drop 1).take (Tryz.prog.cellsOf 3))=some y1:=hf 1 _ rfl;rw [show Tryz.prog.cellsOf 3 = 1 by kernel_rfl] at g1;obtain ⟨v1,e1,b1⟩:=open_i64 Tryz.underlying3 g1;have g2:DataW.trod enc Tryz.prog w base spare held n 25 ((cs.drop 2).take (Tryz.prog.cellsOf 25))=some y2:=hf 2 _ rfl;rw [show Tryz.prog.cellsOf 25 = 4 by kernel_rfl] at g2;obtain ⟨z2,e2,k2⟩:=open_u Tryz.underlying25 Tryz.underlying23 (by kernel_rfl) (by kernel_rfl) g2;have g3:DataW.trod enc Tryz.prog w base spare held n 28 ((cs.drop 6).take (Tryz.prog.cellsOf 28))=some y3:=hf 3 _ rfl;rw [show Tryz.prog.cellsOf 28 = 1 by kernel_rfl] at g3;obtain ⟨s,p,e3,p1,p2⟩:=open_hashesL g3 s3;refine ⟨(⟨v0,v1,z2,p⟩,s),?_,b1,⟨b1.2,b0.2,k2,p2⟩,p1⟩;rw [show Tryz.prog.cellsOf 72 = 7 by kernel_rfl] at hl;have a0:cs=(cs.drop 0).take 1 ++ ((cs.drop 1).take 1 ++ ((cs.drop 2).take 4 ++ (cs.drop 6).take 1)):=by
   have q (m j:Nat):cs.drop m=(cs.drop m).take j ++ cs.drop (m+j):=by rw [← List.drop_drop,List.take_append_drop]
   conv=>lhs;rw [show cs=cs.drop 0 from rfl,q 0 1,q 1 1,q 2 4,q 6 1]
   simp [List.drop_of_length_le (show cs.length≤7 by omega)]
  rw [a0,e0,e1,e2,e3]
  rfl
theorem open_lfs {fuel:Nat} {cs:List Value} {x:DataW H × List MemPlace} (h:DataW.trod enc Tryz.prog w base spare held fuel 29 cs=some x) (hw:Sized Tryz.prog 29 x.1):∃ (s:SlV) (xs:List (CLf × SlV)),cs = [slV s]∧Rd w lfE 7 (slV s) xs∧∀ y∈xs,GoodLf w y:=by
 obtain ⟨v,l,h1,h2,_,h4⟩:=open_slice_rd lfE (GoodLf w) Tryz.underlying29 (by kernel_rfl) (by omega) f0D (fun fuel cs x h1 h2=>open_lf h1 h2) h hw;obtain ⟨ad,cap,rfl,_,_⟩:=h2.shape
 exact ⟨(ad,l.length,cap),l,h1,h2,h4⟩
theorem open_claim {fuel:Nat} {cs:List Value} {x:DataW H × List MemPlace} (h:DataW.trod enc Tryz.prog w base spare held fuel 31 cs=some x) (hw:Sized Tryz.prog 31 x.1):∃ (rt ix e:Int) (h:{l:List UInt8 // l.length=32}) (p lv:SlV) (too:Int) (c:CCl),cs=(clC rt ix e h.1 p lv too).toList∧ClAt w (.agg (clC rt ix e h.1 p lv too)) c∧COk c∧CI c:=by
 obtain ⟨xs,n,_,rfl,hl,hlen,hf⟩:=DataW.trod_struct Tryz.underlying31 h
 match xs,hlen with
 | [y0,y1,y2,y3,y4,y5,y6],_=>
  have s4:Sized Tryz.prog 28 y4.1:=Sized.field Tryz.underlying31 hw (i:=4) rfl rfl;have s5:Sized Tryz.prog 29 y5.1:=Sized.field Tryz.underlying31 hw (i:=5) rfl rfl;have g0:DataW.trod enc Tryz.prog w base spare held n 3 ((cs.drop 0).take (Tryz.prog.cellsOf 3))=some y0:=hf 0 _ rfl;rw [show Tryz.prog.cellsOf 3 = 1 by kernel_rfl] at g0;obtain ⟨v0,e0,b0⟩:=open_i64 Tryz.underlying3 g0;have g1:DataW.trod enc Tryz.prog w base spare held n 3 ((cs.drop 1).take (Tryz.prog.cellsOf 3))=some y1:=hf 1 _ rfl;rw [show Tryz.prog.cellsOf 3 = 1 by kernel_rfl] at g1;obtain ⟨v1,e1,b1⟩:=open_i64 Tryz.underlying3 g1;have g2:DataW.trod enc Tryz.prog w base spare held n 3 ((cs.drop 2).take (Tryz.prog.cellsOf 3))=some y2:=hf 2 _ rfl;rw [show Tryz.prog.cellsOf 3 = 1 by kernel_rfl] at g2;obtain ⟨v2,e2,b2⟩:=open_i64 Tryz.underlying3 g2;have g3:DataW.trod enc Tryz.prog w base spare held n 27 ((cs.drop 3).take (Tryz.prog.cellsOf 27))=some y3:=hf 3 _ rfl;rw [show Tryz.prog.cellsOf 27 = 32 by kernel_rfl] at g3;obtain ⟨ch,e3,h32⟩:=open_arr_u8 Tryz.underlying27 Tryz.underlying5 (by kernel_rfl) (by kernel_rfl) g3;have g4:DataW.trod enc Tryz.prog w base spare held n 28 ((cs.drop 35).take (Tryz.prog.cellsOf 28))=some y4:=hf 4 _ rfl
  rw [show Tryz.prog.cellsOf 28 = 1 by kernel_rfl] at g4;obtain ⟨sp,cp,e4,p1,p2⟩:=open_hashesL g4 s4;have g5:DataW.trod enc Tryz.prog w base spare held n 29 ((cs.drop 36).take (Tryz.prog.cellsOf 29))=some y5:=hf 5 _ rfl;rw [show Tryz.prog.cellsOf 29 = 1 by kernel_rfl] at g5;obtain ⟨sl,xs,e5,x1,x2⟩:=open_lfs g5 s5;have g6:DataW.trod enc Tryz.prog w base spare held n 3 ((cs.drop 37).take (Tryz.prog.cellsOf 3))=some y6:=hf 6 _ rfl;rw [show Tryz.prog.cellsOf 3 = 1 by kernel_rfl] at g6;obtain ⟨v6,e6,b6⟩:=open_i64 Tryz.underlying3 g6;refine ⟨v0,v1,v2,⟨ch,h32⟩,sp,sl,v6,⟨v0,v1,v2,ch,cp,xs.map (·.1),v6⟩,?_,⟨sp,sl,rfl,p1,xs,rfl,x1,fun y hy=>(x2 y hy).2.2⟩,⟨h32,b2.2,b1.2,p2,fun y hy=>?_⟩,b0,b2,b6,fun y hy=>?_⟩
  ·rw [show Tryz.prog.cellsOf 31 = 38 by kernel_rfl] at hl;have a0:cs=(cs.drop 0).take 1 ++ ((cs.drop 1).take 1 ++ ((cs.drop 2).take 1 ++ ((cs.drop 3).take 32 ++ ((cs.drop 35).take 1 ++ ((cs.drop 36).take 1 ++ (cs.drop 37).take 1))))):=by
    have q (m j:Nat):cs.drop m=(cs.drop m).take j ++ cs.drop (m+j):=by rw [← List.drop_drop,List.take_append_drop]
    conv=>lhs;rw [show cs=cs.drop 0 from rfl,q 0 1,q 1 1,q 2 1,q 3 32,q 35 1,q 36 1,q 37 1]
    simp [List.drop_of_length_le (show cs.length≤38 by omega)]
   rw [a0,e0,e1,e2,e3,e4,e5,e6]
   simp [clC,intE]
  ·obtain ⟨z,hz,rfl⟩:=List.mem_map.1 hy
   exact (x2 z hz).2.1
  ·obtain ⟨z,hz,rfl⟩:=List.mem_map.1 hy
   exact (x2 z hz).1
theorem open_act33 {fuel:Nat} {cs:List Value} {x:DataW H × List MemPlace} (h:DataW.trod enc Tryz.prog w base spare held fuel 33 cs=some x) (hw:Sized Tryz.prog 33 x.1):∃ a:Act33,cs=act33E a∧GA w a:=by
 obtain ⟨xs,n,_,rfl,hl,hlen,hf⟩:=DataW.trod_struct Tryz.underlying33 h
 match xs,hlen with
 | [y0,y1,y2,y3,y4,y5,y6,y7,y8,y9],_=>
  have s7:Sized Tryz.prog 22 y7.1:=Sized.field Tryz.underlying33 hw (i:=7) rfl rfl;have s9:Sized Tryz.prog 31 y9.1:=Sized.field Tryz.underlying33 hw (i:=9) rfl rfl;have g0:DataW.trod enc Tryz.prog w base spare held n 3 ((cs.drop 0).take (Tryz.prog.cellsOf 3))=some y0:=hf 0 _ rfl;rw [show Tryz.prog.cellsOf 3 = 1 by kernel_rfl] at g0;obtain ⟨v0,e0,b0⟩:=open_i64 Tryz.underlying3 g0;have g1:DataW.trod enc Tryz.prog w base spare held n 3 ((cs.drop 1).take (Tryz.prog.cellsOf 3))=some y1:=hf 1 _ rfl;rw [show Tryz.prog.cellsOf 3 = 1 by kernel_rfl] at g1;obtain ⟨v1,e1,b1⟩:=open_i64 Tryz.underlying3 g1;have g2:DataW.trod enc Tryz.prog w base spare held n 3 ((cs.drop 2).take (Tryz.prog.cellsOf 3))=some y2:=hf 2 _ rfl;rw [show Tryz.prog.cellsOf 3 = 1 by kernel_rfl] at g2;obtain ⟨v2,e2,b2⟩:=open_i64 Tryz.underlying3 g2;have g3:DataW.trod enc Tryz.prog w base spare held n 3 ((cs.drop 3).take (Tryz.prog.cellsOf 3))=some y3:=hf 3 _ rfl;rw [show Tryz.prog.cellsOf 3 = 1 by kernel_rfl] at g3;obtain ⟨v3,e3,b3⟩:=open_i64 Tryz.underlying3 g3;have g4:DataW.trod enc Tryz.prog w base spare held n 3 ((cs.drop 4).take (Tryz.prog.cellsOf 3))=some y4:=hf 4 _ rfl;rw [show Tryz.prog.cellsOf 3 = 1 by kernel_rfl] at g4
  obtain ⟨v4,e4,b4⟩:=open_i64 Tryz.underlying3 g4;have g5:DataW.trod enc Tryz.prog w base spare held n 3 ((cs.drop 5).take (Tryz.prog.cellsOf 3))=some y5:=hf 5 _ rfl;rw [show Tryz.prog.cellsOf 3 = 1 by kernel_rfl] at g5;obtain ⟨v5,e5,b5⟩:=open_i64 Tryz.underlying3 g5;have g6:DataW.trod enc Tryz.prog w base spare held n 3 ((cs.drop 6).take (Tryz.prog.cellsOf 3))=some y6:=hf 6 _ rfl;rw [show Tryz.prog.cellsOf 3 = 1 by kernel_rfl] at g6;obtain ⟨v6,e6,b6⟩:=open_i64 Tryz.underlying3 g6;have g7:DataW.trod enc Tryz.prog w base spare held n 22 ((cs.drop 7).take (Tryz.prog.cellsOf 22))=some y7:=hf 7 _ rfl;rw [show Tryz.prog.cellsOf 22 = 1 by kernel_rfl] at g7;obtain ⟨s5,l5,e7,r5,_,i5⟩:=open_slice_rd intE (fun n=>-9223372036854775808≤n∧n < 9223372036854775808) Tryz.underlying22 (sz:=1) (by kernel_rfl) (by omega) (fun _=>rfl) (fun fuel cs x h1 _=>open_i64 Tryz.underlying3 h1) g7 s7;obtain ⟨ad5,cap5,rfl,_,_⟩:=r5.shape;have g8:DataW.trod enc Tryz.prog w base spare held n 25 ((cs.drop 8).take (Tryz.prog.cellsOf 25))=some y8:=hf 8 _ rfl;rw [show Tryz.prog.cellsOf 25 = 4 by kernel_rfl] at g8;obtain ⟨z8,e8,k8⟩:=open_u Tryz.underlying25 Tryz.underlying23 (by kernel_rfl) (by kernel_rfl) g8
  have g9:DataW.trod enc Tryz.prog w base spare held n 31 ((cs.drop 12).take (Tryz.prog.cellsOf 31))=some y9:=hf 9 _ rfl;rw [show Tryz.prog.cellsOf 31 = 38 by kernel_rfl] at g9;obtain ⟨crt,cix,ce,ch,cpv,clv,cto,c,e9,hc1,hc2,hc3⟩:=open_claim g9 s9;refine ⟨⟨⟨v0,v1,v2,v3,v4,v5,v6,(ad5,l5.length,cap5),z8,crt,cix,ce,ch,cpv,clv,cto⟩,l5,c⟩,?_,⟨b0,b1,b2,b3,b4,b5,b6,k8,ch.2,r5,i5,hc1,hc2,hc3⟩⟩;rw [show Tryz.prog.cellsOf 33 = 50 by kernel_rfl] at hl;have a0:cs=(cs.drop 0).take 1 ++ ((cs.drop 1).take 1 ++ ((cs.drop 2).take 1 ++ ((cs.drop 3).take 1 ++ ((cs.drop 4).take 1 ++ ((cs.drop 5).take 1 ++ ((cs.drop 6).take 1 ++ ((cs.drop 7).take 1 ++ ((cs.drop 8).take 4 ++ (cs.drop 12).take 38)))))))):=by
   have q (m j:Nat):cs.drop m=(cs.drop m).take j ++ cs.drop (m+j):=by rw [← List.drop_drop,List.take_append_drop]
   conv=>lhs;rw [show cs=cs.drop 0 from rfl,q 0 1,q 1 1,q 2 1,q 3 1,q 4 1,q 5 1,q 6 1,q 7 1,q 8 4,q 12 38]
   simp [List.drop_of_length_le (show cs.length≤50 by omega)]
  rw [a0,e0,e1,e2,e3,e4,e5,e6,e7,e8,e9]
  rfl
theorem open_acts33 {fuel:Nat} {cs:List Value} {x:DataW H × List MemPlace} (h:DataW.trod enc Tryz.prog w base spare held fuel 35 cs=some x) (hw:Sized Tryz.prog 35 x.1):∃ v,∃ l:List Act33,cs = [v]∧Rd w act33E 50 v l∧∀ a∈l,GA w a:=by
 obtain ⟨v,l,h1,h2,_,h4⟩:=open_slice_rd act33E (GA w) Tryz.underlying35 (by kernel_rfl) (by omega) (fun a=>e0n a.a.h.2) (fun fuel cs x h1 h2=>open_act33 h1 h2) h hw
 exact ⟨v,l,h1,h2,h4⟩
theorem open_tabs {fuel:Nat} {cs:List Value} {x:DataW H × List MemPlace} (h:DataW.trod enc Tryz.prog w base spare held fuel 52 cs=some x) (hw:Sized Tryz.prog 52 x.1):∃ v,∃ l:List (List LRow),cs = [v]∧TbAt w v l∧∀ t∈l,(∀ r∈t,ROk r)∧t.length≤2932031007317:=by
 obtain ⟨v,l,h1,h2,_,h4⟩:=open_slice_rd (fun p:SlV × List LRow=>stE p.1) (fun p=>Rd w rowE 6 (slV p.1) p.2∧(∀ r∈p.2,ROk r)∧p.2.length≤2932031007317) Tryz.underlying52 (sz:=1) (by kernel_rfl) (by omega) (fun _=>rfl) (fun fuel cs x h1 h2=>by
  obtain ⟨v,l,e,r,o,z⟩:=open_lrows h1 h2;obtain ⟨ad,cap,rfl,_,_⟩:=r.shape
  exact ⟨((ad,l.length,cap),l),e,r,o,z⟩) h hw
 refine ⟨v,l.map (·.2),h1,⟨l.map (·.1),by simp,?_,fun i q1 q2=>?_⟩,fun t ht=>?_⟩
 ·obtain ⟨ad,cap,e,c1,c2,c3⟩:=h2;refine ⟨ad,cap,by rw [e,List.length_map],by rw [List.length_map];exact c1,c2,fun hne=>?_⟩;obtain ⟨b,off,e1,hb,hc⟩:=c3 (by rintro rfl;exact hne rfl);refine ⟨b,off,e1,hb,fun i hi j hj=>?_⟩;have hi':i < l.length:=by rw [List.length_map] at hi;exact hi
  rw [hc i hi' j hj,List.getElem_map]
 ·have hi':i < l.length:=by rw [List.length_map] at q1;exact q1
  rw [List.getElem_map,List.getElem_map];exact (h4 _ (List.getElem_mem hi')).1
 ·obtain ⟨p,hp,rfl⟩:=List.mem_map.1 ht
  exact (h4 p hp).2
end
end
end Go.Proofs.YtakkfabaeolbdaaGreat
