/- The reference's banks (code). No condition. Services: is one, and is registered (code, and the reference's). No condition. Pools, the program's and the document's (code). No condition. Law 31: the world, the example, acts on both stores. No condition. Claims: who may, what was paid, and setting who may (code, and the reference's). No condition. -/
import Derived.Test.YtakkfabaeolbdaaGreatCnBnkJ
import Derived.Test.YtakkfabaeolbdaaGreatCn33
import Derived.Deep.Cut
namespace Go.Proofs.YtakkfabaeolbdaaGreat
section
set_option maxHeartbeats 8000000
set_option maxRecDepth 100000
open Go.RowKit

def Ext (s z:PS):Prop:=Up z.t∧∃ n,z.past.length=s.past.length+n∧PS.backs n z=s
theorem q0I {s:PS} (hu:Up s.t) (k v:Txt) (b:Bool):(s.put k v b).back=s:=by
 unfold PS.back PS.put
 simp only [List.getLast?_append,List.getLast?_singleton,Option.some_or,List.dropLast_concat];obtain ⟨t,past⟩:=s
 congr 1
 refine n0q (b0L (b0L hu _ _ _) _ _ _) hu fun q=>?_
 rw [f0d,f0d]
 by_cases h:k=q
 ·subst h;simp only [if_true]
  cases hg:getP t k<;>simp
 ·simp [h]
theorem Ext.refl {s:PS} (hu:Up s.t):Ext s s:=⟨hu,0,rfl,rfl⟩
theorem Ext.put {s z:PS} (h:Ext s z) (k v:Txt) (b:Bool):Ext s (z.put k v b):=by
 obtain ⟨hu,n,h1,h2⟩:=h;refine ⟨b0L hu _ _ _,n+1,?_,?_⟩
 ·unfold PS.put;simp [h1];omega
 ·show PS.backs n (z.put k v b).back=s
  rw [q0I hu,h2]
theorem Ext.set {s z:PS} (h:Ext s z) (k v:Txt):Ext s (z.set k v):=by
 unfold PS.set;split
 ·exact h
 ·exact h.put _ _ _
theorem Ext.del {s z:PS} (h:Ext s z) (k:Txt):Ext s (z.del k):=by
 unfold PS.del;split
 ·exact h
 ·exact h.put _ _ _
theorem Ext.undo {s z:PS} (h:Ext s z):z.undo s.past.length=s∧undoE z s.past.length=true:=by
 obtain ⟨hu,n,h1,h2⟩:=h;have hE:undoE z s.past.length=true:=by unfold undoE;rw [decide_eq_true_iff];omega
 refine ⟨?_,hE⟩
 unfold PS.undo
 rw [if_pos hE,Int.toNat_natCast,h1,Nat.add_sub_cancel_left,h2]

theorem Ext.setAmt {s z:PS} (h:Ext s z) (k:Txt) (n:Nat):Ext s (z.setAmt k n):=by
 unfold PS.setAmt;split
 ·exact h.del _
 ·exact h.set _ _
theorem Ext.addA {s z:PS} (h:Ext s z) (k:Txt) (n:Nat):Ext s (z.addA k n):=by
 unfold PS.addA;split
 ·exact h.setAmt _ _
 ·exact h
theorem Ext.moveA {s z:PS} (h:Ext s z) (k l:Txt) (n:Nat):Ext s (z.moveA k l n):=by
 unfold PS.moveA;split
 ·exact (h.setAmt _ _).setAmt _ _
 ·exact h
theorem n0l (n:Int) (w:World):Calls Tryz.prog 98 #[.int .i64 n] w fun e w'=>e = .returned (.bool (decide (1≤n∧n≤4294967295)))∧w=w':=by
 obtain ⟨q,hq⟩:=nm (decide (1≤n∧n≤4294967295));have HQ:=hh hq;rw [← hq];clear hq
 by_cases h1:1≤n
 ·have hd:Hid (decide (n≤4294967295)=q):=hh (by rw [HQ.out];simp only [h1,true_and])
  go_enter Tryz.func98,Tryz.ntmps98
  go_wp2_with fail
  go_ret
  exact ⟨by rw [← hd.out];rfl,rfl⟩
 ·have hd:Hid (q=false):=hh (by rw [HQ.out];exact decide_eq_false fun e=>h1 e.1);have h3:n < 1:=by omega
  clear h1
  go_enter Tryz.func98,Tryz.ntmps98
  go_wp2_with fail
  go_ret
  exact ⟨by rw [hd.out];rfl,rfl⟩
theorem i0M (t n:Int) (w:World):Calls Tryz.prog 107 #[.int .i64 t,.int .i64 n] w fun e w'=>e = .returned (.bool (goodB t n))∧w=w':=by
 obtain ⟨q,hq⟩:=nm (goodB t n);have HQ:=hh hq;rw [← hq];clear hq
 by_cases h1:1≤t
 ·by_cases h2:t≤1000
  ·have hd:Hid (decide (1≤n∧n≤4294967295)=q):=hh (by rw [HQ.out];unfold goodB;simp only [h1,h2,true_and])
   go_enter Tryz.func107,Tryz.ntmps107
   go_wp2_with fail;refine (n0l n _).mono ?_;rintro e _ ⟨rfl,rfl⟩;rw [hd.out];clear h1 h2;go_wp2_with fail
   go_ret
   exact ⟨rfl,rfl⟩
  ·have hd:Hid (q=false):=hh (by rw [HQ.out];unfold goodB;exact decide_eq_false fun e=>h2 e.1.2)
   go_enter Tryz.func107,Tryz.ntmps107
   go_wp2_with fail
   go_ret
   exact ⟨by rw [hd.out];first | rfl | simp [h2],rfl⟩
 ·have hd:Hid (q=false):=hh (by rw [HQ.out];unfold goodB;exact decide_eq_false fun e=>h1 e.1.1);have h3:t < 1:=by omega
  go_enter Tryz.func107,Tryz.ntmps107
  go_wp2_with fail
  go_ret
  exact ⟨by rw [hd.out];first | rfl | simp [h1],rfl⟩

theorem o0D {w:World} {g:Nat} {s:PS} {F:List Nat} (h:RS w g s F) (hz:s.sz < 100000000) (hf:Fit s) {t n:Int} (ht:I64 t) (hn:I64 n) {a b c d:Int} {m:Nat} (hu:UIs a b c d m) :
  Calls Tryz.prog 46 #[.pointer (some ⟨g,0,none⟩),.int .i64 t,.int .i64 n,.agg #[.int .u64 a,.int .u64 b,.int .u64 c,.int .u64 d]] w (RRet w g F (s.mint t n m) (.int .i64 (mintE s t n m))):=by
 have L:=hh (RLiv.start h);have HZ:=hh hz;have HF:=hh hf;have HT:=hh ht;have HN:=hh hn;have HU:=hh hu;obtain ⟨gq,hgq⟩:=nm (goodB t n);have HG:=hh hgq;clear h hz hf ht hn hu hgq
 go_enter Tryz.func46,Tryz.ntmps46
 go_upto_region 1 with fail
 obtain ⟨w1,hw1⟩:=nm (w.alloc (.cells #[.int .u64 a,.int .u64 b,.int .u64 c,.int .u64 d] 25));obtain ⟨BA,hBA⟩:=nm (w.heap.size);rw [← hw1,← hBA];have HBA:Hid (w1.heap[BA]? = some (.cells #[.int .u64 a,.int .u64 b,.int .u64 c,.int .u64 d] 25 (0,0))):=hh (by rw [hw1,hBA];exact heap_alloc_new _ _);have Lm:Hid (RLiv w F w1 g s):=hh (L.out.later (by rw [hw1];exact a0d _ _));clear hw1 hBA L;have L:=Lm;clear Lm;go_wp2_with fail;refine (i0M t n _).mono ?_;rw [← HG.out];rintro e _ ⟨rfl,rfl⟩
 cases gq with
 | false=>
  have HE:Hid (mintE s t n m=2):=hh (by unfold mintE;rw [if_pos (.inl HG.out.symm)]);have HS:Hid (s.mint t n m=s):=hh (by unfold PS.mint;rw [if_pos (.inl HG.out.symm)]);go_wp2_with fail
  go_ret
  rw [HE.out,HS.out];exact L.out.ret
 | true=>
  have cBA0:w1.cell? ⟨BA,0,none⟩=some (.int .u64 a):=Lib.cell_of_heap HBA.out 0;have cBA1:w1.cell? ⟨BA,1,none⟩=some (.int .u64 b):=Lib.cell_of_heap HBA.out 1;have cBA2:w1.cell? ⟨BA,2,none⟩=some (.int .u64 c):=Lib.cell_of_heap HBA.out 2;have cBA3:w1.cell? ⟨BA,3,none⟩=some (.int .u64 d):=Lib.cell_of_heap HBA.out 3;go_wp2_with fail;clear cBA0 cBA1 cBA2 cBA3;refine (b0V HU.out _).mono ?_;obtain ⟨q,hq⟩:=nm (decide (m < uHalf));rw [← hq];have HQ:=hh hq;clear hq;rintro e a1 ⟨rfl,hb⟩;replace L:=hh (L.out.later hb);replace HBA:=bA hb HBA;clear hb
  cases q with
  | false=>
   have HE:Hid (mintE s t n m=2):=hh (by unfold mintE;rw [if_pos (.inr (of_decide_eq_false HQ.out.symm))]);have HS:Hid (s.mint t n m=s):=hh (by unfold PS.mint;rw [if_pos (.inr (of_decide_eq_false HQ.out.symm))]);go_wp2_with fail
   go_ret
   rw [HE.out,HS.out];exact L.out.ret
  | true=>
   have hno:¬ (goodB t n=false∨¬ m < uHalf):=fun e=>by
    rcases e with e | e
    ·rw [e] at HG;have:=HG.out;cases this
    ·exact e (of_decide_eq_true HQ.out.symm)
   obtain ⟨s1,hs1⟩:=nm (s.addA (kSup t) m);obtain ⟨e1,he1⟩:=nm (addE (getP s.t) (kSup t) m);obtain ⟨s2,hs2⟩:=nm (s1.addA (kAcc t n) m);obtain ⟨e2,he2⟩:=nm (addE (getP s1.t) (kAcc t n) m);have HE:Hid (mintE s t n m=if e1≠0 then e1 else e2):=hh (by unfold mintE;rw [if_neg hno,← hs1,← he1,← he2]);have HS:Hid (s.mint t n m=if e1≠0 then s else if e2≠0 then s2.undo s.past.length else s2):=hh (by unfold PS.mint;rw [if_neg hno,← hs1,← he1,← he2,← hs2]);have HNO:Hid (e1≠0→s1=s):=hh (fun h=>by rw [hs1];exact o0j (by rw [← he1];exact h));have HF1:Hid (Fit s1∧s1.sz≤s.sz+2∧s2.sz≤s.sz+4):=hh (by
    have a1:=c0N s (kSup t) m;have a2:=c0N s1 (kAcc t n) m;rw [← hs1] at a1;rw [← hs2] at a2
    exact ⟨by rw [hs1];exact HF.out.addA _ _,by omega,by omega⟩)
   have HS1:=hh hs1;have HE1:=hh he1;have HS2:=hh hs2;have HE2:=hh he2;clear hno HG HQ hs1 he1 hs2 he2;obtain ⟨F9,h9⟩:=L.out.get;obtain ⟨vL,vP,h8,_⟩:=h9;obtain ⟨ad,cap,hvp,_,_⟩:=h8.past.shape;obtain ⟨np,hnp⟩:=nm (s.past.length);rw [← hnp] at hvp;subst hvp;have HNP:=hh hnp;have c9:a1.cell? ⟨g,1,none⟩=some (.slice ad np cap):=Lib.cell_of_heap h8.head 1;clear h8 hnp;go_wp2_with fail;clear c9;obtain ⟨a2,hwz,hbz⟩:=dr a1;replace L:=hh (L.out.later hbz);replace HBA:=bA hbz HBA;clear hbz;refine rg1 6 6 hwz HBA fun hS=>?_
   clear hwz;refine tA1 0 26 hS ?_;go_frame;refine tA1 1 27 hS ?_;go_frame;refine tl 3 (some 29) (fun _ h=>h) Tryz.underlying25 Tryz.sizeU hS ?_;go_frame;refine t1 2 fun K hK=>?_
   simp only [gA,jB,gC];go_simp;refine (o0H HT.out _).mono ?_;rintro e a3 ⟨rfl,hb⟩;replace L:=hh (L.out.later hb);replace HBA:=bA hb HBA;clear hb;replace hS:=HBA.out;refine hK _ _ (fun _ _=>hS) ?_;clear hK;refine t1 4 fun K hK=>?_
   simp only [gA,jB,gC];go_simp;refine (L.out.call fun F hs=>e0C hs (by have:=HZ.out;omega) HF.out (kSup t) HU.out).mono ?_;rw [← HE1.out,← HS1.out];rintro e a4 ⟨rfl,o,hoth⟩;replace L:=hh o;replace HBA:=oA hoth HBA;clear o hoth;replace hS:=HBA.out;refine hK _ _ (fun _ _=>hS) ?_;clear hK;refine tA1 5 10 hS ?_;go_frame;refine tD ?_;clear hS
   by_cases hz1:e1=0
   ·have hne:(e1 != 0)=false:=by simpa using hz1
    have HEV:Hid (mintE s t n m=e2):=hh (by rw [HE.out,if_neg (fun e=>e hz1)]);have HSV:Hid (s.mint t n m=if e2≠0 then s2.undo np else s2):=hh (by rw [HS.out,if_neg (fun e=>e hz1),HNP.out]);subst hz1;clear HE HS HNO;go_wp2_with fail;clear hne;obtain ⟨a5,hwz,hbz⟩:=dr a4;replace L:=hh (L.out.later hbz);replace HBA:=bA hbz HBA;clear hbz;refine rg1 7 7 hwz HBA fun hS=>?_
    clear hwz;refine tA1 0 34 hS ?_;go_frame;refine tA1 1 35 hS ?_;go_frame;refine tA1 2 36 hS ?_;go_frame;refine tl 4 (some 38) (fun _ h=>h) Tryz.underlying25 Tryz.sizeU hS ?_;go_frame;refine t1 3 fun K hK=>?_
    simp only [gA,jB,gC];go_simp;refine (f0F HT.out HN.out _).mono ?_;rintro e a6 ⟨rfl,hb⟩;replace L:=hh (L.out.later hb);replace HBA:=bA hb HBA;clear hb;replace hS:=HBA.out;refine hK _ _ (fun _ _=>hS) ?_;clear hK;refine t1 5 fun K hK=>?_
    simp only [gA,jB,gC];go_simp;refine (L.out.call fun F hs=>e0C hs (by have:=HZ.out;have:=HF1.out.2.1;omega) HF1.out.1 (kAcc t n) HU.out).mono ?_;rw [← HE2.out,← HS2.out];rintro e a7 ⟨rfl,o,hoth⟩;replace L:=hh o;replace HBA:=oA hoth HBA;clear o hoth;replace hS:=HBA.out;refine hK _ _ (fun _ _=>hS) ?_;clear hK;refine tA1 6 11 hS ?_;go_frame;refine tD ?_;clear hS
    by_cases hz2:e2=0
    ·have hne:(e2 != 0)=false:=by simpa using hz2
     have HEW:Hid (mintE s t n m=0):=hh (by rw [HEV.out,hz2]);have HSW:Hid (s.mint t n m=s2):=hh (by rw [HSV.out,if_neg (fun e=>e hz2)]);subst hz2;go_wp2_with fail
     go_ret
     rw [HEW.out,HSW.out];exact L.out.ret
    ·have hne:(e2 != 0)=true:=by simpa using hz2
     have hne':(e2 == 0)=false:=by simpa using hz2
     have HSW:Hid (s.mint t n m=s2.undo np):=hh (by rw [HSV.out,if_pos hz2]);clear hz2;go_wp2_with fail;refine (L.out.call fun F hs=>f0W hs (by have:=HZ.out;have h7:=HF1.out.2.2;unfold PS.sz at h7 this;omega) (np:Int)).mono ?_;rintro e a8 ⟨rfl,o,hoth⟩;replace L:=hh o;clear o hoth;go_wp2_with fail
     go_ret
     rw [HEV.out,HSW.out];exact L.out.ret
   ·have hne:(e1 != 0)=true:=by simpa using hz1
    have hne':(e1 == 0)=false:=by simpa using hz1
    have HEV:Hid (mintE s t n m=e1):=hh (by rw [HE.out,if_pos hz1]);have HSV:Hid (s.mint t n m=s1):=hh (by rw [HS.out,if_pos hz1,HNO.out hz1]);clear hz1;go_wp2_with fail
    go_ret
    rw [HEV.out,HSV.out];exact L.out.ret
end
section
set_option maxHeartbeats 16000000
set_option maxRecDepth 100000
section
open Go.RowKit

def isK (f:Txt→Option Txt) (t a:Int):Bool:=getI f (keyF t [a]) == 1
def regE (s:PS) (a:Int):Int:=if goodB 1 a=false then 2 else if isK (getP s.t) 21 a then 9 else 0
def PS.reg (s:PS) (a:Int):PS:=if regE s a=0 then s.setInt (keyF 21 [a]) 1 else s
theorem p0x {w:World} {x:Option Addr} {m:Bool} {f:Txt→Option Txt} (h:Look w x m f) (hf:FitF f) {a:Int} (ha:I64 a):Calls Tryz.prog 97 #[.pointer x,.int .i64 a] w (Ret w (.bool (isK f 21 a))):=by
 have H:=hh h;have HF:=hh hf;have HA:=hh ha;obtain ⟨q,hq⟩:=nm (getI f (keyF 21 [a]));have HQ:=hh hq;clear h hf ha hq;have HB:Hid (Below w.heap.size w w):=hh (Below.refl _ _)
 go_enter Tryz.func97,Tryz.ntmps97
 go_wp2_with fail;obtain ⟨a1,hwl⟩:=nm (World.alloc w (.cells #[.int .i64 a] 3));obtain ⟨gl,hgl⟩:=nm ((World.heap w).size);rw [← hwl,← hgl];have HOI:Hid (Own a1 0 3 intE 1 (.slice (some ⟨gl,0,none⟩) 1 1) [a]):=hh (a0H (l:=[a]) (by rw [hwl,hgl];exact heap_alloc_new _ _) (Nat.zero_le _) (by unfold maxLen;simp));have hb:Below (World.heap w).size w a1:=by rw [hwl];exact a0d _ _
 clear hwl hgl;replace HB:=bT HB hb;clear hb;refine (a0X 21 [a] _ _ (by simp) (I64s.one HA.out) (HOI.out.rd fun _=>rfl)).mono ?_;rintro e a2 ⟨rfl,hb⟩;replace HB:=bT HB hb;clear hb;clear HOI;go_wp2_with fail;refine (h0C (H.out.later HB.out) HF.out (keyF 21 [a])).mono ?_;rw [← HQ.out];rintro e a3 ⟨rfl,hb⟩;replace HB:=bT HB hb;clear hb;go_wp2_with fail
 go_ret
 exact ⟨by unfold isK;rw [← HQ.out];rfl,HB.out⟩

theorem i0A {w:World} {g:Nat} {s:PS} {F:List Nat} (h:RS w g s F) (hz:s.sz < 100000000) (hf:Fit s) {a:Int} (ha:I64 a):Calls Tryz.prog 99 #[.pointer (some ⟨g,0,none⟩),.int .i64 a] w (Ret w (.bool (isK (getP s.t) 21 a))):=by
 have H:=hh h;have HF:=hh hf;have HA:=hh ha;have HZ:=hh hz;obtain ⟨q,hq⟩:=nm (getI (getP s.t) (keyF 21 [a]));have HQ:=hh hq;clear h hf ha hq hz;have HB:Hid (Below w.heap.size w w):=hh (Below.refl _ _)
 go_enter Tryz.func99,Tryz.ntmps99
 go_wp2_with fail;obtain ⟨a1,hwl⟩:=nm (World.alloc w (.cells #[.int .i64 a] 3));obtain ⟨gl,hgl⟩:=nm ((World.heap w).size);rw [← hwl,← hgl];have HOI:Hid (Own a1 0 3 intE 1 (.slice (some ⟨gl,0,none⟩) 1 1) [a]):=hh (a0H (l:=[a]) (by rw [hwl,hgl];exact heap_alloc_new _ _) (Nat.zero_le _) (by unfold maxLen;simp));have hb:Below (World.heap w).size w a1:=by rw [hwl];exact a0d _ _
 clear hwl hgl;replace HB:=bT HB hb;clear hb;refine (a0I 21 [a] _ _ (by simp) (I64s.one HA.out) (HOI.out.rd fun _=>rfl)).mono ?_;rintro e a2 ⟨rfl,hb⟩;replace HB:=bT HB hb;clear hb;clear HOI;go_wp2_with fail;refine (h0N (H.out.later HB.out) (by have:=HZ.out;omega) HF.out (keyF 21 [a])).mono ?_;rw [← HQ.out];rintro e a3 ⟨rfl,hb⟩;replace HB:=bT HB hb;clear hb;go_wp2_with fail
 go_ret
 exact ⟨by unfold isK;rw [← HQ.out];rfl,HB.out⟩

theorem r0h {w:World} {g:Nat} {s:PS} {F:List Nat} (h:St w g s F) (hz:s.sz < 10000000) (hf:Fit s) {a:Int} (ha:I64 a) :
  Calls Tryz.prog 43 #[.pointer (some ⟨g,0,none⟩),.int .i64 a] w (StRet w g F (s.reg a) (.int .i64 (regE s a))):=by
 have L:=hh (Liv.start h);have HZ:=hh hz;have HF:=hh hf;have HA:=hh ha;obtain ⟨gq,hgq⟩:=nm (goodB 1 a);obtain ⟨iq,hiq⟩:=nm (isK (getP s.t) 21 a);have HE:Hid (regE s a=if gq=false then 2 else if iq=true then 9 else 0):=hh (by unfold regE;rw [← hgq,← hiq]);have HS:Hid (s.reg a=if regE s a=0 then s.setInt (keyF 21 [a]) 1 else s):=hh rfl;have HG:=hh hgq;have HI:=hh hiq;clear h hz hf ha hgq hiq
 go_enter Tryz.func43,Tryz.ntmps43
 go_wp2_with fail;obtain ⟨F9,h9⟩:∃ F9,St w g s F9:=by obtain ⟨F9,h9,_⟩:=L.out;exact ⟨F9,h9⟩
 refine (c0E h9).mono ?_;rintro e _ ⟨rfl,rfl⟩;clear h9;go_wp2_with fail;refine (d0P 1 a _).mono ?_;rw [← HG.out];rintro e _ ⟨rfl,rfl⟩
 cases gq with
 | false=>
  have HV:Hid (regE s a=2):=hh (by rw [HE.out,if_pos rfl]);have HW:Hid (s.reg a=s):=hh (by rw [HS.out,HV.out,if_neg (by decide)]);go_wp2_with fail
  go_ret
  rw [HV.out,HW.out];exact L.out.ret
 | true=>
  go_wp2_with fail;obtain ⟨F9,h9⟩:∃ F9,St w g s F9:=by obtain ⟨F9,h9,_⟩:=L.out;exact ⟨F9,h9⟩
  refine (p0x (Look.of_st h9) HF.out.f HA.out).mono ?_;rw [← HI.out];rintro e a1 ⟨rfl,hb⟩;clear h9;replace L:=hh (L.out.later hb);clear hb
  cases iq with
  | true=>
   have HV:Hid (regE s a=9):=hh (by rw [HE.out,if_neg (by decide),if_pos rfl]);have HW:Hid (s.reg a=s):=hh (by rw [HS.out,HV.out,if_neg (by decide)]);go_wp2_with fail
   go_ret
   rw [HV.out,HW.out];exact L.out.ret
  | false=>
   have HV:Hid (regE s a=0):=hh (by rw [HE.out,if_neg (by decide),if_neg (by decide)]);have HW:Hid (s.reg a=s.setInt (keyF 21 [a]) 1):=hh (by rw [HS.out,HV.out,if_pos rfl]);go_wp2_with fail;obtain ⟨a2,hwl⟩:=nm (World.alloc a1 (.cells #[.int .i64 a] 3));obtain ⟨gl,hgl⟩:=nm ((World.heap a1).size);rw [← hwl,← hgl];have HOI:Hid (Own a2 0 3 intE 1 (.slice (some ⟨gl,0,none⟩) 1 1) [a]):=hh (a0H (l:=[a]) (by rw [hwl,hgl];exact heap_alloc_new _ _) (Nat.zero_le _) (by unfold maxLen;simp));have hb:Below (World.heap a1).size a1 a2:=by rw [hwl];exact a0d _ _
   clear hwl hgl;replace L:=hh (L.out.later hb);clear hb;refine (a0X 21 [a] _ _ (by simp) (I64s.one HA.out) (HOI.out.rd fun _=>rfl)).mono ?_;rintro e a3 ⟨rfl,hb⟩;replace L:=hh (L.out.later hb);clear hb;clear HOI;go_wp2_with fail;refine (L.out.call fun F hs=>e0y hs (by have:=HZ.out;omega) (keyF 21 [a]) 1 (by decide)).mono ?_;rintro e a4 ⟨rfl,o,hoth⟩;replace L:=hh o;clear o hoth;go_wp2_with fail
   go_ret
   rw [HV.out,HW.out];exact L.out.ret

theorem m0i {w:World} {g:Nat} {s:PS} {F:List Nat} (h:RS w g s F) (hz:s.sz < 10000000) (hf:Fit s) {a:Int} (ha:I64 a) :
  Calls Tryz.prog 44 #[.pointer (some ⟨g,0,none⟩),.int .i64 a] w (RRet w g F (s.reg a) (.int .i64 (regE s a))):=by
 have L:=hh (RLiv.start h);have HZ:=hh hz;have HF:=hh hf;have HA:=hh ha;obtain ⟨gq,hgq⟩:=nm (goodB 1 a);obtain ⟨iq,hiq⟩:=nm (isK (getP s.t) 21 a);have HE:Hid (regE s a=if gq=false then 2 else if iq=true then 9 else 0):=hh (by unfold regE;rw [← hgq,← hiq]);have HS:Hid (s.reg a=if regE s a=0 then s.setInt (keyF 21 [a]) 1 else s):=hh rfl;have HG:=hh hgq;have HI:=hh hiq;clear h hz hf ha hgq hiq
 go_enter Tryz.func44,Tryz.ntmps44
 go_wp2_with fail;refine (n0l a _).mono ?_;rw [show decide (1≤a∧a≤4294967295)=gq from (by rw [HG.out];unfold goodB;simp)];rintro e _ ⟨rfl,rfl⟩
 cases gq with
 | false=>
  have HV:Hid (regE s a=2):=hh (by rw [HE.out,if_pos rfl]);have HW:Hid (s.reg a=s):=hh (by rw [HS.out,HV.out,if_neg (by decide)]);go_wp2_with fail
  go_ret
  rw [HV.out,HW.out];exact L.out.ret
 | true=>
  go_wp2_with fail;obtain ⟨F9,h9⟩:∃ F9,RS w g s F9:=by obtain ⟨F9,h9,_⟩:=L.out;exact ⟨F9,h9⟩
  refine (i0A h9 (by have:=HZ.out;omega) HF.out HA.out).mono ?_;rw [← HI.out];rintro e a1 ⟨rfl,hb⟩;clear h9;replace L:=hh (L.out.later hb);clear hb
  cases iq with
  | true=>
   have HV:Hid (regE s a=9):=hh (by rw [HE.out,if_neg (by decide),if_pos rfl]);have HW:Hid (s.reg a=s):=hh (by rw [HS.out,HV.out,if_neg (by decide)]);go_wp2_with fail
   go_ret
   rw [HV.out,HW.out];exact L.out.ret
  | false=>
   have HV:Hid (regE s a=0):=hh (by rw [HE.out,if_neg (by decide),if_neg (by decide)]);have HW:Hid (s.reg a=s.setInt (keyF 21 [a]) 1):=hh (by rw [HS.out,HV.out,if_pos rfl]);go_wp2_with fail;obtain ⟨a2,hwl⟩:=nm (World.alloc a1 (.cells #[.int .i64 a] 3));obtain ⟨gl,hgl⟩:=nm ((World.heap a1).size);rw [← hwl,← hgl];have HOI:Hid (Own a2 0 3 intE 1 (.slice (some ⟨gl,0,none⟩) 1 1) [a]):=hh (a0H (l:=[a]) (by rw [hwl,hgl];exact heap_alloc_new _ _) (Nat.zero_le _) (by unfold maxLen;simp));have hb:Below (World.heap a1).size a1 a2:=by rw [hwl];exact a0d _ _
   clear hwl hgl;replace L:=hh (L.out.later hb);clear hb;refine (a0I 21 [a] _ _ (by simp) (I64s.one HA.out) (HOI.out.rd fun _=>rfl)).mono ?_;rintro e a3 ⟨rfl,hb⟩;replace L:=hh (L.out.later hb);clear hb;clear HOI;go_wp2_with fail;refine (L.out.call fun F hs=>d0y hs (by have:=HZ.out;omega) (keyF 21 [a]) 1 (by decide)).mono ?_;rintro e a4 ⟨rfl,o,hoth⟩;replace L:=hh o;clear o hoth;go_wp2_with fail
   go_ret
   rw [HV.out,HW.out];exact L.out.ret
end
section
open Go.RowKit

def goodP (t n:Int) (m:Nat):Bool:=goodB t n && (!decide (m=0)) && decide (m < uHalf)
def sendE (s:PS) (x y z:Txt) (m:Nat):Int:=if moveE (getP s.t) x y m≠0 then moveE (getP s.t) x y m else addE (getP (s.moveA x y m).t) z m
def PS.send (s:PS) (x y z:Txt) (m:Nat):PS:=if sendE s x y z m=0 then (s.moveA x y m).addA z m else s
def kPool (t:Int):Txt:=keyF 4 [t]
def psubE (s:PS) (v t:Int) (m:Nat):Int:=if isK (getP s.t) 21 v=false then 8 else if goodP t 1 m=false then 2 else sendE s (kAcc t v) (kPool t) (keyF 34 [t]) m
def PS.psub (s:PS) (v t:Int) (m:Nat):PS:=if isK (getP s.t) 21 v=false then s else if goodP t 1 m=false then s else s.send (kAcc t v) (kPool t) (keyF 34 [t]) m
def pyE (s:PS) (t n:Int) (m:Nat):Int:=if goodP t n m=false then 2 else sendE s (kPool t) (kAcc t n) (keyF 35 [t]) m
def PS.py (s:PS) (t n:Int) (m:Nat):PS:=if goodP t n m=false then s else s.send (kPool t) (kAcc t n) (keyF 35 [t]) m
theorem s0q (s:PS) (x y z:Txt) (m:Nat):(s.send x y z m).sz≤s.sz+6:=by
 unfold PS.send;split
 ·have h1:=h0w s x y m;have h2:=c0N (s.moveA x y m) z m
  omega
 ·omega
theorem p0G {s:PS} (hf:Fit s) (x y z:Txt) (m:Nat):Fit (s.send x y z m):=by
 unfold PS.send;split
 ·exact (hf.moveA _ _ _).addA _ _
 ·exact hf
theorem py_sz (s:PS) (t n:Int) (m:Nat):(s.py t n m).sz≤s.sz+6:=by
 unfold PS.py;split
 ·omega
 ·exact s0q _ _ _ _ _
theorem t0q {s:PS} (hf:Fit s) (t n:Int) (m:Nat):Fit (s.py t n m):=by
 unfold PS.py;split
 ·exact hf
 ·exact p0G hf _ _ _ _
theorem j0G {s:PS} (hu:Up s.t) (x y z:Txt) (m:Nat):(s.moveA x y m).undo s.past.length=s∧((s.moveA x y m).addA z m).undo s.past.length=s:=
 ⟨((Ext.refl hu).moveA _ _ _).undo.1,(((Ext.refl hu).moveA _ _ _).addA _ _).undo.1⟩

theorem i0u {t n:Int} {a b c d:Int} {m:Nat} (hu:UIs a b c d m) (w:World):Calls Tryz.prog 113 #[.int .i64 t,.int .i64 n,.agg #[.int .u64 a,.int .u64 b,.int .u64 c,.int .u64 d]] w (Ret w (.bool (goodP t n m))):=by
 have HU:=hh hu;obtain ⟨gq,hgq⟩:=nm (goodB t n);obtain ⟨zq,hzq⟩:=nm (decide (m=0));obtain ⟨mq,hmq⟩:=nm (decide (m < uHalf));have HP:Hid (goodP t n m=(gq && (!zq) && mq)):=hh (by unfold goodP;rw [← hgq,← hzq,← hmq]);have HG:=hh hgq;have HZQ:=hh hzq;have HMQ:=hh hmq;clear hu hgq hzq hmq;have HB:Hid (Below w.heap.size w w):=hh (Below.refl _ _)
 go_enter Tryz.func113,Tryz.ntmps113
 go_upto_region 1 with fail
 obtain ⟨w1,hw1⟩:=nm (w.alloc (.cells #[.int .u64 a,.int .u64 b,.int .u64 c,.int .u64 d] 25));obtain ⟨X,hX⟩:=nm (w.heap.size);rw [← hw1,← hX];have HX:Hid (w1.heap[X]? = some (.cells #[.int .u64 a,.int .u64 b,.int .u64 c,.int .u64 d] 25 (0,0))):=hh (by rw [hw1,hX];exact heap_alloc_new _ _);have hb:Below w.heap.size w w1:=by rw [hw1];exact a0d _ _
 clear hw1 hX;replace HB:=bT HB hb;clear hb;go_wp2_with fail;refine (d0P t n _).mono ?_;rw [← HG.out];rintro e _ ⟨rfl,rfl⟩
 cases gq with
 | false=>
  go_wp2_with fail
  go_ret
  exact ⟨by rw [HP.out];rfl,HB.out⟩
 | true=>
  have e7:=Tryz.eqUn HU.out UIs.zero;rw [← HZQ.out] at e7;have cX0:w1.cell? ⟨X,0,none⟩=some (.int .u64 a):=Lib.cell_of_heap HX.out 0;have cX1:w1.cell? ⟨X,1,none⟩=some (.int .u64 b):=Lib.cell_of_heap HX.out 1;have cX2:w1.cell? ⟨X,2,none⟩=some (.int .u64 c):=Lib.cell_of_heap HX.out 2;have cX3:w1.cell? ⟨X,3,none⟩=some (.int .u64 d):=Lib.cell_of_heap HX.out 3
  cases zq with
  | true=>
   go_wp2_with fail
   go_ret
   exact ⟨by rw [HP.out];rfl,HB.out⟩
  | false=>
   go_wp2_with fail;clear e7;clear cX0 cX1 cX2 cX3;refine (d0A HU.out _).mono ?_;rw [← HMQ.out];rintro e a1 ⟨rfl,hb⟩;replace HB:=bT HB hb;clear hb;go_wp2_with fail
   go_ret
   exact ⟨by rw [HP.out];rfl,HB.out⟩

theorem f0b {w:World} {g:Nat} {s:PS} {F:List Nat} (h:St w g s F) (hz:s.sz < 10000000) (hf:Fit s) (kx ky kz:Txt) {W:Nat} (hW:w.heap[W]? = some (.cells #[.string (bs kx),.string (bs ky),.string (bs kz)] 189 (0,0))) {a b c d:Int} {m:Nat} (hu:UIs a b c d m) :
  Calls Tryz.prog 114 #[.pointer (some ⟨W,0,none⟩),.pointer (some ⟨g,0,none⟩),.agg #[.int .u64 a,.int .u64 b,.int .u64 c,.int .u64 d]] w (StRet w g F (s.send kx ky kz m) (.int .i64 (sendE s kx ky kz m))):=by
 have HUP:=hh h.up;have L:=hh (Liv.start h);have HZ:=hh hz;have HF:=hh hf;have HU:=hh hu;have HW:=hh hW;obtain ⟨s1,hs1⟩:=nm (s.moveA kx ky m);obtain ⟨e1,he1⟩:=nm (moveE (getP s.t) kx ky m);obtain ⟨s2,hs2⟩:=nm (s1.addA kz m);obtain ⟨e2,he2⟩:=nm (addE (getP s1.t) kz m);obtain ⟨np,hnp⟩:=nm (s.past.length);have HE:Hid (sendE s kx ky kz m=if e1≠0 then e1 else e2):=hh (by unfold sendE;rw [← he1,← hs1,← he2]);have HS:Hid (s.send kx ky kz m=if sendE s kx ky kz m=0 then s2 else s):=hh (by unfold PS.send;rw [← hs1,← hs2]);have HUN:Hid (s1.undo np=s∧s2.undo np=s):=hh (by rw [hnp,hs2,hs1];exact j0G h.up kx ky kz m);have HF1:Hid (Fit s1∧s1.sz≤s.sz+4∧s2.sz≤s.sz+6):=hh (by
  have a1:=h0w s kx ky m;have a2:=c0N s1 kz m;rw [← hs1] at a1;rw [← hs2] at a2
  exact ⟨by rw [hs1];exact hf.moveA _ _ _,by omega,by omega⟩)
 have HS1:=hh hs1;have HE1:=hh he1;have HS2:=hh hs2;have HE2:=hh he2;have HNP:=hh hnp;clear h hz hf hu hs1 he1 hs2 he2 hnp hW
 go_enter Tryz.func114,Tryz.ntmps114
 go_upto_region 1 with fail
 obtain ⟨w1,hw1⟩:=nm (w.alloc (.cells #[.int .u64 a,.int .u64 b,.int .u64 c,.int .u64 d] 25));obtain ⟨X,hX⟩:=nm (w.heap.size);rw [← hw1,← hX];have HX:Hid (w1.heap[X]? = some (.cells #[.int .u64 a,.int .u64 b,.int .u64 c,.int .u64 d] 25 (0,0))):=hh (by rw [hw1,hX];exact heap_alloc_new _ _);have hb:Below w.heap.size w w1:=by rw [hw1];exact a0d _ _
 clear hw1 hX;replace L:=hh (L.out.later hb);replace HW:=bA hb HW;clear hb;obtain ⟨F9,h9⟩:∃ F9,St w1 g s F9:=by obtain ⟨F9,h9,_⟩:=L.out;exact ⟨F9,h9⟩
 go_wp2_with fail;refine (g0d h9).mono ?_;rintro e _ ⟨rfl,rfl⟩;rw [← HNP.out];clear h9;go_wp2_with fail;obtain ⟨a1,hwz,hbz⟩:=dr w1;replace L:=hh (L.out.later hbz);replace HW:=bA hbz HW;replace HX:=bA hbz HX;clear hbz;refine rg2 12 12 hwz HX HW fun hS=>?_
 clear hwz;refine tA1 0 11 hS ?_;go_frame;refine tA1 1 12 hS ?_;go_frame;refine tA1 2 13 hS ?_;go_frame;refine tA1 3 14 hS ?_;go_frame;refine tk 4 (some 15) rfl rfl (.inl ⟨by rfl,fun w' hS'=>(by have hc:w'.cell? ⟨W,0,none⟩=some (.string (bs kx)):=Lib.cell_of_heap (hS'.2) 0;go_simp;rfl)⟩) hS ?_;go_frame;refine tA1 5 16 hS ?_;go_frame;refine tA1 6 17 hS ?_;go_frame;refine tA1 7 18 hS ?_;go_frame;refine tk 8 (some 19) rfl rfl (.inl ⟨by rfl,fun w' hS'=>(by have hc:w'.cell? ⟨W,1,none⟩=some (.string (bs ky)):=Lib.cell_of_heap (hS'.2) 1;go_simp;rfl)⟩) hS ?_;go_frame;refine tl 9 (some 20) (fun _ h=>h.1) Tryz.underlying25 Tryz.sizeU hS ?_;go_frame;refine t1 10 fun K hK=>?_
 simp only [gA,jB,gC];go_simp;refine (L.out.call fun F hs=>n0Z hs (by have:=HZ.out;omega) HF.out kx ky HU.out).mono ?_;rw [← HE1.out,← HS1.out];rintro e a2 ⟨rfl,o,hoth⟩;replace L:=hh o;replace HW:=oA hoth HW;replace HX:=oA hoth HX;clear o hoth;replace hS:=And.intro HX.out HW.out;refine hK _ _ (fun _ _=>hS) ?_;clear hK;refine tA1 11 8 hS ?_;go_frame;refine tD ?_;clear hS
 by_cases hz1:e1=0
 ·have hne:(e1 != 0)=false:=by simpa using hz1
  have HEV:Hid (sendE s kx ky kz m=e2):=hh (by rw [HE.out,if_neg (fun e=>e hz1)]);subst hz1;clear HE;go_wp2_with fail;clear hne;obtain ⟨a3,hwz,hbz⟩:=dr a2;replace L:=hh (L.out.later hbz);replace HW:=bA hbz HW;replace HX:=bA hbz HX;clear hbz;refine rg2 8 8 hwz HX HW fun hS=>?_
  clear hwz;refine tA1 0 24 hS ?_;go_frame;refine tA1 1 25 hS ?_;go_frame;refine tA1 2 26 hS ?_;go_frame;refine tA1 3 27 hS ?_;go_frame;refine tk 4 (some 28) rfl rfl (.inl ⟨by rfl,fun w' hS'=>(by have hc:w'.cell? ⟨W,2,none⟩=some (.string (bs kz)):=Lib.cell_of_heap (hS'.2) 2;go_simp;rfl)⟩) hS ?_;go_frame;refine tl 5 (some 29) (fun _ h=>h.1) Tryz.underlying25 Tryz.sizeU hS ?_;go_frame;refine t1 6 fun K hK=>?_
  simp only [gA,jB,gC];go_simp;refine (L.out.call fun F hs=>h0X hs (by have:=HZ.out;have:=HF1.out.2.1;omega) HF1.out.1 kz HU.out).mono ?_;rw [← HE2.out,← HS2.out];rintro e a4 ⟨rfl,o,hoth⟩;replace L:=hh o;replace HW:=oA hoth HW;replace HX:=oA hoth HX;clear o hoth;replace hS:=And.intro HX.out HW.out;refine hK _ _ (fun _ _=>hS) ?_;clear hK;refine tA1 7 8 hS ?_;go_frame;refine tD ?_;clear hS
  by_cases hz2:e2=0
  ·have hne:(e2 != 0)=false:=by simpa using hz2
   have HEW:Hid (sendE s kx ky kz m=0):=hh (by rw [HEV.out,hz2]);have HSW:Hid (s.send kx ky kz m=s2):=hh (by rw [HS.out,HEW.out,if_pos rfl]);subst hz2;go_wp2_with fail
   go_ret
   rw [HEW.out,HSW.out];exact L.out.ret
  ·have hne:(e2 != 0)=true:=by simpa using hz2
   have hne':(e2 == 0)=false:=by simpa using hz2
   have HSW:Hid (s.send kx ky kz m=s2.undo np):=hh (by rw [HS.out,HEV.out,if_neg hz2,HUN.out.2]);clear hz2;go_wp2_with fail;refine (L.out.call fun F hs=>c0X hs (by have:=HZ.out;have h7:=HF1.out.2.2;unfold PS.sz at h7 this;omega) (np:Int)).mono ?_;rintro e a5 ⟨rfl,o,hoth⟩;replace L:=hh o;clear o hoth;go_wp2_with fail
   go_ret
   rw [HEV.out,HSW.out];exact L.out.ret
 ·have hne:(e1 != 0)=true:=by simpa using hz1
  have hne':(e1 == 0)=false:=by simpa using hz1
  have HEV:Hid (sendE s kx ky kz m=e1):=hh (by rw [HE.out,if_pos hz1]);have HSV:Hid (s.send kx ky kz m=s1.undo np):=hh (by rw [HS.out,HEV.out,if_neg hz1,HUN.out.1]);clear hz1;go_wp2_with fail;refine (L.out.call fun F hs=>c0X hs (by have:=HZ.out;have h7:=HF1.out.2.1;unfold PS.sz at h7 this;omega) (np:Int)).mono ?_;rintro e a3 ⟨rfl,o,hoth⟩;replace L:=hh o;clear o hoth;go_wp2_with fail
  go_ret
  rw [HEV.out,HSV.out];exact L.out.ret

theorem h0Y {w:World} {g:Nat} {s:PS} {F:List Nat} (h:RS w g s F) (hz:s.sz < 10000000) (hf:Fit s) (kx ky kz:Txt) {a b c d:Int} {m:Nat} (hu:UIs a b c d m) :
  Calls Tryz.prog 116 #[.pointer (some ⟨g,0,none⟩),.string (bs kx),.string (bs ky),.string (bs kz),.agg #[.int .u64 a,.int .u64 b,.int .u64 c,.int .u64 d]] w (RRet w g F (s.send kx ky kz m) (.int .i64 (sendE s kx ky kz m))):=by
 have HUP:=hh h.up;have L:=hh (RLiv.start h);have HZ:=hh hz;have HF:=hh hf;have HU:=hh hu;obtain ⟨s1,hs1⟩:=nm (s.moveA kx ky m);obtain ⟨e1,he1⟩:=nm (moveE (getP s.t) kx ky m);obtain ⟨s2,hs2⟩:=nm (s1.addA kz m);obtain ⟨e2,he2⟩:=nm (addE (getP s1.t) kz m);obtain ⟨np,hnp⟩:=nm (s.past.length);have HE:Hid (sendE s kx ky kz m=if e1≠0 then e1 else e2):=hh (by unfold sendE;rw [← he1,← hs1,← he2]);have HS:Hid (s.send kx ky kz m=if sendE s kx ky kz m=0 then s2 else s):=hh (by unfold PS.send;rw [← hs1,← hs2]);have HUN:Hid (s1.undo np=s∧s2.undo np=s):=hh (by rw [hnp,hs2,hs1];exact j0G h.up kx ky kz m);have HF1:Hid (Fit s1∧s1.sz≤s.sz+4∧s2.sz≤s.sz+6):=hh (by
  have a1:=h0w s kx ky m;have a2:=c0N s1 kz m;rw [← hs1] at a1;rw [← hs2] at a2
  exact ⟨by rw [hs1];exact hf.moveA _ _ _,by omega,by omega⟩)
 have HS1:=hh hs1;have HE1:=hh he1;have HS2:=hh hs2;have HE2:=hh he2;have HNP:=hh hnp;clear h hz hf hu hs1 he1 hs2 he2 hnp
 go_enter Tryz.func116,Tryz.ntmps116
 go_upto_region 1 with fail
 obtain ⟨w1,hw1⟩:=nm (w.alloc (.cells #[.int .u64 a,.int .u64 b,.int .u64 c,.int .u64 d] 25));obtain ⟨X,hX⟩:=nm (w.heap.size);rw [← hw1,← hX];have HX:Hid (w1.heap[X]? = some (.cells #[.int .u64 a,.int .u64 b,.int .u64 c,.int .u64 d] 25 (0,0))):=hh (by rw [hw1,hX];exact heap_alloc_new _ _);have hb:Below w.heap.size w w1:=by rw [hw1];exact a0d _ _
 clear hw1 hX;replace L:=hh (L.out.later hb);clear hb;obtain ⟨F9,h9⟩:∃ F9,RS w1 g s F9:=by obtain ⟨F9,h9,_⟩:=L.out;exact ⟨F9,h9⟩
 obtain ⟨vL,vP,h8,_⟩:=h9;obtain ⟨ad,cap,hvp,_,_⟩:=h8.past.shape;rw [← HNP.out] at hvp;subst hvp;have c9:w1.cell? ⟨g,1,none⟩=some (.slice ad np cap):=Lib.cell_of_heap h8.head 1;clear h8
 go_wp2_with (refine lR HX Tryz.underlying25 Tryz.sizeU ?_)
 clear c9;refine (L.out.call fun F hs=>j0Y hs (by have:=HZ.out;omega) HF.out kx ky HU.out).mono ?_;rw [← HE1.out,← HS1.out];rintro e a1 ⟨rfl,o,hoth⟩;replace L:=hh o;replace HX:=oA hoth HX;clear o hoth
 by_cases hz1:e1=0
 ·have hne:(e1 != 0)=false:=by simpa using hz1
  have HEV:Hid (sendE s kx ky kz m=e2):=hh (by rw [HE.out,if_neg (fun e=>e hz1)]);subst hz1;clear HE
  go_wp2_with (refine lR HX Tryz.underlying25 Tryz.sizeU ?_)
  clear hne;refine (L.out.call fun F hs=>e0C hs (by have:=HZ.out;have:=HF1.out.2.1;omega) HF1.out.1 kz HU.out).mono ?_;rw [← HE2.out,← HS2.out];rintro e a2 ⟨rfl,o,hoth⟩;replace L:=hh o;clear o hoth
  by_cases hz2:e2=0
  ·have hne:(e2 != 0)=false:=by simpa using hz2
   have HEW:Hid (sendE s kx ky kz m=0):=hh (by rw [HEV.out,hz2]);have HSW:Hid (s.send kx ky kz m=s2):=hh (by rw [HS.out,HEW.out,if_pos rfl]);subst hz2;go_wp2_with fail
   go_ret
   rw [HEW.out,HSW.out];exact L.out.ret
  ·have hne:(e2 != 0)=true:=by simpa using hz2
   have hne':(e2 == 0)=false:=by simpa using hz2
   have HSW:Hid (s.send kx ky kz m=s2.undo np):=hh (by rw [HS.out,HEV.out,if_neg hz2,HUN.out.2]);clear hz2;go_wp2_with fail;refine (L.out.call fun F hs=>f0W hs (by have:=HZ.out;have h7:=HF1.out.2.2;unfold PS.sz at h7 this;omega) (np:Int)).mono ?_;rintro e a3 ⟨rfl,o,hoth⟩;replace L:=hh o;clear o hoth;go_wp2_with fail
   go_ret
   rw [HEV.out,HSW.out];exact L.out.ret
 ·have hne:(e1 != 0)=true:=by simpa using hz1
  have hne':(e1 == 0)=false:=by simpa using hz1
  have HEV:Hid (sendE s kx ky kz m=e1):=hh (by rw [HE.out,if_pos hz1]);have HSV:Hid (s.send kx ky kz m=s1.undo np):=hh (by rw [HS.out,HEV.out,if_neg hz1,HUN.out.1]);clear hz1;go_wp2_with fail;refine (L.out.call fun F hs=>f0W hs (by have:=HZ.out;have h7:=HF1.out.2.1;unfold PS.sz at h7 this;omega) (np:Int)).mono ?_;rintro e a2 ⟨rfl,o,hoth⟩;replace L:=hh o;clear o hoth;go_wp2_with fail
  go_ret
  rw [HEV.out,HSV.out];exact L.out.ret

theorem p0R (a b c:Txt):(#[Value.string (bs a),.string (bs b),.string (bs c)].all (·.oneCell'))=true:=by simp [Value.oneCell']
theorem Tryz.zeroWay (w:World):(zeroValue 189).run Tryz.prog w = .ok (.agg #[.string (bs []),.string (bs []),.string (bs [])]) w:=by kernel_rfl
theorem Tryz.sizeWay:(Tryz.prog.info? 189).map (·.size)=some 3:=by kernel_rfl

theorem j0Z {w:World} {g:Nat} {s:PS} {F:List Nat} (h:St w g s F) (hz:s.sz < 1000000) (hf:Fit s) {v t:Int} (h1:I64 v) (h2:I64 t) {a b c d:Int} {m:Nat} (hu:UIs a b c d m) :
  Calls Tryz.prog 47 #[.pointer (some ⟨g,0,none⟩),.int .i64 v,.int .i64 t,.agg #[.int .u64 a,.int .u64 b,.int .u64 c,.int .u64 d]] w (StRet w g F (s.psub v t m) (.int .i64 (psubE s v t m))):=by
 have L:=hh (Liv.start h);have HZ:=hh hz;have HF:=hh hf;have HA1:=hh h1;have HA2:=hh h2;have HU:=hh hu;obtain ⟨gq,hgq⟩:=nm (goodP t 1 m);have HG:=hh hgq;clear h hz hf h1 h2 hu hgq
 go_enter Tryz.func47,Tryz.ntmps47
 go_upto_region 1 with fail
 obtain ⟨w1,hw1⟩:=nm (w.alloc (.cells #[.int .u64 a,.int .u64 b,.int .u64 c,.int .u64 d] 25));obtain ⟨X,hX⟩:=nm (w.heap.size);rw [← hw1,← hX];have HX:Hid (w1.heap[X]? = some (.cells #[.int .u64 a,.int .u64 b,.int .u64 c,.int .u64 d] 25 (0,0))):=hh (by rw [hw1,hX];exact heap_alloc_new _ _);have hb:Below w.heap.size w w1:=by rw [hw1];exact a0d _ _
 clear hw1 hX;replace L:=hh (L.out.later hb);clear hb;go_wp2_with fail;obtain ⟨F9,h9⟩:∃ F9,St w1 g s F9:=by obtain ⟨F9,h9,_⟩:=L.out;exact ⟨F9,h9⟩
 refine (c0E h9).mono ?_;rintro e _ ⟨rfl,rfl⟩;clear h9;obtain ⟨iq,hiq⟩:=nm (isK (getP s.t) 21 v);have HI:=hh hiq;clear hiq;go_wp2_with fail;obtain ⟨F9,h9⟩:∃ F9,St w1 g s F9:=by obtain ⟨F9,h9,_⟩:=L.out;exact ⟨F9,h9⟩
 refine (p0x (Look.of_st h9) HF.out.f HA1.out).mono ?_;rw [← HI.out];rintro e a1 ⟨rfl,hb⟩;clear h9;replace L:=hh (L.out.later hb);replace HX:=bA hb HX;clear hb
 cases iq with
 | false=>
  have HIK:Hid (isK (getP s.t) 21 v=false):=hh HI.out.symm;have HEV:Hid (psubE s v t m=8):=hh (by unfold psubE;rw [if_pos HIK.out]);have HSV:Hid (s.psub v t m=s):=hh (by unfold PS.psub;rw [if_pos HIK.out]);go_wp2_with fail
  go_ret
  rw [HEV.out,HSV.out];exact L.out.ret
 | true=>
  have HIK:Hid (isK (getP s.t) 21 v=true):=hh HI.out.symm
  go_wp2_with (refine lR HX Tryz.underlying25 Tryz.sizeU ?_)
  refine (i0u (t:=t) (n:=1) HU.out _).mono ?_;rw [← HG.out];rintro e a2 ⟨rfl,hb⟩;replace L:=hh (L.out.later hb);replace HX:=bA hb HX;clear hb
  cases gq with
  | false=>
   have HGF:Hid (goodP t 1 m=false):=hh HG.out.symm;have HEV:Hid (psubE s v t m=2):=hh (by unfold psubE;rw [if_neg (by rw [HIK.out];decide),if_pos HGF.out]);have HSV:Hid (s.psub v t m=s):=hh (by unfold PS.psub;rw [if_neg (by rw [HIK.out];decide),if_pos HGF.out]);go_wp2_with fail
   go_ret
   rw [HEV.out,HSV.out];exact L.out.ret
  | true=>
   have HGT:Hid (goodP t 1 m=true):=hh HG.out.symm;have HEV:Hid (psubE s v t m=sendE s (kAcc t v) (kPool t) (keyF 34 [t]) m):=hh (by unfold psubE;rw [if_neg (by rw [HIK.out];decide),if_neg (by rw [HGT.out];decide)]);have HSV:Hid (s.psub v t m=s.send (kAcc t v) (kPool t) (keyF 34 [t]) m):=hh (by unfold PS.psub;rw [if_neg (by rw [HIK.out];decide),if_neg (by rw [HGT.out];decide)]);go_wp2_with fail;obtain ⟨a3,hwz,hbz⟩:=dr a2;replace L:=hh (L.out.later hbz);replace HX:=bA hbz HX;clear hbz;refine rg1 15 15 hwz HX fun hS=>?_
   clear hwz;refine tA1 0 24 hS ?_;go_frame;refine tA1 1 25 hS ?_;go_frame;refine tA1 2 26 hS ?_;go_frame;refine tA1 4 28 hS ?_;go_frame;refine tA1 6 30 hS ?_;go_frame;refine tA1 11 35 hS ?_;go_frame;refine tl 12 (some 36) (fun _ h=>h) Tryz.underlying25 Tryz.sizeU hS ?_;go_frame;refine a0B 3 7 rfl rfl (by kernel_rfl) (fun K hK=>?_) (fun K hK=>?_)
   ·simp only [gA,jB,gC];rw [if_pos (by rfl)];go_simp;refine (e0Z HA2.out HA1.out _).mono ?_;rintro e a4 ⟨rfl,hb⟩;replace L:=hh (L.out.later hb);replace HX:=bA hb HX;clear hb;replace hS:=HX.out;refine hK _ _ (fun _ _=>hS) ?_;clear hK;refine a0B 5 7 rfl rfl (by kernel_rfl) (fun K hK=>?_) (fun K hK=>?_)
    ·simp only [gA,jB,gC];rw [if_pos (by rfl)];go_simp;refine (d0Q HA2.out _).mono ?_;rintro e a5 ⟨rfl,hb⟩;replace L:=hh (L.out.later hb);replace HX:=bA hb HX;clear hb;replace hS:=HX.out;refine hK _ _ (fun _ _=>hS) ?_;clear hK;refine t1 7 fun K hK=>?_
     simp only [gA,jB,gC];go_simp;obtain ⟨a6,hwl⟩:=nm (World.alloc a5 (.cells #[.int .i64 t] 3));obtain ⟨gl,hgl⟩:=nm ((World.heap a5).size);rw [← hwl,← hgl];have HOI:Hid (Own a6 0 3 intE 1 (.slice (some ⟨gl,0,none⟩) 1 1) [t]):=hh (a0H (l:=[t]) (by rw [hwl,hgl];exact heap_alloc_new _ _) (Nat.zero_le _) (by unfold maxLen;simp));have hb:Below (World.heap a5).size a5 a6:=by rw [hwl];exact a0d _ _
     clear hwl hgl;replace L:=hh (L.out.later hb);replace HX:=bA hb HX;clear hb;replace hS:=HX.out;refine hK _ _ (fun _ _=>hS) ?_;clear hK;refine t1 8 fun K hK=>?_
     simp only [gA,jB,gC];go_simp;refine (a0X 34 [t] _ _ (by simp) (I64s.one HA2.out) (HOI.out.rd fun _=>rfl)).mono ?_;rintro e a7 ⟨rfl,hb⟩;replace L:=hh (L.out.later hb);replace HX:=bA hb HX;clear hb;clear HOI;replace hS:=HX.out;refine hK _ _ (fun _ _=>hS) ?_;clear hK;refine tA1 9 33 hS ?_;go_frame;refine t1 10 fun K hK=>?_
     simp only [gA,jB,gC];go_simp;obtain ⟨a8,hwl⟩:=nm (World.alloc a7 (.cells #[.string (bs (keyF 1 [t,v])),.string (bs (keyF 4 [t])),.string (bs (keyF 34 [t]))] 189));obtain ⟨W,hgl⟩:=nm ((World.heap a7).size);rw [← hwl,← hgl];have HW:Hid ((World.heap a8)[W]? = some (.cells #[.string (bs (keyF 1 [t,v])),.string (bs (keyF 4 [t])),.string (bs (keyF 34 [t]))] 189 (0,0))):=hh (by rw [hwl,hgl];exact heap_alloc_new _ _);have hb:Below (World.heap a7).size a7 a8:=by rw [hwl];exact a0d _ _
     clear hwl hgl;replace L:=hh (L.out.later hb);replace HX:=bA hb HX;clear hb;replace hS:=HX.out;refine hK _ _ (fun _ _=>hS) ?_;clear hK;refine t1 13 fun K hK=>?_
     simp only [gA,jB,gC];go_simp;refine (L.out.call fun F hs=>f0b hs (by have:=HZ.out;omega) HF.out (kAcc t v) (kPool t) (keyF 34 [t]) HW.out HU.out).mono ?_;rintro e a9 ⟨rfl,o,hoth⟩;replace L:=hh o;replace HX:=oA hoth HX;clear o hoth;replace hS:=HX.out;refine hK _ _ (fun _ _=>hS) ?_;clear hK;refine tA1 14 8 hS ?_;go_frame;refine tD ?_;clear hS;go_wp2_with fail
     go_ret
     rw [HEV.out,HSV.out];exact L.out.ret
    ·simp only [gA,jB,gC];rw [if_pos (by rfl)];go_simp;obtain ⟨a5,hwl⟩:=nm (World.alloc a4 (.cells #[.int .i64 t] 3));obtain ⟨gl,hgl⟩:=nm ((World.heap a4).size);rw [← hwl,← hgl];have HOI:Hid (Own a5 0 3 intE 1 (.slice (some ⟨gl,0,none⟩) 1 1) [t]):=hh (a0H (l:=[t]) (by rw [hwl,hgl];exact heap_alloc_new _ _) (Nat.zero_le _) (by unfold maxLen;simp));have hb:Below (World.heap a4).size a4 a5:=by rw [hwl];exact a0d _ _
     clear hwl hgl;replace L:=hh (L.out.later hb);replace HX:=bA hb HX;clear hb;replace hS:=HX.out;refine hK _ _ (fun _ _=>hS) ?_;clear hK;refine t1 5 fun K hK=>?_
     simp only [gA,jB,gC];go_simp;refine (d0Q HA2.out _).mono ?_;rintro e a6 ⟨rfl,hb⟩;replace L:=hh (L.out.later hb);replace HX:=bA hb HX;replace HOI:=hh (HOI.out.later hb);clear hb;replace hS:=HX.out;refine hK _ _ (fun _ _=>hS) ?_;clear hK;refine t1 8 fun K hK=>?_
     simp only [gA,jB,gC];go_simp;refine (a0X 34 [t] _ _ (by simp) (I64s.one HA2.out) (HOI.out.rd fun _=>rfl)).mono ?_;rintro e a7 ⟨rfl,hb⟩;replace L:=hh (L.out.later hb);replace HX:=bA hb HX;clear hb;clear HOI;replace hS:=HX.out;refine hK _ _ (fun _ _=>hS) ?_;clear hK;refine tA1 9 33 hS ?_;go_frame;refine t1 10 fun K hK=>?_
     simp only [gA,jB,gC];go_simp;obtain ⟨a8,hwl⟩:=nm (World.alloc a7 (.cells #[.string (bs (keyF 1 [t,v])),.string (bs (keyF 4 [t])),.string (bs (keyF 34 [t]))] 189));obtain ⟨W,hgl⟩:=nm ((World.heap a7).size);rw [← hwl,← hgl];have HW:Hid ((World.heap a8)[W]? = some (.cells #[.string (bs (keyF 1 [t,v])),.string (bs (keyF 4 [t])),.string (bs (keyF 34 [t]))] 189 (0,0))):=hh (by rw [hwl,hgl];exact heap_alloc_new _ _);have hb:Below (World.heap a7).size a7 a8:=by rw [hwl];exact a0d _ _
     clear hwl hgl;replace L:=hh (L.out.later hb);replace HX:=bA hb HX;clear hb;replace hS:=HX.out;refine hK _ _ (fun _ _=>hS) ?_;clear hK;refine t1 13 fun K hK=>?_
     simp only [gA,jB,gC];go_simp;refine (L.out.call fun F hs=>f0b hs (by have:=HZ.out;omega) HF.out (kAcc t v) (kPool t) (keyF 34 [t]) HW.out HU.out).mono ?_;rintro e a9 ⟨rfl,o,hoth⟩;replace L:=hh o;replace HX:=oA hoth HX;clear o hoth;replace hS:=HX.out;refine hK _ _ (fun _ _=>hS) ?_;clear hK;refine tA1 14 8 hS ?_;go_frame;refine tD ?_;clear hS;go_wp2_with fail
     go_ret
     rw [HEV.out,HSV.out];exact L.out.ret
   ·simp only [gA,jB,gC];rw [if_pos (by rfl)];go_simp;obtain ⟨a4,hwl⟩:=nm (World.alloc a3 (.cells #[.int .i64 t] 3));obtain ⟨gl,hgl⟩:=nm ((World.heap a3).size);rw [← hwl,← hgl];have HOI:Hid (Own a4 0 3 intE 1 (.slice (some ⟨gl,0,none⟩) 1 1) [t]):=hh (a0H (l:=[t]) (by rw [hwl,hgl];exact heap_alloc_new _ _) (Nat.zero_le _) (by unfold maxLen;simp));have hb:Below (World.heap a3).size a3 a4:=by rw [hwl];exact a0d _ _
    clear hwl hgl;replace L:=hh (L.out.later hb);replace HX:=bA hb HX;clear hb;replace hS:=HX.out;refine hK _ _ (fun _ _=>hS) ?_;clear hK;refine t1 3 fun K hK=>?_
    simp only [gA,jB,gC];go_simp;refine (e0Z HA2.out HA1.out _).mono ?_;rintro e a5 ⟨rfl,hb⟩;replace L:=hh (L.out.later hb);replace HX:=bA hb HX;replace HOI:=hh (HOI.out.later hb);clear hb;replace hS:=HX.out;refine hK _ _ (fun _ _=>hS) ?_;clear hK;refine t1 5 fun K hK=>?_
    simp only [gA,jB,gC];go_simp;refine (d0Q HA2.out _).mono ?_;rintro e a6 ⟨rfl,hb⟩;replace L:=hh (L.out.later hb);replace HX:=bA hb HX;replace HOI:=hh (HOI.out.later hb);clear hb;replace hS:=HX.out;refine hK _ _ (fun _ _=>hS) ?_;clear hK;refine t1 8 fun K hK=>?_
    simp only [gA,jB,gC];go_simp;refine (a0X 34 [t] _ _ (by simp) (I64s.one HA2.out) (HOI.out.rd fun _=>rfl)).mono ?_;rintro e a7 ⟨rfl,hb⟩;replace L:=hh (L.out.later hb);replace HX:=bA hb HX;clear hb;clear HOI;replace hS:=HX.out;refine hK _ _ (fun _ _=>hS) ?_;clear hK;refine tA1 9 33 hS ?_;go_frame;refine t1 10 fun K hK=>?_
    simp only [gA,jB,gC];go_simp;obtain ⟨a8,hwl⟩:=nm (World.alloc a7 (.cells #[.string (bs (keyF 1 [t,v])),.string (bs (keyF 4 [t])),.string (bs (keyF 34 [t]))] 189));obtain ⟨W,hgl⟩:=nm ((World.heap a7).size);rw [← hwl,← hgl];have HW:Hid ((World.heap a8)[W]? = some (.cells #[.string (bs (keyF 1 [t,v])),.string (bs (keyF 4 [t])),.string (bs (keyF 34 [t]))] 189 (0,0))):=hh (by rw [hwl,hgl];exact heap_alloc_new _ _);have hb:Below (World.heap a7).size a7 a8:=by rw [hwl];exact a0d _ _
    clear hwl hgl;replace L:=hh (L.out.later hb);replace HX:=bA hb HX;clear hb;replace hS:=HX.out;refine hK _ _ (fun _ _=>hS) ?_;clear hK;refine t1 13 fun K hK=>?_
    simp only [gA,jB,gC];go_simp;refine (L.out.call fun F hs=>f0b hs (by have:=HZ.out;omega) HF.out (kAcc t v) (kPool t) (keyF 34 [t]) HW.out HU.out).mono ?_;rintro e a9 ⟨rfl,o,hoth⟩;replace L:=hh o;replace HX:=oA hoth HX;clear o hoth;replace hS:=HX.out;refine hK _ _ (fun _ _=>hS) ?_;clear hK;refine tA1 14 8 hS ?_;go_frame;refine tD ?_;clear hS;go_wp2_with fail
    go_ret
    rw [HEV.out,HSV.out];exact L.out.ret

theorem q0P {w:World} {g:Nat} {s:PS} {F:List Nat} (h:St w g s F) (hz:s.sz < 1000000) (hf:Fit s) {t n:Int} (h1:I64 t) (h2:I64 n) {a b c d:Int} {m:Nat} (hu:UIs a b c d m) :
  Calls Tryz.prog 87 #[.pointer (some ⟨g,0,none⟩),.int .i64 t,.int .i64 n,.agg #[.int .u64 a,.int .u64 b,.int .u64 c,.int .u64 d]] w (StRet w g F (s.py t n m) (.int .i64 (pyE s t n m))):=by
 have L:=hh (Liv.start h);have HZ:=hh hz;have HF:=hh hf;have HA1:=hh h1;have HA2:=hh h2;have HU:=hh hu;obtain ⟨gq,hgq⟩:=nm (goodP t n m);have HG:=hh hgq;clear h hz hf h1 h2 hu hgq
 go_enter Tryz.func87,Tryz.ntmps87
 go_upto_region 1 with fail
 obtain ⟨w1,hw1⟩:=nm (w.alloc (.cells #[.int .u64 a,.int .u64 b,.int .u64 c,.int .u64 d] 25));obtain ⟨X,hX⟩:=nm (w.heap.size);rw [← hw1,← hX];have HX:Hid (w1.heap[X]? = some (.cells #[.int .u64 a,.int .u64 b,.int .u64 c,.int .u64 d] 25 (0,0))):=hh (by rw [hw1,hX];exact heap_alloc_new _ _);have hb:Below w.heap.size w w1:=by rw [hw1];exact a0d _ _
 clear hw1 hX;replace L:=hh (L.out.later hb);clear hb;go_wp2_with fail;obtain ⟨F9,h9⟩:∃ F9,St w1 g s F9:=by obtain ⟨F9,h9,_⟩:=L.out;exact ⟨F9,h9⟩
 refine (c0E h9).mono ?_;rintro e _ ⟨rfl,rfl⟩;clear h9
 go_wp2_with (refine lR HX Tryz.underlying25 Tryz.sizeU ?_)
 refine (i0u (t:=t) (n:=n) HU.out _).mono ?_;rw [← HG.out];rintro e a1 ⟨rfl,hb⟩;replace L:=hh (L.out.later hb);replace HX:=bA hb HX;clear hb
 cases gq with
 | false=>
  have HGF:Hid (goodP t n m=false):=hh HG.out.symm;have HEV:Hid (pyE s t n m=2):=hh (by unfold pyE;rw [if_pos HGF.out]);have HSV:Hid (s.py t n m=s):=hh (by unfold PS.py;rw [if_pos HGF.out]);go_wp2_with fail
  go_ret
  rw [HEV.out,HSV.out];exact L.out.ret
 | true=>
  have HGT:Hid (goodP t n m=true):=hh HG.out.symm;have HEV:Hid (pyE s t n m=sendE s (kPool t) (kAcc t n) (keyF 35 [t]) m):=hh (by unfold pyE;rw [if_neg (by rw [HGT.out];decide)]);have HSV:Hid (s.py t n m=s.send (kPool t) (kAcc t n) (keyF 35 [t]) m):=hh (by unfold PS.py;rw [if_neg (by rw [HGT.out];decide)]);go_wp2_with fail;refine (d0Q HA1.out _).mono ?_;rintro e a2 ⟨rfl,hb⟩;replace L:=hh (L.out.later hb);replace HX:=bA hb HX;clear hb;go_wp2_with fail;refine (e0Z HA1.out HA2.out _).mono ?_;rintro e a3 ⟨rfl,hb⟩;replace L:=hh (L.out.later hb);replace HX:=bA hb HX;clear hb;go_wp2_with fail;obtain ⟨a4,hwl⟩:=nm (World.alloc a3 (.cells #[.int .i64 t] 3));obtain ⟨gl,hgl⟩:=nm ((World.heap a3).size);rw [← hwl,← hgl];have HOI:Hid (Own a4 0 3 intE 1 (.slice (some ⟨gl,0,none⟩) 1 1) [t]):=hh (a0H (l:=[t]) (by rw [hwl,hgl];exact heap_alloc_new _ _) (Nat.zero_le _) (by unfold maxLen;simp));have hb:Below (World.heap a3).size a3 a4:=by rw [hwl];exact a0d _ _
  clear hwl hgl;replace L:=hh (L.out.later hb);replace HX:=bA hb HX;clear hb;refine (a0X 35 [t] _ _ (by simp) (I64s.one HA1.out) (HOI.out.rd fun _=>rfl)).mono ?_;rintro e a5 ⟨rfl,hb⟩;replace L:=hh (L.out.later hb);replace HX:=bA hb HX;clear hb;clear HOI
  go_wp2_with (refine sA _ Tryz.zeroWay ?_)
  intro W a6 hW
  go_wp2_with (refine a0a (t:=189) (old:=#[.string (bs []),.string (bs []),.string (bs [])]) rfl 189 _ _ rfl W #[.string (bs (keyF 4 [t])),.string (bs (keyF 1 [t,n])),.string (bs (keyF 35 [t]))] rfl rfl hW.out.cells Tryz.sizeWay rfl (p0R _ _ _) ?_)
  intro a7 hxW kW zW;clear zW;have hbW:Below a5.heap.size a5 a7:=hW.out.below.trans (kW.below (B:=a5.heap.size) (fun x hx e=>by have:=hW.out.eq;omega) hW.out.below.size);have WW:=mGe hW L.out.keep.size;have NXW:=mNe hW HX;have HW:=hh hxW;clear hW hxW kW;replace L:=hh (L.out.later hbW);replace HX:=bA hbW HX;clear hbW
  go_wp2_with (refine lR HX Tryz.underlying25 Tryz.sizeU ?_)
  refine (L.out.call fun F hs=>f0b hs (by have:=HZ.out;omega) HF.out (kPool t) (kAcc t n) (keyF 35 [t]) HW.out HU.out).mono ?_;rintro e a8 ⟨rfl,o,hoth⟩;replace L:=hh o;clear o hoth;go_wp2_with fail
  go_ret
  rw [HEV.out,HSV.out];exact L.out.ret

theorem j0n {w:World} {g:Nat} {s:PS} {F:List Nat} (h:RS w g s F) (hz:s.sz < 1000000) (hf:Fit s) {v t:Int} (h1:I64 v) (h2:I64 t) {a b c d:Int} {m:Nat} (hu:UIs a b c d m) :
  Calls Tryz.prog 48 #[.pointer (some ⟨g,0,none⟩),.int .i64 v,.int .i64 t,.agg #[.int .u64 a,.int .u64 b,.int .u64 c,.int .u64 d]] w (RRet w g F (s.psub v t m) (.int .i64 (psubE s v t m))):=by
 have L:=hh (RLiv.start h);have HZ:=hh hz;have HF:=hh hf;have HA1:=hh h1;have HA2:=hh h2;have HU:=hh hu;obtain ⟨gq,hgq⟩:=nm (goodP t 1 m);have HG:=hh hgq;clear h hz hf h1 h2 hu hgq
 go_enter Tryz.func48,Tryz.ntmps48
 go_upto_region 1 with fail
 obtain ⟨w1,hw1⟩:=nm (w.alloc (.cells #[.int .u64 a,.int .u64 b,.int .u64 c,.int .u64 d] 25));obtain ⟨X,hX⟩:=nm (w.heap.size);rw [← hw1,← hX];have HX:Hid (w1.heap[X]? = some (.cells #[.int .u64 a,.int .u64 b,.int .u64 c,.int .u64 d] 25 (0,0))):=hh (by rw [hw1,hX];exact heap_alloc_new _ _);have hb:Below w.heap.size w w1:=by rw [hw1];exact a0d _ _
 clear hw1 hX;replace L:=hh (L.out.later hb);clear hb;obtain ⟨iq,hiq⟩:=nm (isK (getP s.t) 21 v);have HI:=hh hiq;clear hiq;go_wp2_with fail;obtain ⟨F9,h9⟩:∃ F9,RS w1 g s F9:=by obtain ⟨F9,h9,_⟩:=L.out;exact ⟨F9,h9⟩
 refine (i0A h9 (by have:=HZ.out;omega) HF.out HA1.out).mono ?_;rw [← HI.out];rintro e a1 ⟨rfl,hb⟩;clear h9;replace L:=hh (L.out.later hb);replace HX:=bA hb HX;clear hb
 cases iq with
 | false=>
  have HIK:Hid (isK (getP s.t) 21 v=false):=hh HI.out.symm;have HEV:Hid (psubE s v t m=8):=hh (by unfold psubE;rw [if_pos HIK.out]);have HSV:Hid (s.psub v t m=s):=hh (by unfold PS.psub;rw [if_pos HIK.out]);go_wp2_with fail
  go_ret
  rw [HEV.out,HSV.out];exact L.out.ret
 | true=>
  have HIK:Hid (isK (getP s.t) 21 v=true):=hh HI.out.symm;go_wp2_with fail;obtain ⟨bq,hbq⟩:=nm (goodB t 1);obtain ⟨zq,hzq⟩:=nm (decide (m=0));obtain ⟨mq,hmq⟩:=nm (decide (m < uHalf));have HP:Hid (goodP t 1 m=(bq && (!zq) && mq)):=hh (by unfold goodP;rw [← hbq,← hzq,← hmq]);have HBQ:=hh hbq;have HZQ:=hh hzq;have HMQ:=hh hmq;clear hbq hzq hmq HG;refine (i0M t 1 _).mono ?_;rw [← HBQ.out];rintro e _ ⟨rfl,rfl⟩
  cases bq with
  | false=>
   have HGF:Hid (goodP t 1 m=false):=hh (by rw [HP.out];rfl);have HEV:Hid (psubE s v t m=2):=hh (by unfold psubE;rw [if_neg (by rw [HIK.out];decide),if_pos HGF.out]);have HSV:Hid (s.psub v t m=s):=hh (by unfold PS.psub;rw [if_neg (by rw [HIK.out];decide),if_pos HGF.out]);go_wp2_with fail
   go_ret
   rw [HEV.out,HSV.out];exact L.out.ret
  | true=>
   have e7:=Tryz.eqUn HU.out UIs.zero;rw [← HZQ.out] at e7;have cX0:a1.cell? ⟨X,0,none⟩=some (.int .u64 a):=Lib.cell_of_heap HX.out 0;have cX1:a1.cell? ⟨X,1,none⟩=some (.int .u64 b):=Lib.cell_of_heap HX.out 1;have cX2:a1.cell? ⟨X,2,none⟩=some (.int .u64 c):=Lib.cell_of_heap HX.out 2;have cX3:a1.cell? ⟨X,3,none⟩=some (.int .u64 d):=Lib.cell_of_heap HX.out 3
   cases zq with
   | true=>
    have HGF:Hid (goodP t 1 m=false):=hh (by rw [HP.out];rfl);have HEV:Hid (psubE s v t m=2):=hh (by unfold psubE;rw [if_neg (by rw [HIK.out];decide),if_pos HGF.out]);have HSV:Hid (s.psub v t m=s):=hh (by unfold PS.psub;rw [if_neg (by rw [HIK.out];decide),if_pos HGF.out]);go_wp2_with fail
    go_ret
    rw [HEV.out,HSV.out];exact L.out.ret
   | false=>
    go_wp2_with fail;clear e7;clear cX0 cX1 cX2 cX3;refine (b0V HU.out _).mono ?_;rw [← HMQ.out];rintro e a2 ⟨rfl,hb⟩;replace L:=hh (L.out.later hb);replace HX:=bA hb HX;clear hb
    cases mq with
    | false=>
     have HGF:Hid (goodP t 1 m=false):=hh (by rw [HP.out];rfl);have HEV:Hid (psubE s v t m=2):=hh (by unfold psubE;rw [if_neg (by rw [HIK.out];decide),if_pos HGF.out]);have HSV:Hid (s.psub v t m=s):=hh (by unfold PS.psub;rw [if_neg (by rw [HIK.out];decide),if_pos HGF.out]);go_wp2_with fail
     go_ret
     rw [HEV.out,HSV.out];exact L.out.ret
    | true=>
     have HGT:Hid (goodP t 1 m=true):=hh (by rw [HP.out];rfl);have HEV:Hid (psubE s v t m=sendE s (kAcc t v) (kPool t) (keyF 34 [t]) m):=hh (by unfold psubE;rw [if_neg (by rw [HIK.out];decide),if_neg (by rw [HGT.out];decide)]);have HSV:Hid (s.psub v t m=s.send (kAcc t v) (kPool t) (keyF 34 [t]) m):=hh (by unfold PS.psub;rw [if_neg (by rw [HIK.out];decide),if_neg (by rw [HGT.out];decide)]);go_wp2_with fail;obtain ⟨a3,hwz,hbz⟩:=dr a2;replace L:=hh (L.out.later hbz);replace HX:=bA hbz HX;clear hbz;refine rg1 12 12 hwz HX fun hS=>?_
     clear hwz;refine tA1 0 28 hS ?_;go_frame;refine tA1 1 29 hS ?_;go_frame;refine tA1 2 30 hS ?_;go_frame;refine tA1 4 32 hS ?_;go_frame;refine tA1 6 34 hS ?_;go_frame;refine tl 9 (some 37) (fun _ h=>h) Tryz.underlying25 Tryz.sizeU hS ?_;go_frame;refine a0B 3 7 rfl rfl (by kernel_rfl) (fun K hK=>?_) (fun K hK=>?_)
     ·simp only [gA,jB,gC];rw [if_pos (by rfl)];go_simp;refine (f0F HA2.out HA1.out _).mono ?_;rintro e a4 ⟨rfl,hb⟩;replace L:=hh (L.out.later hb);replace HX:=bA hb HX;clear hb;replace hS:=HX.out;refine hK _ _ (fun _ _=>hS) ?_;clear hK;refine a0B 5 7 rfl rfl (by kernel_rfl) (fun K hK=>?_) (fun K hK=>?_)
      ·simp only [gA,jB,gC];rw [if_pos (by rfl)];go_simp;refine (e0x HA2.out _).mono ?_;rintro e a5 ⟨rfl,hb⟩;replace L:=hh (L.out.later hb);replace HX:=bA hb HX;clear hb;replace hS:=HX.out;refine hK _ _ (fun _ _=>hS) ?_;clear hK;refine t1 7 fun K hK=>?_
       simp only [gA,jB,gC];go_simp;obtain ⟨a6,hwl⟩:=nm (World.alloc a5 (.cells #[.int .i64 t] 3));obtain ⟨gl,hgl⟩:=nm ((World.heap a5).size);rw [← hwl,← hgl];have HOI:Hid (Own a6 0 3 intE 1 (.slice (some ⟨gl,0,none⟩) 1 1) [t]):=hh (a0H (l:=[t]) (by rw [hwl,hgl];exact heap_alloc_new _ _) (Nat.zero_le _) (by unfold maxLen;simp));have hb:Below (World.heap a5).size a5 a6:=by rw [hwl];exact a0d _ _
       clear hwl hgl;replace L:=hh (L.out.later hb);replace HX:=bA hb HX;clear hb;replace hS:=HX.out;refine hK _ _ (fun _ _=>hS) ?_;clear hK;refine t1 8 fun K hK=>?_
       simp only [gA,jB,gC];go_simp;refine (a0I 34 [t] _ _ (by simp) (I64s.one HA2.out) (HOI.out.rd fun _=>rfl)).mono ?_;rintro e a7 ⟨rfl,hb⟩;replace L:=hh (L.out.later hb);replace HX:=bA hb HX;clear hb;clear HOI;replace hS:=HX.out;refine hK _ _ (fun _ _=>hS) ?_;clear hK;refine t1 10 fun K hK=>?_
       simp only [gA,jB,gC];go_simp;refine (L.out.call fun F hs=>h0Y hs (by have:=HZ.out;omega) HF.out (kAcc t v) (kPool t) (keyF 34 [t]) HU.out).mono ?_;rintro e a8 ⟨rfl,o,hoth⟩;replace L:=hh o;replace HX:=oA hoth HX;clear o hoth;replace hS:=HX.out;refine hK _ _ (fun _ _=>hS) ?_;clear hK;refine tA1 11 8 hS ?_;go_frame;refine tD ?_;clear hS;go_wp2_with fail
       go_ret
       rw [HEV.out,HSV.out];exact L.out.ret
      ·simp only [gA,jB,gC];rw [if_pos (by rfl)];go_simp;obtain ⟨a5,hwl⟩:=nm (World.alloc a4 (.cells #[.int .i64 t] 3));obtain ⟨gl,hgl⟩:=nm ((World.heap a4).size);rw [← hwl,← hgl];have HOI:Hid (Own a5 0 3 intE 1 (.slice (some ⟨gl,0,none⟩) 1 1) [t]):=hh (a0H (l:=[t]) (by rw [hwl,hgl];exact heap_alloc_new _ _) (Nat.zero_le _) (by unfold maxLen;simp));have hb:Below (World.heap a4).size a4 a5:=by rw [hwl];exact a0d _ _
       clear hwl hgl;replace L:=hh (L.out.later hb);replace HX:=bA hb HX;clear hb;replace hS:=HX.out;refine hK _ _ (fun _ _=>hS) ?_;clear hK;refine t1 5 fun K hK=>?_
       simp only [gA,jB,gC];go_simp;refine (e0x HA2.out _).mono ?_;rintro e a6 ⟨rfl,hb⟩;replace L:=hh (L.out.later hb);replace HX:=bA hb HX;replace HOI:=hh (HOI.out.later hb);clear hb;replace hS:=HX.out;refine hK _ _ (fun _ _=>hS) ?_;clear hK;refine t1 8 fun K hK=>?_
       simp only [gA,jB,gC];go_simp;refine (a0I 34 [t] _ _ (by simp) (I64s.one HA2.out) (HOI.out.rd fun _=>rfl)).mono ?_;rintro e a7 ⟨rfl,hb⟩;replace L:=hh (L.out.later hb);replace HX:=bA hb HX;clear hb;clear HOI;replace hS:=HX.out;refine hK _ _ (fun _ _=>hS) ?_;clear hK;refine t1 10 fun K hK=>?_
       simp only [gA,jB,gC];go_simp;refine (L.out.call fun F hs=>h0Y hs (by have:=HZ.out;omega) HF.out (kAcc t v) (kPool t) (keyF 34 [t]) HU.out).mono ?_;rintro e a8 ⟨rfl,o,hoth⟩;replace L:=hh o;replace HX:=oA hoth HX;clear o hoth;replace hS:=HX.out;refine hK _ _ (fun _ _=>hS) ?_;clear hK;refine tA1 11 8 hS ?_;go_frame;refine tD ?_;clear hS;go_wp2_with fail
       go_ret
       rw [HEV.out,HSV.out];exact L.out.ret
     ·simp only [gA,jB,gC];rw [if_pos (by rfl)];go_simp;obtain ⟨a4,hwl⟩:=nm (World.alloc a3 (.cells #[.int .i64 t] 3));obtain ⟨gl,hgl⟩:=nm ((World.heap a3).size);rw [← hwl,← hgl];have HOI:Hid (Own a4 0 3 intE 1 (.slice (some ⟨gl,0,none⟩) 1 1) [t]):=hh (a0H (l:=[t]) (by rw [hwl,hgl];exact heap_alloc_new _ _) (Nat.zero_le _) (by unfold maxLen;simp));have hb:Below (World.heap a3).size a3 a4:=by rw [hwl];exact a0d _ _
      clear hwl hgl;replace L:=hh (L.out.later hb);replace HX:=bA hb HX;clear hb;replace hS:=HX.out;refine hK _ _ (fun _ _=>hS) ?_;clear hK;refine t1 3 fun K hK=>?_
      simp only [gA,jB,gC];go_simp;refine (f0F HA2.out HA1.out _).mono ?_;rintro e a5 ⟨rfl,hb⟩;replace L:=hh (L.out.later hb);replace HX:=bA hb HX;replace HOI:=hh (HOI.out.later hb);clear hb;replace hS:=HX.out;refine hK _ _ (fun _ _=>hS) ?_;clear hK;refine t1 5 fun K hK=>?_
      simp only [gA,jB,gC];go_simp;refine (e0x HA2.out _).mono ?_;rintro e a6 ⟨rfl,hb⟩;replace L:=hh (L.out.later hb);replace HX:=bA hb HX;replace HOI:=hh (HOI.out.later hb);clear hb;replace hS:=HX.out;refine hK _ _ (fun _ _=>hS) ?_;clear hK;refine t1 8 fun K hK=>?_
      simp only [gA,jB,gC];go_simp;refine (a0I 34 [t] _ _ (by simp) (I64s.one HA2.out) (HOI.out.rd fun _=>rfl)).mono ?_;rintro e a7 ⟨rfl,hb⟩;replace L:=hh (L.out.later hb);replace HX:=bA hb HX;clear hb;clear HOI;replace hS:=HX.out;refine hK _ _ (fun _ _=>hS) ?_;clear hK;refine t1 10 fun K hK=>?_
      simp only [gA,jB,gC];go_simp;refine (L.out.call fun F hs=>h0Y hs (by have:=HZ.out;omega) HF.out (kAcc t v) (kPool t) (keyF 34 [t]) HU.out).mono ?_;rintro e a8 ⟨rfl,o,hoth⟩;replace L:=hh o;replace HX:=oA hoth HX;clear o hoth;replace hS:=HX.out;refine hK _ _ (fun _ _=>hS) ?_;clear hK;refine tA1 11 8 hS ?_;go_frame;refine tD ?_;clear hS;go_wp2_with fail
      go_ret
      rw [HEV.out,HSV.out];exact L.out.ret

end
section
open Go.RowKit

structure Act31 where
 pay:Bool
 who:Int
 t:Int
 m:Nat
structure Good31 (w:World) (a:Act31):Prop where
 b_who:-9223372036854775808≤a.who∧a.who < 9223372036854775808
 b_t:-9223372036854775808≤a.t∧a.t < 9223372036854775808
 lt_m:a.m < uMax
theorem Good31.later {w w':World} {a:Act31} (h:Good31 w a) (_hb:Below w.heap.size w w'):Good31 w' a:=⟨h.b_who,h.b_t,h.lt_m⟩
theorem Two.up {w0 w:World} {g h:Nat} {s1 s2:PS} (t:Two w0 w g h s1 s2):Up s1.t:=by
 obtain ⟨F,G,h1,_⟩:=t;exact h1.up
end
end
section
set_option maxHeartbeats 4000000
set_option maxRecDepth 100000
open Go.RowKit

def clmF (f:Txt→Option Txt) (e:Int):Int:=if getI f (keyF 39 [e])=0 then e else getI f (keyF 39 [e])
theorem l0k (n:Int) (w:World):Calls Tryz.prog 32 #[.int .i64 n] w fun e w'=>e = .returned (.bool (goodB 1 n))∧w=w':=by
 go_enter Tryz.func32,Tryz.ntmps32
 go_wp2_with fail;refine (d0P 1 n _).mono ?_;rintro e _ ⟨rfl,rfl⟩;go_wp2_with fail
 go_ret
 exact ⟨rfl,rfl⟩

theorem k0i {w:World} {x:Option Addr} {m:Bool} {f:Txt→Option Txt} (h:Look w x m f) (hf:FitF f) {a:Int} (ha:I64 a):Calls Tryz.prog 11 #[.pointer x,.int .i64 a] w (Ret w (.int .i64 (clmF f a))):=by
 have H:=hh h;have HF:=hh hf;have HA:=hh ha;obtain ⟨q,hq⟩:=nm (getI f (keyF 39 [a]));obtain ⟨v,hv⟩:=nm (clmF f a);have HV:Hid (v=if q=0 then a else q):=hh (by rw [hv,hq];rfl);rw [← hv];have HQ:=hh hq;clear h hf ha hq hv;have HB:Hid (Below w.heap.size w w):=hh (Below.refl _ _)
 go_enter Tryz.func11,Tryz.ntmps11
 go_wp2_with fail;obtain ⟨a1,hwl⟩:=nm (World.alloc w (.cells #[.int .i64 a] 3));obtain ⟨gl,hgl⟩:=nm ((World.heap w).size);rw [← hwl,← hgl];have HOI:Hid (Own a1 0 3 intE 1 (.slice (some ⟨gl,0,none⟩) 1 1) [a]):=hh (a0H (l:=[a]) (by rw [hwl,hgl];exact heap_alloc_new _ _) (Nat.zero_le _) (by unfold maxLen;simp));have hb:Below (World.heap w).size w a1:=by rw [hwl];exact a0d _ _
 clear hwl hgl;replace HB:=bT HB hb;clear hb;refine (a0X 39 [a] _ _ (by simp) (I64s.one HA.out) (HOI.out.rd fun _=>rfl)).mono ?_;rintro e a2 ⟨rfl,hb⟩;replace HB:=bT HB hb;clear hb;clear HOI;go_wp2_with fail;refine (h0C (H.out.later HB.out) HF.out (keyF 39 [a])).mono ?_;rw [← HQ.out];rintro e a3 ⟨rfl,hb⟩;replace HB:=bT HB hb;clear hb
 by_cases hq:q=0
 ·have hne:(q != 0)=false:=by simpa using hq
  have hne':(q == 0)=true:=by simpa using hq
  have HVV:Hid (v=a):=hh (by rw [HV.out,if_pos hq]);clear hq;go_wp2_with fail
  go_ret
  exact ⟨by rw [HVV.out];rfl,HB.out⟩
 ·have hne:(q != 0)=true:=by simpa using hq
  have hne':(q == 0)=false:=by simpa using hq
  have HVV:Hid (v=q):=hh (by rw [HV.out,if_neg hq]);clear hq;go_wp2_with fail
  go_ret
  exact ⟨by rw [HVV.out];rfl,HB.out⟩

theorem e0h {w:World} {x:Option Addr} {q:Bool} {f:Txt→Option Txt} (h:Look w x q f) (hf:FitF f) {e t:Int} (he:I64 e) (ht:I64 t):Calls Tryz.prog 12 #[.pointer x,.int .i64 e,.int .i64 t] w (URet w (amtV f (keyF 40 [e,t]))):=by
 have H:=hh h;have HF:=hh hf;have HE:=hh he;have HT:=hh ht;obtain ⟨v,hv⟩:=nm (amtV f (keyF 40 [e,t]));rw [← hv];have HV:=hh hv;clear h hf he ht hv;have HB:Hid (Below w.heap.size w w):=hh (Below.refl _ _)
 go_enter Tryz.func12,Tryz.ntmps12
 go_wp2_with (refine sA _ Tryz.zeroUz ?_)
 intro R a1 hR;have WR:=mGe hR HB.out.size;have HR:=hh hR.out.cells;have hbR:=hR.out.below;clear hR;replace HB:=bT HB hbR;clear hbR;go_wp2_with fail;obtain ⟨a2,hwl⟩:=nm (World.alloc a1 (.cells #[.int .i64 e,.int .i64 t] 3));obtain ⟨gl,hgl⟩:=nm ((World.heap a1).size);rw [← hwl,← hgl];have HOI:Hid (Own a2 0 3 intE 1 (.slice (some ⟨gl,0,none⟩) 2 2) [e,t]):=hh (a0H (l:=[e,t]) (by rw [hwl,hgl];exact heap_alloc_new _ _) (Nat.zero_le _) (by unfold maxLen;simp));have hb:Below (World.heap a1).size a1 a2:=by rw [hwl];exact a0d _ _
 clear hwl hgl;replace HB:=bT HB hb;replace HR:=bA hb HR;clear hb;refine (a0X 40 [e,t] _ _ (by simp) (I64s.two HE.out HT.out) (HOI.out.rd fun _=>rfl)).mono ?_;rintro e a3 ⟨rfl,hb⟩;replace HB:=bT HB hb;replace HR:=bA hb HR;clear hb;clear HOI;go_wp2_with fail;refine (a0K (H.out.later HB.out) HF.out (keyF 40 [e,t])).mono ?_;rw [← HV.out];rintro e a4 ⟨ya,yb,yc,yd,hu1,rfl,hb⟩;have HYU:=hh hu1;clear hu1;replace HB:=bT HB hb;replace HR:=bA hb HR;clear hb
 go_wp2_with (refine sR 25 #[.int .u64 ya,.int .u64 yb,.int .u64 yc,.int .u64 yd] HR Tryz.sizeU ?_)
 intro a5 hxR kR zR;clear zR;replace HB:=bS HB kR WR;replace HR:=hh hxR;clear hxR kR;go_wp2_with fail
 exact bodyPost_ret (results_cell_row rfl _ _ _ _ _ _ _ rfl HR.out Tryz.underlying25 rfl Tryz.sizeU) rfl ⟨_,_,_,_,HYU.out,rfl,HB.out⟩

theorem k0Z {w:World} {x:Option Addr} (h:NotMade w x) (a b:Int):Calls Tryz.prog 10 #[.pointer x,.int .i64 a,.int .i64 b] w (Ret w (.int .i64 1)):=by
 have H:=hh h;clear h
 go_enter Tryz.func10,Tryz.ntmps10
 go_wp2_with fail;refine (i0G H.out).mono ?_;rintro e _ ⟨rfl,rfl⟩;go_wp2_with fail
 go_ret
 exact ⟨rfl,Below.refl _ _⟩
end
end Go.Proofs.YtakkfabaeolbdaaGreat
