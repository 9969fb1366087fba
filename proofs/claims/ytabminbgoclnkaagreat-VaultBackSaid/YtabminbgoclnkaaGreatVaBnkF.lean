/- The reference's banks (code). No condition. -/
import Derived.Test.YtabminbgoclnkaaGreatVaBnkJ
import Derived.Test.YtabminbgoclnkaaGreatVaCelS
import Derived.Deep.Cut
namespace Go.Proofs.YtabminbgoclnkaaGreat
set_option maxHeartbeats 8000000
set_option maxRecDepth 100000
open Go.RowKit

def Ext (s z:PS):Prop:=Up z.t∧∃ n,z.past.length=s.past.length+n∧PS.backs n z=s
theorem l0W {s:PS} (hu:Up s.t) (k v:Txt) (b:Bool):(s.put k v b).back=s:=by
 unfold PS.back PS.put
 simp only [List.getLast?_append,List.getLast?_singleton,Option.some_or,List.dropLast_concat];obtain ⟨t,past⟩:=s
 congr 1
 refine j0Y (b0F (b0F hu _ _ _) _ _ _) hu fun q=>?_
 rw [d0T,d0T]
 by_cases h:k=q
 ·subst h;simp only [if_true]
  cases hg:getP t k<;>simp
 ·simp [h]
theorem Ext.refl {s:PS} (hu:Up s.t):Ext s s:=⟨hu,0,rfl,rfl⟩
theorem Ext.put {s z:PS} (h:Ext s z) (k v:Txt) (b:Bool):Ext s (z.put k v b):=by
 obtain ⟨hu,n,h1,h2⟩:=h;refine ⟨b0F hu _ _ _,n+1,?_,?_⟩
 ·unfold PS.put;simp [h1];omega
 ·show PS.backs n (z.put k v b).back=s
  rw [l0W hu,h2]
theorem Ext.set {s z:PS} (h:Ext s z) (k v:Txt):Ext s (z.set k v):=by
 unfold PS.set;split
 ·exact h
 ·exact h.put _ _ _
theorem Ext.del {s z:PS} (h:Ext s z) (k:Txt):Ext s (z.del k):=by
 unfold PS.del;split
 ·exact h
 ·exact h.put _ _ _
theorem Ext.undo {s z:PS} (h:Ext s z):z.undo s.past.length=s∧undoE z s.past.length=true:=by
 obtain ⟨hu,n,h1,h2⟩:=h;have hE:undoE z s.past.length=true:=by unfold undoE;rw [decide_eq_true_iff];omega
 refine ⟨?_,hE⟩
 unfold PS.undo
 rw [if_pos hE,Int.toNat_natCast,h1,Nat.add_sub_cancel_left,h2]

theorem Ext.setAmt {s z:PS} (h:Ext s z) (k:Txt) (n:Nat):Ext s (z.setAmt k n):=by
 unfold PS.setAmt;split
 ·exact h.del _
 ·exact h.set _ _
theorem Ext.addA {s z:PS} (h:Ext s z) (k:Txt) (n:Nat):Ext s (z.addA k n):=by
 unfold PS.addA;split
 ·exact h.setAmt _ _
 ·exact h
theorem Ext.moveA {s z:PS} (h:Ext s z) (k l:Txt) (n:Nat):Ext s (z.moveA k l n):=by
 unfold PS.moveA;split
 ·exact (h.setAmt _ _).setAmt _ _
 ·exact h
theorem l0c {s:PS} (hu:Up s.t) {t n:Int} {m:Nat} (h:mintE s t n m≠0):s.mint t n m=s:=by
 unfold mintE at h
 unfold PS.mint
 split
 ·rfl
 ·rename_i h0
  rw [if_neg h0] at h
  split
  ·rfl
  ·rename_i h1
   rw [if_neg h1] at h;rw [if_pos h]
   exact (((Ext.refl hu).addA _ _).addA _ _).undo.1
theorem k0Z {s:PS} (hu:Up s.t) (t n:Int) (m:Nat):(s.mint t n m).sz≤s.sz+4:=by
 refine n0s s t n m ?_
 by_cases h:mintE s t n m=0
 ·exact .inl h
 ·exact .inr (l0c hu h)
theorem i0H {s:PS} (hf:Fit s) (hu:Up s.t) (t n:Int) (m:Nat):Fit (s.mint t n m):=by
 by_cases h:mintE s t n m=0
 ·unfold mintE at h
  unfold PS.mint
  split
  ·exact hf
  ·rename_i h0
   rw [if_neg h0] at h
   split
   ·exact hf
   ·rename_i h1
    rw [if_neg h1] at h;rw [if_neg (fun e=>e h)]
    exact (hf.addA _ _).addA _ _
 ·rw [l0c hu h];exact hf
theorem f0I (n:Int) (w:World):Calls Tryz.prog 89 #[.int .i64 n] w fun e w'=>e = .returned (.bool (decide (1≤n∧n≤4294967295)))∧w=w':=by
 obtain ⟨q,hq⟩:=nm (decide (1≤n∧n≤4294967295));have HQ:=hh hq;rw [← hq];clear hq
 by_cases h1:1≤n
 ·have hd:Hid (decide (n≤4294967295)=q):=hh (by rw [HQ.out];simp only [h1,true_and])
  go_enter Tryz.func89,Tryz.ntmps89
  go_wp2_with fail
  go_ret
  exact ⟨by rw [← hd.out];rfl,rfl⟩
 ·have hd:Hid (q=false):=hh (by rw [HQ.out];exact decide_eq_false fun e=>h1 e.1);have h3:n < 1:=by omega
  clear h1
  go_enter Tryz.func89,Tryz.ntmps89
  go_wp2_with fail
  go_ret
  exact ⟨by rw [hd.out];rfl,rfl⟩
theorem j0I (t n:Int) (w:World):Calls Tryz.prog 81 #[.int .i64 t,.int .i64 n] w fun e w'=>e = .returned (.bool (goodB t n))∧w=w':=by
 obtain ⟨q,hq⟩:=nm (goodB t n);have HQ:=hh hq;rw [← hq];clear hq
 by_cases h1:1≤t
 ·by_cases h2:t≤1000
  ·have hd:Hid (decide (1≤n∧n≤4294967295)=q):=hh (by rw [HQ.out];unfold goodB;simp only [h1,h2,true_and])
   go_enter Tryz.func81,Tryz.ntmps81
   go_wp2_with fail;refine (f0I n _).mono ?_;rintro e _ ⟨rfl,rfl⟩;rw [hd.out];clear h1 h2;go_wp2_with fail
   go_ret
   exact ⟨rfl,rfl⟩
  ·have hd:Hid (q=false):=hh (by rw [HQ.out];unfold goodB;exact decide_eq_false fun e=>h2 e.1.2)
   go_enter Tryz.func81,Tryz.ntmps81
   go_wp2_with fail
   go_ret
   exact ⟨by rw [hd.out];first | rfl | simp [h2],rfl⟩
 ·have hd:Hid (q=false):=hh (by rw [HQ.out];unfold goodB;exact decide_eq_false fun e=>h1 e.1.1);have h3:t < 1:=by omega
  go_enter Tryz.func81,Tryz.ntmps81
  go_wp2_with fail
  go_ret
  exact ⟨by rw [hd.out];first | rfl | simp [h1],rfl⟩

theorem k0i {w:World} {g:Nat} {s:PS} {F:List Nat} (h:RS w g s F) (hz:s.sz < 100000000) (hf:Fit s) {t n:Int} (ht:I64 t) (hn:I64 n) {a b c d:Int} {m:Nat} (hu:UIs a b c d m) :
  Calls Tryz.prog 32 #[.pointer (some ⟨g,0,none⟩),.int .i64 t,.int .i64 n,.agg #[.int .u64 a,.int .u64 b,.int .u64 c,.int .u64 d]] w (RRet w g F (s.mint t n m) (.int .i64 (mintE s t n m))):=by
 have L:=hh (RLiv.start h);have HZ:=hh hz;have HF:=hh hf;have HT:=hh ht;have HN:=hh hn;have HU:=hh hu;obtain ⟨gq,hgq⟩:=nm (goodB t n);have HG:=hh hgq;clear h hz hf ht hn hu hgq
 go_enter Tryz.func32,Tryz.ntmps32
 go_upto_region 1 with fail
 obtain ⟨w1,hw1⟩:=nm (w.alloc (.cells #[.int .u64 a,.int .u64 b,.int .u64 c,.int .u64 d] 25));obtain ⟨BA,hBA⟩:=nm (w.heap.size);rw [← hw1,← hBA];have HBA:Hid (w1.heap[BA]? = some (.cells #[.int .u64 a,.int .u64 b,.int .u64 c,.int .u64 d] 25 (0,0))):=hh (by rw [hw1,hBA];exact heap_alloc_new _ _);have Lm:Hid (RLiv w F w1 g s):=hh (L.out.later (by rw [hw1];exact a0c _ _));clear hw1 hBA L;have L:=Lm;clear Lm;go_wp2_with fail;refine (j0I t n _).mono ?_;rw [← HG.out];rintro e _ ⟨rfl,rfl⟩
 cases gq with
 | false=>
  have HE:Hid (mintE s t n m=2):=hh (by unfold mintE;rw [if_pos (.inl HG.out.symm)]);have HS:Hid (s.mint t n m=s):=hh (by unfold PS.mint;rw [if_pos (.inl HG.out.symm)]);go_wp2_with fail
  go_ret
  rw [HE.out,HS.out];exact L.out.ret
 | true=>
  have cBA0:w1.cell? ⟨BA,0,none⟩=some (.int .u64 a):=Lib.cell_of_heap HBA.out 0;have cBA1:w1.cell? ⟨BA,1,none⟩=some (.int .u64 b):=Lib.cell_of_heap HBA.out 1;have cBA2:w1.cell? ⟨BA,2,none⟩=some (.int .u64 c):=Lib.cell_of_heap HBA.out 2;have cBA3:w1.cell? ⟨BA,3,none⟩=some (.int .u64 d):=Lib.cell_of_heap HBA.out 3;go_wp2_with fail;clear cBA0 cBA1 cBA2 cBA3;refine (a0P HU.out _).mono ?_;obtain ⟨q,hq⟩:=nm (decide (m < uHalf));rw [← hq];have HQ:=hh hq;clear hq;rintro e a1 ⟨rfl,hb⟩;replace L:=hh (L.out.later hb);replace HBA:=bA hb HBA;clear hb
  cases q with
  | false=>
   have HE:Hid (mintE s t n m=2):=hh (by unfold mintE;rw [if_pos (.inr (of_decide_eq_false HQ.out.symm))]);have HS:Hid (s.mint t n m=s):=hh (by unfold PS.mint;rw [if_pos (.inr (of_decide_eq_false HQ.out.symm))]);go_wp2_with fail
   go_ret
   rw [HE.out,HS.out];exact L.out.ret
  | true=>
   have hno:¬ (goodB t n=false∨¬ m < uHalf):=fun e=>by
    rcases e with e | e
    ·rw [e] at HG;have:=HG.out;cases this
    ·exact e (of_decide_eq_true HQ.out.symm)
   obtain ⟨s1,hs1⟩:=nm (s.addA (kSup t) m);obtain ⟨e1,he1⟩:=nm (addE (getP s.t) (kSup t) m);obtain ⟨s2,hs2⟩:=nm (s1.addA (kAcc t n) m);obtain ⟨e2,he2⟩:=nm (addE (getP s1.t) (kAcc t n) m);have HE:Hid (mintE s t n m=if e1≠0 then e1 else e2):=hh (by unfold mintE;rw [if_neg hno,← hs1,← he1,← he2]);have HS:Hid (s.mint t n m=if e1≠0 then s else if e2≠0 then s2.undo s.past.length else s2):=hh (by unfold PS.mint;rw [if_neg hno,← hs1,← he1,← he2,← hs2]);have HNO:Hid (e1≠0→s1=s):=hh (fun h=>by rw [hs1];exact j0K (by rw [← he1];exact h));have HF1:Hid (Fit s1∧s1.sz≤s.sz+2∧s2.sz≤s.sz+4):=hh (by
    have a1:=c0i s (kSup t) m;have a2:=c0i s1 (kAcc t n) m;rw [← hs1] at a1;rw [← hs2] at a2
    exact ⟨by rw [hs1];exact HF.out.addA _ _,by omega,by omega⟩)
   have HS1:=hh hs1;have HE1:=hh he1;have HS2:=hh hs2;have HE2:=hh he2;clear hno HG HQ hs1 he1 hs2 he2;obtain ⟨F9,h9⟩:=L.out.get;obtain ⟨vL,vP,h8,_⟩:=h9;obtain ⟨ad,cap,hvp,_,_⟩:=h8.past.shape;obtain ⟨np,hnp⟩:=nm (s.past.length);rw [← hnp] at hvp;subst hvp;have HNP:=hh hnp;have c9:a1.cell? ⟨g,1,none⟩=some (.slice ad np cap):=Lib.cell_of_heap h8.head 1;clear h8 hnp;go_wp2_with fail;clear c9;obtain ⟨a2,hwz,hbz⟩:=dr a1;replace L:=hh (L.out.later hbz);replace HBA:=bA hbz HBA;clear hbz;refine rg1 6 6 hwz HBA fun hS=>?_
   clear hwz;refine tA1 0 26 hS ?_;go_frame;refine tA1 1 27 hS ?_;go_frame;refine tl 3 (some 29) (fun _ h=>h) Tryz.underlying25 Tryz.sizeU hS ?_;go_frame;refine t1 2 fun K hK=>?_
   simp only [gA,jB,gC];go_simp;refine (l0o HT.out _).mono ?_;rintro e a3 ⟨rfl,hb⟩;replace L:=hh (L.out.later hb);replace HBA:=bA hb HBA;clear hb;replace hS:=HBA.out;refine hK _ _ (fun _ _=>hS) ?_;clear hK;refine t1 4 fun K hK=>?_
   simp only [gA,jB,gC];go_simp;refine (L.out.call fun F hs=>d0w hs (by have:=HZ.out;omega) HF.out (kSup t) HU.out).mono ?_;rw [← HE1.out,← HS1.out];rintro e a4 ⟨rfl,o,hoth⟩;replace L:=hh o;replace HBA:=oA hoth HBA;clear o hoth;replace hS:=HBA.out;refine hK _ _ (fun _ _=>hS) ?_;clear hK;refine tA1 5 10 hS ?_;go_frame;refine tD ?_;clear hS
   by_cases hz1:e1=0
   ·have hne:(e1 != 0)=false:=by simpa using hz1
    have HEV:Hid (mintE s t n m=e2):=hh (by rw [HE.out,if_neg (fun e=>e hz1)]);have HSV:Hid (s.mint t n m=if e2≠0 then s2.undo np else s2):=hh (by rw [HS.out,if_neg (fun e=>e hz1),HNP.out]);subst hz1;clear HE HS HNO;go_wp2_with fail;clear hne;obtain ⟨a5,hwz,hbz⟩:=dr a4;replace L:=hh (L.out.later hbz);replace HBA:=bA hbz HBA;clear hbz;refine rg1 7 7 hwz HBA fun hS=>?_
    clear hwz;refine tA1 0 34 hS ?_;go_frame;refine tA1 1 35 hS ?_;go_frame;refine tA1 2 36 hS ?_;go_frame;refine tl 4 (some 38) (fun _ h=>h) Tryz.underlying25 Tryz.sizeU hS ?_;go_frame;refine t1 3 fun K hK=>?_
    simp only [gA,jB,gC];go_simp;refine (d0p HT.out HN.out _).mono ?_;rintro e a6 ⟨rfl,hb⟩;replace L:=hh (L.out.later hb);replace HBA:=bA hb HBA;clear hb;replace hS:=HBA.out;refine hK _ _ (fun _ _=>hS) ?_;clear hK;refine t1 5 fun K hK=>?_
    simp only [gA,jB,gC];go_simp;refine (L.out.call fun F hs=>d0w hs (by have:=HZ.out;have:=HF1.out.2.1;omega) HF1.out.1 (kAcc t n) HU.out).mono ?_;rw [← HE2.out,← HS2.out];rintro e a7 ⟨rfl,o,hoth⟩;replace L:=hh o;replace HBA:=oA hoth HBA;clear o hoth;replace hS:=HBA.out;refine hK _ _ (fun _ _=>hS) ?_;clear hK;refine tA1 6 11 hS ?_;go_frame;refine tD ?_;clear hS
    by_cases hz2:e2=0
    ·have hne:(e2 != 0)=false:=by simpa using hz2
     have HEW:Hid (mintE s t n m=0):=hh (by rw [HEV.out,hz2]);have HSW:Hid (s.mint t n m=s2):=hh (by rw [HSV.out,if_neg (fun e=>e hz2)]);subst hz2;go_wp2_with fail
     go_ret
     rw [HEW.out,HSW.out];exact L.out.ret
    ·have hne:(e2 != 0)=true:=by simpa using hz2
     have hne':(e2 == 0)=false:=by simpa using hz2
     have HSW:Hid (s.mint t n m=s2.undo np):=hh (by rw [HSV.out,if_pos hz2]);clear hz2;go_wp2_with fail;refine (L.out.call fun F hs=>g0r hs (by have:=HZ.out;have h7:=HF1.out.2.2;unfold PS.sz at h7 this;omega) (np:Int)).mono ?_;rintro e a8 ⟨rfl,o,hoth⟩;replace L:=hh o;clear o hoth;go_wp2_with fail
     go_ret
     rw [HEV.out,HSW.out];exact L.out.ret
   ·have hne:(e1 != 0)=true:=by simpa using hz1
    have hne':(e1 == 0)=false:=by simpa using hz1
    have HEV:Hid (mintE s t n m=e1):=hh (by rw [HE.out,if_pos hz1]);have HSV:Hid (s.mint t n m=s1):=hh (by rw [HS.out,if_pos hz1,HNO.out hz1]);clear hz1;go_wp2_with fail
    go_ret
    rw [HEV.out,HSV.out];exact L.out.ret

end Go.Proofs.YtabminbgoclnkaaGreat
