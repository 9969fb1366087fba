/- Claims: all leaves are paid, or none (code). No condition. -/
import Derived.Test.YtakkfabaeolbdaaGreatCnClaB
import Derived.Test.YtakkfabaeolbdaaGreatCn32
import Derived.Defers
import Derived.Deep.Cut
namespace Go.Proofs.YtakkfabaeolbdaaGreat
set_option maxHeartbeats 32000000
set_option maxRecDepth 100000
open Go.RowKit

def lpsE (s:PS) (e to:Int):List CLf→Int
 | []=>0
 | x :: xs=>if lpE s e to x.t x.m=0 then lpsE (s.lp e to x.t x.m) e to xs else lpE s e to x.t x.m
def PS.lps (s:PS) (e to:Int):List CLf→PS
 | []=>s
 | x :: xs=>PS.lps (s.lp e to x.t x.m) e to xs
def lpsV (s:PS) (e to:Int):List CLf→List Nat
 | []=>[]
 | x :: xs=>lpV s e to x.t x.m :: lpsV (s.lp e to x.t x.m) e to xs
theorem o0S (e to:Int) (m:List CLf):∀ (l:List CLf) (s:PS),lpsE s e to (l ++ m)=(if lpsE s e to l=0 then lpsE (s.lps e to l) e to m else lpsE s e to l)∧s.lps e to (l ++ m)=(s.lps e to l).lps e to m∧lpsV s e to (l ++ m)=lpsV s e to l ++ lpsV (s.lps e to l) e to m:=by
 intro l
 induction l with
 | nil=>intro s;exact ⟨by rw [show lpsE s e to []=0 from rfl,if_pos rfl];rfl,rfl,rfl⟩
 | cons x xs ih=>
  intro s;obtain ⟨h1,h2,h3⟩:=ih (s.lp e to x.t x.m);refine ⟨?_,h2,?_⟩
  ·show (if lpE s e to x.t x.m=0 then lpsE (s.lp e to x.t x.m) e to (xs ++ m) else lpE s e to x.t x.m)=_
   show _=(if (if lpE s e to x.t x.m=0 then lpsE (s.lp e to x.t x.m) e to xs else lpE s e to x.t x.m)=0 then lpsE ((s.lp e to x.t x.m).lps e to xs) e to m else (if lpE s e to x.t x.m=0 then lpsE (s.lp e to x.t x.m) e to xs else lpE s e to x.t x.m))
   by_cases h:lpE s e to x.t x.m=0
   ·rw [if_pos h,if_pos h];exact h1
   ·rw [if_neg h,if_neg h,if_neg h]
  ·show lpV s e to x.t x.m :: lpsV (s.lp e to x.t x.m) e to (xs ++ m)=_
   rw [h3];rfl
theorem s0X (e to:Int):∀ (l:List CLf) (s:PS),(s.lps e to l).sz≤s.sz+8*l.length:=by
 intro l
 induction l with
 | nil=>intro s;exact Nat.le_refl _
 | cons x xs ih=>
  intro s;have h1:=ih (s.lp e to x.t x.m);have h2:=lp_sz s e to x.t x.m
  show ((s.lp e to x.t x.m).lps e to xs).sz≤_
  simp only [List.length_cons];omega
theorem s0h (e to:Int):∀ (l:List CLf) {s:PS},Fit s→Fit (s.lps e to l):=by
 intro l
 induction l with
 | nil=>intro s h;exact h
 | cons x xs ih=>intro s h;exact ih (r0V h _ _ _ _)
theorem Ext.lp {s z:PS} (h:Ext s z) (e to t:Int) (m:Nat):Ext s (z.lp e to t m):=by
 unfold PS.lp;split
 ·refine Ext.setAmt ?_ _ _
  unfold PS.py;split
  ·exact h
  ·unfold PS.send;split
   ·exact (h.moveA _ _ _).addA _ _
   ·exact h
 ·exact h
theorem Ext.lps {s:PS} (e to:Int):∀ (l:List CLf) {z:PS},Ext s z→Ext s (z.lps e to l):=by
 intro l
 induction l with
 | nil=>intro z h;exact h
 | cons x xs ih=>intro z h;exact ih (h.lp _ _ _ _)
def clE (s:PS) (fr:Int) (c:CCl) (b:Int):Int:=if goodB 1 c.e=false then 2 else if goodB 1 c.to=false then 2 else if fr≠clmF (getP s.t) c.e then 11 else if useE (getP s.t) c.root b≠0 then useE (getP s.t) c.root b else if openR c (useH (getP s.t) c.root b)≠0 then openR c (useH (getP s.t) c.root b) else lpsE s c.e c.to c.lv
def PS.cl (s:PS) (fr:Int) (c:CCl) (b:Int):PS:=if clE s fr c b=0 then s.lps c.e c.to c.lv else s
def clV (s:PS) (fr:Int) (c:CCl) (b:Int):List Nat:=if clE s fr c b=0 then lpsV s c.e c.to c.lv else []
theorem cl_no {s:PS} {fr:Int} {c:CCl} {b k:Int} (h:clE s fr c b=k) (hk:k≠0):clE s fr c b=k∧s.cl fr c b=s∧clV s fr c b = []:=by
 refine ⟨h,?_,?_⟩
 ·unfold PS.cl;rw [h,if_neg hk]
 ·unfold clV;rw [h,if_neg hk]
theorem r0I {s:PS} {fr:Int} {c:CCl} {b:Int} (h:clE s fr c b=0):clE s fr c b=0∧s.cl fr c b=s.lps c.e c.to c.lv∧clV s fr c b=lpsV s c.e c.to c.lv:=by
 refine ⟨h,?_,?_⟩
 ·unfold PS.cl;rw [h,if_pos rfl]
 ·unfold clV;rw [h,if_pos rfl]
theorem n0k {c:CCl} {root:List UInt8} (h:openR c root=0):c.lv.length≤8:=by
 unfold openR at h
 by_cases h1:c.lv.length=0∨8 < c.lv.length
 ·rw [if_pos h1] at h;cases h
 ·omega
def uE (n:Nat):List Value:=[.int .u64 (uw0 n),.int .u64 (uw1 n),.int .u64 (uw2 n),.int .u64 (uw3 n)]
theorem k0P (n:Nat):(uE n).length=4:=rfl
theorem t0e (n:Nat):∀ u∈uE n,u.oneCell'=true:=by
 intro u hu;simp only [uE,List.mem_cons,List.not_mem_nil,or_false] at hu
 rcases hu with rfl | rfl | rfl | rfl<;>rfl
theorem r0k (e to:Int):∀ (l:List CLf) (s:PS),(lpsV s e to l).length=l.length:=by
 intro l
 induction l with
 | nil=>intro _;rfl
 | cons x xs ih=>intro s;show (lpsV _ e to xs).length+1=xs.length+1;rw [ih]
def CI (c:CCl):Prop:=I64 c.root∧I64 c.e∧I64 c.to∧∀ x∈c.lv,I64 x.t
def ClK (w:World) (S:Nat→Prop) (v:Value) (c:CCl):Prop:=∃ (p lv:SlV) (xs:List (CLf × SlV)),v = .agg (clC c.root c.idx c.e c.h p lv c.to)∧xs.map (·.1)=c.lv∧∀ w',Keep S w w'→Rd w' hE 32 (slV p) c.p∧Rd w' lfE 7 (slV lv) xs∧∀ x∈xs,Rd w' hE 32 (slV x.2) x.1.p
def ClRet (w:World) (g:Nat) (F:List Nat) (s:PS) (fr:Int) (c:CCl) (b:Int) (e:Ending) (w':World):Prop:=
 ∃ vo,e = .returned (.tuple #[vo,.int .i64 (clE s fr c b)])∧Own w' w.heap.size 25 uE 4 vo (clV s fr c b)∧Liv w F w' g (s.cl fr c b)

theorem Liv.on {w0 w w':World} {F0 F:List Nat} {g:Nat} {s':PS} (h2:Keep (·∈F0) w0 w) (h3:∀ x∈F,x∈F0∨w0.heap.size≤x) (h:Liv w F w' g s'):Liv w0 F0 w' g s':=by
 obtain ⟨F',q1,q2,q3⟩:=h;refine ⟨F',q1,h2.trans (q2.mono fun x _ hx=>h3 x hx),fun x hx=>?_⟩
 rcases q3 x hx with h | h
 ·exact h3 x h
 ·exact .inr (Nat.le_trans h2.size h)
theorem n0e {w0 w w':World} {F0:List Nat} {g B:Nat} {s:PS} {v:Value} {l:List Nat} (L:Liv w0 F0 w g s) (h:Own w B 25 uE 4 v l) (hB:w0.heap.size≤B) (hg:w.grownBy w' v.ownBlock):Liv w0 F0 w' g s:=by
 obtain ⟨F,h1,h2,h3⟩:=L;have k:Keep (fun k=>v.ownBlock=some k) w w':=⟨hg.os,hg.tape,hg.output,hg.size,fun k hk hne=>hg.block k hk (fun e=>hne e.symm)⟩;refine ⟨F,h1.keep k fun x hx e=>?_,h2.trans (k.mono fun x _ e=>.inr (Nat.le_trans hB (h.lt x e).1)),h3⟩;obtain ⟨o',ho',k1⟩:=h1.kind x hx
 rcases h.2 with ⟨h0,_⟩ | ⟨g',cap',cur,h0,_,hhq,_⟩
 ·rw [h0] at e;simp [Value.ownBlock] at e
 ·rw [h0] at e
  simp [Value.ownBlock] at e
  subst e;rw [ho'] at hhq;cases hhq;rw [show stoKind (.cells cur 25 (0,0))=false from rfl] at k1;cases k1
theorem f0A {w w':World} {B:Nat} {v:Value} {l:List Nat} (h:Own w B 25 uE 4 v l) (ho:Oth w w'):Own w' B 25 uE 4 v l:=by
 obtain ⟨h1,h2⟩:=h;refine ⟨h1,?_⟩
 rcases h2 with h2 | ⟨g,cap,cur,e,hB,hg,h3⟩
 ·exact .inl h2
 ·exact .inr ⟨g,cap,cur,e,hB,ho.2 g _ hg rfl rfl,h3⟩
theorem Tryz.infoU4:(Tryz.prog.info? 25).map (fun i=>(i.zero,i.size,i.bytes))=some (some (.agg #[.int .u64 0,.int .u64 0,.int .u64 0,.int .u64 0]),4,32):=by kernel_rfl
theorem Tryz.zeroEr (w:World):(zeroValue 45).run Tryz.prog w = .ok (.int .i64 0) w:=by kernel_rfl
theorem Tryz.sizeEr:(Tryz.prog.info? 45).map (·.size)=some 1:=by kernel_rfl
theorem Tryz.loadEr {w:World} {E:Nat} {k:Int} {fr:Nat × Nat} (h:w.heap[E]? = some (.cells #[.int .i64 k] 45 fr)):(loadVar 45 ⟨E,0,none⟩).run Tryz.prog w = .ok (.int .i64 k) w:=by
 have hc:w.cell? ⟨E,0,none⟩=some (.int .i64 k):=Lib.cell_of_heap h 0;go_simp
theorem nopanic {P:Program} {c:Code} {Q:Exit→Act→World→Prop} {a:Act} {w:World} (h:c.wp P (fun e a w=>match e with | .normal=>Q .normal a w | _=>False) a w):c.wp P Q a w:=by
 refine Code.wp_mono (fun e a' w' hq=>?_) h
 cases e<;>first | exact hq | exact hq.elim
theorem h0y {fn:Func} {tmps:Array Value} {R:Ending→World→Prop} {w:World} {t p:Tmp} {v:Value} {E:Nat} {k:Int} (h:fn.results=#[.tmp t,.cell p 45]) (hv:tmps.getD t undef=v) (hp:tmps.getD p undef = .pointer (some ⟨E,0,none⟩))
  (hE:w.heap[E]? = some (.cells #[.int .i64 k] 45 (0,0))) (hR:R (.returned (.tuple #[v,.int .i64 k])) w):Go.Leaves Tryz.prog fn tmps R [] .returning w:=by
 refine ⟨_,?_,hR⟩
 unfold results
 rw [h];have h1:=Tryz.loadEr hE;have hp':tmps[p]?.getD undef = .pointer (some ⟨E,0,none⟩):=by rw [← hp];simp
 have hv':tmps[t]?.getD undef=v:=by rw [← hv];simp
 simp [hp',hv',asAddr,h1,Result.andThen]
theorem c0d {fn:Func} {a:Act} {R:Ending→World→Prop} {w:World} {t p:Tmp} {v:Value} {E:Nat} {k:Int} (h:fn.results=#[.tmp t,.cell p 45]) (hd:a.defers = []) (hv:a.tmps.getD t undef=v) (hp:a.tmps.getD p undef = .pointer (some ⟨E,0,none⟩))
  (hE:w.heap[E]? = some (.cells #[.int .i64 k] 45 (0,0))) (hR:R (.returned (.tuple #[v,.int .i64 k])) w):bodyPostD Tryz.prog fn R .ret a w:=by
 show Go.Leaves Tryz.prog fn a.tmps R a.defers .returning w
 rw [hd];exact h0y h hv hp hE hR
theorem n0T {w:World} {g:Nat} {s:PS} {F:List Nat} (h:St w g s F) (hz:s.sz < 100000000) {E:Nat} {k:Int} (hE:w.heap[E]? = some (.cells #[.int .i64 k] 45 (0,0))) (np:Nat) (u:FrameMode) :
  CallsD Tryz.prog 35 #[.pointer (some ⟨g,0,none⟩),.int .i64 (np:Int),.pointer (some ⟨E,0,none⟩)] u w (fun e u' w'=>u'=u∧e = .returned (.tuple #[])∧Liv w F w' g (if k=0 then s else s.undo np)):=by
 have H:=hh h;have HZ:Hid (s.t.length+s.past.length < 1099511627776):=hh (by unfold PS.sz at hz;omega);have cE:w.cell? ⟨E,0,none⟩=some (.int .i64 k):=Lib.cell_of_heap hE 0;clear h hz hE
 by_cases hk:k=0
 ·have hne:(k != 0)=false:=by simpa using hk
  have HK:=hh hk;clear hk
  generalize hv9:(if k=0 then s else s.undo np)=sv
  have HV9:=hh hv9;clear hv9
  go_enter_d Tryz.func35,Tryz.ntmps35
  go_wp2_with fail
  go_end0
  exact ⟨rfl,by rw [← HV9.out,if_pos HK.out];exact Liv.start H.out⟩
 ·have hne:(k != 0)=true:=by simpa using hk
  have HK:=hh hk;clear hk
  generalize hv9:(if k=0 then s else s.undo np)=sv
  have HV9:=hh hv9;clear hv9
  go_enter_d Tryz.func35,Tryz.ntmps35
  go_wp2_with fail;refine (c0X H.out HZ.out np).mono ?_;rintro e w' ⟨rfl,hL⟩;have L:Hid (Liv w F w' g (s.undo np)):=hh hL;clear hL;go_wp2_with fail
  go_end0
  exact ⟨rfl,by rw [← HV9.out,if_neg HK.out];exact L.out⟩
theorem h0l {w:World} {g:Nat} {s:PS} {F:List Nat} (h:St w g s F) (hz:s.sz < 800000) (hf:Fit s) {v:Value} {c:CCl} (hc:ClK w (·∈F) v c) (hok:COk c) (hi:CI c) {fr b:Int} :
  Calls Tryz.prog 9 #[.pointer (some ⟨g,0,none⟩),.int .i64 fr,v,.int .i64 b] w (ClRet w g F s fr c b):=by
 obtain ⟨⟨pa,pn,pc⟩,⟨la,ln,lc⟩,xs,rfl,hxl,hrd⟩:=hc;obtain ⟨crt,cix,ce,ch,cp,clv,cto⟩:=c;obtain ⟨EV,hEV⟩:=nm (clE s fr ⟨crt,cix,ce,ch,cp,clv,cto⟩ b);obtain ⟨gq,hgq⟩:=nm (goodB 1 ce);obtain ⟨tq,htq⟩:=nm (goodB 1 cto);obtain ⟨kq,hkq⟩:=nm (clmF (getP s.t) ce);obtain ⟨uq,huq⟩:=nm (useE (getP s.t) crt b);obtain ⟨hq,hhq⟩:=nm (useH (getP s.t) crt b);obtain ⟨oq,hoq⟩:=nm (openR ⟨crt,cix,ce,ch,cp,clv,cto⟩ hq);have HEQ:Hid (clE s fr ⟨crt,cix,ce,ch,cp,clv,cto⟩ b=if gq=false then 2 else if tq=false then 2 else if fr≠kq then 11 else if uq≠0 then uq else if oq≠0 then oq else lpsE s ce cto clv):=hh (by rw [hoq,hhq,huq,hkq,htq,hgq];rfl);have hxl:xs.map (·.1)=clv:=hxl;have hln:ln=clv.length∧ln=xs.length:=by
  have h1:ln=xs.length:=(hrd w (Keep.refl _ _)).2.1.size;rw [← hxl,List.length_map];exact ⟨h1,h1⟩
 have HUP:=hh h.up;have L:=hh (Liv.start h);have HZ:=hh hz;have HF:=hh hf;have HXL:=hh hxl;have HLN:=hh hln;have HRD:Hid (∀ w',Keep (·∈F) w w'→Rd w' hE 32 (.slice pa pn pc) cp∧Rd w' lfE 7 (.slice la ln lc) xs∧∀ x∈xs,Rd w' hE 32 (slV x.2) x.1.p):=hh hrd;have HOK:Hid (COk ⟨crt,cix,ce,ch,cp,clv,cto⟩):=hh hok;have HCH:=hh (show ch.length=32 from hok.1);have HIR:=hh (show I64 crt from hi.1);have HIE:=hh (show I64 ce from hi.2.1);have HIT:=hh (show I64 cto from hi.2.2.1);have HIX:=hh (show ∀ x∈clv,I64 x.t from hi.2.2.2);have HGQ:=hh hgq;have HTQ:=hh htq;have HKQ:=hh hkq;have HUQ:=hh huq;have HHQ:=hh hhq;have HOQ:=hh hoq;have HH32:Hid (hq.length=32):=hh (by rw [hhq];exact q0V _ _ _);obtain ⟨np,hnp⟩:=nm (s.past.length);have HNP:=hh hnp
 unfold ClRet
 rw [← hEV];have HEV:=hh hEV;clear h hz hf hxl hrd hok hi hgq htq hkq huq hhq hoq hln hEV hnp;simp only []
 go_enter_defers Tryz.func9,Tryz.ntmps9
 go_wp2_with (refine sA _ Tryz.zeroEr ?_)
 obtain ⟨w1,hw1⟩:=nm (w.alloc (.cells (clC crt cix ce ch (pa,pn,pc) (la,ln,lc) cto) 31));obtain ⟨C,hC⟩:=nm (w.heap.size);rw [← hw1,← hC];have HC:Hid (w1.heap[C]? = some (.cells (clC crt cix ce ch (pa,pn,pc) (la,ln,lc) cto) 31 (0,0))):=hh (by rw [hw1,hC];exact heap_alloc_new _ _);have hb:Below w.heap.size w w1:=by rw [hw1];exact a0d _ _
 clear hw1 hC;replace L:=hh (L.out.later hb);clear hb;intro E a1 hE;have WE:=mGe hE L.out.keep.size;have NCE:=mNe hE HC;have HE:=hh hE.out.cells;have hbE:=hE.out.below;clear hE;replace L:=hh (L.out.later hbE);replace HC:=bA hbE HC;clear hbE;go_wp2_with fail;obtain ⟨F9,h9⟩:∃ F9,St a1 g s F9:=by obtain ⟨F9,h9,_⟩:=L.out;exact ⟨F9,h9⟩
 refine (c0E h9).mono ?_;rintro e _ ⟨rfl,rfl⟩;clear h9;have cC2:a1.cell? ⟨C,2,none⟩=some (.int .i64 ce):=(Lib.cell_of_heap HC.out 2).trans (clC_2 _ _ _ _ _ _ _);go_wp2_with fail;clear cC2;refine (l0k ce _).mono ?_;rw [← HGQ.out];rintro e _ ⟨rfl,rfl⟩
 cases gq with
 | false=>
  have HW:=hh (cl_no (HEQ.out.trans (by rw [if_pos rfl])) (by decide))
  go_wp2_with (refine a0h rfl 45 _ _ rfl E 0 (.int .i64 2) rfl rfl rfl rfl 45 _ HE.out Tryz.sizeEr (by simp) #[.int .i64 2] rfl ?_)
  intro a2 hxE kE zE;clear zE;replace L:=hh (a0A L.out HE.out rfl kE WE.out);replace HE:=hh hxE;clear hxE kE;go_wp2_with fail
  exact c0d rfl rfl rfl rfl HE.out ⟨_,by rw [HEV.out,HW.out.1],by rw [HW.out.2.2];exact Own.nil _ _ _ _ _,by rw [HW.out.2.1];exact L.out⟩
 | true=>
  have cC37:a1.cell? ⟨C,37,none⟩=some (.int .i64 cto):=(Lib.cell_of_heap HC.out 37).trans (r0S _ _ _ HCH.out _ _ _);go_wp2_with fail;clear cC37;refine (l0k cto _).mono ?_;rw [← HTQ.out];rintro e _ ⟨rfl,rfl⟩
  cases tq with
  | false=>
   have HW:=hh (cl_no (HEQ.out.trans (by rw [if_neg (by decide),if_pos rfl])) (by decide))
   go_wp2_with (refine a0h rfl 45 _ _ rfl E 0 (.int .i64 2) rfl rfl rfl rfl 45 _ HE.out Tryz.sizeEr (by simp) #[.int .i64 2] rfl ?_)
   intro a2 hxE kE zE;clear zE;replace L:=hh (a0A L.out HE.out rfl kE WE.out);replace HE:=hh hxE;clear hxE kE;go_wp2_with fail
   exact c0d rfl rfl rfl rfl HE.out ⟨_,by rw [HEV.out,HW.out.1],by rw [HW.out.2.2];exact Own.nil _ _ _ _ _,by rw [HW.out.2.1];exact L.out⟩
  | true=>
   have cC2:a1.cell? ⟨C,2,none⟩=some (.int .i64 ce):=(Lib.cell_of_heap HC.out 2).trans (clC_2 _ _ _ _ _ _ _);go_wp2_with fail;clear cC2;obtain ⟨F9,h9⟩:∃ F9,St a1 g s F9:=by obtain ⟨F9,h9,_⟩:=L.out;exact ⟨F9,h9⟩
   refine (k0i (Look.of_st h9) HF.out.f HIE.out).mono ?_;rw [← HKQ.out];rintro e a2 ⟨rfl,hb⟩;clear h9;replace L:=hh (L.out.later hb);replace HC:=bA hb HC;replace HE:=bA hb HE;clear hb
   by_cases hk:fr=kq
   ·have hne:(fr != kq)=false:=by simpa using hk
    have HEQ3:Hid (clE s fr ⟨crt,cix,ce,ch,cp,clv,cto⟩ b=if uq≠0 then uq else if oq≠0 then oq else lpsE s ce cto clv):=hh (HEQ.out.trans (by rw [if_neg (by decide),if_neg (by decide),if_neg (fun h=>h hk)]));clear hk HEQ;have HEQ:=HEQ3;clear HEQ3;have cC0:a2.cell? ⟨C,0,none⟩=some (.int .i64 crt):=(Lib.cell_of_heap HC.out 0).trans (clC_0 _ _ _ _ _ _ _);go_wp2_with fail;clear hne cC0;obtain ⟨F9,h9⟩:∃ F9,St a2 g s F9:=by obtain ⟨F9,h9,_⟩:=L.out;exact ⟨F9,h9⟩
    refine (n0D (Look.of_st h9) HF.out.f b HIR.out).mono ?_;rw [← HUQ.out,← HHQ.out];rintro e a3 ⟨rfl,hb⟩;clear h9;replace L:=hh (L.out.later hb);replace HC:=bA hb HC;replace HE:=bA hb HE;clear hb
    go_wp2_with (refine sA _ Tryz.zeroHash ?_)
    intro H a4 hH;have WH:=mGe hH L.out.keep.size;have NCH:=mNe hH HC;have NEH:=mNe hH HE;have HH:=hh hH.out.cells;have hbH:=hH.out.below;clear hH;replace L:=hh (L.out.later hbH);replace HC:=bA hbH HC;replace HE:=bA hbH HE;clear hbH
    go_wp2_with (refine a0a (t:=27) (old:=(cB 32 [])) rfl 27 _ _ rfl H (c8 hq) rfl rfl HH.out (Tryz.sizeHc _ HH32.out) (by rw [a0m,HH32.out];rfl) (g0e _) ?_)
    intro a5 hxH kH zH;clear zH;replace L:=hh (a0A L.out HH.out rfl kH WH.out);replace HC:=ka1 kH HC NCH;replace HE:=ka1 kH HE NEH;replace HH:=hh hxH;clear hxH kH
    go_wp2_with (refine a0h rfl 45 _ _ rfl E 0 (.int .i64 uq) rfl rfl rfl rfl 45 _ HE.out Tryz.sizeEr (by simp) #[.int .i64 uq] rfl ?_)
    intro a6 hxE kE zE;clear zE;replace L:=hh (a0A L.out HE.out rfl kE WE.out);replace HC:=ka1 kE HC NCE;replace HH:=kb1 kE HH NEH;replace HE:=hh hxE;clear hxE kE
    by_cases hu:uq=0
    ·have hne:(uq != 0)=false:=by simpa using hu
     have HEQ3:Hid (clE s fr ⟨crt,cix,ce,ch,cp,clv,cto⟩ b=if oq≠0 then oq else lpsE s ce cto clv):=hh (HEQ.out.trans (by rw [if_neg (fun h=>h hu)]));subst hu;clear HEQ;have HEQ:=HEQ3;clear HEQ3;have cE:a6.cell? ⟨E,0,none⟩=some (.int .i64 0):=Lib.cell_of_heap HE.out 0
     go_wp2_with (first
      | (refine lR HC Tryz.underlying31 (Tryz.sizeCl _ _ _ HCH.out _ _ _) ?_)
      | (refine lR HH Tryz.underlying27 (Tryz.sizeHc _ HH32.out) ?_))
     clear hne cE;refine (n0I _ _ ⟨crt,cix,ce,ch,cp,clv,cto⟩ hq ⟨(pa,pn,pc),(la,ln,lc),rfl,(HRD.out _ L.out.keep).1,xs,HXL.out,(HRD.out _ L.out.keep).2.1,(HRD.out _ L.out.keep).2.2⟩ HOK.out HH32.out).mono ?_;rw [← HOQ.out];rintro e a7 ⟨rfl,hb⟩;replace L:=hh (L.out.later hb);replace HC:=bA hb HC;replace HE:=bA hb HE;clear hb
     by_cases ho:oq=0
     ·have hne:(oq != 0)=false:=by simpa using ho
      have HEQ3:Hid (clE s fr ⟨crt,cix,ce,ch,cp,clv,cto⟩ b=lpsE s ce cto clv):=hh (HEQ.out.trans (by rw [if_neg (fun h=>h ho)]));have HL8:Hid (clv.length≤8):=hh (n0k (HOQ.out.symm.trans ho));clear ho HEQ;have HEQ:=HEQ3;clear HEQ3;go_wp2_with fail;clear hne;obtain ⟨F9,h9⟩:∃ F9,St a7 g s F9:=by obtain ⟨F9,h9,_⟩:=L.out;exact ⟨F9,h9⟩
      refine (g0d h9).mono ?_;rw [← HNP.out];rintro e _ ⟨rfl,rfl⟩;clear h9;clear HH;have cC36:a7.cell? ⟨C,36,none⟩=some (.slice la ln lc):=(Lib.cell_of_heap HC.out 36).trans (f0M _ _ _ HCH.out _ _ _);go_wp2_with fail;clear cC36;obtain ⟨M,hM⟩:=nm (w.heap.size);have HM:=hh hM;clear hM
      go_loopw [12,62] (fun vo vi wr=>∃ (i:Nat),vi = .int .i64 i∧i≤ln∧Hid (lpsE s ce cto (clv.take i)=0)∧Hid (Own wr w.heap.size 25 uE 4 vo (lpsV s ce cto (clv.take i)))∧Hid (Liv w F wr g (s.lps ce cto (clv.take i)))∧Hid (wr.heap[C]? = some (.cells (clC crt cix ce ch (pa,pn,pc) (la,ln,lc) cto) 31 (0,0)))∧Hid (wr.heap[E]? = some (.cells #[.int .i64 0] 45 (0,0)))) (fun _ vi _=>ln - (intOf vi).toNat)
      case atStart=>exact ⟨0,rfl,Nat.zero_le _,hh rfl,hh (Own.nil _ _ _ _ _),L,HC,HE⟩
      case round=>
       clear L HC HE;obtain ⟨i,rfl,hin,HPE,HO,L,HC,HE⟩:=hrel;obtain ⟨si,hsi⟩:=nm (s.lps ce cto (clv.take i));obtain ⟨vl,hvl⟩:=nm (lpsV s ce cto (clv.take i));rw [← hsi] at L;rw [← hvl] at HO;have HSI:=hh hsi;have HVL:=hh hvl;have HSZ:Hid (si.sz < 900000):=hh (by have h1:=s0X ce cto (clv.take i) s;have h2:=HZ.out;have h3:=HL8.out;rw [List.length_take] at h1;rw [hsi];omega);have HFI:Hid (Fit si):=hh (by rw [hsi];exact s0h _ _ _ HF.out);have HEX:Hid (Ext s si):=hh (by rw [hsi];exact Ext.lps _ _ _ (Ext.refl HUP.out));clear hsi hvl
       by_cases hlt:i < ln
       ·have hi:i < xs.length:=by have:=HLN.out;omega
        have hic:i < clv.length:=by have:=HLN.out;omega
        obtain ⟨bb,off,hla,c0,c1,c2,c3,c4,c5,c6⟩:=(HRD.out _ L.out.keep).2.1.leaf i hi;have hxi:xs[i].1=clv[i]:=by
         have h1:(xs.map (·.1))[i]'(by rw [List.length_map];exact hi)=xs[i].1:=List.getElem_map _;rw [← h1];congr 1<;>exact HXL.out
        have hlo:=HOK.out.2.2.2.2 clv[i] (List.getElem_mem hic);have hli:=HIX.out clv[i] (List.getElem_mem hic);have htk:clv.take (i+1)=clv.take i ++ [clv[i]]:=by rw [List.take_succ_eq_append_getElem hic]
        have hap:=o0S ce cto [clv[i]] (clv.take i) s;rw [← htk] at hap;have hal:=o0S ce cto (clv.drop i) (clv.take i) s;rw [List.take_append_drop,List.drop_eq_getElem_cons hic] at hal;obtain ⟨sp,hsp⟩:=nm (xs[i].2);rw [hxi] at c0 c1 c2 c3 c4 c5;rw [← hsp] at c6;obtain ⟨x,hx⟩:=nm (clv[i]);rw [← hx] at c0 c1 c2 c3 c4 c5 hlo hli hap hal;rw [HPE.out,if_pos rfl,← HSI.out,← HVL.out] at hap;rw [HPE.out,if_pos rfl,← HSI.out] at hal;obtain ⟨xi,xt,xm,xp⟩:=x;obtain ⟨sa,sn,sc⟩:=sp;obtain ⟨lE,hlE⟩:=nm (lpE si ce cto xt xm);obtain ⟨lV,hlV⟩:=nm (lpV si ce cto xt xm);obtain ⟨s2,hs2⟩:=nm (si.lp ce cto xt xm);have HXT:=hh (show I64 xt from hli);have HXM:=hh (show xm < uMax from hlo.2.2.1);have HAP:Hid (lpsE s ce cto (clv.take (i+1))=lE∨lE≠0):=hh (by
         by_cases h0:lE=0
         ·refine .inl ?_;rw [hap.1];show (if lpE si ce cto xt xm=0 then lpsE (si.lp ce cto xt xm) ce cto [] else lpE si ce cto xt xm)=lE;rw [← hlE,if_pos h0,h0];rfl
         ·exact .inr h0)
        have HAPS:Hid (s.lps ce cto (clv.take (i+1))=s2∧lpsV s ce cto (clv.take (i+1))=vl ++ [lV]):=hh ⟨by rw [hap.2.1,hs2];rfl,by rw [hap.2.2,hlV];rfl⟩;have HAL:Hid (lE≠0→lpsE s ce cto clv=lE):=hh (fun h0=>by
         rw [hal.1];show (if lpE si ce cto xt xm=0 then _ else lpE si ce cto xt xm)=lE;rw [← hlE,if_neg h0])
        have HLE:=hh hlE;have HLV:=hh hlV;have HS2:=hh hs2;have HVLT:Hid (lV < uMax):=hh (by rw [hlV];unfold lpV;split;exact Nat.lt_of_le_of_lt (Nat.sub_le _ _) hlo.2.2.1;decide);have HJL:=hh hlt;have HVN:Hid (vl.length=i):=hh (by rw [HVL.out,r0k,List.length_take];omega);clear hxi hlo hli htk hap hal hx hsp hlE hlV hs2 hi hic;simp only [] at c0 c1 c2 c3 c4 c5;replace c6:wr.cell? ⟨bb,off+i*7+6,none⟩=some (.slice sa sn sc):=c6;subst hla
        go_wp2_with (refine sA _ Tryz.zeroLf ?_)
        intro Y b1 hY
        go_wp2_with (refine a0a (t:=72) (old:=lfZ) rfl 72 _ _ rfl Y (lfC xi xt xm (sa,sn,sc)) rfl rfl hY.out.cells Tryz.sizeLf rfl (e0p _ _ _ _) ?_)
        intro b2 hxY kY zY;clear zY;have hbY:Below wr.heap.size wr b2:=hY.out.below.trans (kY.below (B:=wr.heap.size) (fun x hx e=>by have:=hY.out.eq;omega) hY.out.below.size);have WY:=mGe hY L.out.keep.size;have NCY:=mNe hY HC;have NEY:=mNe hY HE;have HY:=hh hxY;clear hY hxY kY;replace L:=hh (L.out.later hbY);replace HC:=bA hbY HC;replace HE:=bA hbY HE;replace HO:=hh (HO.out.later hbY);clear hbY;clear c0 c1 c2 c3 c4 c5 c6 hlt
        go_wp2_with (first
         | (refine lR HC Tryz.underlying31 (Tryz.sizeCl _ _ _ HCH.out _ _ _) ?_)
         | (refine lR HY Tryz.underlying72 Tryz.sizeLf ?_))
        refine (L.out.call fun F hs=>q0u hs HSZ.out HFI.out HCH.out HIE.out HIT.out HXT.out HXM.out).mono ?_;rw [← HLE.out,← HLV.out,← HS2.out];rintro e b3 ⟨rfl,o,hoth⟩;replace L:=hh o;replace HC:=oA hoth HC;replace HE:=oA hoth HE;replace HO:=hh (f0A HO.out hoth);clear o hoth;clear HY
        go_wp2_with (refine sA _ Tryz.zeroUz ?_)
        intro Z b4 hZ
        go_wp2_with (refine a0a (t:=25) (old:=u0) rfl 25 _ _ rfl Z #[.int .u64 (uw0 lV),.int .u64 (uw1 lV),.int .u64 (uw2 lV),.int .u64 (uw3 lV)] rfl rfl hZ.out.cells Tryz.sizeU rfl (a0Y _ _ _ _) ?_)
        intro b5 hxZ kZ zZ;clear zZ;have hbZ:Below b3.heap.size b3 b5:=hZ.out.below.trans (kZ.below (B:=b3.heap.size) (fun x hx e=>by have:=hZ.out.eq;omega) hZ.out.below.size);have WZ:=mGe hZ L.out.keep.size;have NCZ:=mNe hZ HC;have NEZ:=mNe hZ HE;have HZ:=hh hxZ;clear hZ hxZ kZ;replace L:=hh (L.out.later hbZ);replace HC:=bA hbZ HC;replace HE:=bA hbZ HE;replace HO:=hh (HO.out.later hbZ);clear hbZ
        by_cases hz0:lE=0
        ·have hne:(lE != 0)=false:=by simpa using hz0
         have HP2:Hid (lpsE s ce cto (clv.take (i+1))=0):=hh (by rcases HAP.out with h1 | h1;exact h1.trans hz0;exact absurd hz0 h1);clear hz0
         go_wp2_with (first
          | (refine lR HZ Tryz.underlying25 Tryz.sizeU ?_)
          | (at_builtin;refine i0h rfl _ _ _ rfl Tryz.underlying44 Tryz.infoU4 rfl (by decide) (B:=w.heap.size) (base:=w.heap.size) (w0:=b5) (us:=#[.int .u64 (uw0 lV),.int .u64 (uw1 lV),.int .u64 (uw2 lV),.int .u64 (uw3 lV)]) lV HO.out rfl rfl rfl (k0P _) (t0e _) (by rw [HVN.out];have:=HJL.out;have:=HLN.out;have:=HL8.out;unfold maxLen;omega) (by rw [HVN.out];have:=HJL.out;have:=HLN.out;have:=HL8.out;omega) (Below.refl _ _ |>.mono L.out.keep.size) (Nat.le_refl _) L.out.keep.size L.out.keep.size ?_))
         intro v' w7 hown7 hb7 hg7 _;have L7:=hh (n0e L.out HO.out (Nat.le_refl _) hg7);have HC7:=hh (HO.out.apart_at hg7 HC.out (by decide));have HE7:=hh (HO.out.apart_at hg7 HE.out (by decide));have HO7:=hh hown7;clear hown7 hb7 hg7 hne L HC HE HO HZ;have hj8:i < 9:=by have:=HL8.out;have:=HLN.out;have:=HJL.out;omega
         go_wp2_with fail
         go_roundw
         case rel=>exact ⟨i+1,by go_num,HJL.out,HP2,by rw [HAPS.out.2];exact HO7,by rw [HAPS.out.1];exact L7,HC7,HE7⟩
         case measure=>have:=HJL.out;simp [intOf];omega
        ·have hne:(lE != 0)=true:=by simpa using hz0
         have HW:=hh (cl_no (HEQ.out.trans (HAL.out hz0)) hz0);have HNZ:=hh hz0;have HSS:Hid (s2=si):=hh (HS2.out.trans (lp_no HLE.out.symm hz0).2.1);clear hz0;clear HO HZ;have h9:=L.out;rw [HSS.out] at h9;clear L;have L:=hh h9;clear h9
         go_wp2_with (refine a0h rfl 45 _ _ rfl E 0 (.int .i64 lE) rfl rfl rfl rfl 45 _ HE.out Tryz.sizeEr (by simp) #[.int .i64 lE] rfl ?_)
         intro b6 hxE kE zE;clear zE;replace L:=hh (a0A L.out HE.out rfl kE WE.out);replace HE:=hh hxE;clear hxE kE;go_wp2_with fail;clear hne;obtain ⟨F9,h9,hk9,hf9⟩:=L.out;refine leaves_cons (f:=35) (args:=#[.pointer (some ⟨g,0,none⟩),.int .i64 (np:Int),.pointer (some ⟨E,0,none⟩)]) (by simp) (by simp [go_sem]) ?_;refine (n0T h9 (by have:=HSZ.out;omega) HE.out np .returning).mono ?_;rintro e u' wd ⟨rfl,rfl,hL⟩;have hoth:=Oth.of_st h9 hL.keep;have HE9:=oA hoth HE;have hL9:=Liv.on hk9 hf9 hL;rw [if_neg HNZ.out,show si.undo np=s from (by rw [HNP.out];exact HEX.out.undo.1)] at hL9
         change Go.Leaves _ _ _ _ _ _ _
         exact h0y rfl rfl rfl HE9.out ⟨_,by rw [HEV.out,HW.out.1],by rw [HW.out.2.2];exact Own.nil _ _ _ _ _,by rw [HW.out.2.1];exact hL9⟩
       ·obtain rfl:i=ln:=by omega
        have htk:clv.take i=clv:=List.take_of_length_le (by have:=HLN.out;omega);have HW:=hh (r0I (HEQ.out.trans (htk▸HPE.out)));have HSE:Hid (si=s.lps ce cto clv∧vl=lpsV s ce cto clv):=hh ⟨by rw [HSI.out,htk],by rw [HVL.out,htk]⟩;clear htk hlt hin
        go_wp2_with (refine a0h rfl 45 _ _ rfl E 0 (.int .i64 0) rfl rfl rfl rfl 45 _ HE.out Tryz.sizeEr (by simp) #[.int .i64 0] rfl ?_)
        intro b1 hxE kE zE;clear zE;replace L:=hh (a0A L.out HE.out rfl kE WE.out);replace HO:=hh (HO.out.keep kE (fun x hx e=>by obtain ⟨cs,fr,h⟩:=HO.out.cellsAt hx;rw [e,HE.out] at h;cases h));replace HE:=hh hxE;clear hxE kE;go_wp2_with fail;obtain ⟨F9,h9,hk9,hf9⟩:=L.out;refine leaves_cons (f:=35) (args:=#[.pointer (some ⟨g,0,none⟩),.int .i64 (np:Int),.pointer (some ⟨E,0,none⟩)]) (by simp) (by simp [go_sem]) ?_;refine (n0T h9 (by have:=HSZ.out;omega) HE.out np .returning).mono ?_;rintro e u' wd ⟨rfl,rfl,hL⟩;have hoth:=Oth.of_st h9 hL.keep;have HE9:=oA hoth HE;have hL9:=Liv.on hk9 hf9 hL;rw [if_pos rfl] at hL9
        change Go.Leaves _ _ _ _ _ _ _
        exact h0y rfl rfl rfl HE9.out ⟨_,by rw [HEV.out,HW.out.1],by rw [HW.out.2.2,← HSE.out.2];exact (f0A HO.out hoth),by rw [HW.out.2.1,← HSE.out.1];exact hL9⟩
     ·have hne:(oq != 0)=true:=by simpa using ho
      have HW:=hh (cl_no (HEQ.out.trans (by rw [if_pos ho])) (by assumption))
      go_wp2_with (refine a0h rfl 45 _ _ rfl E 0 (.int .i64 oq) rfl rfl rfl rfl 45 _ HE.out Tryz.sizeEr (by simp) #[.int .i64 oq] rfl ?_)
      intro a8 hxE kE zE;clear zE;replace L:=hh (a0A L.out HE.out rfl kE WE.out);replace HE:=hh hxE;clear hxE kE;go_wp2_with fail
      exact c0d rfl rfl rfl rfl HE.out ⟨_,by rw [HEV.out,HW.out.1],by rw [HW.out.2.2];exact Own.nil _ _ _ _ _,by rw [HW.out.2.1];exact L.out⟩
    ·have hne:(uq != 0)=true:=by simpa using hu
     have HW:=hh (cl_no (HEQ.out.trans (by rw [if_pos hu])) hu);have cE:a6.cell? ⟨E,0,none⟩=some (.int .i64 uq):=Lib.cell_of_heap HE.out 0;go_wp2_with fail;clear hu hne cE;refine nopanic ?_;obtain ⟨a7,hwz,hbz⟩:=dr a6;replace L:=hh (L.out.later hbz);replace HE:=bA hbz HE;clear hbz;refine rg1 3 3 hwz HE fun hS=>?_
     clear hwz;refine tk 0 (some 49) rfl rfl (.inl ⟨by rfl,fun w' hS'=>(by have hc:w'.cell? ⟨E,0,none⟩=some (.int .i64 uq):=Lib.cell_of_heap (hS') 0;go_simp;rfl)⟩) hS ?_;go_frame;refine tA1 1 8 hS ?_;go_frame;refine t1 2 fun K hK=>?_
     simp only [gA,jB,gC];refine a0q 45 _ _ rfl E 0 (.int .i64 uq) rfl rfl rfl rfl 45 _ HE.out Tryz.sizeEr (by simp) #[.int .i64 uq] rfl ?_;intro a8 hxE kE zE;clear zE;replace L:=hh (a0A L.out HE.out rfl kE WE.out);replace HE:=hh hxE;clear hxE kE;replace hS:=HE.out;refine hK _ _ (fun _ _=>hS) ?_;clear hK;refine tD ?_;clear hS
     dsimp only
     go_wp2_with fail
     exact c0d rfl rfl rfl rfl HE.out ⟨_,by rw [HEV.out,HW.out.1],by rw [HW.out.2.2];exact Own.nil _ _ _ _ _,by rw [HW.out.2.1];exact L.out⟩
   ·have hne:(fr != kq)=true:=by simpa using hk
    have HW:=hh (cl_no (HEQ.out.trans (by rw [if_neg (by decide),if_neg (by decide),if_pos hk])) (by decide))
    go_wp2_with (refine a0h rfl 45 _ _ rfl E 0 (.int .i64 11) rfl rfl rfl rfl 45 _ HE.out Tryz.sizeEr (by simp) #[.int .i64 11] rfl ?_)
    intro a3 hxE kE zE;clear zE;replace L:=hh (a0A L.out HE.out rfl kE WE.out);replace HE:=hh hxE;clear hxE kE;go_wp2_with fail
    exact c0d rfl rfl rfl rfl HE.out ⟨_,by rw [HEV.out,HW.out.1],by rw [HW.out.2.2];exact Own.nil _ _ _ _ _,by rw [HW.out.2.1];exact L.out⟩
end Go.Proofs.YtakkfabaeolbdaaGreat
