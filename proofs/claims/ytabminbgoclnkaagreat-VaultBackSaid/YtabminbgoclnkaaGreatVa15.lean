/- Law 19: acts, read; the example. No condition. Law 19: acts on both stores. No condition. -/
import Derived.Test.YtabminbgoclnkaaGreatVaVauC
import Derived.Test.YtabminbgoclnkaaGreatVaVauD
import Derived.Deep.Cut
namespace Go.Proofs.YtabminbgoclnkaaGreat
section
set_option maxHeartbeats 16000000
set_option maxRecDepth 100000
open Go.RowKit

structure Act19 where
 k:Int
 g:Int
 n:Int
 who:Int
 on:Bool
 m:Nat
def act19E (a:Act19):List Value:=[.int .i64 a.k,.int .i64 a.g,.int .i64 a.n,.int .i64 a.who,.bool a.on,.int .u64 (uw0 a.m),.int .u64 (uw1 a.m),.int .u64 (uw2 a.m),.int .u64 (uw3 a.m)]
theorem i0W (a:Act19):(act19E a).length=9:=rfl
structure Good19 (w:World) (a:Act19):Prop where
 b_k:-9223372036854775808≤a.k∧a.k < 9223372036854775808
 b_g:-9223372036854775808≤a.g∧a.g < 9223372036854775808
 b_n:-9223372036854775808≤a.n∧a.n < 9223372036854775808
 b_who:-9223372036854775808≤a.who∧a.who < 9223372036854775808
 lt_m:a.m < uMax
theorem Good19.later {w w':World} {a:Act19} (h:Good19 w a) (_hb:Below w.heap.size w w'):Good19 w' a:=⟨h.b_k,h.b_g,h.b_n,h.b_who,h.lt_m⟩
theorem Rd.act19 {w:World} {ad:Option Addr} {n cap:Nat} {t:List Act19} (h:Rd w act19E 9 (.slice ad n cap) t) (i:Nat) (hi:i < t.length) :
  ∃ g off,ad=some ⟨g,off,none⟩∧g < w.heap.size∧w.cell? ⟨g,off+i*9,none⟩=some (.int .i64 t[i].k)∧w.cell? ⟨g,off+i*9+1,none⟩=some (.int .i64 t[i].g)∧w.cell? ⟨g,off+i*9+2,none⟩=some (.int .i64 t[i].n)∧w.cell? ⟨g,off+i*9+3,none⟩=some (.int .i64 t[i].who)∧w.cell? ⟨g,off+i*9+4,none⟩=some (.bool t[i].on)∧w.cell? ⟨g,off+i*9+5,none⟩=some (.int .u64 (uw0 t[i].m))∧w.cell? ⟨g,off+i*9+6,none⟩=some (.int .u64 (uw1 t[i].m))∧w.cell? ⟨g,off+i*9+7,none⟩=some (.int .u64 (uw2 t[i].m))∧w.cell? ⟨g,off+i*9+8,none⟩=some (.int .u64 (uw3 t[i].m)):=by
 have hne:t≠[]:=by rintro rfl;simp at hi
 obtain ⟨ax,cx,e3,_,_,h3⟩:=h;obtain ⟨b,off,e4,hb,h5⟩:=h3 hne
 exact ⟨b,off,(Value.slice.inj e3).1.trans e4,hb,h5 i hi 0 (by decide),h5 i hi 1 (by decide),h5 i hi 2 (by decide),h5 i hi 3 (by decide),h5 i hi 4 (by decide),h5 i hi 5 (by decide),h5 i hi 6 (by decide),h5 i hi 7 (by decide),h5 i hi 8 (by decide)⟩
theorem Tryz.zeroAct19 (w:World):(zeroValue 35).run Tryz.prog w = .ok (.agg #[.int .i64 0,.int .i64 0,.int .i64 0,.int .i64 0,.bool false,.int .u64 0,.int .u64 0,.int .u64 0,.int .u64 0]) w:=by kernel_rfl
theorem Tryz.sizeAct19:(Tryz.prog.info? 35).map (·.size)=some 9:=by kernel_rfl
theorem k0S {w w' w0:World} {g:Nat} {s:PS} {X:Nat} {cs:Array Value} {T:TypeId} (h:One w0 w g s) (hX:w.heap[X]? = some (.cells cs T (0,0))) (hT:stoKind (.cells cs T (0,0))=false) (hk:Keep (· = X) w w') (hw:w0.heap.size≤X):One w0 w' g s:=by
 obtain ⟨F,h1,h2,h3⟩:=h;refine ⟨F,h1.keep hk fun x hx e=>?_,h2,h3.trans (hk.below (B:=w0.heap.size) (fun y hy e=>by omega) h3.size)⟩;obtain ⟨o,ho,hs⟩:=h1.kind x hx;subst e;rw [hX] at ho
 cases ho
 rw [hT] at hs
 cases hs

theorem e0s (w:World):Calls Tryz.prog 6 #[] w (Ret w (.bool true)):=by
 have a1:newV (PS.new.mint 1 7 5000) 1=1:=by decide +kernel
 have a2:newE (PS.new.mint 1 7 5000) 1=0:=by decide +kernel
 have a3:depV ((PS.new.mint 1 7 5000).newS 1) 1 7 100=100:=by decide +kernel
 have a4:depE ((PS.new.mint 1 7 5000).newS 1) 1 7 100=0:=by decide +kernel
 have a5:donE (((PS.new.mint 1 7 5000).newS 1).dep 1 7 100) 1 7 1100=0:=by decide +kernel
 have a6:worV (getP ((((PS.new.mint 1 7 5000).newS 1).dep 1 7 100).don 1 7 1100).t) 1 100=200:=by decide +kernel
 have u0':Up PS.new.t:=List.Pairwise.nil;obtain ⟨s1,hs1⟩:=nm (PS.new.mint 1 7 5000);obtain ⟨s2,hs2⟩:=nm (s1.newS 1);obtain ⟨s3,hs3⟩:=nm (s2.dep 1 7 100);obtain ⟨s4,hs4⟩:=nm (s3.don 1 7 1100);rw [← hs1] at a1 a2 a3 a4 a5 a6;rw [← hs2] at a3 a4 a5 a6;rw [← hs3] at a5 a6;rw [← hs4] at a6;have f1:Fit s1:=by rw [hs1];exact i0H Fit.new u0' _ _ _
 have f2:Fit s2:=by rw [hs2];exact i0M f1 _
 have f3:Fit s3:=by rw [hs3];exact j0C f2 _ _ _
 have f4:Fit s4:=by rw [hs4];exact k0x f3 _ _ _
 have z1:s1.sz≤4:=by have h:=k0Z u0' 1 7 5000;rw [hs1];exact h
 have z2:s2.sz≤8:=by have h:=k0u s1 1;rw [hs2];omega
 have z3:s3.sz≤14:=by have h:=m0B s2 1 7 100;rw [hs3];omega
 have A1:=hh a1;have A2:=hh a2;have A3:=hh a3;have A4:=hh a4;have A5:=hh a5;have A6:=hh a6;have S1:=hh hs1;have S2:=hh hs2;have S3:=hh hs3;have S4:=hh hs4;have F1:=hh f1;have F2:=hh f2;have F3:=hh f3;have F4:=hh f4;have Z1:=hh z1;have Z2:=hh z2;have Z3:=hh z3;clear a1 a2 a3 a4 a5 a6 u0' hs1 hs2 hs3 hs4 f1 f2 f3 f4 z1 z2 z3
 go_enter Tryz.func6,Tryz.ntmps6
 go_wp2_with fail;refine (i0s _).mono ?_;rintro e w1 ⟨g,F,rfl,q1,hb3,q3⟩;have O:Hid (One w w1 g PS.new):=hh ⟨F,q1,q3,hb3⟩;clear q1 hb3 q3;go_wp2_with fail;refine (O.out.st fun F hs=>h0M hs (by rw [show PS.new.sz=0 from rfl];omega) Fit.new (t:=1) (n:=7) (by unfold I64;omega) (by unfold I64;omega) (m:=5000) (by unfold UIs;omega)).mono ?_;rw [← S1.out];rintro e w2 ⟨rfl,o,_⟩;replace O:=hh o;clear o;go_wp2_with fail;refine (O.out.st fun F hs=>i0q hs (by have:=Z1.out;omega) F1.out (t:=1) (by unfold I64;omega)).mono ?_;rw [A1.out,A2.out,← S2.out];rintro e w3 ⟨rfl,o,_⟩;replace O:=hh o;clear o;go_wp2_with fail;refine (O.out.st fun F hs=>d0H hs (by have:=Z2.out;omega) F2.out (g:=1) (fr:=7) (by unfold I64;omega) (by unfold I64;omega) (m:=100) (by unfold UIs;omega)).mono ?_;rw [A3.out,A4.out,← S3.out];rintro e w4 ⟨rfl,o,_⟩;replace O:=hh o;clear o
 go_wp2_with (refine sA _ Tryz.zeroUz ?_)
 intro X w5 hX;have WX:=mGe hX O.out.below.size;have Om:=hh (O.out.later hX.out.below);have HX:=hh hX.out.cells;clear hX O;have O:=Om;clear Om
 go_wp2_with (refine sR 25 #[.int .u64 (uw0 100),.int .u64 (uw1 100),.int .u64 (uw2 100),.int .u64 (uw3 100)] HX Tryz.sizeU ?_)
 intro w6 hx kx zx;have Om:=hh (k0S O.out HX.out rfl kx WX.out);clear O HX;have HX:=hh hx;have O:=Om;clear Om hx kx zx;go_wp2_with fail;refine (O.out.st fun F hs=>e0n hs (by have:=Z3.out;omega) F3.out (g:=1) (fr:=7) (by unfold I64;omega) (by unfold I64;omega) (m:=1100) (by unfold UIs;omega)).mono ?_;rw [A5.out,← S4.out];rintro e w7 ⟨rfl,o,hoth⟩;have Om:=hh o;have HXm:=oA hoth HX;clear o O HX hoth;have O:=Om;have HX:=HXm;clear Om HXm;have e7:=Tryz.eqUn (uw_is (show (100:Nat) < uMax by decide)) (a':=100) (b':=0) (c':=0) (d':=0) (m:=100) (by unfold UIs;omega);rw [decide_eq_true rfl] at e7;have c0:w7.cell? ⟨X,0,none⟩=some (.int .u64 (uw0 100)):=Lib.cell_of_heap HX.out 0;have c1:w7.cell? ⟨X,1,none⟩=some (.int .u64 (uw1 100)):=Lib.cell_of_heap HX.out 1;have c2:w7.cell? ⟨X,2,none⟩=some (.int .u64 (uw2 100)):=Lib.cell_of_heap HX.out 2;have c3:w7.cell? ⟨X,3,none⟩=some (.int .u64 (uw3 100)):=Lib.cell_of_heap HX.out 3;go_wp2_with fail;clear e7 c0 c1 c2 c3;obtain ⟨F9,h9⟩:=O.out.get;refine (f0l (Look.of_st h9) F4.out.f (g:=1) (by unfold I64;omega) (n:=100) (by unfold UIs;omega)).mono ?_;rw [A6.out];rintro e w8 ⟨ya,yb,yc,yd,hu,rfl,hb⟩;have e7:=Tryz.eqUn hu (a':=200) (b':=0) (c':=0) (d':=0) (m:=200) (by unfold UIs;omega);rw [decide_eq_true rfl] at e7;replace O:=hh (O.out.later hb);clear hb hu h9;go_wp2_with fail
 clear e7
 go_ret
 exact ⟨rfl,O.out.below⟩
end
section
set_option maxHeartbeats 16000000
set_option maxRecDepth 100000
open Go.RowKit

theorem Two.up {w0 w:World} {g h:Nat} {s1 s2:PS} (t:Two w0 w g h s1 s2):Up s1.t:=by
 obtain ⟨F,G,h1,_⟩:=t;exact h1.up
theorem b0l {w w' w0:World} {g h:Nat} {s s2:PS} {X:Nat} {cs:Array Value} {T:TypeId} (t:Two w0 w g h s s2) (hX:w.heap[X]? = some (.cells cs T (0,0))) (hT:stoKind (.cells cs T (0,0))=false) (hR:rstKind (.cells cs T (0,0))=false) (hk:Keep (· = X) w w') (hw:w0.heap.size≤X):Two w0 w' g h s s2:=by
 obtain ⟨F,G,h1,h2,h3,h4,h5⟩:=t;refine ⟨F,G,h1.keep hk fun x hx e=>?_,h2.keep hk fun x hx e=>?_,h3,h4,h5.trans (hk.below (B:=w0.heap.size) (fun y hy e=>by omega) h5.size)⟩
 ·obtain ⟨o,ho,hs⟩:=h1.kind x hx;subst e;rw [hX] at ho
  cases ho
  rw [hT] at hs
  cases hs
 ·obtain ⟨o,ho,hs⟩:=h2.kind x hx;subst e;rw [hX] at ho
  cases ho
  rw [hR] at hs
  cases hs

theorem b0N {w a b:World} {A:Nat} (h:Oth w a) (hk:Keep (· = A) a b) (hA:w.heap.size≤A):Oth w b:=
 ⟨Nat.le_trans h.1 hk.size,fun R o hR h1 h2=>hk.at (h.2 R o hR h1 h2) (fun e=>by have:=a0e hR;omega)⟩
def do19 (s:PS) (a:Act19):PS:=if a.k=0 then s.mint a.n a.who a.m else if a.k=1 then s.newS a.n else if a.k=2 then s.allow a.g a.on else if a.k=3 then s.dep a.g a.who a.m else if a.k=4 then s.don a.g a.who a.m else if a.k=5 then s.red a.g a.who a.m else if a.k=6 then s.bur a.g a.m else s
theorem m0Y {s:PS} (hu:Up s.t) (a:Act19):(do19 s a).sz≤s.sz+6:=by
 unfold do19
 split
 ·have:=k0Z hu a.n a.who a.m;omega
 split
 ·have:=k0u s a.n;omega
 split
 ·have:=m0l s a.g a.on;omega
 split
 ·exact m0B _ _ _ _
 split
 ·have:=n0v s a.g a.who a.m;omega
 split
 ·exact n0G _ _ _ _
 split
 ·exact n0w _ _ _
 ·omega
theorem m0o {s:PS} (hf:Fit s) (hu:Up s.t) (a:Act19):Fit (do19 s a):=by
 unfold do19
 split
 ·exact i0H hf hu _ _ _
 split
 ·exact i0M hf _
 split
 ·exact k0M hf _ _
 split
 ·exact j0C hf _ _ _
 split
 ·exact k0x hf _ _ _
 split
 ·exact m0Q hf _ _ _
 split
 ·exact n0o hf _ _
 ·exact hf

theorem j0M {w0 w:World} {g h:Nat} {s:PS} (T:Two w0 w g h s s) (hz:s.sz < 800000) (hf:Fit s) {a:Act19} (ha:Good19 w a) :
  Calls Tryz.prog 8 #[.pointer (some ⟨g,0,none⟩),.pointer (some ⟨h,0,none⟩),.agg #[.int .i64 a.k,.int .i64 a.g,.int .i64 a.n,.int .i64 a.who,.bool a.on,.int .u64 (uw0 a.m),.int .u64 (uw1 a.m),.int .u64 (uw2 a.m),.int .u64 (uw3 a.m)]] w (fun e w'=>e = .returned (.bool true)∧Two w0 w' g h (do19 s a) (do19 s a)∧Oth w w'):=by
 have TF:=hh T;have HZ:=hh hz;have HF:=hh hf;have HAC:=hh ha;have OT:Hid (Oth w w):=hh (Oth.of_below (Below.refl _ _));clear T hz hf ha
 go_enter Tryz.func8,Tryz.ntmps8
 go_upto_region 1 with fail
 obtain ⟨w1,hw1⟩:=nm (w.alloc (.cells #[.int .i64 a.k,.int .i64 a.g,.int .i64 a.n,.int .i64 a.who,.bool a.on,.int .u64 (uw0 a.m),.int .u64 (uw1 a.m),.int .u64 (uw2 a.m),.int .u64 (uw3 a.m)] 35));obtain ⟨X,hX⟩:=nm (w.heap.size);rw [← hw1,← hX];have HX:Hid (w1.heap[X]? = some (.cells #[.int .i64 a.k,.int .i64 a.g,.int .i64 a.n,.int .i64 a.who,.bool a.on,.int .u64 (uw0 a.m),.int .u64 (uw1 a.m),.int .u64 (uw2 a.m),.int .u64 (uw3 a.m)] 35 (0,0))):=hh (by rw [hw1,hX];exact heap_alloc_new _ _);have hb:Below w.heap.size w w1:=by rw [hw1];exact a0c _ _
 clear hw1 hX;replace TF:=hh (TF.out.later hb);replace OT:=hh (OT.out.trans (Oth.of_below hb));clear hb
 go_wp2_with (refine sA _ Tryz.zeroUz ?_)
 intro A a1 hA;have VA:Hid (w.heap.size≤A):=hh (by rw [hA.out.eq];exact OT.out.1);have WA:=mGe hA TF.out.below.size;have NXA:=mNe hA HX;have HA:=hh hA.out.cells;have hbA:=hA.out.below;clear hA;replace TF:=hh (TF.out.later hbA);replace OT:=hh (OT.out.trans (Oth.of_below hbA));replace HX:=bA hbA HX;clear hbA
 go_wp2_with (refine sA _ Tryz.zeroUz ?_)
 intro B a2 hB;have VB:Hid (w.heap.size≤B):=hh (by rw [hB.out.eq];exact OT.out.1);have WB:=mGe hB TF.out.below.size;have NXB:=mNe hB HX;have NAB:=mNe hB HA;have HB:=hh hB.out.cells;have hbB:=hB.out.below;clear hB;replace TF:=hh (TF.out.later hbB);replace OT:=hh (OT.out.trans (Oth.of_below hbB));replace HX:=bA hbB HX;replace HA:=bA hbB HA;clear hbB
 go_wp2_with (refine a0a (t:=25) (old:=u0) rfl 25 _ _ rfl A u0 rfl rfl HA.out Tryz.sizeU rfl (a0j _ _ _ _) ?_)
 intro a3 hxA kA zA;clear zA;replace TF:=hh (b0l TF.out HA.out rfl rfl kA WA.out);replace OT:=hh (b0N OT.out kA VA.out);replace HX:=ka1 kA HX NXA;replace HB:=kb1 kA HB NAB;replace HA:=hh hxA;clear hxA kA
 go_wp2_with (refine a0a (t:=25) (old:=u0) rfl 25 _ _ rfl B u0 rfl rfl HB.out Tryz.sizeU rfl (a0j _ _ _ _) ?_)
 intro a4 hxB kB zB;clear zB;replace TF:=hh (b0l TF.out HB.out rfl rfl kB WB.out);replace OT:=hh (b0N OT.out kB VB.out);replace HX:=ka1 kB HX NXB;replace HA:=ka1 kB HA NAB;replace HB:=hh hxB;clear hxB kB;have c0:a4.cell? ⟨X,0,none⟩=some (.int .i64 a.k):=Lib.cell_of_heap HX.out 0
 by_cases h0:a.k=0
 ·have hk:=h0;clear h0;have HD:Hid (do19 s a=s.mint a.n a.who a.m):=hh (by unfold do19;rw [hk];simp);rw [hk] at c0;obtain ⟨er,her⟩:=nm (mintE s a.n a.who a.m);have HER:=hh her;clear her;go_wp2_with fail;clear c0;obtain ⟨a5,hwz,hbz⟩:=dr a4;replace TF:=hh (TF.out.later hbz);replace OT:=hh (OT.out.trans (Oth.of_below hbz));replace HX:=bA hbz HX;replace HA:=bA hbz HA;replace HB:=bA hbz HB;clear hbz;refine rg1 18 18 hwz HX fun hS=>?_
  clear hwz;refine tA1 0 21 hS ?_;go_frame;refine tA1 1 22 hS ?_;go_frame;refine tk 2 (some 23) rfl rfl (.inl ⟨by rfl,fun w' hS'=>(by have hc:w'.cell? ⟨X,2,none⟩=some (.int .i64 a.n):=Lib.cell_of_heap (hS') 2;go_simp;rfl)⟩) hS ?_;go_frame;refine tA1 3 24 hS ?_;go_frame;refine tk 4 (some 25) rfl rfl (.inl ⟨by rfl,fun w' hS'=>(by have hc:w'.cell? ⟨X,3,none⟩=some (.int .i64 a.who):=Lib.cell_of_heap (hS') 3;go_simp;rfl)⟩) hS ?_;go_frame;refine tA1 5 26 hS ?_;go_frame;refine tk 6 (some 27) rfl rfl (a0E (by rfl) 25 _ rfl (.pointer (some ⟨X,5,none⟩)) rfl (.agg #[.int .u64 (uw0 a.m),.int .u64 (uw1 a.m),.int .u64 (uw2 a.m),.int .u64 (uw3 a.m)]) (fun w' hS'=>run_loadAt_mid w' X 5 25 [.int .u64 (uw0 a.m),.int .u64 (uw1 a.m),.int .u64 (uw2 a.m),.int .u64 (uw3 a.m)] _ (a0m (hS') 5 _ rfl) Tryz.underlying25 rfl Tryz.sizeU)) hS ?_;go_frame;refine tA1 8 29 hS ?_;go_frame;refine tA1 9 30 hS ?_;go_frame;refine tk 10 (some 31) rfl rfl (.inl ⟨by rfl,fun w' hS'=>(by have hc:w'.cell? ⟨X,2,none⟩=some (.int .i64 a.n):=Lib.cell_of_heap (hS') 2;go_simp;rfl)⟩) hS ?_;go_frame;refine tA1 11 32 hS ?_;go_frame;refine tk 12 (some 33) rfl rfl (.inl ⟨by rfl,fun w' hS'=>(by have hc:w'.cell? ⟨X,3,none⟩=some (.int .i64 a.who):=Lib.cell_of_heap (hS') 3;go_simp;rfl)⟩) hS ?_;go_frame;refine tA1 13 34 hS ?_;go_frame
  refine tk 14 (some 35) rfl rfl (a0E (by rfl) 25 _ rfl (.pointer (some ⟨X,5,none⟩)) rfl (.agg #[.int .u64 (uw0 a.m),.int .u64 (uw1 a.m),.int .u64 (uw2 a.m),.int .u64 (uw3 a.m)]) (fun w' hS'=>run_loadAt_mid w' X 5 25 [.int .u64 (uw0 a.m),.int .u64 (uw1 a.m),.int .u64 (uw2 a.m),.int .u64 (uw3 a.m)] _ (a0m (hS') 5 _ rfl) Tryz.underlying25 rfl Tryz.sizeU)) hS ?_;go_frame;refine t1 7 fun K hK=>?_
  simp only [gA,jB,gC];go_simp;refine (TF.out.st fun F hs=>h0M hs (by have:=HZ.out;omega) HF.out HAC.out.b_n HAC.out.b_who (uw_is HAC.out.lt_m)).mono ?_;rw [← HER.out];rintro e a6 ⟨rfl,o,hoth⟩;replace TF:=hh o;replace OT:=hh (OT.out.trans hoth);replace HX:=oA hoth HX;replace HA:=oA hoth HA;replace HB:=oA hoth HB;clear o hoth;replace hS:=HX.out;refine hK _ _ (fun _ _=>hS) ?_;clear hK;refine t1 15 fun K hK=>?_
  simp only [gA,jB,gC];go_simp;refine (TF.out.rs fun F hs=>k0i hs (by have:=HZ.out;omega) HF.out HAC.out.b_n HAC.out.b_who (uw_is HAC.out.lt_m)).mono ?_;rw [← HER.out];rintro e a7 ⟨rfl,o,hoth⟩;replace TF:=hh o;replace OT:=hh (OT.out.trans hoth);replace HX:=oA hoth HX;replace HA:=oA hoth HA;replace HB:=oA hoth HB;clear o hoth;replace hS:=HX.out;refine hK _ _ (fun _ _=>hS) ?_;clear hK;refine tA1 16 9 hS ?_;go_frame;refine tA1 17 10 hS ?_;go_frame;refine tD ?_;clear hS;have e7:=Tryz.eqUn UIs.zero UIs.zero;rw [decide_eq_true rfl] at e7;have cA0:a7.cell? ⟨A,0,none⟩=some (.int .u64 0):=Lib.cell_of_heap HA.out 0;have cA1:a7.cell? ⟨A,1,none⟩=some (.int .u64 0):=Lib.cell_of_heap HA.out 1;have cA2:a7.cell? ⟨A,2,none⟩=some (.int .u64 0):=Lib.cell_of_heap HA.out 2;have cA3:a7.cell? ⟨A,3,none⟩=some (.int .u64 0):=Lib.cell_of_heap HA.out 3;have cB0:a7.cell? ⟨B,0,none⟩=some (.int .u64 0):=Lib.cell_of_heap HB.out 0;have cB1:a7.cell? ⟨B,1,none⟩=some (.int .u64 0):=Lib.cell_of_heap HB.out 1;have cB2:a7.cell? ⟨B,2,none⟩=some (.int .u64 0):=Lib.cell_of_heap HB.out 2;have cB3:a7.cell? ⟨B,3,none⟩=some (.int .u64 0):=Lib.cell_of_heap HB.out 3;go_wp2_with fail
  go_ret
  exact ⟨by simp,by rw [HD.out];exact TF.out,OT.out⟩
 by_cases h1:a.k=1
 ·have hk:=h1;clear h0 h1;have HD:Hid (do19 s a=s.newS a.n):=hh (by unfold do19;rw [hk];simp);rw [hk] at c0;obtain ⟨nv,hnv⟩:=nm (newV s a.n);obtain ⟨er,her⟩:=nm (newE s a.n);have HNV:=hh hnv;have HER:=hh her;clear hnv her;have e8:(nv == nv)=true:=by simp
  have e9:(er == er)=true:=by simp
  have cX2:a4.cell? ⟨X,2,none⟩=some (.int .i64 a.n):=Lib.cell_of_heap HX.out 2;go_wp2_with fail;clear c0;clear cX2;refine (TF.out.st fun F hs=>i0q hs (by have:=HZ.out;omega) HF.out HAC.out.b_n).mono ?_;rw [← HNV.out,← HER.out];rintro e a5 ⟨rfl,o,hoth⟩;replace TF:=hh o;replace OT:=hh (OT.out.trans hoth);replace HX:=oA hoth HX;clear o hoth;have cX2:a5.cell? ⟨X,2,none⟩=some (.int .i64 a.n):=Lib.cell_of_heap HX.out 2;go_wp2_with fail;clear cX2;refine (TF.out.rs fun F hs=>l0R hs (by have:=HZ.out;omega) HF.out HAC.out.b_n).mono ?_;rw [← HNV.out,← HER.out];rintro e a6 ⟨rfl,o,hoth⟩;replace TF:=hh o;replace OT:=hh (OT.out.trans hoth);clear o hoth;go_wp2_with fail
  go_ret
  exact ⟨by simp,by rw [HD.out];exact TF.out,OT.out⟩
 by_cases h2:a.k=2
 ·have hk:=h2;clear h0 h1 h2;have HD:Hid (do19 s a=s.allow a.g a.on):=hh (by unfold do19;rw [hk];simp);rw [hk] at c0;obtain ⟨er,her⟩:=nm (allE s a.g);have HER:=hh her;clear her;go_wp2_with fail;clear c0;obtain ⟨a5,hwz,hbz⟩:=dr a4;replace TF:=hh (TF.out.later hbz);replace OT:=hh (OT.out.trans (Oth.of_below hbz));replace HX:=bA hbz HX;replace HA:=bA hbz HA;replace HB:=bA hbz HB;clear hbz;refine rg1 14 14 hwz HX fun hS=>?_
  clear hwz;refine tA1 0 63 hS ?_;go_frame;refine tA1 1 64 hS ?_;go_frame;refine tk 2 (some 65) rfl rfl (.inl ⟨by rfl,fun w' hS'=>(by have hc:w'.cell? ⟨X,1,none⟩=some (.int .i64 a.g):=Lib.cell_of_heap (hS') 1;go_simp;rfl)⟩) hS ?_;go_frame;refine tA1 3 66 hS ?_;go_frame;refine tk 4 (some 67) rfl rfl (.inl ⟨by rfl,fun w' hS'=>(by have hc:w'.cell? ⟨X,4,none⟩=some (.bool a.on):=Lib.cell_of_heap (hS') 4;go_simp;rfl)⟩) hS ?_;go_frame;refine tA1 6 69 hS ?_;go_frame;refine tA1 7 70 hS ?_;go_frame;refine tk 8 (some 71) rfl rfl (.inl ⟨by rfl,fun w' hS'=>(by have hc:w'.cell? ⟨X,1,none⟩=some (.int .i64 a.g):=Lib.cell_of_heap (hS') 1;go_simp;rfl)⟩) hS ?_;go_frame;refine tA1 9 72 hS ?_;go_frame;refine tk 10 (some 73) rfl rfl (.inl ⟨by rfl,fun w' hS'=>(by have hc:w'.cell? ⟨X,4,none⟩=some (.bool a.on):=Lib.cell_of_heap (hS') 4;go_simp;rfl)⟩) hS ?_;go_frame;refine t1 5 fun K hK=>?_
  simp only [gA,jB,gC];go_simp;refine (TF.out.st fun F hs=>j0y hs (by have:=HZ.out;omega) HF.out HAC.out.b_g a.on).mono ?_;rw [← HER.out];rintro e a6 ⟨rfl,o,hoth⟩;replace TF:=hh o;replace OT:=hh (OT.out.trans hoth);replace HX:=oA hoth HX;replace HA:=oA hoth HA;replace HB:=oA hoth HB;clear o hoth;replace hS:=HX.out;refine hK _ _ (fun _ _=>hS) ?_;clear hK;refine t1 11 fun K hK=>?_
  simp only [gA,jB,gC];go_simp;refine (TF.out.rs fun F hs=>j0e hs (by have:=HZ.out;omega) HF.out HAC.out.b_g a.on).mono ?_;rw [← HER.out];rintro e a7 ⟨rfl,o,hoth⟩;replace TF:=hh o;replace OT:=hh (OT.out.trans hoth);replace HX:=oA hoth HX;replace HA:=oA hoth HA;replace HB:=oA hoth HB;clear o hoth;replace hS:=HX.out;refine hK _ _ (fun _ _=>hS) ?_;clear hK;refine tA1 12 9 hS ?_;go_frame;refine tA1 13 10 hS ?_;go_frame;refine tD ?_;clear hS;have e7:=Tryz.eqUn UIs.zero UIs.zero;rw [decide_eq_true rfl] at e7;have cA0:a7.cell? ⟨A,0,none⟩=some (.int .u64 0):=Lib.cell_of_heap HA.out 0;have cA1:a7.cell? ⟨A,1,none⟩=some (.int .u64 0):=Lib.cell_of_heap HA.out 1;have cA2:a7.cell? ⟨A,2,none⟩=some (.int .u64 0):=Lib.cell_of_heap HA.out 2;have cA3:a7.cell? ⟨A,3,none⟩=some (.int .u64 0):=Lib.cell_of_heap HA.out 3;have cB0:a7.cell? ⟨B,0,none⟩=some (.int .u64 0):=Lib.cell_of_heap HB.out 0;have cB1:a7.cell? ⟨B,1,none⟩=some (.int .u64 0):=Lib.cell_of_heap HB.out 1;have cB2:a7.cell? ⟨B,2,none⟩=some (.int .u64 0):=Lib.cell_of_heap HB.out 2;have cB3:a7.cell? ⟨B,3,none⟩=some (.int .u64 0):=Lib.cell_of_heap HB.out 3;go_wp2_with fail
  go_ret
  exact ⟨by simp,by rw [HD.out];exact TF.out,OT.out⟩
 by_cases h3:a.k=3
 ·have hk:=h3;clear h0 h1 h2 h3;have HD:Hid (do19 s a=s.dep a.g a.who a.m):=hh (by unfold do19;rw [hk];simp);rw [hk] at c0;obtain ⟨x,hx⟩:=nm (depV s a.g a.who a.m);obtain ⟨er,her⟩:=nm (depE s a.g a.who a.m);have HXV:=hh hx;have HER:=hh her;have HXL:Hid (x < uMax):=hh (by rw [hx];exact n0e _ _ _ _);clear hx her;have cX1:a4.cell? ⟨X,1,none⟩=some (.int .i64 a.g):=Lib.cell_of_heap HX.out 1;have cX3:a4.cell? ⟨X,3,none⟩=some (.int .i64 a.who):=Lib.cell_of_heap HX.out 3;have cX5:a4.cell? ⟨X,5,none⟩=some (.int .u64 (uw0 a.m)):=Lib.cell_of_heap HX.out 5;have cX6:a4.cell? ⟨X,6,none⟩=some (.int .u64 (uw1 a.m)):=Lib.cell_of_heap HX.out 6;have cX7:a4.cell? ⟨X,7,none⟩=some (.int .u64 (uw2 a.m)):=Lib.cell_of_heap HX.out 7;have cX8:a4.cell? ⟨X,8,none⟩=some (.int .u64 (uw3 a.m)):=Lib.cell_of_heap HX.out 8;go_wp2_with fail;clear c0;clear cX1 cX3 cX5 cX6 cX7 cX8;refine (TF.out.st fun F hs=>d0H hs (by have:=HZ.out;omega) HF.out HAC.out.b_g HAC.out.b_who (uw_is HAC.out.lt_m)).mono ?_;rw [← HXV.out,← HER.out];rintro e a5 ⟨rfl,o,hoth⟩;replace TF:=hh o;replace OT:=hh (OT.out.trans hoth);replace HX:=oA hoth HX;replace HA:=oA hoth HA;replace HB:=oA hoth HB;clear o hoth
  go_wp2_with (refine sR 25 #[.int .u64 (uw0 x),.int .u64 (uw1 x),.int .u64 (uw2 x),.int .u64 (uw3 x)] HA Tryz.sizeU ?_)
  intro a6 hxA kA zA;clear zA;replace TF:=hh (b0l TF.out HA.out rfl rfl kA WA.out);replace OT:=hh (b0N OT.out kA VA.out);replace HX:=ka1 kA HX NXA;replace HB:=kb1 kA HB NAB;replace HA:=hh hxA;clear hxA kA;have cX1:a6.cell? ⟨X,1,none⟩=some (.int .i64 a.g):=Lib.cell_of_heap HX.out 1;have cX3:a6.cell? ⟨X,3,none⟩=some (.int .i64 a.who):=Lib.cell_of_heap HX.out 3;have cX5:a6.cell? ⟨X,5,none⟩=some (.int .u64 (uw0 a.m)):=Lib.cell_of_heap HX.out 5;have cX6:a6.cell? ⟨X,6,none⟩=some (.int .u64 (uw1 a.m)):=Lib.cell_of_heap HX.out 6;have cX7:a6.cell? ⟨X,7,none⟩=some (.int .u64 (uw2 a.m)):=Lib.cell_of_heap HX.out 7;have cX8:a6.cell? ⟨X,8,none⟩=some (.int .u64 (uw3 a.m)):=Lib.cell_of_heap HX.out 8;go_wp2_with fail;clear cX1 cX3 cX5 cX6 cX7 cX8;refine (TF.out.rs fun F hs=>g0q hs (by have:=HZ.out;omega) HF.out HAC.out.b_g HAC.out.b_who (uw_is HAC.out.lt_m)).mono ?_;rw [← HXV.out,← HER.out];rintro e a7 ⟨rfl,o,hoth⟩;replace TF:=hh o;replace OT:=hh (OT.out.trans hoth);replace HA:=oA hoth HA;replace HB:=oA hoth HB;clear o hoth
  go_wp2_with (refine sR 25 #[.int .u64 (uw0 x),.int .u64 (uw1 x),.int .u64 (uw2 x),.int .u64 (uw3 x)] HB Tryz.sizeU ?_)
  intro a8 hxB kB zB;clear zB;replace TF:=hh (b0l TF.out HB.out rfl rfl kB WB.out);replace OT:=hh (b0N OT.out kB VB.out);replace HA:=ka1 kB HA NAB;replace HB:=hh hxB;clear hxB kB;have e7:=Tryz.eqUn (uw_is HXL.out) (uw_is HXL.out);rw [decide_eq_true rfl] at e7;have cA0:a8.cell? ⟨A,0,none⟩=some (.int .u64 (uw0 x)):=Lib.cell_of_heap HA.out 0;have cA1:a8.cell? ⟨A,1,none⟩=some (.int .u64 (uw1 x)):=Lib.cell_of_heap HA.out 1;have cA2:a8.cell? ⟨A,2,none⟩=some (.int .u64 (uw2 x)):=Lib.cell_of_heap HA.out 2;have cA3:a8.cell? ⟨A,3,none⟩=some (.int .u64 (uw3 x)):=Lib.cell_of_heap HA.out 3;have cB0:a8.cell? ⟨B,0,none⟩=some (.int .u64 (uw0 x)):=Lib.cell_of_heap HB.out 0;have cB1:a8.cell? ⟨B,1,none⟩=some (.int .u64 (uw1 x)):=Lib.cell_of_heap HB.out 1;have cB2:a8.cell? ⟨B,2,none⟩=some (.int .u64 (uw2 x)):=Lib.cell_of_heap HB.out 2;have cB3:a8.cell? ⟨B,3,none⟩=some (.int .u64 (uw3 x)):=Lib.cell_of_heap HB.out 3;go_wp2_with fail
  go_ret
  exact ⟨by simp,by rw [HD.out];exact TF.out,OT.out⟩
 by_cases h4:a.k=4
 ·have hk:=h4;clear h0 h1 h2 h3 h4;have HD:Hid (do19 s a=s.don a.g a.who a.m):=hh (by unfold do19;rw [hk];simp);rw [hk] at c0;obtain ⟨er,her⟩:=nm (donE s a.g a.who a.m);have HER:=hh her;clear her;go_wp2_with fail;clear c0;obtain ⟨a5,hwz,hbz⟩:=dr a4;replace TF:=hh (TF.out.later hbz);replace OT:=hh (OT.out.trans (Oth.of_below hbz));replace HX:=bA hbz HX;replace HA:=bA hbz HA;replace HB:=bA hbz HB;clear hbz;refine rg1 18 18 hwz HX fun hS=>?_
  clear hwz;refine tA1 0 101 hS ?_;go_frame;refine tA1 1 102 hS ?_;go_frame;refine tk 2 (some 103) rfl rfl (.inl ⟨by rfl,fun w' hS'=>(by have hc:w'.cell? ⟨X,1,none⟩=some (.int .i64 a.g):=Lib.cell_of_heap (hS') 1;go_simp;rfl)⟩) hS ?_;go_frame;refine tA1 3 104 hS ?_;go_frame;refine tk 4 (some 105) rfl rfl (.inl ⟨by rfl,fun w' hS'=>(by have hc:w'.cell? ⟨X,3,none⟩=some (.int .i64 a.who):=Lib.cell_of_heap (hS') 3;go_simp;rfl)⟩) hS ?_;go_frame;refine tA1 5 106 hS ?_;go_frame;refine tk 6 (some 107) rfl rfl (a0E (by rfl) 25 _ rfl (.pointer (some ⟨X,5,none⟩)) rfl (.agg #[.int .u64 (uw0 a.m),.int .u64 (uw1 a.m),.int .u64 (uw2 a.m),.int .u64 (uw3 a.m)]) (fun w' hS'=>run_loadAt_mid w' X 5 25 [.int .u64 (uw0 a.m),.int .u64 (uw1 a.m),.int .u64 (uw2 a.m),.int .u64 (uw3 a.m)] _ (a0m (hS') 5 _ rfl) Tryz.underlying25 rfl Tryz.sizeU)) hS ?_;go_frame;refine tA1 8 109 hS ?_;go_frame;refine tA1 9 110 hS ?_;go_frame;refine tk 10 (some 111) rfl rfl (.inl ⟨by rfl,fun w' hS'=>(by have hc:w'.cell? ⟨X,1,none⟩=some (.int .i64 a.g):=Lib.cell_of_heap (hS') 1;go_simp;rfl)⟩) hS ?_;go_frame;refine tA1 11 112 hS ?_;go_frame;refine tk 12 (some 113) rfl rfl (.inl ⟨by rfl,fun w' hS'=>(by have hc:w'.cell? ⟨X,3,none⟩=some (.int .i64 a.who):=Lib.cell_of_heap (hS') 3;go_simp;rfl)⟩) hS ?_;go_frame;refine tA1 13 114 hS ?_;go_frame
  refine tk 14 (some 115) rfl rfl (a0E (by rfl) 25 _ rfl (.pointer (some ⟨X,5,none⟩)) rfl (.agg #[.int .u64 (uw0 a.m),.int .u64 (uw1 a.m),.int .u64 (uw2 a.m),.int .u64 (uw3 a.m)]) (fun w' hS'=>run_loadAt_mid w' X 5 25 [.int .u64 (uw0 a.m),.int .u64 (uw1 a.m),.int .u64 (uw2 a.m),.int .u64 (uw3 a.m)] _ (a0m (hS') 5 _ rfl) Tryz.underlying25 rfl Tryz.sizeU)) hS ?_;go_frame;refine t1 7 fun K hK=>?_
  simp only [gA,jB,gC];go_simp;refine (TF.out.st fun F hs=>e0n hs (by have:=HZ.out;omega) HF.out HAC.out.b_g HAC.out.b_who (uw_is HAC.out.lt_m)).mono ?_;rw [← HER.out];rintro e a6 ⟨rfl,o,hoth⟩;replace TF:=hh o;replace OT:=hh (OT.out.trans hoth);replace HX:=oA hoth HX;replace HA:=oA hoth HA;replace HB:=oA hoth HB;clear o hoth;replace hS:=HX.out;refine hK _ _ (fun _ _=>hS) ?_;clear hK;refine t1 15 fun K hK=>?_
  simp only [gA,jB,gC];go_simp;refine (TF.out.rs fun F hs=>h0m hs (by have:=HZ.out;omega) HF.out HAC.out.b_g HAC.out.b_who (uw_is HAC.out.lt_m)).mono ?_;rw [← HER.out];rintro e a7 ⟨rfl,o,hoth⟩;replace TF:=hh o;replace OT:=hh (OT.out.trans hoth);replace HX:=oA hoth HX;replace HA:=oA hoth HA;replace HB:=oA hoth HB;clear o hoth;replace hS:=HX.out;refine hK _ _ (fun _ _=>hS) ?_;clear hK;refine tA1 16 9 hS ?_;go_frame;refine tA1 17 10 hS ?_;go_frame;refine tD ?_;clear hS;have e7:=Tryz.eqUn UIs.zero UIs.zero;rw [decide_eq_true rfl] at e7;have cA0:a7.cell? ⟨A,0,none⟩=some (.int .u64 0):=Lib.cell_of_heap HA.out 0;have cA1:a7.cell? ⟨A,1,none⟩=some (.int .u64 0):=Lib.cell_of_heap HA.out 1;have cA2:a7.cell? ⟨A,2,none⟩=some (.int .u64 0):=Lib.cell_of_heap HA.out 2;have cA3:a7.cell? ⟨A,3,none⟩=some (.int .u64 0):=Lib.cell_of_heap HA.out 3;have cB0:a7.cell? ⟨B,0,none⟩=some (.int .u64 0):=Lib.cell_of_heap HB.out 0;have cB1:a7.cell? ⟨B,1,none⟩=some (.int .u64 0):=Lib.cell_of_heap HB.out 1;have cB2:a7.cell? ⟨B,2,none⟩=some (.int .u64 0):=Lib.cell_of_heap HB.out 2;have cB3:a7.cell? ⟨B,3,none⟩=some (.int .u64 0):=Lib.cell_of_heap HB.out 3;go_wp2_with fail
  go_ret
  exact ⟨by simp,by rw [HD.out];exact TF.out,OT.out⟩
 by_cases h5:a.k=5
 ·have hk:=h5;clear h0 h1 h2 h3 h4 h5;have HD:Hid (do19 s a=s.red a.g a.who a.m):=hh (by unfold do19;rw [hk];simp);rw [hk] at c0;obtain ⟨x,hx⟩:=nm (redV s a.g a.who a.m);obtain ⟨er,her⟩:=nm (redE s a.g a.who a.m);have HXV:=hh hx;have HER:=hh her;have HXL:Hid (x < uMax):=hh (by rw [hx];exact m0R _ _ _ _);clear hx her;have cX1:a4.cell? ⟨X,1,none⟩=some (.int .i64 a.g):=Lib.cell_of_heap HX.out 1;have cX3:a4.cell? ⟨X,3,none⟩=some (.int .i64 a.who):=Lib.cell_of_heap HX.out 3;have cX5:a4.cell? ⟨X,5,none⟩=some (.int .u64 (uw0 a.m)):=Lib.cell_of_heap HX.out 5;have cX6:a4.cell? ⟨X,6,none⟩=some (.int .u64 (uw1 a.m)):=Lib.cell_of_heap HX.out 6;have cX7:a4.cell? ⟨X,7,none⟩=some (.int .u64 (uw2 a.m)):=Lib.cell_of_heap HX.out 7;have cX8:a4.cell? ⟨X,8,none⟩=some (.int .u64 (uw3 a.m)):=Lib.cell_of_heap HX.out 8;go_wp2_with fail;clear c0;clear cX1 cX3 cX5 cX6 cX7 cX8;refine (TF.out.st fun F hs=>h0J hs (by have:=HZ.out;omega) HF.out HAC.out.b_g HAC.out.b_who (uw_is HAC.out.lt_m)).mono ?_;rw [← HXV.out,← HER.out];rintro e a5 ⟨rfl,o,hoth⟩;replace TF:=hh o;replace OT:=hh (OT.out.trans hoth);replace HX:=oA hoth HX;replace HA:=oA hoth HA;replace HB:=oA hoth HB;clear o hoth
  go_wp2_with (refine sR 25 #[.int .u64 (uw0 x),.int .u64 (uw1 x),.int .u64 (uw2 x),.int .u64 (uw3 x)] HA Tryz.sizeU ?_)
  intro a6 hxA kA zA;clear zA;replace TF:=hh (b0l TF.out HA.out rfl rfl kA WA.out);replace OT:=hh (b0N OT.out kA VA.out);replace HX:=ka1 kA HX NXA;replace HB:=kb1 kA HB NAB;replace HA:=hh hxA;clear hxA kA;have cX1:a6.cell? ⟨X,1,none⟩=some (.int .i64 a.g):=Lib.cell_of_heap HX.out 1;have cX3:a6.cell? ⟨X,3,none⟩=some (.int .i64 a.who):=Lib.cell_of_heap HX.out 3;have cX5:a6.cell? ⟨X,5,none⟩=some (.int .u64 (uw0 a.m)):=Lib.cell_of_heap HX.out 5;have cX6:a6.cell? ⟨X,6,none⟩=some (.int .u64 (uw1 a.m)):=Lib.cell_of_heap HX.out 6;have cX7:a6.cell? ⟨X,7,none⟩=some (.int .u64 (uw2 a.m)):=Lib.cell_of_heap HX.out 7;have cX8:a6.cell? ⟨X,8,none⟩=some (.int .u64 (uw3 a.m)):=Lib.cell_of_heap HX.out 8;go_wp2_with fail;clear cX1 cX3 cX5 cX6 cX7 cX8;refine (TF.out.rs fun F hs=>h0y hs (by have:=HZ.out;omega) HF.out HAC.out.b_g HAC.out.b_who (uw_is HAC.out.lt_m)).mono ?_;rw [← HXV.out,← HER.out];rintro e a7 ⟨rfl,o,hoth⟩;replace TF:=hh o;replace OT:=hh (OT.out.trans hoth);replace HA:=oA hoth HA;replace HB:=oA hoth HB;clear o hoth
  go_wp2_with (refine sR 25 #[.int .u64 (uw0 x),.int .u64 (uw1 x),.int .u64 (uw2 x),.int .u64 (uw3 x)] HB Tryz.sizeU ?_)
  intro a8 hxB kB zB;clear zB;replace TF:=hh (b0l TF.out HB.out rfl rfl kB WB.out);replace OT:=hh (b0N OT.out kB VB.out);replace HA:=ka1 kB HA NAB;replace HB:=hh hxB;clear hxB kB;have e7:=Tryz.eqUn (uw_is HXL.out) (uw_is HXL.out);rw [decide_eq_true rfl] at e7;have cA0:a8.cell? ⟨A,0,none⟩=some (.int .u64 (uw0 x)):=Lib.cell_of_heap HA.out 0;have cA1:a8.cell? ⟨A,1,none⟩=some (.int .u64 (uw1 x)):=Lib.cell_of_heap HA.out 1;have cA2:a8.cell? ⟨A,2,none⟩=some (.int .u64 (uw2 x)):=Lib.cell_of_heap HA.out 2;have cA3:a8.cell? ⟨A,3,none⟩=some (.int .u64 (uw3 x)):=Lib.cell_of_heap HA.out 3;have cB0:a8.cell? ⟨B,0,none⟩=some (.int .u64 (uw0 x)):=Lib.cell_of_heap HB.out 0;have cB1:a8.cell? ⟨B,1,none⟩=some (.int .u64 (uw1 x)):=Lib.cell_of_heap HB.out 1;have cB2:a8.cell? ⟨B,2,none⟩=some (.int .u64 (uw2 x)):=Lib.cell_of_heap HB.out 2;have cB3:a8.cell? ⟨B,3,none⟩=some (.int .u64 (uw3 x)):=Lib.cell_of_heap HB.out 3;go_wp2_with fail
  go_ret
  exact ⟨by simp,by rw [HD.out];exact TF.out,OT.out⟩
 by_cases h6:a.k=6
 ·have hk:=h6;clear h0 h1 h2 h3 h4 h5 h6;have HD:Hid (do19 s a=s.bur a.g a.m):=hh (by unfold do19;rw [hk];simp);rw [hk] at c0;obtain ⟨x,hx⟩:=nm (burV s a.g a.m);obtain ⟨er,her⟩:=nm (burE s a.g a.m);have HXV:=hh hx;have HER:=hh her;have HXL:Hid (x < uMax):=hh (by rw [hx];exact m0K _ _ _);clear hx her;have cX1:a4.cell? ⟨X,1,none⟩=some (.int .i64 a.g):=Lib.cell_of_heap HX.out 1;have cX5:a4.cell? ⟨X,5,none⟩=some (.int .u64 (uw0 a.m)):=Lib.cell_of_heap HX.out 5;have cX6:a4.cell? ⟨X,6,none⟩=some (.int .u64 (uw1 a.m)):=Lib.cell_of_heap HX.out 6;have cX7:a4.cell? ⟨X,7,none⟩=some (.int .u64 (uw2 a.m)):=Lib.cell_of_heap HX.out 7;have cX8:a4.cell? ⟨X,8,none⟩=some (.int .u64 (uw3 a.m)):=Lib.cell_of_heap HX.out 8;go_wp2_with fail;clear c0;clear cX1 cX5 cX6 cX7 cX8;refine (TF.out.st fun F hs=>l0w hs (by have:=HZ.out;omega) HF.out HAC.out.b_g (uw_is HAC.out.lt_m)).mono ?_;rw [← HXV.out,← HER.out];rintro e a5 ⟨rfl,o,hoth⟩;replace TF:=hh o;replace OT:=hh (OT.out.trans hoth);replace HX:=oA hoth HX;replace HA:=oA hoth HA;replace HB:=oA hoth HB;clear o hoth
  go_wp2_with (refine sR 25 #[.int .u64 (uw0 x),.int .u64 (uw1 x),.int .u64 (uw2 x),.int .u64 (uw3 x)] HA Tryz.sizeU ?_)
  intro a6 hxA kA zA;clear zA;replace TF:=hh (b0l TF.out HA.out rfl rfl kA WA.out);replace OT:=hh (b0N OT.out kA VA.out);replace HX:=ka1 kA HX NXA;replace HB:=kb1 kA HB NAB;replace HA:=hh hxA;clear hxA kA;have cX1:a6.cell? ⟨X,1,none⟩=some (.int .i64 a.g):=Lib.cell_of_heap HX.out 1;have cX5:a6.cell? ⟨X,5,none⟩=some (.int .u64 (uw0 a.m)):=Lib.cell_of_heap HX.out 5;have cX6:a6.cell? ⟨X,6,none⟩=some (.int .u64 (uw1 a.m)):=Lib.cell_of_heap HX.out 6;have cX7:a6.cell? ⟨X,7,none⟩=some (.int .u64 (uw2 a.m)):=Lib.cell_of_heap HX.out 7;have cX8:a6.cell? ⟨X,8,none⟩=some (.int .u64 (uw3 a.m)):=Lib.cell_of_heap HX.out 8;go_wp2_with fail;clear cX1 cX5 cX6 cX7 cX8;refine (TF.out.rs fun F hs=>j0Q hs (by have:=HZ.out;omega) HF.out HAC.out.b_g (uw_is HAC.out.lt_m)).mono ?_;rw [← HXV.out,← HER.out];rintro e a7 ⟨rfl,o,hoth⟩;replace TF:=hh o;replace OT:=hh (OT.out.trans hoth);replace HA:=oA hoth HA;replace HB:=oA hoth HB;clear o hoth
  go_wp2_with (refine sR 25 #[.int .u64 (uw0 x),.int .u64 (uw1 x),.int .u64 (uw2 x),.int .u64 (uw3 x)] HB Tryz.sizeU ?_)
  intro a8 hxB kB zB;clear zB;replace TF:=hh (b0l TF.out HB.out rfl rfl kB WB.out);replace OT:=hh (b0N OT.out kB VB.out);replace HA:=ka1 kB HA NAB;replace HB:=hh hxB;clear hxB kB;have e7:=Tryz.eqUn (uw_is HXL.out) (uw_is HXL.out);rw [decide_eq_true rfl] at e7;have cA0:a8.cell? ⟨A,0,none⟩=some (.int .u64 (uw0 x)):=Lib.cell_of_heap HA.out 0;have cA1:a8.cell? ⟨A,1,none⟩=some (.int .u64 (uw1 x)):=Lib.cell_of_heap HA.out 1;have cA2:a8.cell? ⟨A,2,none⟩=some (.int .u64 (uw2 x)):=Lib.cell_of_heap HA.out 2;have cA3:a8.cell? ⟨A,3,none⟩=some (.int .u64 (uw3 x)):=Lib.cell_of_heap HA.out 3;have cB0:a8.cell? ⟨B,0,none⟩=some (.int .u64 (uw0 x)):=Lib.cell_of_heap HB.out 0;have cB1:a8.cell? ⟨B,1,none⟩=some (.int .u64 (uw1 x)):=Lib.cell_of_heap HB.out 1;have cB2:a8.cell? ⟨B,2,none⟩=some (.int .u64 (uw2 x)):=Lib.cell_of_heap HB.out 2;have cB3:a8.cell? ⟨B,3,none⟩=some (.int .u64 (uw3 x)):=Lib.cell_of_heap HB.out 3;go_wp2_with fail
  go_ret
  exact ⟨by simp,by rw [HD.out];exact TF.out,OT.out⟩
 have HD:Hid (do19 s a=s):=hh (by unfold do19;rw [if_neg h0,if_neg h1,if_neg h2,if_neg h3,if_neg h4,if_neg h5,if_neg h6]);have b0:(a.k == 0)=false:=beq_eq_false_iff_ne.2 h0;have b1:(a.k == 1)=false:=beq_eq_false_iff_ne.2 h1;have b2:(a.k == 2)=false:=beq_eq_false_iff_ne.2 h2;have b3:(a.k == 3)=false:=beq_eq_false_iff_ne.2 h3;have b4:(a.k == 4)=false:=beq_eq_false_iff_ne.2 h4;have b5:(a.k == 5)=false:=beq_eq_false_iff_ne.2 h5;have b6:(a.k == 6)=false:=beq_eq_false_iff_ne.2 h6;have e7:=Tryz.eqUn UIs.zero UIs.zero;rw [decide_eq_true rfl] at e7;clear h0 h1 h2 h3 h4 h5 h6;have cA0:a4.cell? ⟨A,0,none⟩=some (.int .u64 0):=Lib.cell_of_heap HA.out 0;have cA1:a4.cell? ⟨A,1,none⟩=some (.int .u64 0):=Lib.cell_of_heap HA.out 1;have cA2:a4.cell? ⟨A,2,none⟩=some (.int .u64 0):=Lib.cell_of_heap HA.out 2;have cA3:a4.cell? ⟨A,3,none⟩=some (.int .u64 0):=Lib.cell_of_heap HA.out 3;have cB0:a4.cell? ⟨B,0,none⟩=some (.int .u64 0):=Lib.cell_of_heap HB.out 0;have cB1:a4.cell? ⟨B,1,none⟩=some (.int .u64 0):=Lib.cell_of_heap HB.out 1;have cB2:a4.cell? ⟨B,2,none⟩=some (.int .u64 0):=Lib.cell_of_heap HB.out 2;have cB3:a4.cell? ⟨B,3,none⟩=some (.int .u64 0):=Lib.cell_of_heap HB.out 3;go_wp2_with fail
 go_ret
 exact ⟨by simp,by rw [HD.out];exact TF.out,OT.out⟩
end
end Go.Proofs.YtabminbgoclnkaaGreat
