/- Amounts of cells (code). No condition. -/
import Derived.Test.YtabminbgoclnkaaGreatVaAriB
import Derived.Test.YtabminbgoclnkaaGreatVa11
namespace Go.Proofs.YtabminbgoclnkaaGreat
set_option maxHeartbeats 4000000
set_option maxRecDepth 100000
open Go.RowKit

def amtV (f:Txt→Option Txt) (k:Txt):Nat:=amtF (valF f k)
theorem j0u (f:Txt→Option Txt) (k:Txt):amtV f k < uMax:=o0c _
def PS.setAmt (s:PS) (k:Txt) (n:Nat):PS:=if n=0 then s.del k else s.set k (amtB n)
theorem a0C (s:PS) (k:Txt) (n:Nat):(s.setAmt k n).sz≤s.sz+2:=by
 unfold PS.setAmt
 split
 ·exact k0s _ _
 ·exact k0l _ _ _
theorem Fit.setAmt {s:PS} (h:Fit s) (k:Txt) (n:Nat):Fit (s.setAmt k n):=by
 unfold PS.setAmt
 split
 ·exact h.del _
 ·exact h.set _ (by rw [c0j];omega)
theorem c0L:amtF []=0:=rfl
theorem g0V (s:PS) (k q:Txt) {n:Nat} (hk:k≠[]) (hn:n < uMax):amtV (getP (s.setAmt k n).t) q=if k=q then n else amtV (getP s.t) q:=by
 unfold PS.setAmt amtV
 by_cases h0:n=0
 ·rw [if_pos h0,h0P]
  by_cases h:k=q
  ·rw [if_pos h,if_pos h,c0L,h0]
  ·rw [if_neg h,if_neg h]
 ·rw [if_neg h0,i0C]
  by_cases h:k=q
  ·rw [if_pos ⟨h,hk⟩,if_pos h,i0K hn]
  ·rw [if_neg (fun e=>h e.1),if_neg h]
def addE (f:Txt→Option Txt) (k:Txt) (m:Nat):Int:=if amtV f k+m < uHalf then 0 else 6
def PS.addA (s:PS) (k:Txt) (m:Nat):PS:=if amtV (getP s.t) k+m < uHalf then s.setAmt k (amtV (getP s.t) k+m) else s
def subE (f:Txt→Option Txt) (k:Txt) (m:Nat):Int:=if m≤amtV f k then 0 else 13
def PS.subA (s:PS) (k:Txt) (m:Nat):PS:=if m≤amtV (getP s.t) k then s.setAmt k (amtV (getP s.t) k - m) else s
theorem c0i (s:PS) (k:Txt) (n:Nat):(s.addA k n).sz≤s.sz+2:=by
 unfold PS.addA;split
 ·exact a0C _ _ _
 ·omega
theorem n0m (s:PS) (k:Txt) (n:Nat):(s.subA k n).sz≤s.sz+2:=by
 unfold PS.subA;split
 ·exact a0C _ _ _
 ·omega
theorem Fit.addA {s:PS} (h:Fit s) (k:Txt) (n:Nat):Fit (s.addA k n):=by
 unfold PS.addA;split
 ·exact h.setAmt _ _
 ·exact h
theorem Fit.subA {s:PS} (h:Fit s) (k:Txt) (n:Nat):Fit (s.subA k n):=by
 unfold PS.subA;split
 ·exact h.setAmt _ _
 ·exact h
def UErr (w:World) (n:Nat) (er:Int) (e:Ending) (w':World):Prop:=∃ a b c d:Int,UIs a b c d n∧e = .returned (.tuple #[.agg #[.int .u64 a,.int .u64 b,.int .u64 c,.int .u64 d],.int .i64 er])∧Below w.heap.size w w'

theorem a0G {w:World} {x:Option Addr} {m:Bool} {f:Txt→Option Txt} (h:Look w x m f) (hf:FitF f) (k:Txt) :
  Calls Tryz.prog 48 #[.pointer x,.string (bs k)] w (URet w (amtV f k)):=by
 have H:=hh h;have hfv:=hf k;obtain ⟨v,hv⟩:=nm (valF f k);rw [← hv] at hfv;have HV:=hh hv;have HFV:=hh hfv;have HA:Hid (amtV f k=amtF v):=hh (by rw [hv];rfl);clear h hf hv hfv
 go_enter Tryz.func48,Tryz.ntmps48
 go_wp2_with (refine sA _ Tryz.zeroUz ?_)
 intro R w1 h1;have HR1:=hh h1.out.cells;have HB1:=hh h1.out.below;have HRW:Hid (w.heap.size≤R):=hh (Nat.le_of_eq h1.out.eq.symm);clear h1;go_wp2_with fail;refine (d0V (H.out.later HB1.out) k).mono ?_;rintro e w2 ⟨rfl,rfl⟩;rw [show (f k).getD []=v from HV.out.symm];go_wp2_with fail;refine (k0O v _ (by have:=HFV.out;omega)).mono ?_;rintro e w3 ⟨a,b,c,d,hu,rfl,hb⟩;have HU:=hh hu;have HR3:=bA hb HR1;have HB3:=bT HB1 hb;clear hu hb HR1 HB1
 go_wp2_with (refine sA _ Tryz.zeroUz ?_)
 intro X w4 h4;have HX4:=hh h4.out.cells;have HR4:=hh (a0d h4.out.below HR3.out);have HB4:=hh (HB3.out.trans (h4.out.below.mono HB3.out.size));have HXR:Hid (w.heap.size≤X∧R≠X):=hh (by have:=h4.out.eq;have:=a0e HR3.out;have:=HB3.out.size;exact ⟨by omega,by omega⟩);clear h4 HR3 HB3
 go_wp2_with (refine sR 25 #[.int .u64 a,.int .u64 b,.int .u64 c,.int .u64 d] HX4 Tryz.sizeU ?_)
 intro w5 hx5 k5 _;have HX5:=hh hx5;have HR5:=hh (k5.at HR4.out (fun e=>HXR.out.2 e));have HB5:=hh (HB4.out.trans (k5.below (B:=w.heap.size) (fun y hy e=>by have:=HXR.out;omega) HB4.out.size));clear hx5 k5 HX4 HR4 HB4
 go_wp2_with (first
  | (refine lR HX5 Tryz.underlying25 Tryz.sizeU ?_)
  | (refine sR 25 #[.int .u64 a,.int .u64 b,.int .u64 c,.int .u64 d] HR5 Tryz.sizeU ?_))
 intro w6 hx6 k6 _;have HX6:=hh hx6;have HB6:=hh (HB5.out.trans (k6.below (B:=w.heap.size) (fun y hy e=>by have:=HRW.out;omega) HB5.out.size));clear hx6 k6;go_wp2_with fail
 exact bodyPost_ret (results_cell_row rfl _ _ _ _ _ _ _ rfl HX6.out Tryz.underlying25 rfl Tryz.sizeU) rfl ⟨a,b,c,d,by rw [HA.out];exact HU.out,rfl,HB6.out⟩

theorem a0l {w:World} {g:Nat} {s:PS} {F:List Nat} (h:St w g s F) (hz:s.sz < 1099511627776) (k:Txt) {a b c d:Int} {n:Nat} (hu:UIs a b c d n) :
  Calls Tryz.prog 104 #[.pointer (some ⟨g,0,none⟩),.string (bs k),.agg #[.int .u64 a,.int .u64 b,.int .u64 c,.int .u64 d]] w (StRet w g F (s.setAmt k n) (.tuple #[])):=by
 have L:=hh (Liv.start h);have HZ:=hh hz;have HU:=hh hu;have q:=Tryz.eqUn hu UIs.zero;clear h hz hu
 by_cases h0:n=0
 ·have hp:s.setAmt k n=s.putv k []:=by unfold PS.setAmt PS.putv;rw [if_pos h0,if_pos rfl]
  have HP:=hh hp;rw [decide_eq_true h0] at q;clear hp h0
  go_enter Tryz.func104,Tryz.ntmps104
  go_wp2_with (refine wpList_load_row rfl 25 _ rfl w.heap.size rfl 25 _ _ _ (heap_alloc_new w _) Tryz.underlying25 rfl Tryz.sizeU ?_)
  have L1:=hh (L.out.later (a0c w (.cells #[.int .u64 a,.int .u64 b,.int .u64 c,.int .u64 d] 25)));refine (L1.out.call fun F h=>d0Y h HZ.out k []).mono ?_;rintro e w1 ⟨rfl,L2,_⟩;have L2:=hh L2;go_wp2_with fail
  go_end0
  rw [HP.out];exact L2.out.ret
 ·have hp:s.setAmt k n=s.putv k (amtB n):=by unfold PS.setAmt PS.putv;rw [if_neg h0,if_neg (m0L n)]
  have HP:=hh hp;rw [decide_eq_false h0] at q;clear hp h0
  go_enter Tryz.func104,Tryz.ntmps104
  go_wp2_with (refine wpList_load_row rfl 25 _ rfl w.heap.size rfl 25 _ _ _ (heap_alloc_new w _) Tryz.underlying25 rfl Tryz.sizeU ?_)
  have L1:=hh (L.out.later (a0c w (.cells #[.int .u64 a,.int .u64 b,.int .u64 c,.int .u64 d] 25)));refine (m0M HU.out _).mono ?_;rintro e w1 ⟨rfl,hb⟩;have L2:=hh (L1.out.later hb);clear hb L1 L;go_wp2_with fail;refine (L2.out.call fun F h=>d0Y h HZ.out k (amtB n)).mono ?_;rintro e w1 ⟨rfl,L3,_⟩;have L3:=hh L3;go_wp2_with fail
  go_end0
  rw [HP.out];exact L3.out.ret

theorem f0o {a b c d a' b' c' d':Int} {n m:Nat} (h:UIs a b c d n) (h':UIs a' b' c' d' m) (w:World) :
  Calls Tryz.prog 103 #[.agg #[.int .u64 a,.int .u64 b,.int .u64 c,.int .u64 d],.agg #[.int .u64 a',.int .u64 b',.int .u64 c',.int .u64 d']] w (UErr w (if m≤n then n - m else 0) (if m≤n then 0 else 13)):=by
 have HU:=hh h;have HU2:=hh h';clear h h';obtain ⟨vv,hvv⟩:=nm (if m≤n then n - m else 0);obtain ⟨ee,hee⟩:∃ ee:Int,ee=if m≤n then 0 else 13:=⟨_,rfl⟩;rw [← hvv,← hee];have HVV:=hh hvv;have HEE:=hh hee;clear hvv hee
 go_enter Tryz.func103,Tryz.ntmps103
 go_wp2_with (refine sA _ Tryz.zeroUz ?_)
 obtain ⟨w1,hw1⟩:=nm ((w.alloc (.cells #[.int .u64 a,.int .u64 b,.int .u64 c,.int .u64 d] 25)).alloc (.cells #[.int .u64 a',.int .u64 b',.int .u64 c',.int .u64 d'] 25));obtain ⟨X,hX⟩:=nm (w.heap.size);obtain ⟨Y,hY⟩:=nm (w.heap.size+1);rw [← hw1,← hY,← hX];have hbx:=box2 w _ _ _ _ w1 hw1;rw [← hY,← hX] at hbx;have HX1:=hh hbx.1;have HY1:=hh hbx.2.1;have HB1:Hid (Below w.heap.size w w1):=hh (by rw [← hX];exact hbx.2.2.1);clear hbx hw1 hX hY;intro R w2 h2;have HR2:=hh h2.out.cells;have HB2:=hh (HB1.out.trans (h2.out.below.mono HB1.out.size));have HRW:Hid (w.heap.size≤R):=hh (by rw [h2.out.eq];exact HB1.out.size);have HX2:=hh (a0d h2.out.below HX1.out);have HY2:=hh (a0d h2.out.below HY1.out);clear h2 HX1 HY1 HB1
 go_wp2_with (first
  | (refine lR HX2 Tryz.underlying25 Tryz.sizeU ?_)
  | (refine lR HY2 Tryz.underlying25 Tryz.sizeU ?_))
 refine (i0g HU.out HU2.out _).mono ?_;obtain ⟨q,hq⟩:=nm (decide (m≤n));rw [← hq];have HQ:=hh hq;clear hq;rintro e w3 ⟨sa,sb,sc,sd,hu,rfl,hb⟩;have HSU:=hh hu;have HR3:=bA hb HR2;have HB3:=bT HB2 hb;clear hu hb HR2 HB2 HX2 HY2
 go_wp2_with (refine sA _ Tryz.zeroUz ?_)
 intro O w4 h4;have HO4:=hh h4.out.cells;have HR4:=hh (a0d h4.out.below HR3.out);have HB4:=hh (HB3.out.trans (h4.out.below.mono HB3.out.size));have HOR:Hid (w.heap.size≤O∧R≠O):=hh (by have:=h4.out.eq;have:=a0e HR3.out;have:=HB3.out.size;exact ⟨by omega,by omega⟩);clear h4 HR3 HB3
 go_wp2_with (refine sR 25 #[.int .u64 sa,.int .u64 sb,.int .u64 sc,.int .u64 sd] HO4 Tryz.sizeU ?_)
 intro w5 hx5 k5 _;have HO5:=hh hx5;have HR5:=hh (k5.at HR4.out (fun e=>HOR.out.2 e));have HB5:=hh (HB4.out.trans (k5.below (B:=w.heap.size) (fun y hy e=>by have:=HOR.out;omega) HB4.out.size));clear hx5 k5 HO4 HR4 HB4
 cases q with
 | false=>
  have hno:¬ (m≤n):=of_decide_eq_false HQ.out.symm;have HNO:Hid (¬ (m≤n)):=hh (by exact hno);clear hno
  go_wp2_with (refine a0a (t:=25) (old:=u0) rfl 25 _ _ rfl R u0 rfl rfl HR5.out Tryz.sizeU rfl (a0j _ _ _ _) ?_)
  intro w6 hx6 k6 _;have HX6:=hh hx6;have HB6:=hh (HB5.out.trans (k6.below (B:=w.heap.size) (fun y hy e=>by have:=HRW.out;omega) HB5.out.size));clear hx6 k6;go_wp2_with fail
  exact bodyPost_ret (a0R rfl _ _ R _ u0 _ _ rfl HX6.out Tryz.underlying25 rfl Tryz.sizeU _ rfl) rfl ⟨0,0,0,0,by rw [HVV.out,if_neg HNO.out];exact UIs.zero,by rw [HEE.out,if_neg HNO.out];rfl,HB6.out⟩
 | true=>
  have hok:m≤n:=of_decide_eq_true HQ.out.symm;have HOK:=hh hok;clear hok
  go_wp2_with (first
   | (refine lR HO5 Tryz.underlying25 Tryz.sizeU ?_)
   | (refine sR 25 #[.int .u64 sa,.int .u64 sb,.int .u64 sc,.int .u64 sd] HR5 Tryz.sizeU ?_))
  intro w6 hx6 k6 _;have HX6:=hh hx6;have HB6:=hh (HB5.out.trans (k6.below (B:=w.heap.size) (fun y hy e=>by have:=HRW.out;omega) HB5.out.size));clear hx6 k6;go_wp2_with fail
  exact bR rfl rfl HX6 Tryz.underlying25 Tryz.sizeU ⟨_,_,_,_,by rw [HVV.out,if_pos HOK.out];exact HSU.out,by rw [HEE.out,if_pos HOK.out];rfl,HB6.out⟩

theorem e0T {a b c d a' b' c' d':Int} {n m:Nat} (h:UIs a b c d n) (h':UIs a' b' c' d' m) (w:World) :
  Calls Tryz.prog 98 #[.agg #[.int .u64 a,.int .u64 b,.int .u64 c,.int .u64 d],.agg #[.int .u64 a',.int .u64 b',.int .u64 c',.int .u64 d']] w (UErr w (if n+m < uHalf then n+m else 0) (if n+m < uHalf then 0 else 6)):=by
 have HU:=hh h;have HU2:=hh h';clear h h';obtain ⟨vv,hvv⟩:=nm (if n+m < uHalf then n+m else 0);obtain ⟨ee,hee⟩:∃ ee:Int,ee=if n+m < uHalf then 0 else 6:=⟨_,rfl⟩;rw [← hvv,← hee];have HVV:=hh hvv;have HEE:=hh hee;clear hvv hee
 go_enter Tryz.func98,Tryz.ntmps98
 go_wp2_with (refine sA _ Tryz.zeroUz ?_)
 obtain ⟨w1,hw1⟩:=nm ((w.alloc (.cells #[.int .u64 a,.int .u64 b,.int .u64 c,.int .u64 d] 25)).alloc (.cells #[.int .u64 a',.int .u64 b',.int .u64 c',.int .u64 d'] 25));obtain ⟨X,hX⟩:=nm (w.heap.size);obtain ⟨Y,hY⟩:=nm (w.heap.size+1);rw [← hw1,← hY,← hX];have hbx:=box2 w _ _ _ _ w1 hw1;rw [← hY,← hX] at hbx;have HX1:=hh hbx.1;have HY1:=hh hbx.2.1;have HB1:Hid (Below w.heap.size w w1):=hh (by rw [← hX];exact hbx.2.2.1);clear hbx hw1 hX hY;intro R w2 h2;have HR2:=hh h2.out.cells;have HB2:=hh (HB1.out.trans (h2.out.below.mono HB1.out.size));have HRW:Hid (w.heap.size≤R):=hh (by rw [h2.out.eq];exact HB1.out.size);have HX2:=hh (a0d h2.out.below HX1.out);have HY2:=hh (a0d h2.out.below HY1.out);clear h2 HX1 HY1 HB1
 go_wp2_with (first
  | (refine lR HX2 Tryz.underlying25 Tryz.sizeU ?_)
  | (refine lR HY2 Tryz.underlying25 Tryz.sizeU ?_))
 refine (g0c HU.out HU2.out _).mono ?_;obtain ⟨q,hq⟩:=nm (decide (n+m < uMax));rw [← hq];have HQ:=hh hq;clear hq;rintro e w3 ⟨sa,sb,sc,sd,hu,rfl,hb⟩;have HSU:=hh hu;have HR3:=bA hb HR2;have HB3:=bT HB2 hb;clear hu hb HR2 HB2 HX2 HY2
 go_wp2_with (refine sA _ Tryz.zeroUz ?_)
 intro O w4 h4;have HO4:=hh h4.out.cells;have HR4:=hh (a0d h4.out.below HR3.out);have HB4:=hh (HB3.out.trans (h4.out.below.mono HB3.out.size));have HOR:Hid (w.heap.size≤O∧R≠O):=hh (by have:=h4.out.eq;have:=a0e HR3.out;have:=HB3.out.size;exact ⟨by omega,by omega⟩);clear h4 HR3 HB3
 go_wp2_with (refine sR 25 #[.int .u64 sa,.int .u64 sb,.int .u64 sc,.int .u64 sd] HO4 Tryz.sizeU ?_)
 intro w5 hx5 k5 _;have HO5:=hh hx5;have HR5:=hh (k5.at HR4.out (fun e=>HOR.out.2 e));have HB5:=hh (HB4.out.trans (k5.below (B:=w.heap.size) (fun y hy e=>by have:=HOR.out;omega) HB4.out.size));clear hx5 k5 HO4 HR4 HB4
 cases q with
 | false=>
  have hno:¬ (n+m < uMax):=of_decide_eq_false HQ.out.symm;have HNO:Hid (¬ (n+m < uHalf)):=hh (by unfold uMax at hno;unfold uHalf;omega);clear hno
  go_wp2_with (refine a0a (t:=25) (old:=u0) rfl 25 _ _ rfl R u0 rfl rfl HR5.out Tryz.sizeU rfl (a0j _ _ _ _) ?_)
  intro w6 hx6 k6 _;have HX6:=hh hx6;have HB6:=hh (HB5.out.trans (k6.below (B:=w.heap.size) (fun y hy e=>by have:=HRW.out;omega) HB5.out.size));clear hx6 k6;go_wp2_with fail
  exact bodyPost_ret (a0R rfl _ _ R _ u0 _ _ rfl HX6.out Tryz.underlying25 rfl Tryz.sizeU _ rfl) rfl ⟨0,0,0,0,by rw [HVV.out,if_neg HNO.out];exact UIs.zero,by rw [HEE.out,if_neg HNO.out];rfl,HB6.out⟩
 | true=>
  have hok:n+m < uMax:=of_decide_eq_true HQ.out.symm;have HOK:=hh hok;clear hok
  go_wp2_with (refine d0B rfl 25 _ rfl O rfl 25 _ _ _ HO5.out Tryz.underlying25 rfl Tryz.sizeU ?_)
  refine (b0I HSU.out _).mono ?_;simp only [if_true];obtain ⟨r,hr⟩:=nm (decide (n+m < uHalf));rw [← hr];have HR':=hh hr;clear hr;rintro e w5b ⟨rfl,hb⟩;have HO5b:=bA hb HO5;have HR5b:=bA hb HR5;have HB5b:=bT HB5 hb;clear hb HO5 HR5 HB5
  cases r with
  | false=>
   have HNO:Hid (¬ n+m < uHalf):=hh (of_decide_eq_false HR'.out.symm)
   go_wp2_with (refine a0a (t:=25) (old:=u0) rfl 25 _ _ rfl R u0 rfl rfl HR5b.out Tryz.sizeU rfl (a0j _ _ _ _) ?_)
   intro w6 hx6 k6 _;have HX6:=hh hx6;have HB6:=hh (HB5b.out.trans (k6.below (B:=w.heap.size) (fun y hy e=>by have:=HRW.out;omega) HB5b.out.size));clear hx6 k6;go_wp2_with fail
   exact bodyPost_ret (a0R rfl _ _ R _ u0 _ _ rfl HX6.out Tryz.underlying25 rfl Tryz.sizeU _ rfl) rfl ⟨0,0,0,0,by rw [HVV.out,if_neg HNO.out];exact UIs.zero,by rw [HEE.out,if_neg HNO.out];rfl,HB6.out⟩
  | true=>
   have HYES:Hid (n+m < uHalf):=hh (of_decide_eq_true HR'.out.symm)
   go_wp2_with (first
    | (refine lR HO5b Tryz.underlying25 Tryz.sizeU ?_)
    | (refine sR 25 #[.int .u64 sa,.int .u64 sb,.int .u64 sc,.int .u64 sd] HR5b Tryz.sizeU ?_))
   intro w6 hx6 k6 _;have HX6:=hh hx6;have HB6:=hh (HB5b.out.trans (k6.below (B:=w.heap.size) (fun y hy e=>by have:=HRW.out;omega) HB5b.out.size));clear hx6 k6;go_wp2_with fail
   exact bR rfl rfl HX6 Tryz.underlying25 Tryz.sizeU ⟨_,_,_,_,by rw [HVV.out,if_pos HYES.out];exact HSU.out,by rw [HEE.out,if_pos HYES.out];rfl,HB6.out⟩
end Go.Proofs.YtabminbgoclnkaaGreat
