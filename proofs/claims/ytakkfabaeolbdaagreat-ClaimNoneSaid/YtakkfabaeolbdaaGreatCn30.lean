/- Amounts of cells (code). No condition. Amounts of cells: added, taken, moved (code). No condition. -/
import Derived.Test.YtakkfabaeolbdaaGreatCnAriB
import Derived.Test.YtakkfabaeolbdaaGreatCn27
import Derived.Deep.Cut
namespace Go.Proofs.YtakkfabaeolbdaaGreat
section
set_option maxHeartbeats 4000000
set_option maxRecDepth 100000
open Go.RowKit

def amtV (f:Txt→Option Txt) (k:Txt):Nat:=amtF (valF f k)
def PS.setAmt (s:PS) (k:Txt) (n:Nat):PS:=if n=0 then s.del k else s.set k (amtB n)
theorem a0z (s:PS) (k:Txt) (n:Nat):(s.setAmt k n).sz≤s.sz+2:=by
 unfold PS.setAmt
 split
 ·exact p0F _ _
 ·exact l0w _ _ _
theorem Fit.setAmt {s:PS} (h:Fit s) (k:Txt) (n:Nat):Fit (s.setAmt k n):=by
 unfold PS.setAmt
 split
 ·exact h.del _
 ·exact h.set _ (by rw [a0J];omega)
theorem c0z:amtF []=0:=rfl
theorem k0r (s:PS) (k q:Txt) {n:Nat} (hk:k≠[]) (hn:n < uMax):amtV (getP (s.setAmt k n).t) q=if k=q then n else amtV (getP s.t) q:=by
 unfold PS.setAmt amtV
 by_cases h0:n=0
 ·rw [if_pos h0,i0o]
  by_cases h:k=q
  ·rw [if_pos h,if_pos h,c0z,h0]
  ·rw [if_neg h,if_neg h]
 ·rw [if_neg h0,d0S]
  by_cases h:k=q
  ·rw [if_pos ⟨h,hk⟩,if_pos h,i0v hn]
  ·rw [if_neg (fun e=>h e.1),if_neg h]
def addE (f:Txt→Option Txt) (k:Txt) (m:Nat):Int:=if amtV f k+m < uHalf then 0 else 6
def PS.addA (s:PS) (k:Txt) (m:Nat):PS:=if amtV (getP s.t) k+m < uHalf then s.setAmt k (amtV (getP s.t) k+m) else s
theorem c0N (s:PS) (k:Txt) (n:Nat):(s.addA k n).sz≤s.sz+2:=by
 unfold PS.addA;split
 ·exact a0z _ _ _
 ·omega
theorem Fit.addA {s:PS} (h:Fit s) (k:Txt) (n:Nat):Fit (s.addA k n):=by
 unfold PS.addA;split
 ·exact h.setAmt _ _
 ·exact h
def UErr (w:World) (n:Nat) (er:Int) (e:Ending) (w':World):Prop:=∃ a b c d:Int,UIs a b c d n∧e = .returned (.tuple #[.agg #[.int .u64 a,.int .u64 b,.int .u64 c,.int .u64 d],.int .i64 er])∧Below w.heap.size w w'

theorem a0K {w:World} {x:Option Addr} {m:Bool} {f:Txt→Option Txt} (h:Look w x m f) (hf:FitF f) (k:Txt) :
  Calls Tryz.prog 41 #[.pointer x,.string (bs k)] w (URet w (amtV f k)):=by
 have H:=hh h;have hfv:=hf k;obtain ⟨v,hv⟩:=nm (valF f k);rw [← hv] at hfv;have HV:=hh hv;have HFV:=hh hfv;have HA:Hid (amtV f k=amtF v):=hh (by rw [hv];rfl);clear h hf hv hfv
 go_enter Tryz.func41,Tryz.ntmps41
 go_wp2_with (refine sA _ Tryz.zeroUz ?_)
 intro R w1 h1;have HR1:=hh h1.out.cells;have HB1:=hh h1.out.below;have HRW:Hid (w.heap.size≤R):=hh (Nat.le_of_eq h1.out.eq.symm);clear h1;go_wp2_with fail;refine (h0K (H.out.later HB1.out) k).mono ?_;rintro e w2 ⟨rfl,rfl⟩;rw [show (f k).getD []=v from HV.out.symm];go_wp2_with fail;refine (o0B v _ (by have:=HFV.out;omega)).mono ?_;rintro e w3 ⟨a,b,c,d,hu,rfl,hb⟩;have HU:=hh hu;have HR3:=bA hb HR1;have HB3:=bT HB1 hb;clear hu hb HR1 HB1
 go_wp2_with (refine sA _ Tryz.zeroUz ?_)
 intro X w4 h4;have HX4:=hh h4.out.cells;have HR4:=hh (a0e h4.out.below HR3.out);have HB4:=hh (HB3.out.trans (h4.out.below.mono HB3.out.size));have HXR:Hid (w.heap.size≤X∧R≠X):=hh (by have:=h4.out.eq;have:=a0b HR3.out;have:=HB3.out.size;exact ⟨by omega,by omega⟩);clear h4 HR3 HB3
 go_wp2_with (refine sR 25 #[.int .u64 a,.int .u64 b,.int .u64 c,.int .u64 d] HX4 Tryz.sizeU ?_)
 intro w5 hx5 k5 _;have HX5:=hh hx5;have HR5:=hh (k5.at HR4.out (fun e=>HXR.out.2 e));have HB5:=hh (HB4.out.trans (k5.below (B:=w.heap.size) (fun y hy e=>by have:=HXR.out;omega) HB4.out.size));clear hx5 k5 HX4 HR4 HB4
 go_wp2_with (first
  | (refine lR HX5 Tryz.underlying25 Tryz.sizeU ?_)
  | (refine sR 25 #[.int .u64 a,.int .u64 b,.int .u64 c,.int .u64 d] HR5 Tryz.sizeU ?_))
 intro w6 hx6 k6 _;have HX6:=hh hx6;have HB6:=hh (HB5.out.trans (k6.below (B:=w.heap.size) (fun y hy e=>by have:=HRW.out;omega) HB5.out.size));clear hx6 k6;go_wp2_with fail
 exact bodyPost_ret (results_cell_row rfl _ _ _ _ _ _ _ rfl HX6.out Tryz.underlying25 rfl Tryz.sizeU) rfl ⟨a,b,c,d,by rw [HA.out];exact HU.out,rfl,HB6.out⟩

theorem a0k {w:World} {g:Nat} {s:PS} {F:List Nat} (h:St w g s F) (hz:s.sz < 1099511627776) (k:Txt) {a b c d:Int} {n:Nat} (hu:UIs a b c d n) :
  Calls Tryz.prog 88 #[.pointer (some ⟨g,0,none⟩),.string (bs k),.agg #[.int .u64 a,.int .u64 b,.int .u64 c,.int .u64 d]] w (StRet w g F (s.setAmt k n) (.tuple #[])):=by
 have L:=hh (Liv.start h);have HZ:=hh hz;have HU:=hh hu;have q:=Tryz.eqUn hu UIs.zero;clear h hz hu
 by_cases h0:n=0
 ·have hp:s.setAmt k n=s.putv k []:=by unfold PS.setAmt PS.putv;rw [if_pos h0,if_pos rfl]
  have HP:=hh hp;rw [decide_eq_true h0] at q;clear hp h0
  go_enter Tryz.func88,Tryz.ntmps88
  go_wp2_with (refine wpList_load_row rfl 25 _ rfl w.heap.size rfl 25 _ _ _ (heap_alloc_new w _) Tryz.underlying25 rfl Tryz.sizeU ?_)
  have L1:=hh (L.out.later (a0d w (.cells #[.int .u64 a,.int .u64 b,.int .u64 c,.int .u64 d] 25)));refine (L1.out.call fun F h=>g0A h HZ.out k []).mono ?_;rintro e w1 ⟨rfl,L2,_⟩;have L2:=hh L2;go_wp2_with fail
  go_end0
  rw [HP.out];exact L2.out.ret
 ·have hp:s.setAmt k n=s.putv k (amtB n):=by unfold PS.setAmt PS.putv;rw [if_neg h0,if_neg (s0m n)]
  have HP:=hh hp;rw [decide_eq_false h0] at q;clear hp h0
  go_enter Tryz.func88,Tryz.ntmps88
  go_wp2_with (refine wpList_load_row rfl 25 _ rfl w.heap.size rfl 25 _ _ _ (heap_alloc_new w _) Tryz.underlying25 rfl Tryz.sizeU ?_)
  have L1:=hh (L.out.later (a0d w (.cells #[.int .u64 a,.int .u64 b,.int .u64 c,.int .u64 d] 25)));refine (s0t HU.out _).mono ?_;rintro e w1 ⟨rfl,hb⟩;have L2:=hh (L1.out.later hb);clear hb L1 L;go_wp2_with fail;refine (L2.out.call fun F h=>g0A h HZ.out k (amtB n)).mono ?_;rintro e w1 ⟨rfl,L3,_⟩;have L3:=hh L3;go_wp2_with fail
  go_end0
  rw [HP.out];exact L3.out.ret

theorem m0S {a b c d a' b' c' d':Int} {n m:Nat} (h:UIs a b c d n) (h':UIs a' b' c' d' m) (w:World) :
  Calls Tryz.prog 212 #[.agg #[.int .u64 a,.int .u64 b,.int .u64 c,.int .u64 d],.agg #[.int .u64 a',.int .u64 b',.int .u64 c',.int .u64 d']] w (UErr w (if m≤n then n - m else 0) (if m≤n then 0 else 13)):=by
 have HU:=hh h;have HU2:=hh h';clear h h';obtain ⟨vv,hvv⟩:=nm (if m≤n then n - m else 0);obtain ⟨ee,hee⟩:∃ ee:Int,ee=if m≤n then 0 else 13:=⟨_,rfl⟩;rw [← hvv,← hee];have HVV:=hh hvv;have HEE:=hh hee;clear hvv hee
 go_enter Tryz.func212,Tryz.ntmps212
 go_wp2_with (refine sA _ Tryz.zeroUz ?_)
 obtain ⟨w1,hw1⟩:=nm ((w.alloc (.cells #[.int .u64 a,.int .u64 b,.int .u64 c,.int .u64 d] 25)).alloc (.cells #[.int .u64 a',.int .u64 b',.int .u64 c',.int .u64 d'] 25));obtain ⟨X,hX⟩:=nm (w.heap.size);obtain ⟨Y,hY⟩:=nm (w.heap.size+1);rw [← hw1,← hY,← hX];have hbx:=box2 w _ _ _ _ w1 hw1;rw [← hY,← hX] at hbx;have HX1:=hh hbx.1;have HY1:=hh hbx.2.1;have HB1:Hid (Below w.heap.size w w1):=hh (by rw [← hX];exact hbx.2.2.1);clear hbx hw1 hX hY;intro R w2 h2;have HR2:=hh h2.out.cells;have HB2:=hh (HB1.out.trans (h2.out.below.mono HB1.out.size));have HRW:Hid (w.heap.size≤R):=hh (by rw [h2.out.eq];exact HB1.out.size);have HX2:=hh (a0e h2.out.below HX1.out);have HY2:=hh (a0e h2.out.below HY1.out);clear h2 HX1 HY1 HB1
 go_wp2_with (first
  | (refine lR HX2 Tryz.underlying25 Tryz.sizeU ?_)
  | (refine lR HY2 Tryz.underlying25 Tryz.sizeU ?_))
 refine (e0T HU.out HU2.out _).mono ?_;obtain ⟨q,hq⟩:=nm (decide (m≤n));rw [← hq];have HQ:=hh hq;clear hq;rintro e w3 ⟨sa,sb,sc,sd,hu,rfl,hb⟩;have HSU:=hh hu;have HR3:=bA hb HR2;have HB3:=bT HB2 hb;clear hu hb HR2 HB2 HX2 HY2
 go_wp2_with (refine sA _ Tryz.zeroUz ?_)
 intro O w4 h4;have HO4:=hh h4.out.cells;have HR4:=hh (a0e h4.out.below HR3.out);have HB4:=hh (HB3.out.trans (h4.out.below.mono HB3.out.size));have HOR:Hid (w.heap.size≤O∧R≠O):=hh (by have:=h4.out.eq;have:=a0b HR3.out;have:=HB3.out.size;exact ⟨by omega,by omega⟩);clear h4 HR3 HB3
 go_wp2_with (refine sR 25 #[.int .u64 sa,.int .u64 sb,.int .u64 sc,.int .u64 sd] HO4 Tryz.sizeU ?_)
 intro w5 hx5 k5 _;have HO5:=hh hx5;have HR5:=hh (k5.at HR4.out (fun e=>HOR.out.2 e));have HB5:=hh (HB4.out.trans (k5.below (B:=w.heap.size) (fun y hy e=>by have:=HOR.out;omega) HB4.out.size));clear hx5 k5 HO4 HR4 HB4
 cases q with
 | false=>
  have hno:¬ (m≤n):=of_decide_eq_false HQ.out.symm;have HNO:Hid (¬ (m≤n)):=hh (by exact hno);clear hno
  go_wp2_with (refine a0a (t:=25) (old:=u0) rfl 25 _ _ rfl R u0 rfl rfl HR5.out Tryz.sizeU rfl (a0Y _ _ _ _) ?_)
  intro w6 hx6 k6 _;have HX6:=hh hx6;have HB6:=hh (HB5.out.trans (k6.below (B:=w.heap.size) (fun y hy e=>by have:=HRW.out;omega) HB5.out.size));clear hx6 k6;go_wp2_with fail
  exact bodyPost_ret (a0l rfl _ _ R _ u0 _ _ rfl HX6.out Tryz.underlying25 rfl Tryz.sizeU _ rfl) rfl ⟨0,0,0,0,by rw [HVV.out,if_neg HNO.out];exact UIs.zero,by rw [HEE.out,if_neg HNO.out];rfl,HB6.out⟩
 | true=>
  have hok:m≤n:=of_decide_eq_true HQ.out.symm;have HOK:=hh hok;clear hok
  go_wp2_with (first
   | (refine lR HO5 Tryz.underlying25 Tryz.sizeU ?_)
   | (refine sR 25 #[.int .u64 sa,.int .u64 sb,.int .u64 sc,.int .u64 sd] HR5 Tryz.sizeU ?_))
  intro w6 hx6 k6 _;have HX6:=hh hx6;have HB6:=hh (HB5.out.trans (k6.below (B:=w.heap.size) (fun y hy e=>by have:=HRW.out;omega) HB5.out.size));clear hx6 k6;go_wp2_with fail
  exact bR rfl rfl HX6 Tryz.underlying25 Tryz.sizeU ⟨_,_,_,_,by rw [HVV.out,if_pos HOK.out];exact HSU.out,by rw [HEE.out,if_pos HOK.out];rfl,HB6.out⟩

theorem h0p {a b c d a' b' c' d':Int} {n m:Nat} (h:UIs a b c d n) (h':UIs a' b' c' d' m) (w:World) :
  Calls Tryz.prog 173 #[.agg #[.int .u64 a,.int .u64 b,.int .u64 c,.int .u64 d],.agg #[.int .u64 a',.int .u64 b',.int .u64 c',.int .u64 d']] w (UErr w (if n+m < uHalf then n+m else 0) (if n+m < uHalf then 0 else 6)):=by
 have HU:=hh h;have HU2:=hh h';clear h h';obtain ⟨vv,hvv⟩:=nm (if n+m < uHalf then n+m else 0);obtain ⟨ee,hee⟩:∃ ee:Int,ee=if n+m < uHalf then 0 else 6:=⟨_,rfl⟩;rw [← hvv,← hee];have HVV:=hh hvv;have HEE:=hh hee;clear hvv hee
 go_enter Tryz.func173,Tryz.ntmps173
 go_wp2_with (refine sA _ Tryz.zeroUz ?_)
 obtain ⟨w1,hw1⟩:=nm ((w.alloc (.cells #[.int .u64 a,.int .u64 b,.int .u64 c,.int .u64 d] 25)).alloc (.cells #[.int .u64 a',.int .u64 b',.int .u64 c',.int .u64 d'] 25));obtain ⟨X,hX⟩:=nm (w.heap.size);obtain ⟨Y,hY⟩:=nm (w.heap.size+1);rw [← hw1,← hY,← hX];have hbx:=box2 w _ _ _ _ w1 hw1;rw [← hY,← hX] at hbx;have HX1:=hh hbx.1;have HY1:=hh hbx.2.1;have HB1:Hid (Below w.heap.size w w1):=hh (by rw [← hX];exact hbx.2.2.1);clear hbx hw1 hX hY;intro R w2 h2;have HR2:=hh h2.out.cells;have HB2:=hh (HB1.out.trans (h2.out.below.mono HB1.out.size));have HRW:Hid (w.heap.size≤R):=hh (by rw [h2.out.eq];exact HB1.out.size);have HX2:=hh (a0e h2.out.below HX1.out);have HY2:=hh (a0e h2.out.below HY1.out);clear h2 HX1 HY1 HB1
 go_wp2_with (first
  | (refine lR HX2 Tryz.underlying25 Tryz.sizeU ?_)
  | (refine lR HY2 Tryz.underlying25 Tryz.sizeU ?_))
 refine (q0l HU.out HU2.out _).mono ?_;obtain ⟨q,hq⟩:=nm (decide (n+m < uMax));rw [← hq];have HQ:=hh hq;clear hq;rintro e w3 ⟨sa,sb,sc,sd,hu,rfl,hb⟩;have HSU:=hh hu;have HR3:=bA hb HR2;have HB3:=bT HB2 hb;clear hu hb HR2 HB2 HX2 HY2
 go_wp2_with (refine sA _ Tryz.zeroUz ?_)
 intro O w4 h4;have HO4:=hh h4.out.cells;have HR4:=hh (a0e h4.out.below HR3.out);have HB4:=hh (HB3.out.trans (h4.out.below.mono HB3.out.size));have HOR:Hid (w.heap.size≤O∧R≠O):=hh (by have:=h4.out.eq;have:=a0b HR3.out;have:=HB3.out.size;exact ⟨by omega,by omega⟩);clear h4 HR3 HB3
 go_wp2_with (refine sR 25 #[.int .u64 sa,.int .u64 sb,.int .u64 sc,.int .u64 sd] HO4 Tryz.sizeU ?_)
 intro w5 hx5 k5 _;have HO5:=hh hx5;have HR5:=hh (k5.at HR4.out (fun e=>HOR.out.2 e));have HB5:=hh (HB4.out.trans (k5.below (B:=w.heap.size) (fun y hy e=>by have:=HOR.out;omega) HB4.out.size));clear hx5 k5 HO4 HR4 HB4
 cases q with
 | false=>
  have hno:¬ (n+m < uMax):=of_decide_eq_false HQ.out.symm;have HNO:Hid (¬ (n+m < uHalf)):=hh (by unfold uMax at hno;unfold uHalf;omega);clear hno
  go_wp2_with (refine a0a (t:=25) (old:=u0) rfl 25 _ _ rfl R u0 rfl rfl HR5.out Tryz.sizeU rfl (a0Y _ _ _ _) ?_)
  intro w6 hx6 k6 _;have HX6:=hh hx6;have HB6:=hh (HB5.out.trans (k6.below (B:=w.heap.size) (fun y hy e=>by have:=HRW.out;omega) HB5.out.size));clear hx6 k6;go_wp2_with fail
  exact bodyPost_ret (a0l rfl _ _ R _ u0 _ _ rfl HX6.out Tryz.underlying25 rfl Tryz.sizeU _ rfl) rfl ⟨0,0,0,0,by rw [HVV.out,if_neg HNO.out];exact UIs.zero,by rw [HEE.out,if_neg HNO.out];rfl,HB6.out⟩
 | true=>
  have hok:n+m < uMax:=of_decide_eq_true HQ.out.symm;have HOK:=hh hok;clear hok
  go_wp2_with (refine e0j rfl 25 _ rfl O rfl 25 _ _ _ HO5.out Tryz.underlying25 rfl Tryz.sizeU ?_)
  refine (d0A HSU.out _).mono ?_;simp only [if_true];obtain ⟨r,hr⟩:=nm (decide (n+m < uHalf));rw [← hr];have HR':=hh hr;clear hr;rintro e w5b ⟨rfl,hb⟩;have HO5b:=bA hb HO5;have HR5b:=bA hb HR5;have HB5b:=bT HB5 hb;clear hb HO5 HR5 HB5
  cases r with
  | false=>
   have HNO:Hid (¬ n+m < uHalf):=hh (of_decide_eq_false HR'.out.symm)
   go_wp2_with (refine a0a (t:=25) (old:=u0) rfl 25 _ _ rfl R u0 rfl rfl HR5b.out Tryz.sizeU rfl (a0Y _ _ _ _) ?_)
   intro w6 hx6 k6 _;have HX6:=hh hx6;have HB6:=hh (HB5b.out.trans (k6.below (B:=w.heap.size) (fun y hy e=>by have:=HRW.out;omega) HB5b.out.size));clear hx6 k6;go_wp2_with fail
   exact bodyPost_ret (a0l rfl _ _ R _ u0 _ _ rfl HX6.out Tryz.underlying25 rfl Tryz.sizeU _ rfl) rfl ⟨0,0,0,0,by rw [HVV.out,if_neg HNO.out];exact UIs.zero,by rw [HEE.out,if_neg HNO.out];rfl,HB6.out⟩
  | true=>
   have HYES:Hid (n+m < uHalf):=hh (of_decide_eq_true HR'.out.symm)
   go_wp2_with (first
    | (refine lR HO5b Tryz.underlying25 Tryz.sizeU ?_)
    | (refine sR 25 #[.int .u64 sa,.int .u64 sb,.int .u64 sc,.int .u64 sd] HR5b Tryz.sizeU ?_))
   intro w6 hx6 k6 _;have HX6:=hh hx6;have HB6:=hh (HB5b.out.trans (k6.below (B:=w.heap.size) (fun y hy e=>by have:=HRW.out;omega) HB5b.out.size));clear hx6 k6;go_wp2_with fail
   exact bR rfl rfl HX6 Tryz.underlying25 Tryz.sizeU ⟨_,_,_,_,by rw [HVV.out,if_pos HYES.out];exact HSU.out,by rw [HEE.out,if_pos HYES.out];rfl,HB6.out⟩
end
section
set_option maxHeartbeats 8000000
set_option maxRecDepth 100000
open Go.RowKit

def moveE (f:Txt→Option Txt) (k q:Txt) (m:Nat):Int:=if ¬ m≤amtV f k then 13 else if k=q then 0 else if amtV f q+m < uHalf then 0 else 6
def PS.moveA (s:PS) (k q:Txt) (m:Nat):PS:=if moveE (getP s.t) k q m=0∧k≠q then (s.setAmt k (amtV (getP s.t) k - m)).setAmt q (amtV (getP s.t) q+m) else s
theorem h0w (s:PS) (k q:Txt) (n:Nat):(s.moveA k q n).sz≤s.sz+4:=by
 unfold PS.moveA;split
 ·have h1:=a0z (s.setAmt k (amtV (getP s.t) k - n)) q (amtV (getP s.t) q+n);have h2:=a0z s k (amtV (getP s.t) k - n)
  omega
 ·omega
theorem Fit.moveA {s:PS} (h:Fit s) (k q:Txt) (n:Nat):Fit (s.moveA k q n):=by
 unfold PS.moveA;split
 ·exact (h.setAmt _ _).setAmt _ _
 ·exact h

theorem q0m {a b c d a' b' c' d':Int} {n m:Nat} (h:UIs a b c d n) (h':UIs a' b' c' d' m) {w:World} {B:Nat} (hB:w.heap[B]? = some (.cells #[.int .u64 a',.int .u64 b',.int .u64 c',.int .u64 d'] 25 (0,0))) :
  Calls Tryz.prog 172 #[.agg #[.int .u64 a,.int .u64 b,.int .u64 c,.int .u64 d],.pointer (some ⟨B,0,none⟩)] w (UErr w (if n+m < uHalf then n+m else 0) (if n+m < uHalf then 0 else 6)):=by
 have HU:=hh h;have HU2:=hh h';have HB0:=hh hB;clear h h' hB;obtain ⟨vv,hvv⟩:=nm (if n+m < uHalf then n+m else 0);obtain ⟨ee,hee⟩:∃ ee:Int,ee=if n+m < uHalf then 0 else 6:=⟨_,rfl⟩;rw [← hvv,← hee];have HVV:=hh hvv;have HEE:=hh hee;clear hvv hee
 go_enter Tryz.func172,Tryz.ntmps172
 go_wp2_with (refine sA _ Tryz.zeroUz ?_)
 obtain ⟨w1,hw1⟩:=nm (w.alloc (.cells #[.int .u64 a,.int .u64 b,.int .u64 c,.int .u64 d] 25));obtain ⟨X,hX⟩:=nm (w.heap.size);rw [← hw1,← hX];have hb1:Below w.heap.size w w1:=by rw [hw1];exact a0d _ _
 have HX1:Hid (w1.heap[X]? = some (.cells #[.int .u64 a,.int .u64 b,.int .u64 c,.int .u64 d] 25 (0,0))):=hh (by rw [hw1,hX];exact heap_alloc_new _ _);have HB1:=hh hb1;have HQ1:=bA hb1 HB0;clear hw1 hX hb1 HB0;intro R w2 h2;have HR2:=hh h2.out.cells;have HB2:=hh (HB1.out.trans (h2.out.below.mono HB1.out.size));have HRW:Hid (w.heap.size≤R):=hh (by rw [h2.out.eq];exact HB1.out.size);have HX2:=hh (a0e h2.out.below HX1.out);have HQ2:=hh (a0e h2.out.below HQ1.out);clear h2 HX1 HQ1 HB1
 go_wp2_with (first
  | (refine lR HX2 Tryz.underlying25 Tryz.sizeU ?_)
  | (refine lR HQ2 Tryz.underlying25 Tryz.sizeU ?_))
 refine (h0p HU.out HU2.out _).mono ?_;rw [← HVV.out,← HEE.out];rintro e w3 ⟨sa,sb,sc,sd,hu,rfl,hb⟩;have HSU:=hh hu;have HR3:=bA hb HR2;have HB3:=bT HB2 hb;clear hu hb HR2 HB2 HX2 HQ2
 go_wp2_with (refine sR 25 #[.int .u64 sa,.int .u64 sb,.int .u64 sc,.int .u64 sd] HR3 Tryz.sizeU ?_)
 intro w6 hx6 k6 _;have HX6:=hh hx6;have HB6:=hh (HB3.out.trans (k6.below (B:=w.heap.size) (fun y hy e=>by have:=HRW.out;omega) HB3.out.size));clear hx6 k6;go_wp2_with fail
 exact bR rfl rfl HX6 Tryz.underlying25 Tryz.sizeU ⟨sa,sb,sc,sd,HSU.out,rfl,HB6.out⟩

theorem n0R {w:World} {g:Nat} {s:PS} {F:List Nat} (h:St w g s F) (hz:s.sz < 1099511627776) (hf:Fit s) (k:Txt) {a' b' c' d':Int} {m:Nat} (hu:UIs a' b' c' d' m) {B:Nat} (hB:w.heap[B]? = some (.cells #[.int .u64 a',.int .u64 b',.int .u64 c',.int .u64 d'] 25 (0,0))) :
  Calls Tryz.prog 171 #[.pointer (some ⟨g,0,none⟩),.string (bs k),.func (.func 172) #[] #[.pointer (some ⟨B,0,none⟩)]] w (StRet w g F (PS.addA s k m) (.int .i64 (addE (getP s.t) k m))):=by
 have L:=hh (Liv.start h);have HZ:=hh hz;have HU2:=hh hu;have HB0:=hh hB;have ham:=a0K (Look.of_st h) hf.f k;obtain ⟨n,hn⟩:=nm (amtV (getP s.t) k);rw [← hn] at ham;have HE:Hid (addE (getP s.t) k m=if n+m < uHalf then 0 else 6):=hh (by rw [hn];rfl);have HS:Hid (PS.addA s k m=if n+m < uHalf then s.setAmt k (n+m) else s):=hh (by rw [hn];rfl);clear h hz hu hB hf hn
 go_enter Tryz.func171,Tryz.ntmps171
 go_wp2_with fail;refine ham.mono ?_;clear ham;rintro e w1 ⟨a,b,c,d,hu1,rfl,hb⟩;have HU1:=hh hu1;have L1:=hh (L.out.later hb);have HQ1:=bA hb HB0;clear hu1 hb L HB0;go_wp2_with fail;refine (q0m HU1.out HU2.out HQ1.out).mono ?_
 by_cases hc:n+m < uHalf
 ·rw [if_pos hc,if_pos hc];have HEV:Hid (addE (getP s.t) k m=0):=hh (by rw [HE.out,if_pos hc]);have HSV:Hid (PS.addA s k m=s.setAmt k (n+m)):=hh (by rw [HS.out,if_pos hc]);clear hc;rintro e w2 ⟨sa,sb,sc,sd,hu2,rfl,hb⟩;have HSU:=hh hu2;have L2:=hh (L1.out.later hb);clear hu2 hb L1 HQ1
  go_wp2_with (refine sA _ Tryz.zeroUz ?_)
  intro O w3 h3
  go_wp2_with (refine a0a (t:=25) (old:=u0) rfl 25 _ _ rfl O #[.int .u64 sa,.int .u64 sb,.int .u64 sc,.int .u64 sd] rfl rfl h3.out.cells Tryz.sizeU rfl (a0Y _ _ _ _) ?_)
  intro w4 hx4 k4 _;have hb24:Below w2.heap.size w2 w4:=h3.out.below.trans (k4.below (B:=w2.heap.size) (fun x hx e=>by have:=h3.out.eq;omega) h3.out.below.size);have L4:=hh (L2.out.later hb24);have HO4:=hh hx4;clear h3 hx4 k4 hb24 L2
  go_wp2_with (refine lR HO4 Tryz.underlying25 Tryz.sizeU ?_)
  refine (L4.out.call fun F h=>a0k h HZ.out k HSU.out).mono ?_;rintro e w5 ⟨rfl,L5,_⟩;have L5:=hh L5;go_wp2_with fail
  go_ret
  rw [HEV.out,HSV.out];exact L5.out.ret
 ·rw [if_neg hc,if_neg hc];have HEV:Hid (addE (getP s.t) k m=6):=hh (by rw [HE.out,if_neg hc]);have HSV:Hid (PS.addA s k m=s):=hh (by rw [HS.out,if_neg hc]);clear hc;rintro e w2 ⟨sa,sb,sc,sd,hu2,rfl,hb⟩;have L2:=hh (L1.out.later hb);clear hu2 hb L1 HQ1
  go_wp2_with (refine sA _ Tryz.zeroUz ?_)
  intro O w3 h3
  go_wp2_with (refine a0a (t:=25) (old:=u0) rfl 25 _ _ rfl O #[.int .u64 sa,.int .u64 sb,.int .u64 sc,.int .u64 sd] rfl rfl h3.out.cells Tryz.sizeU rfl (a0Y _ _ _ _) ?_)
  intro w4 hx4 k4 _;have hb24:Below w2.heap.size w2 w4:=h3.out.below.trans (k4.below (B:=w2.heap.size) (fun x hx e=>by have:=h3.out.eq;omega) h3.out.below.size);have L4:=hh (L2.out.later hb24);clear h3 hx4 k4 hb24 L2;go_wp2_with fail
  go_ret
  rw [HEV.out,HSV.out];exact L4.out.ret

theorem h0X {w:World} {g:Nat} {s:PS} {F:List Nat} (h:St w g s F) (hz:s.sz < 1099511627776) (hf:Fit s) (k:Txt) {a b c d:Int} {m:Nat} (hu:UIs a b c d m) :
  Calls Tryz.prog 104 #[.pointer (some ⟨g,0,none⟩),.string (bs k),.agg #[.int .u64 a,.int .u64 b,.int .u64 c,.int .u64 d]] w (StRet w g F (PS.addA s k m) (.int .i64 (addE (getP s.t) k m))):=by
 have L:=hh (Liv.start h);have HZ:=hh hz;have HU:=hh hu;have HF:=hh hf;clear h hz hu hf
 go_enter Tryz.func104,Tryz.ntmps104
 go_wp2_with fail;have L1:=hh (L.out.later (a0d w (.cells #[.int .u64 a,.int .u64 b,.int .u64 c,.int .u64 d] 25)));refine (L1.out.call fun F h=>n0R h HZ.out HF.out k HU.out (heap_alloc_new w _)).mono ?_;rintro e w2 ⟨rfl,L2,_⟩;have L2:=hh L2;go_wp2_with fail
 go_ret
 exact L2.out.ret

theorem less10v {a b c d a' b' c' d':Int} {n m:Nat} (h:UIs a b c d n) (h':UIs a' b' c' d' m) {v:Nat} {er:Int} (hv:v=if m≤n then n - m else 0) (he:er=if m≤n then 0 else 13) (w:World) :
  Calls Tryz.prog 212 #[.agg #[.int .u64 a,.int .u64 b,.int .u64 c,.int .u64 d],.agg #[.int .u64 a',.int .u64 b',.int .u64 c',.int .u64 d']] w (UErr w v er):=by subst hv;subst he;exact m0S h h' w
theorem more10v {a b c d a' b' c' d':Int} {n m:Nat} (h:UIs a b c d n) (h':UIs a' b' c' d' m) {v:Nat} {er:Int} (hv:v=if n+m < uHalf then n+m else 0) (he:er=if n+m < uHalf then 0 else 6) (w:World) :
  Calls Tryz.prog 173 #[.agg #[.int .u64 a,.int .u64 b,.int .u64 c,.int .u64 d],.agg #[.int .u64 a',.int .u64 b',.int .u64 c',.int .u64 d']] w (UErr w v er):=by subst hv;subst he;exact h0p h h' w

theorem liv_u {w0 w w':World} {F0:List Nat} {g:Nat} {s:PS} {X:Nat} {cs:Array Value} (L:Liv w0 F0 w g s) (hX:w.heap[X]? = some (.cells cs 25 (0,0))) (hk:Keep (· = X) w w') (hw:w0.heap.size≤X):Liv w0 F0 w' g s:=by
 obtain ⟨F,h1,h2,h3⟩:=L;refine ⟨F,h1.keep hk fun x hx hu=>?_,h2.trans (hk.mono fun y _ hy=>.inr (hy▸hw)),h3⟩;obtain ⟨o,ho,k1⟩:=h1.kind x hx;subst hu;rw [hX] at ho
 cases ho
 have k2:stoKind (.cells cs 25 (0,0))=false:=rfl;rw [k2] at k1;cases k1
theorem Liv.look {w0 w:World} {F0:List Nat} {g:Nat} {s:PS} (L:Liv w0 F0 w g s):Look w (some ⟨g,0,none⟩) true (getP s.t):=by
 obtain ⟨F,h1,_⟩:=L;exact Look.of_st h1

theorem n0Z {w:World} {g:Nat} {s:PS} {F:List Nat} (h:St w g s F) (hz:s.sz < 1099511627000) (hf:Fit s) (k q:Txt) {a b c d:Int} {m:Nat} (hu:UIs a b c d m) :
  Calls Tryz.prog 177 #[.pointer (some ⟨g,0,none⟩),.string (bs k),.string (bs q),.agg #[.int .u64 a,.int .u64 b,.int .u64 c,.int .u64 d]] w (StRet w g F (s.moveA k q m) (.int .i64 (moveE (getP s.t) k q m))):=by
 have L:=hh (Liv.start h);have HZ:=hh hz;have HU:=hh hu;have HF:=hh hf;clear h hz hu hf;obtain ⟨n1,hn1⟩:=nm (amtV (getP s.t) k);obtain ⟨n2,hn2⟩:=nm (amtV (getP s.t) q);have HN:=hh (And.intro hn1 hn2);have HE:Hid (moveE (getP s.t) k q m=if ¬ m≤n1 then 13 else if k=q then 0 else if n2+m < uHalf then 0 else 6):=hh (by rw [hn1,hn2];rfl);have HS:Hid (s.moveA k q m=if moveE (getP s.t) k q m=0∧k≠q then (s.setAmt k (n1 - m)).setAmt q (n2+m) else s):=hh (by rw [hn1,hn2];rfl);clear hn1 hn2
 go_enter Tryz.func177,Tryz.ntmps177
 go_upto_region 1 with fail
 obtain ⟨w1,hw1⟩:=nm (w.alloc (.cells #[.int .u64 a,.int .u64 b,.int .u64 c,.int .u64 d] 25));obtain ⟨X,hX⟩:=nm (w.heap.size);rw [← hw1,← hX];have hb1:Below w.heap.size w w1:=by rw [hw1];exact a0d _ _
 have HX1:Hid (w1.heap[X]? = some (.cells #[.int .u64 a,.int .u64 b,.int .u64 c,.int .u64 d] 25 (0,0))):=hh (by rw [hw1,hX];exact heap_alloc_new _ _);have L1:=hh (L.out.later hb1);clear hw1 hX hb1 L;have L:=L1;have HX:=HX1;clear L1 HX1;obtain ⟨x1,hx1⟩:=nm (if m≤n1 then n1 - m else 0);obtain ⟨r1,hr1⟩:∃ v:Int,v=if m≤n1 then 0 else 13:=⟨_,rfl⟩;have HV1:=hh (And.intro hx1 hr1);clear hx1 hr1
 go_cut [9,10] from 12 (fun s9 s10 wx=>∃ (P:Nat) (ya:Int) (yb:Int) (yc:Int) (yd:Int),s9 = .pointer (some ⟨P,0,none⟩)∧s10 = .int .i64 r1∧Hid (Liv w F wx g s)∧Hid (wx.heap[X]? = some (.cells #[.int .u64 a,.int .u64 b,.int .u64 c,.int .u64 d] 25 (0,0)))∧Hid (wx.heap[P]? = some (.cells #[.int .u64 ya,.int .u64 yb,.int .u64 yc,.int .u64 yd] 25 (0,0)))∧Hid (UIs ya yb yc yd x1))
 case first=>
  obtain ⟨a1,hwz,hbz⟩:=dr w1;replace L:=hh (L.out.later hbz);replace HX:=bA hbz HX;clear hbz;refine rg1 11 11 hwz HX fun hS=>?_
  clear hwz;refine tA1 0 13 hS ?_;go_frame;refine tA1 1 14 hS ?_;go_frame;refine tl 3 (some 16) (fun _ h=>h) Tryz.underlying25 Tryz.sizeU hS ?_;go_frame;refine a0B 2 8 rfl rfl (by kernel_rfl) (fun K hK=>?_) (fun K hK=>?_)
  ·simp only [gA,jB,gC];rw [if_pos (by rfl)];go_simp;refine (a0K L.out.look HF.out.f k).mono ?_;rintro e a2 ⟨xa,xb,xc,xd,hu1,rfl,hb⟩;rw [← HN.out.1] at hu1;have HxU:=hh hu1;clear hu1;replace L:=hh (L.out.later hb);replace HX:=bA hb HX;clear hb;replace hS:=HX.out;refine hK _ _ (fun _ _=>hS) ?_;clear hK;refine a0B 4 8 rfl rfl (by kernel_rfl) (fun K hK=>?_) (fun K hK=>?_)
   ·simp only [gA,jB,gC];rw [if_pos (by rfl)];go_simp;refine (less10v HxU.out HU.out HV1.out.1 HV1.out.2 _).mono ?_;rintro e a3 ⟨ya,yb,yc,yd,hu1,rfl,hb⟩;have HyU:=hh hu1;clear hu1;replace L:=hh (L.out.later hb);replace HX:=bA hb HX;clear hb;replace hS:=HX.out;refine hK _ _ (fun _ _=>hS) ?_;clear hK;refine tA1 5 12 hS ?_;go_frame;refine tA1 6 18 hS ?_;go_frame;refine tA1 7 19 hS ?_;go_frame;refine t1 8 fun K hK=>?_
    simp only [gA,jB,gC];refine wA1 25 Tryz.zeroUz ?_;intro P a4 hP;have WP:=mGe hP L.out.keep.size;have NXP:=mNe hP HX;have HP:=hh hP.out.cells;have hbP:=hP.out.below;clear hP;replace L:=hh (L.out.later hbP);replace HX:=bA hbP HX;clear hbP;replace hS:=HX.out;refine hK _ _ (fun _ _=>hS) ?_;clear hK;refine t1 9 fun K hK=>?_
    simp only [gA,jB,gC];refine wR1 25 #[.int .u64 ya,.int .u64 yb,.int .u64 yc,.int .u64 yd] HP Tryz.sizeU ?_;intro a5 hxP kP zP;clear zP;replace L:=hh (liv_u L.out HP.out kP WP.out);replace HX:=ka1 kP HX NXP;replace HP:=hh hxP;clear hxP kP;replace hS:=HX.out;refine hK _ _ (fun _ _=>hS) ?_;clear hK;refine tA1 10 10 hS ?_;go_frame;refine tD ?_;clear hS;go_wp2_with fail
    go_meet
    case rel=>exact ⟨P,ya,yb,yc,yd,rfl,rfl,L,HX,HP,HyU⟩
   ·simp only [gA,jB,gC];rw [if_pos (by rfl)];refine wA1 25 Tryz.zeroUz ?_;intro P a3 hP;have WP:=mGe hP L.out.keep.size;have NXP:=mNe hP HX;have HP:=hh hP.out.cells;have hbP:=hP.out.below;clear hP;replace L:=hh (L.out.later hbP);replace HX:=bA hbP HX;clear hbP;replace hS:=HX.out;refine hK _ _ (fun _ _=>hS) ?_;clear hK;refine t1 4 fun K hK=>?_
    simp only [gA,jB,gC];go_simp;refine (less10v HxU.out HU.out HV1.out.1 HV1.out.2 _).mono ?_;rintro e a4 ⟨ya,yb,yc,yd,hu1,rfl,hb⟩;have HyU:=hh hu1;clear hu1;replace L:=hh (L.out.later hb);replace HX:=bA hb HX;replace HP:=bA hb HP;clear hb;replace hS:=HX.out;refine hK _ _ (fun _ _=>hS) ?_;clear hK;refine tA1 5 12 hS ?_;go_frame;refine tA1 6 18 hS ?_;go_frame;refine tA1 7 19 hS ?_;go_frame;refine t1 9 fun K hK=>?_
    simp only [gA,jB,gC];refine wR1 25 #[.int .u64 ya,.int .u64 yb,.int .u64 yc,.int .u64 yd] HP Tryz.sizeU ?_;intro a5 hxP kP zP;clear zP;replace L:=hh (liv_u L.out HP.out kP WP.out);replace HX:=ka1 kP HX NXP;replace HP:=hh hxP;clear hxP kP;replace hS:=HX.out;refine hK _ _ (fun _ _=>hS) ?_;clear hK;refine tA1 10 10 hS ?_;go_frame;refine tD ?_;clear hS;go_wp2_with fail
    go_meet
    case rel=>exact ⟨P,ya,yb,yc,yd,rfl,rfl,L,HX,HP,HyU⟩
  ·simp only [gA,jB,gC];rw [if_pos (by rfl)];refine wA1 25 Tryz.zeroUz ?_;intro P a2 hP;have WP:=mGe hP L.out.keep.size;have NXP:=mNe hP HX;have HP:=hh hP.out.cells;have hbP:=hP.out.below;clear hP;replace L:=hh (L.out.later hbP);replace HX:=bA hbP HX;clear hbP;replace hS:=HX.out;refine hK _ _ (fun _ _=>hS) ?_;clear hK;refine t1 2 fun K hK=>?_
   simp only [gA,jB,gC];go_simp;refine (a0K L.out.look HF.out.f k).mono ?_;rintro e a3 ⟨xa,xb,xc,xd,hu1,rfl,hb⟩;rw [← HN.out.1] at hu1;have HxU:=hh hu1;clear hu1;replace L:=hh (L.out.later hb);replace HX:=bA hb HX;replace HP:=bA hb HP;clear hb;replace hS:=HX.out;refine hK _ _ (fun _ _=>hS) ?_;clear hK;refine t1 4 fun K hK=>?_
   simp only [gA,jB,gC];go_simp;refine (less10v HxU.out HU.out HV1.out.1 HV1.out.2 _).mono ?_;rintro e a4 ⟨ya,yb,yc,yd,hu1,rfl,hb⟩;have HyU:=hh hu1;clear hu1;replace L:=hh (L.out.later hb);replace HX:=bA hb HX;replace HP:=bA hb HP;clear hb;replace hS:=HX.out;refine hK _ _ (fun _ _=>hS) ?_;clear hK;refine tA1 5 12 hS ?_;go_frame;refine tA1 6 18 hS ?_;go_frame;refine tA1 7 19 hS ?_;go_frame;refine t1 9 fun K hK=>?_
   simp only [gA,jB,gC];refine wR1 25 #[.int .u64 ya,.int .u64 yb,.int .u64 yc,.int .u64 yd] HP Tryz.sizeU ?_;intro a5 hxP kP zP;clear zP;replace L:=hh (liv_u L.out HP.out kP WP.out);replace HX:=ka1 kP HX NXP;replace HP:=hh hxP;clear hxP kP;replace hS:=HX.out;refine hK _ _ (fun _ _=>hS) ?_;clear hK;refine tA1 10 10 hS ?_;go_frame;refine tD ?_;clear hS;go_wp2_with fail
   go_meet
   case rel=>exact ⟨P,ya,yb,yc,yd,rfl,rfl,L,HX,HP,HyU⟩
 case rest=>
  obtain ⟨P,ya,yb,yc,yd,rfl,rfl,L,HX,HP,HyU⟩:=hcut
  by_cases g1:m≤n1
  ·have hr:r1=0:=by rw [HV1.out.2,if_pos g1]
   have HX1E:Hid (x1=n1 - m):=hh (by rw [HV1.out.1,if_pos g1]);subst hr
   by_cases g2:k=q
   ·have HEV:Hid (moveE (getP s.t) k q m=0):=hh (by rw [HE.out,if_neg (fun h=>h g1),if_pos g2]);have HSV:Hid (s.moveA k q m=s):=hh (by rw [HS.out,if_neg (fun h=>h.2 g2)]);have hst:((bs k).toList == (bs q).toList)=true:=by rw [e0M,decide_eq_true g2]
    have hst2:(bs k).toList=(bs q).toList:=by rw [g2]
    clear g1 g2;go_wp2_with fail
    go_ret
    rw [HEV.out,HSV.out];exact L.out.ret
   ·have hst:((bs k).toList == (bs q).toList)=false:=by rw [e0M,decide_eq_false g2]
    have hst2:¬ (bs k).toList=(bs q).toList:=by rw [a0j,a0j];exact g2
    have HG:=hh (And.intro g1 g2);clear g1 g2;obtain ⟨x2,hx2⟩:=nm (if n2+m < uHalf then n2+m else 0);obtain ⟨r2,hr2⟩:∃ v:Int,v=if n2+m < uHalf then 0 else 6:=⟨_,rfl⟩;have HV2:=hh (And.intro hx2 hr2);clear hx2 hr2
    go_upto_region 4 with fail
    clear hst hst2
    go_cut [11,10] from 28 (fun s11 s10 wx=>∃ (Q:Nat) (za:Int) (zb:Int) (zc:Int) (zd:Int),s11 = .pointer (some ⟨Q,0,none⟩)∧s10 = .int .i64 r2∧Hid (Liv w F wx g s)∧Hid (wx.heap[X]? = some (.cells #[.int .u64 a,.int .u64 b,.int .u64 c,.int .u64 d] 25 (0,0)))∧Hid (wx.heap[P]? = some (.cells #[.int .u64 ya,.int .u64 yb,.int .u64 yc,.int .u64 yd] 25 (0,0)))∧Hid (wx.heap[Q]? = some (.cells #[.int .u64 za,.int .u64 zb,.int .u64 zc,.int .u64 zd] 25 (0,0)))∧Hid (UIs za zb zc zd x2))
    case first=>
     obtain ⟨a1,hwz,hbz⟩:=dr wc;replace L:=hh (L.out.later hbz);replace HX:=bA hbz HX;replace HP:=bA hbz HP;clear hbz;refine rg1 11 11 hwz HX fun hS=>?_
     clear hwz;refine tA1 0 29 hS ?_;go_frame;refine tA1 1 30 hS ?_;go_frame;refine tl 3 (some 32) (fun _ h=>h) Tryz.underlying25 Tryz.sizeU hS ?_;go_frame;refine a0B 2 8 rfl rfl (by kernel_rfl) (fun K hK=>?_) (fun K hK=>?_)
     ·simp only [gA,jB,gC];rw [if_pos (by rfl)];go_simp;refine (a0K L.out.look HF.out.f q).mono ?_;rintro e a2 ⟨va,vb,vc,vd,hu1,rfl,hb⟩;rw [← HN.out.2] at hu1;have HvU:=hh hu1;clear hu1;replace L:=hh (L.out.later hb);replace HX:=bA hb HX;replace HP:=bA hb HP;clear hb;replace hS:=HX.out;refine hK _ _ (fun _ _=>hS) ?_;clear hK;refine a0B 4 8 rfl rfl (by kernel_rfl) (fun K hK=>?_) (fun K hK=>?_)
      ·simp only [gA,jB,gC];rw [if_pos (by rfl)];go_simp;refine (more10v HvU.out HU.out HV2.out.1 HV2.out.2 _).mono ?_;rintro e a3 ⟨za,zb,zc,zd,hu1,rfl,hb⟩;have HzU:=hh hu1;clear hu1;replace L:=hh (L.out.later hb);replace HX:=bA hb HX;replace HP:=bA hb HP;clear hb;replace hS:=HX.out;refine hK _ _ (fun _ _=>hS) ?_;clear hK;refine tA1 5 28 hS ?_;go_frame;refine tA1 6 34 hS ?_;go_frame;refine tA1 7 35 hS ?_;go_frame;refine t1 8 fun K hK=>?_
       simp only [gA,jB,gC];refine wA1 25 Tryz.zeroUz ?_;intro Q a4 hQ;have WQ:=mGe hQ L.out.keep.size;have NXQ:=mNe hQ HX;have NPQ:=mNe hQ HP;have HQ:=hh hQ.out.cells;have hbQ:=hQ.out.below;clear hQ;replace L:=hh (L.out.later hbQ);replace HX:=bA hbQ HX;replace HP:=bA hbQ HP;clear hbQ;replace hS:=HX.out;refine hK _ _ (fun _ _=>hS) ?_;clear hK;refine t1 9 fun K hK=>?_
       simp only [gA,jB,gC];refine wR1 25 #[.int .u64 za,.int .u64 zb,.int .u64 zc,.int .u64 zd] HQ Tryz.sizeU ?_;intro a5 hxQ kQ zQ;clear zQ;replace L:=hh (liv_u L.out HQ.out kQ WQ.out);replace HX:=ka1 kQ HX NXQ;replace HP:=ka1 kQ HP NPQ;replace HQ:=hh hxQ;clear hxQ kQ;replace hS:=HX.out;refine hK _ _ (fun _ _=>hS) ?_;clear hK;refine tA1 10 10 hS ?_;go_frame;refine tD ?_;clear hS;go_wp2_with fail
       go_meet
       case rel=>exact ⟨Q,za,zb,zc,zd,rfl,rfl,L,HX,HP,HQ,HzU⟩
      ·simp only [gA,jB,gC];rw [if_pos (by rfl)];refine wA1 25 Tryz.zeroUz ?_;intro Q a3 hQ;have WQ:=mGe hQ L.out.keep.size;have NXQ:=mNe hQ HX;have NPQ:=mNe hQ HP;have HQ:=hh hQ.out.cells;have hbQ:=hQ.out.below;clear hQ;replace L:=hh (L.out.later hbQ);replace HX:=bA hbQ HX;replace HP:=bA hbQ HP;clear hbQ;replace hS:=HX.out;refine hK _ _ (fun _ _=>hS) ?_;clear hK;refine t1 4 fun K hK=>?_
       simp only [gA,jB,gC];go_simp;refine (more10v HvU.out HU.out HV2.out.1 HV2.out.2 _).mono ?_;rintro e a4 ⟨za,zb,zc,zd,hu1,rfl,hb⟩;have HzU:=hh hu1;clear hu1;replace L:=hh (L.out.later hb);replace HX:=bA hb HX;replace HP:=bA hb HP;replace HQ:=bA hb HQ;clear hb;replace hS:=HX.out;refine hK _ _ (fun _ _=>hS) ?_;clear hK;refine tA1 5 28 hS ?_;go_frame;refine tA1 6 34 hS ?_;go_frame;refine tA1 7 35 hS ?_;go_frame;refine t1 9 fun K hK=>?_
       simp only [gA,jB,gC];refine wR1 25 #[.int .u64 za,.int .u64 zb,.int .u64 zc,.int .u64 zd] HQ Tryz.sizeU ?_;intro a5 hxQ kQ zQ;clear zQ;replace L:=hh (liv_u L.out HQ.out kQ WQ.out);replace HX:=ka1 kQ HX NXQ;replace HP:=ka1 kQ HP NPQ;replace HQ:=hh hxQ;clear hxQ kQ;replace hS:=HX.out;refine hK _ _ (fun _ _=>hS) ?_;clear hK;refine tA1 10 10 hS ?_;go_frame;refine tD ?_;clear hS;go_wp2_with fail
       go_meet
       case rel=>exact ⟨Q,za,zb,zc,zd,rfl,rfl,L,HX,HP,HQ,HzU⟩
     ·simp only [gA,jB,gC];rw [if_pos (by rfl)];refine wA1 25 Tryz.zeroUz ?_;intro Q a2 hQ;have WQ:=mGe hQ L.out.keep.size;have NXQ:=mNe hQ HX;have NPQ:=mNe hQ HP;have HQ:=hh hQ.out.cells;have hbQ:=hQ.out.below;clear hQ;replace L:=hh (L.out.later hbQ);replace HX:=bA hbQ HX;replace HP:=bA hbQ HP;clear hbQ;replace hS:=HX.out;refine hK _ _ (fun _ _=>hS) ?_;clear hK;refine t1 2 fun K hK=>?_
      simp only [gA,jB,gC];go_simp;refine (a0K L.out.look HF.out.f q).mono ?_;rintro e a3 ⟨va,vb,vc,vd,hu1,rfl,hb⟩;rw [← HN.out.2] at hu1;have HvU:=hh hu1;clear hu1;replace L:=hh (L.out.later hb);replace HX:=bA hb HX;replace HP:=bA hb HP;replace HQ:=bA hb HQ;clear hb;replace hS:=HX.out;refine hK _ _ (fun _ _=>hS) ?_;clear hK;refine t1 4 fun K hK=>?_
      simp only [gA,jB,gC];go_simp;refine (more10v HvU.out HU.out HV2.out.1 HV2.out.2 _).mono ?_;rintro e a4 ⟨za,zb,zc,zd,hu1,rfl,hb⟩;have HzU:=hh hu1;clear hu1;replace L:=hh (L.out.later hb);replace HX:=bA hb HX;replace HP:=bA hb HP;replace HQ:=bA hb HQ;clear hb;replace hS:=HX.out;refine hK _ _ (fun _ _=>hS) ?_;clear hK;refine tA1 5 28 hS ?_;go_frame;refine tA1 6 34 hS ?_;go_frame;refine tA1 7 35 hS ?_;go_frame;refine t1 9 fun K hK=>?_
      simp only [gA,jB,gC];refine wR1 25 #[.int .u64 za,.int .u64 zb,.int .u64 zc,.int .u64 zd] HQ Tryz.sizeU ?_;intro a5 hxQ kQ zQ;clear zQ;replace L:=hh (liv_u L.out HQ.out kQ WQ.out);replace HX:=ka1 kQ HX NXQ;replace HP:=ka1 kQ HP NPQ;replace HQ:=hh hxQ;clear hxQ kQ;replace hS:=HX.out;refine hK _ _ (fun _ _=>hS) ?_;clear hK;refine tA1 10 10 hS ?_;go_frame;refine tD ?_;clear hS;go_wp2_with fail
      go_meet
      case rel=>exact ⟨Q,za,zb,zc,zd,rfl,rfl,L,HX,HP,HQ,HzU⟩
    case rest=>
     obtain ⟨Q,za,zb,zc,zd,rfl,rfl,L,HX,HP,HQ,HzU⟩:=hcut
     by_cases g3:n2+m < uHalf
     ·have hr:r2=0:=by rw [HV2.out.2,if_pos g3]
      have HX2E:Hid (x2=n2+m):=hh (by rw [HV2.out.1,if_pos g3]);have HEV:Hid (moveE (getP s.t) k q m=0):=hh (by rw [HE.out,if_neg (fun h=>h HG.out.1),if_neg HG.out.2,if_pos g3]);have HSV:Hid (s.moveA k q m=(s.setAmt k (n1 - m)).setAmt q (n2+m)):=hh (by rw [HS.out,if_pos ⟨HEV.out,HG.out.2⟩]);subst hr;clear g3 HX
      go_wp2_with (refine lR HP Tryz.underlying25 Tryz.sizeU ?_)
      clear HP;refine (L.out.call fun F hs=>a0k hs (by have:=HZ.out;omega) k HyU.out).mono ?_;rw [HX1E.out];rintro e a1 ⟨rfl,o,hoth⟩;replace L:=hh o;replace HQ:=oA hoth HQ;clear o hoth
      go_wp2_with (refine lR HQ Tryz.underlying25 Tryz.sizeU ?_)
      clear HQ;refine (L.out.call fun F hs=>a0k hs (by have:=HZ.out;have:=a0z s k (n1 - m);omega) q HzU.out).mono ?_;rw [HX2E.out];rintro e a2 ⟨rfl,o,hoth⟩;replace L:=hh o;clear o hoth;go_wp2_with fail
      go_ret
      rw [HEV.out,HSV.out];exact L.out.ret
     ·have hr:r2=6:=by rw [HV2.out.2,if_neg g3]
      have HEV:Hid (moveE (getP s.t) k q m=6):=hh (by rw [HE.out,if_neg (fun h=>h HG.out.1),if_neg HG.out.2,if_neg g3]);have HSV:Hid (s.moveA k q m=s):=hh (by rw [HS.out,HEV.out];rfl);subst hr;clear g3;go_wp2_with fail
      go_ret
      rw [HEV.out,HSV.out];exact L.out.ret
  ·have hr:r1=13:=by rw [HV1.out.2,if_neg g1]
   have HEV:Hid (moveE (getP s.t) k q m=13):=hh (by rw [HE.out,if_pos g1]);have HSV:Hid (s.moveA k q m=s):=hh (by rw [HS.out,HEV.out];rfl);subst hr;clear g1;go_wp2_with fail
   go_ret
   rw [HEV.out,HSV.out];exact L.out.ret
end
end Go.Proofs.YtakkfabaeolbdaaGreat
