/- Amounts of cells: added, taken, moved (code). No condition. -/
import Derived.Test.YtabminbgoclnkaaGreatVaCelC
namespace Go.Proofs.YtabminbgoclnkaaGreat
set_option maxHeartbeats 8000000
set_option maxRecDepth 100000
open Go.RowKit

def moveE (f:Txt→Option Txt) (k q:Txt) (m:Nat):Int:=if ¬ m≤amtV f k then 13 else if k=q then 0 else if amtV f q+m < uHalf then 0 else 6
def PS.moveA (s:PS) (k q:Txt) (m:Nat):PS:=if moveE (getP s.t) k q m=0∧k≠q then (s.setAmt k (amtV (getP s.t) k - m)).setAmt q (amtV (getP s.t) q+m) else s
theorem d0P (s:PS) (k q:Txt) (n:Nat):(s.moveA k q n).sz≤s.sz+4:=by
 unfold PS.moveA;split
 ·have h1:=a0C (s.setAmt k (amtV (getP s.t) k - n)) q (amtV (getP s.t) q+n);have h2:=a0C s k (amtV (getP s.t) k - n)
  omega
 ·omega
theorem Fit.moveA {s:PS} (h:Fit s) (k q:Txt) (n:Nat):Fit (s.moveA k q n):=by
 unfold PS.moveA;split
 ·exact (h.setAmt _ _).setAmt _ _
 ·exact h

theorem l0y {a b c d a' b' c' d':Int} {n m:Nat} (h:UIs a b c d n) (h':UIs a' b' c' d' m) {w:World} {B:Nat} (hB:w.heap[B]? = some (.cells #[.int .u64 a',.int .u64 b',.int .u64 c',.int .u64 d'] 25 (0,0))) :
  Calls Tryz.prog 97 #[.agg #[.int .u64 a,.int .u64 b,.int .u64 c,.int .u64 d],.pointer (some ⟨B,0,none⟩)] w (UErr w (if n+m < uHalf then n+m else 0) (if n+m < uHalf then 0 else 6)):=by
 have HU:=hh h;have HU2:=hh h';have HB0:=hh hB;clear h h' hB;obtain ⟨vv,hvv⟩:=nm (if n+m < uHalf then n+m else 0);obtain ⟨ee,hee⟩:∃ ee:Int,ee=if n+m < uHalf then 0 else 6:=⟨_,rfl⟩;rw [← hvv,← hee];have HVV:=hh hvv;have HEE:=hh hee;clear hvv hee
 go_enter Tryz.func97,Tryz.ntmps97
 go_wp2_with (refine sA _ Tryz.zeroUz ?_)
 obtain ⟨w1,hw1⟩:=nm (w.alloc (.cells #[.int .u64 a,.int .u64 b,.int .u64 c,.int .u64 d] 25));obtain ⟨X,hX⟩:=nm (w.heap.size);rw [← hw1,← hX];have hb1:Below w.heap.size w w1:=by rw [hw1];exact a0c _ _
 have HX1:Hid (w1.heap[X]? = some (.cells #[.int .u64 a,.int .u64 b,.int .u64 c,.int .u64 d] 25 (0,0))):=hh (by rw [hw1,hX];exact heap_alloc_new _ _);have HB1:=hh hb1;have HQ1:=bA hb1 HB0;clear hw1 hX hb1 HB0;intro R w2 h2;have HR2:=hh h2.out.cells;have HB2:=hh (HB1.out.trans (h2.out.below.mono HB1.out.size));have HRW:Hid (w.heap.size≤R):=hh (by rw [h2.out.eq];exact HB1.out.size);have HX2:=hh (a0d h2.out.below HX1.out);have HQ2:=hh (a0d h2.out.below HQ1.out);clear h2 HX1 HQ1 HB1
 go_wp2_with (first
  | (refine lR HX2 Tryz.underlying25 Tryz.sizeU ?_)
  | (refine lR HQ2 Tryz.underlying25 Tryz.sizeU ?_))
 refine (e0T HU.out HU2.out _).mono ?_;rw [← HVV.out,← HEE.out];rintro e w3 ⟨sa,sb,sc,sd,hu,rfl,hb⟩;have HSU:=hh hu;have HR3:=bA hb HR2;have HB3:=bT HB2 hb;clear hu hb HR2 HB2 HX2 HQ2
 go_wp2_with (refine sR 25 #[.int .u64 sa,.int .u64 sb,.int .u64 sc,.int .u64 sd] HR3 Tryz.sizeU ?_)
 intro w6 hx6 k6 _;have HX6:=hh hx6;have HB6:=hh (HB3.out.trans (k6.below (B:=w.heap.size) (fun y hy e=>by have:=HRW.out;omega) HB3.out.size));clear hx6 k6;go_wp2_with fail
 exact bR rfl rfl HX6 Tryz.underlying25 Tryz.sizeU ⟨sa,sb,sc,sd,HSU.out,rfl,HB6.out⟩

theorem l0Q {a b c d a' b' c' d':Int} {n m:Nat} (h:UIs a b c d n) (h':UIs a' b' c' d' m) {w:World} {B:Nat} (hB:w.heap[B]? = some (.cells #[.int .u64 a',.int .u64 b',.int .u64 c',.int .u64 d'] 25 (0,0))) :
  Calls Tryz.prog 145 #[.agg #[.int .u64 a,.int .u64 b,.int .u64 c,.int .u64 d],.pointer (some ⟨B,0,none⟩)] w (UErr w (if m≤n then n - m else 0) (if m≤n then 0 else 13)):=by
 have HU:=hh h;have HU2:=hh h';have HB0:=hh hB;clear h h' hB;obtain ⟨vv,hvv⟩:=nm (if m≤n then n - m else 0);obtain ⟨ee,hee⟩:∃ ee:Int,ee=if m≤n then 0 else 13:=⟨_,rfl⟩;rw [← hvv,← hee];have HVV:=hh hvv;have HEE:=hh hee;clear hvv hee
 go_enter Tryz.func145,Tryz.ntmps145
 go_wp2_with (refine sA _ Tryz.zeroUz ?_)
 obtain ⟨w1,hw1⟩:=nm (w.alloc (.cells #[.int .u64 a,.int .u64 b,.int .u64 c,.int .u64 d] 25));obtain ⟨X,hX⟩:=nm (w.heap.size);rw [← hw1,← hX];have hb1:Below w.heap.size w w1:=by rw [hw1];exact a0c _ _
 have HX1:Hid (w1.heap[X]? = some (.cells #[.int .u64 a,.int .u64 b,.int .u64 c,.int .u64 d] 25 (0,0))):=hh (by rw [hw1,hX];exact heap_alloc_new _ _);have HB1:=hh hb1;have HQ1:=bA hb1 HB0;clear hw1 hX hb1 HB0;intro R w2 h2;have HR2:=hh h2.out.cells;have HB2:=hh (HB1.out.trans (h2.out.below.mono HB1.out.size));have HRW:Hid (w.heap.size≤R):=hh (by rw [h2.out.eq];exact HB1.out.size);have HX2:=hh (a0d h2.out.below HX1.out);have HQ2:=hh (a0d h2.out.below HQ1.out);clear h2 HX1 HQ1 HB1
 go_wp2_with (first
  | (refine lR HX2 Tryz.underlying25 Tryz.sizeU ?_)
  | (refine lR HQ2 Tryz.underlying25 Tryz.sizeU ?_))
 refine (f0o HU.out HU2.out _).mono ?_;rw [← HVV.out,← HEE.out];rintro e w3 ⟨sa,sb,sc,sd,hu,rfl,hb⟩;have HSU:=hh hu;have HR3:=bA hb HR2;have HB3:=bT HB2 hb;clear hu hb HR2 HB2 HX2 HQ2
 go_wp2_with (refine sR 25 #[.int .u64 sa,.int .u64 sb,.int .u64 sc,.int .u64 sd] HR3 Tryz.sizeU ?_)
 intro w6 hx6 k6 _;have HX6:=hh hx6;have HB6:=hh (HB3.out.trans (k6.below (B:=w.heap.size) (fun y hy e=>by have:=HRW.out;omega) HB3.out.size));clear hx6 k6;go_wp2_with fail
 exact bR rfl rfl HX6 Tryz.underlying25 Tryz.sizeU ⟨sa,sb,sc,sd,HSU.out,rfl,HB6.out⟩

theorem k0d {w:World} {g:Nat} {s:PS} {F:List Nat} (h:St w g s F) (hz:s.sz < 1099511627776) (hf:Fit s) (k:Txt) {a' b' c' d':Int} {m:Nat} (hu:UIs a' b' c' d' m) {B:Nat} (hB:w.heap[B]? = some (.cells #[.int .u64 a',.int .u64 b',.int .u64 c',.int .u64 d'] 25 (0,0))) :
  Calls Tryz.prog 96 #[.pointer (some ⟨g,0,none⟩),.string (bs k),.func (.func 97) #[] #[.pointer (some ⟨B,0,none⟩)]] w (StRet w g F (PS.addA s k m) (.int .i64 (addE (getP s.t) k m))):=by
 have L:=hh (Liv.start h);have HZ:=hh hz;have HU2:=hh hu;have HB0:=hh hB;have ham:=a0G (Look.of_st h) hf.f k;obtain ⟨n,hn⟩:=nm (amtV (getP s.t) k);rw [← hn] at ham;have HE:Hid (addE (getP s.t) k m=if n+m < uHalf then 0 else 6):=hh (by rw [hn];rfl);have HS:Hid (PS.addA s k m=if n+m < uHalf then s.setAmt k (n+m) else s):=hh (by rw [hn];rfl);clear h hz hu hB hf hn
 go_enter Tryz.func96,Tryz.ntmps96
 go_wp2_with fail;refine ham.mono ?_;clear ham;rintro e w1 ⟨a,b,c,d,hu1,rfl,hb⟩;have HU1:=hh hu1;have L1:=hh (L.out.later hb);have HQ1:=bA hb HB0;clear hu1 hb L HB0;go_wp2_with fail;refine (l0y HU1.out HU2.out HQ1.out).mono ?_
 by_cases hc:n+m < uHalf
 ·rw [if_pos hc,if_pos hc];have HEV:Hid (addE (getP s.t) k m=0):=hh (by rw [HE.out,if_pos hc]);have HSV:Hid (PS.addA s k m=s.setAmt k (n+m)):=hh (by rw [HS.out,if_pos hc]);clear hc;rintro e w2 ⟨sa,sb,sc,sd,hu2,rfl,hb⟩;have HSU:=hh hu2;have L2:=hh (L1.out.later hb);clear hu2 hb L1 HQ1
  go_wp2_with (refine sA _ Tryz.zeroUz ?_)
  intro O w3 h3
  go_wp2_with (refine a0a (t:=25) (old:=u0) rfl 25 _ _ rfl O #[.int .u64 sa,.int .u64 sb,.int .u64 sc,.int .u64 sd] rfl rfl h3.out.cells Tryz.sizeU rfl (a0j _ _ _ _) ?_)
  intro w4 hx4 k4 _;have hb24:Below w2.heap.size w2 w4:=h3.out.below.trans (k4.below (B:=w2.heap.size) (fun x hx e=>by have:=h3.out.eq;omega) h3.out.below.size);have L4:=hh (L2.out.later hb24);have HO4:=hh hx4;clear h3 hx4 k4 hb24 L2
  go_wp2_with (refine lR HO4 Tryz.underlying25 Tryz.sizeU ?_)
  refine (L4.out.call fun F h=>a0l h HZ.out k HSU.out).mono ?_;rintro e w5 ⟨rfl,L5,_⟩;have L5:=hh L5;go_wp2_with fail
  go_ret
  rw [HEV.out,HSV.out];exact L5.out.ret
 ·rw [if_neg hc,if_neg hc];have HEV:Hid (addE (getP s.t) k m=6):=hh (by rw [HE.out,if_neg hc]);have HSV:Hid (PS.addA s k m=s):=hh (by rw [HS.out,if_neg hc]);clear hc;rintro e w2 ⟨sa,sb,sc,sd,hu2,rfl,hb⟩;have L2:=hh (L1.out.later hb);clear hu2 hb L1 HQ1
  go_wp2_with (refine sA _ Tryz.zeroUz ?_)
  intro O w3 h3
  go_wp2_with (refine a0a (t:=25) (old:=u0) rfl 25 _ _ rfl O #[.int .u64 sa,.int .u64 sb,.int .u64 sc,.int .u64 sd] rfl rfl h3.out.cells Tryz.sizeU rfl (a0j _ _ _ _) ?_)
  intro w4 hx4 k4 _;have hb24:Below w2.heap.size w2 w4:=h3.out.below.trans (k4.below (B:=w2.heap.size) (fun x hx e=>by have:=h3.out.eq;omega) h3.out.below.size);have L4:=hh (L2.out.later hb24);clear h3 hx4 k4 hb24 L2;go_wp2_with fail
  go_ret
  rw [HEV.out,HSV.out];exact L4.out.ret

theorem f0X {w:World} {g:Nat} {s:PS} {F:List Nat} (h:St w g s F) (hz:s.sz < 1099511627776) (hf:Fit s) (k:Txt) {a b c d:Int} {m:Nat} (hu:UIs a b c d m) :
  Calls Tryz.prog 44 #[.pointer (some ⟨g,0,none⟩),.string (bs k),.agg #[.int .u64 a,.int .u64 b,.int .u64 c,.int .u64 d]] w (StRet w g F (PS.addA s k m) (.int .i64 (addE (getP s.t) k m))):=by
 have L:=hh (Liv.start h);have HZ:=hh hz;have HU:=hh hu;have HF:=hh hf;clear h hz hu hf
 go_enter Tryz.func44,Tryz.ntmps44
 go_wp2_with fail;have L1:=hh (L.out.later (a0c w (.cells #[.int .u64 a,.int .u64 b,.int .u64 c,.int .u64 d] 25)));refine (L1.out.call fun F h=>k0d h HZ.out HF.out k HU.out (heap_alloc_new w _)).mono ?_;rintro e w2 ⟨rfl,L2,_⟩;have L2:=hh L2;go_wp2_with fail
 go_ret
 exact L2.out.ret

theorem k0Q {w:World} {g:Nat} {s:PS} {F:List Nat} (h:St w g s F) (hz:s.sz < 1099511627776) (hf:Fit s) (k:Txt) {a' b' c' d':Int} {m:Nat} (hu:UIs a' b' c' d' m) {B:Nat} (hB:w.heap[B]? = some (.cells #[.int .u64 a',.int .u64 b',.int .u64 c',.int .u64 d'] 25 (0,0))) :
  Calls Tryz.prog 96 #[.pointer (some ⟨g,0,none⟩),.string (bs k),.func (.func 145) #[] #[.pointer (some ⟨B,0,none⟩)]] w (StRet w g F (PS.subA s k m) (.int .i64 (subE (getP s.t) k m))):=by
 have L:=hh (Liv.start h);have HZ:=hh hz;have HU2:=hh hu;have HB0:=hh hB;have ham:=a0G (Look.of_st h) hf.f k;obtain ⟨n,hn⟩:=nm (amtV (getP s.t) k);rw [← hn] at ham;have HE:Hid (subE (getP s.t) k m=if m≤n then 0 else 13):=hh (by rw [hn];rfl);have HS:Hid (PS.subA s k m=if m≤n then s.setAmt k (n - m) else s):=hh (by rw [hn];rfl);clear h hz hu hB hf hn
 go_enter Tryz.func96,Tryz.ntmps96
 go_wp2_with fail;refine ham.mono ?_;clear ham;rintro e w1 ⟨a,b,c,d,hu1,rfl,hb⟩;have HU1:=hh hu1;have L1:=hh (L.out.later hb);have HQ1:=bA hb HB0;clear hu1 hb L HB0;go_wp2_with fail;refine (l0Q HU1.out HU2.out HQ1.out).mono ?_
 by_cases hc:m≤n
 ·rw [if_pos hc,if_pos hc];have HEV:Hid (subE (getP s.t) k m=0):=hh (by rw [HE.out,if_pos hc]);have HSV:Hid (PS.subA s k m=s.setAmt k (n - m)):=hh (by rw [HS.out,if_pos hc]);clear hc;rintro e w2 ⟨sa,sb,sc,sd,hu2,rfl,hb⟩;have HSU:=hh hu2;have L2:=hh (L1.out.later hb);clear hu2 hb L1 HQ1
  go_wp2_with (refine sA _ Tryz.zeroUz ?_)
  intro O w3 h3
  go_wp2_with (refine a0a (t:=25) (old:=u0) rfl 25 _ _ rfl O #[.int .u64 sa,.int .u64 sb,.int .u64 sc,.int .u64 sd] rfl rfl h3.out.cells Tryz.sizeU rfl (a0j _ _ _ _) ?_)
  intro w4 hx4 k4 _;have hb24:Below w2.heap.size w2 w4:=h3.out.below.trans (k4.below (B:=w2.heap.size) (fun x hx e=>by have:=h3.out.eq;omega) h3.out.below.size);have L4:=hh (L2.out.later hb24);have HO4:=hh hx4;clear h3 hx4 k4 hb24 L2
  go_wp2_with (refine lR HO4 Tryz.underlying25 Tryz.sizeU ?_)
  refine (L4.out.call fun F h=>a0l h HZ.out k HSU.out).mono ?_;rintro e w5 ⟨rfl,L5,_⟩;have L5:=hh L5;go_wp2_with fail
  go_ret
  rw [HEV.out,HSV.out];exact L5.out.ret
 ·rw [if_neg hc,if_neg hc];have HEV:Hid (subE (getP s.t) k m=13):=hh (by rw [HE.out,if_neg hc]);have HSV:Hid (PS.subA s k m=s):=hh (by rw [HS.out,if_neg hc]);clear hc;rintro e w2 ⟨sa,sb,sc,sd,hu2,rfl,hb⟩;have L2:=hh (L1.out.later hb);clear hu2 hb L1 HQ1
  go_wp2_with (refine sA _ Tryz.zeroUz ?_)
  intro O w3 h3
  go_wp2_with (refine a0a (t:=25) (old:=u0) rfl 25 _ _ rfl O #[.int .u64 sa,.int .u64 sb,.int .u64 sc,.int .u64 sd] rfl rfl h3.out.cells Tryz.sizeU rfl (a0j _ _ _ _) ?_)
  intro w4 hx4 k4 _;have hb24:Below w2.heap.size w2 w4:=h3.out.below.trans (k4.below (B:=w2.heap.size) (fun x hx e=>by have:=h3.out.eq;omega) h3.out.below.size);have L4:=hh (L2.out.later hb24);clear h3 hx4 k4 hb24 L2;go_wp2_with fail
  go_ret
  rw [HEV.out,HSV.out];exact L4.out.ret

theorem l0G {w:World} {g:Nat} {s:PS} {F:List Nat} (h:St w g s F) (hz:s.sz < 1099511627776) (hf:Fit s) (k:Txt) {a b c d:Int} {m:Nat} (hu:UIs a b c d m) :
  Calls Tryz.prog 109 #[.pointer (some ⟨g,0,none⟩),.string (bs k),.agg #[.int .u64 a,.int .u64 b,.int .u64 c,.int .u64 d]] w (StRet w g F (PS.subA s k m) (.int .i64 (subE (getP s.t) k m))):=by
 have L:=hh (Liv.start h);have HZ:=hh hz;have HU:=hh hu;have HF:=hh hf;clear h hz hu hf
 go_enter Tryz.func109,Tryz.ntmps109
 go_wp2_with fail;have L1:=hh (L.out.later (a0c w (.cells #[.int .u64 a,.int .u64 b,.int .u64 c,.int .u64 d] 25)));refine (L1.out.call fun F h=>k0Q h HZ.out HF.out k HU.out (heap_alloc_new w _)).mono ?_;rintro e w2 ⟨rfl,L2,_⟩;have L2:=hh L2;go_wp2_with fail
 go_ret
 exact L2.out.ret

theorem less10v {a b c d a' b' c' d':Int} {n m:Nat} (h:UIs a b c d n) (h':UIs a' b' c' d' m) {v:Nat} {er:Int} (hv:v=if m≤n then n - m else 0) (he:er=if m≤n then 0 else 13) (w:World) :
  Calls Tryz.prog 103 #[.agg #[.int .u64 a,.int .u64 b,.int .u64 c,.int .u64 d],.agg #[.int .u64 a',.int .u64 b',.int .u64 c',.int .u64 d']] w (UErr w v er):=by subst hv;subst he;exact f0o h h' w
theorem more10v {a b c d a' b' c' d':Int} {n m:Nat} (h:UIs a b c d n) (h':UIs a' b' c' d' m) {v:Nat} {er:Int} (hv:v=if n+m < uHalf then n+m else 0) (he:er=if n+m < uHalf then 0 else 6) (w:World) :
  Calls Tryz.prog 98 #[.agg #[.int .u64 a,.int .u64 b,.int .u64 c,.int .u64 d],.agg #[.int .u64 a',.int .u64 b',.int .u64 c',.int .u64 d']] w (UErr w v er):=by subst hv;subst he;exact e0T h h' w

theorem liv_u {w0 w w':World} {F0:List Nat} {g:Nat} {s:PS} {X:Nat} {cs:Array Value} (L:Liv w0 F0 w g s) (hX:w.heap[X]? = some (.cells cs 25 (0,0))) (hk:Keep (· = X) w w') (hw:w0.heap.size≤X):Liv w0 F0 w' g s:=by
 obtain ⟨F,h1,h2,h3⟩:=L;refine ⟨F,h1.keep hk fun x hx hu=>?_,h2.trans (hk.mono fun y _ hy=>.inr (hy▸hw)),h3⟩;obtain ⟨o,ho,k1⟩:=h1.kind x hx;subst hu;rw [hX] at ho
 cases ho
 have k2:stoKind (.cells cs 25 (0,0))=false:=rfl;rw [k2] at k1;cases k1
theorem Liv.look {w0 w:World} {F0:List Nat} {g:Nat} {s:PS} (L:Liv w0 F0 w g s):Look w (some ⟨g,0,none⟩) true (getP s.t):=by
 obtain ⟨F,h1,_⟩:=L;exact Look.of_st h1

theorem d0Z {w:World} {g:Nat} {s:PS} {F:List Nat} (h:St w g s F) (hz:s.sz < 1099511627000) (hf:Fit s) (k q:Txt) {a b c d:Int} {m:Nat} (hu:UIs a b c d m) :
  Calls Tryz.prog 54 #[.pointer (some ⟨g,0,none⟩),.string (bs k),.string (bs q),.agg #[.int .u64 a,.int .u64 b,.int .u64 c,.int .u64 d]] w (StRet w g F (s.moveA k q m) (.int .i64 (moveE (getP s.t) k q m))):=by
 have L:=hh (Liv.start h);have HZ:=hh hz;have HU:=hh hu;have HF:=hh hf;clear h hz hu hf;obtain ⟨n1,hn1⟩:=nm (amtV (getP s.t) k);obtain ⟨n2,hn2⟩:=nm (amtV (getP s.t) q);have HN:=hh (And.intro hn1 hn2);have HE:Hid (moveE (getP s.t) k q m=if ¬ m≤n1 then 13 else if k=q then 0 else if n2+m < uHalf then 0 else 6):=hh (by rw [hn1,hn2];rfl);have HS:Hid (s.moveA k q m=if moveE (getP s.t) k q m=0∧k≠q then (s.setAmt k (n1 - m)).setAmt q (n2+m) else s):=hh (by rw [hn1,hn2];rfl);clear hn1 hn2
 go_enter Tryz.func54,Tryz.ntmps54
 go_wp2_with fail;obtain ⟨w1,hw1⟩:=nm (w.alloc (.cells #[.int .u64 a,.int .u64 b,.int .u64 c,.int .u64 d] 25));obtain ⟨X,hX⟩:=nm (w.heap.size);rw [← hw1,← hX];have hb1:Below w.heap.size w w1:=by rw [hw1];exact a0c _ _
 have HX1:Hid (w1.heap[X]? = some (.cells #[.int .u64 a,.int .u64 b,.int .u64 c,.int .u64 d] 25 (0,0))):=hh (by rw [hw1,hX];exact heap_alloc_new _ _);have L1:=hh (L.out.later hb1);have HW1:Hid (w.heap.size≤w1.heap.size):=hh hb1.size;clear hw1 hX hb1 L;obtain ⟨wz,hwz⟩:=nm (w1.drew);have hbz:Below w1.heap.size w1 wz:=by rw [hwz];exact (Below.refl _ _).drew
 have L0:=hh (L1.out.later hbz);have hS:wz.heap[X]? = some (.cells #[.int .u64 a,.int .u64 b,.int .u64 c,.int .u64 d] 25 (0,0)):=a0d hbz HX1.out;have HWZ:Hid (w1.heap.size≤wz.heap.size):=hh hbz.size;clear hbz L1;have HXB:Hid (X < w1.heap.size):=hh (a0e HX1.out);have HSB:Hid (w1.heap.size≤wz.heap.size):=HWZ;have SZ0:Hid (wz.heap.size≤wz.heap.size):=hh (Nat.le_refl _);obtain ⟨x1,hx1⟩:=nm (if m≤n1 then n1 - m else 0);obtain ⟨r1,hr1⟩:∃ v:Int,v=if m≤n1 then 0 else 13:=⟨_,rfl⟩;have HV1:=hh (And.intro hx1 hr1);clear hx1 hr1 HX1;go_wp2_with fail;refine a0b (fun w'=>w'.heap[X]? = some (.cells #[.int .u64 a,.int .u64 b,.int .u64 c,.int .u64 d] 25 (0,0))) 11 11 (by kernel_rfl) rfl ?_;rw [← hwz];clear hwz;refine tA1 0 13 hS ?_;go_frame;refine tA1 1 14 hS ?_;go_frame;refine tl 3 (some 16) (fun _ h=>h) Tryz.underlying25 Tryz.sizeU hS ?_;go_frame;refine a0k 2 8 rfl rfl (by kernel_rfl) (fun K hK=>?_) (fun K hK=>?_)
 ·simp only [gA,jB,gC];rw [if_pos (by rfl)];go_simp;refine (a0G L0.out.look HF.out.f k).mono ?_;rintro e wt1 ⟨a1,b1,c1,d1,hu1,rfl,hb⟩;have L1:=hh (L0.out.later hb);have SZ1:=hh (Nat.le_trans SZ0.out hb.size);rw [← HN.out.1] at hu1;have HU11:=hh hu1;clear hu1;have hS1:=a0d hb hS;refine hK _ _ (fun _ _=>hS1) ?_;clear hK hS hb L0 SZ0;have hS:=hS1;clear hS1;refine a0k 4 8 rfl rfl (by kernel_rfl) (fun K hK=>?_) (fun K hK=>?_)
  ·simp only [gA,jB,gC];rw [if_pos (by rfl)];go_simp;refine (less10v HU11.out HU.out HV1.out.1 HV1.out.2 _).mono ?_;rintro e wt2 ⟨sa,sb,sc,sd,hu2,rfl,hb⟩;have L2:=hh (L1.out.later hb);have SZ2:=hh (Nat.le_trans SZ1.out hb.size);have HU12:=hh (HU11.out);have HRE2:=hh hu2;clear hu2;have hS1:=a0d hb hS;refine hK _ _ (fun _ _=>hS1) ?_;clear hK hS hb L1 SZ1 HU11;have hS:=hS1;clear hS1;refine tA1 5 12 hS ?_;go_frame;refine tA1 6 18 hS ?_;go_frame;refine tA1 7 19 hS ?_;go_frame;refine t1 8 fun K hK=>?_
   simp only [gA,jB,gC];refine wA1 25 Tryz.zeroUz ?_;intro O3 wt3 hm;have hb:=hm.out.below;have L3:=hh (L2.out.later hb);have SZ3:=hh (Nat.le_trans SZ2.out hb.size);have HU13:=hh (HU12.out);have HRE3:=hh (HRE2.out);have HO3:=hh hm.out.cells;have WO3:Hid (wz.heap.size≤O3):=hh (by have h1:=hm.out.eq;have h2:=SZ2.out;omega);have hS1:=a0d hb hS;refine hK _ _ (fun _ _=>hS1) ?_;clear hK hS hb hm L2 SZ2 HU12 HRE2;have hS:=hS1;clear hS1;refine t1 9 fun K hK=>?_
   simp only [gA,jB,gC];refine wR1 25 #[.int .u64 sa,.int .u64 sb,.int .u64 sc,.int .u64 sd] HO3 Tryz.sizeU ?_;intro wt4 hx8 k8 z8;have HV4:=hh hx8;have SZ4:=hh (Nat.le_trans SZ3.out (Nat.le_of_eq z8.symm));have hS1:=k8.at hS (fun e=>by have h1:=HXB.out;have h2:=WO3.out;have h3:X=O3:=e;have h4:=HSB.out;omega);have L4:=hh (liv_u L3.out HO3.out k8 (by have h1:=HW1.out;have h2:=WO3.out;have h4:=HSB.out;omega));refine hK _ _ (fun _ _=>hS1) ?_;clear hK hS hx8 k8 z8 L3 HO3 SZ3;have hS:=hS1;clear hS1;refine tA1 10 10 hS ?_;go_frame;refine tD ?_;obtain ⟨O1,hO1⟩:=nm (O3);rw [← hO1];have HO1:=HV4;have L2:=L4;have HX2:=hh hS;have HRA:=HRE3;rw [← hO1] at HO1;clear hO1 HV4 L4 HRE3 hS;obtain ⟨wy,hwy⟩:=nm (wt4);rw [← hwy] at HO1 L2 HX2 ⊢;have HW2:Hid (w1.heap.size≤wy.heap.size):=hh (by rw [hwy];exact Nat.le_trans HWZ.out SZ4.out);clear hwy
   by_cases g1:m≤n1
   ·have hr:r1=0:=by rw [HV1.out.2,if_pos g1]
    have HX1E:Hid (x1=n1 - m):=hh (by rw [HV1.out.1,if_pos g1]);subst hr
    by_cases g2:k=q
    ·have HEV:Hid (moveE (getP s.t) k q m=0):=hh (by rw [HE.out,if_neg (fun h=>h g1),if_pos g2]);have HSV:Hid (s.moveA k q m=s):=hh (by rw [HS.out,if_neg (fun h=>h.2 g2)]);have hst:((bs k).toList == (bs q).toList)=true:=by rw [d0I,decide_eq_true g2]
     have hst2:(bs k).toList=(bs q).toList:=by rw [g2]
     clear g1 g2;go_wp2_with fail
     go_ret
     rw [HEV.out,HSV.out];exact L2.out.ret
    have hst:((bs k).toList == (bs q).toList)=false:=by rw [d0I,decide_eq_false g2]
    have hst2:¬ (bs k).toList=(bs q).toList:=by rw [a0g,a0g];exact g2
    have HG:=hh (And.intro g1 g2);clear g1 g2;obtain ⟨x2,hx2⟩:=nm (if n2+m < uHalf then n2+m else 0);obtain ⟨r2,hr2⟩:∃ v:Int,v=if n2+m < uHalf then 0 else 6:=⟨_,rfl⟩;have HV2:=hh (And.intro hx2 hr2);obtain ⟨wz,hwz⟩:=nm (wy.drew);have hbz:Below wy.heap.size wy wz:=by rw [hwz];exact (Below.refl _ _).drew
    have L0:=hh (L2.out.later hbz);have hS:wz.heap[X]? = some (.cells #[.int .u64 a,.int .u64 b,.int .u64 c,.int .u64 d] 25 (0,0)):=a0d hbz HX2.out;have R90:=bA hbz HO1;have HSB:Hid (w1.heap.size≤wz.heap.size):=hh (Nat.le_trans HW2.out hbz.size);have HOB:Hid (O1 < wz.heap.size):=hh (Nat.lt_of_lt_of_le (a0e HO1.out) hbz.size);have SZ0:Hid (wz.heap.size≤wz.heap.size):=hh (Nat.le_refl _);clear hbz L2 HX2 HO1 hx2 hr2;go_wp2_with fail;clear hst hst2;refine a0b (fun w'=>w'.heap[X]? = some (.cells #[.int .u64 a,.int .u64 b,.int .u64 c,.int .u64 d] 25 (0,0))) 11 11 (by kernel_rfl) rfl ?_;rw [← hwz];clear hwz;refine tA1 0 29 hS ?_;go_frame;refine tA1 1 30 hS ?_;go_frame;refine tl 3 (some 32) (fun _ h=>h) Tryz.underlying25 Tryz.sizeU hS ?_;go_frame;refine a0k 2 8 rfl rfl (by kernel_rfl) (fun K hK=>?_) (fun K hK=>?_)
    ·simp only [gA,jB,gC];rw [if_pos (by rfl)];go_simp;refine (a0G L0.out.look HF.out.f q).mono ?_;rintro e wt1 ⟨ta1,tb1,tc1,td1,hu1,rfl,hb⟩;have L1:=hh (L0.out.later hb);have R91:=bA hb R90;have SZ1:=hh (Nat.le_trans SZ0.out hb.size);rw [← HN.out.2] at hu1;have HU11:=hh hu1;clear hu1;have hS1:=a0d hb hS;refine hK _ _ (fun _ _=>hS1) ?_;clear hK hS hb L0 R90 SZ0;have hS:=hS1;clear hS1;refine a0k 4 8 rfl rfl (by kernel_rfl) (fun K hK=>?_) (fun K hK=>?_)
     ·simp only [gA,jB,gC];rw [if_pos (by rfl)];go_simp;refine (more10v HU11.out HU.out HV2.out.1 HV2.out.2 _).mono ?_;rintro e wt2 ⟨tsa,tsb,tsc,tsd,hu2,rfl,hb⟩;have L2:=hh (L1.out.later hb);have R92:=bA hb R91;have SZ2:=hh (Nat.le_trans SZ1.out hb.size);have HU12:=hh (HU11.out);have HRE2:=hh hu2;clear hu2;have hS1:=a0d hb hS;refine hK _ _ (fun _ _=>hS1) ?_;clear hK hS hb L1 R91 SZ1 HU11;have hS:=hS1;clear hS1;refine tA1 5 28 hS ?_;go_frame;refine tA1 6 34 hS ?_;go_frame;refine tA1 7 35 hS ?_;go_frame;refine t1 8 fun K hK=>?_
      simp only [gA,jB,gC];refine wA1 25 Tryz.zeroUz ?_;intro O3 wt3 hm;have hb:=hm.out.below;have L3:=hh (L2.out.later hb);have R93:=bA hb R92;have SZ3:=hh (Nat.le_trans SZ2.out hb.size);have HU13:=hh (HU12.out);have HRE3:=hh (HRE2.out);have HO3:=hh hm.out.cells;have WO3:Hid (wz.heap.size≤O3):=hh (by have h1:=hm.out.eq;have h2:=SZ2.out;omega);have hS1:=a0d hb hS;refine hK _ _ (fun _ _=>hS1) ?_;clear hK hS hb hm L2 R92 SZ2 HU12 HRE2;have hS:=hS1;clear hS1;refine t1 9 fun K hK=>?_
      simp only [gA,jB,gC];refine wR1 25 #[.int .u64 tsa,.int .u64 tsb,.int .u64 tsc,.int .u64 tsd] HO3 Tryz.sizeU ?_;intro wt4 hx8 k8 z8;have HV4:=hh hx8;have SZ4:=hh (Nat.le_trans SZ3.out (Nat.le_of_eq z8.symm));have hS1:=k8.at hS (fun e=>by have h1:=HXB.out;have h2:=WO3.out;have h3:X=O3:=e;have h4:=HSB.out;omega);have L4:=hh (liv_u L3.out HO3.out k8 (by have h1:=HW1.out;have h2:=WO3.out;have h4:=HSB.out;omega));have R94:=hh (k8.at R93.out (fun e=>by have h1:=HOB.out;have h2:=WO3.out;have h3:O1=O3:=e;omega));refine hK _ _ (fun _ _=>hS1) ?_;clear hK hS hx8 k8 z8 L3 HO3 SZ3 R93;have hS:=hS1;clear hS1;refine tA1 10 10 hS ?_;go_frame;refine tD ?_;have HO2:=HV4;have L3:=L4;have HRB:=HRE3;have HO1:=R94;clear hS
      by_cases g3:n2+m < uHalf
      ·have hr:r2=0:=by rw [HV2.out.2,if_pos g3]
       have HX2E:Hid (x2=n2+m):=hh (by rw [HV2.out.1,if_pos g3]);have HEV:Hid (moveE (getP s.t) k q m=0):=hh (by rw [HE.out,if_neg (fun h=>h HG.out.1),if_neg HG.out.2,if_pos g3]);have HSV:Hid (s.moveA k q m=(s.setAmt k (n1 - m)).setAmt q (n2+m)):=hh (by rw [HS.out,if_pos ⟨HEV.out,HG.out.2⟩]);subst hr;clear g3
       go_wp2_with (refine lR HO1 Tryz.underlying25 Tryz.sizeU ?_)
       refine (L3.out.call fun F h=>a0l h (by have:=HZ.out;omega) k HRA.out).mono ?_;rw [HX1E.out];rintro e w8 ⟨rfl,L4,ho⟩;have L4:=hh L4;have HO2':=hh (ho.2 _ _ HO2.out rfl rfl);clear ho L3 HO1 HO2
       go_wp2_with (refine lR HO2' Tryz.underlying25 Tryz.sizeU ?_)
       refine (L4.out.call fun F h=>a0l h (by have:=HZ.out;have:=a0C s k (n1 - m);omega) q HRB.out).mono ?_;rw [HX2E.out];rintro e w9 ⟨rfl,L5,_⟩;have L5:=hh L5;go_wp2_with fail
       go_ret
       rw [HEV.out,HSV.out];exact L5.out.ret
      ·have hr:r2=6:=by rw [HV2.out.2,if_neg g3]
       have HEV:Hid (moveE (getP s.t) k q m=6):=hh (by rw [HE.out,if_neg (fun h=>h HG.out.1),if_neg HG.out.2,if_neg g3]);have HSV:Hid (s.moveA k q m=s):=hh (by rw [HS.out,HEV.out];rfl);subst hr;clear g3;go_wp2_with fail
       go_ret
       rw [HEV.out,HSV.out];exact L3.out.ret
     ·simp only [gA,jB,gC];rw [if_pos (by rfl)];refine wA1 25 Tryz.zeroUz ?_;intro O5 wt5 hm;have hb:=hm.out.below;have L5:=hh (L1.out.later hb);have R95:=bA hb R91;have SZ5:=hh (Nat.le_trans SZ1.out hb.size);have HU15:=hh (HU11.out);have HO5:=hh hm.out.cells;have WO5:Hid (wz.heap.size≤O5):=hh (by have h1:=hm.out.eq;have h2:=SZ1.out;omega);have hS1:=a0d hb hS;refine hK _ _ (fun _ _=>hS1) ?_;clear hK hS hb hm L1 R91 SZ1 HU11;have hS:=hS1;clear hS1;refine t1 4 fun K hK=>?_
      simp only [gA,jB,gC];go_simp;refine (more10v HU15.out HU.out HV2.out.1 HV2.out.2 _).mono ?_;rintro e wt6 ⟨tsa,tsb,tsc,tsd,hu2,rfl,hb⟩;have L6:=hh (L5.out.later hb);have R96:=bA hb R95;have SZ6:=hh (Nat.le_trans SZ5.out hb.size);have HU16:=hh (HU15.out);have HO6:=bA hb HO5;have WO6:=hh (WO5.out);have HRE6:=hh hu2;clear hu2;have hS1:=a0d hb hS;refine hK _ _ (fun _ _=>hS1) ?_;clear hK hS hb L5 R95 SZ5 HU15 HO5 WO5;have hS:=hS1;clear hS1;refine tA1 5 28 hS ?_;go_frame;refine tA1 6 34 hS ?_;go_frame;refine tA1 7 35 hS ?_;go_frame;refine t1 9 fun K hK=>?_
      simp only [gA,jB,gC];refine wR1 25 #[.int .u64 tsa,.int .u64 tsb,.int .u64 tsc,.int .u64 tsd] HO6 Tryz.sizeU ?_;intro wt7 hx8 k8 z8;have HV7:=hh hx8;have SZ7:=hh (Nat.le_trans SZ6.out (Nat.le_of_eq z8.symm));have hS1:=k8.at hS (fun e=>by have h1:=HXB.out;have h2:=WO6.out;have h3:X=O5:=e;have h4:=HSB.out;omega);have L7:=hh (liv_u L6.out HO6.out k8 (by have h1:=HW1.out;have h2:=WO6.out;have h4:=HSB.out;omega));have R97:=hh (k8.at R96.out (fun e=>by have h1:=HOB.out;have h2:=WO6.out;have h3:O1=O5:=e;omega));refine hK _ _ (fun _ _=>hS1) ?_;clear hK hS hx8 k8 z8 L6 HO6 SZ6 R96;have hS:=hS1;clear hS1;refine tA1 10 10 hS ?_;go_frame;refine tD ?_;have HO2:=HV7;have L3:=L7;have HRB:=HRE6;have HO1:=R97;clear hS
      by_cases g3:n2+m < uHalf
      ·have hr:r2=0:=by rw [HV2.out.2,if_pos g3]
       have HX2E:Hid (x2=n2+m):=hh (by rw [HV2.out.1,if_pos g3]);have HEV:Hid (moveE (getP s.t) k q m=0):=hh (by rw [HE.out,if_neg (fun h=>h HG.out.1),if_neg HG.out.2,if_pos g3]);have HSV:Hid (s.moveA k q m=(s.setAmt k (n1 - m)).setAmt q (n2+m)):=hh (by rw [HS.out,if_pos ⟨HEV.out,HG.out.2⟩]);subst hr;clear g3
       go_wp2_with (refine lR HO1 Tryz.underlying25 Tryz.sizeU ?_)
       refine (L3.out.call fun F h=>a0l h (by have:=HZ.out;omega) k HRA.out).mono ?_;rw [HX1E.out];rintro e w8 ⟨rfl,L4,ho⟩;have L4:=hh L4;have HO2':=hh (ho.2 _ _ HO2.out rfl rfl);clear ho L3 HO1 HO2
       go_wp2_with (refine lR HO2' Tryz.underlying25 Tryz.sizeU ?_)
       refine (L4.out.call fun F h=>a0l h (by have:=HZ.out;have:=a0C s k (n1 - m);omega) q HRB.out).mono ?_;rw [HX2E.out];rintro e w9 ⟨rfl,L5,_⟩;have L5:=hh L5;go_wp2_with fail
       go_ret
       rw [HEV.out,HSV.out];exact L5.out.ret
      ·have hr:r2=6:=by rw [HV2.out.2,if_neg g3]
       have HEV:Hid (moveE (getP s.t) k q m=6):=hh (by rw [HE.out,if_neg (fun h=>h HG.out.1),if_neg HG.out.2,if_neg g3]);have HSV:Hid (s.moveA k q m=s):=hh (by rw [HS.out,HEV.out];rfl);subst hr;clear g3;go_wp2_with fail
       go_ret
       rw [HEV.out,HSV.out];exact L3.out.ret
    ·simp only [gA,jB,gC];rw [if_pos (by rfl)];refine wA1 25 Tryz.zeroUz ?_;intro O8 wt8 hm;have hb:=hm.out.below;have L8:=hh (L0.out.later hb);have R98:=bA hb R90;have SZ8:=hh (Nat.le_trans SZ0.out hb.size);have HO8:=hh hm.out.cells;have WO8:Hid (wz.heap.size≤O8):=hh (by have h1:=hm.out.eq;have h2:=SZ0.out;omega);have hS1:=a0d hb hS;refine hK _ _ (fun _ _=>hS1) ?_;clear hK hS hb hm L0 R90 SZ0;have hS:=hS1;clear hS1;refine t1 2 fun K hK=>?_
     simp only [gA,jB,gC];go_simp;refine (a0G L8.out.look HF.out.f q).mono ?_;rintro e wt9 ⟨ta1,tb1,tc1,td1,hu1,rfl,hb⟩;have L9:=hh (L8.out.later hb);have R99:=bA hb R98;have SZ9:=hh (Nat.le_trans SZ8.out hb.size);have HO9:=bA hb HO8;have WO9:=hh (WO8.out);rw [← HN.out.2] at hu1;have HU19:=hh hu1;clear hu1;have hS1:=a0d hb hS;refine hK _ _ (fun _ _=>hS1) ?_;clear hK hS hb L8 R98 SZ8 HO8 WO8;have hS:=hS1;clear hS1;refine t1 4 fun K hK=>?_
     simp only [gA,jB,gC];go_simp;refine (more10v HU19.out HU.out HV2.out.1 HV2.out.2 _).mono ?_;rintro e wt10 ⟨tsa,tsb,tsc,tsd,hu2,rfl,hb⟩;have L10:=hh (L9.out.later hb);have R910:=bA hb R99;have SZ10:=hh (Nat.le_trans SZ9.out hb.size);have HO10:=bA hb HO9;have WO10:=hh (WO9.out);have HU110:=hh (HU19.out);have HRE10:=hh hu2;clear hu2;have hS1:=a0d hb hS;refine hK _ _ (fun _ _=>hS1) ?_;clear hK hS hb L9 R99 SZ9 HO9 WO9 HU19;have hS:=hS1;clear hS1;refine tA1 5 28 hS ?_;go_frame;refine tA1 6 34 hS ?_;go_frame;refine tA1 7 35 hS ?_;go_frame;refine t1 9 fun K hK=>?_
     simp only [gA,jB,gC];refine wR1 25 #[.int .u64 tsa,.int .u64 tsb,.int .u64 tsc,.int .u64 tsd] HO10 Tryz.sizeU ?_;intro wt11 hx8 k8 z8;have HV11:=hh hx8;have SZ11:=hh (Nat.le_trans SZ10.out (Nat.le_of_eq z8.symm));have hS1:=k8.at hS (fun e=>by have h1:=HXB.out;have h2:=WO10.out;have h3:X=O8:=e;have h4:=HSB.out;omega);have L11:=hh (liv_u L10.out HO10.out k8 (by have h1:=HW1.out;have h2:=WO10.out;have h4:=HSB.out;omega));have R911:=hh (k8.at R910.out (fun e=>by have h1:=HOB.out;have h2:=WO10.out;have h3:O1=O8:=e;omega));refine hK _ _ (fun _ _=>hS1) ?_;clear hK hS hx8 k8 z8 L10 HO10 SZ10 R910;have hS:=hS1;clear hS1;refine tA1 10 10 hS ?_;go_frame;refine tD ?_;have HO2:=HV11;have L3:=L11;have HRB:=HRE10;have HO1:=R911;clear hS
     by_cases g3:n2+m < uHalf
     ·have hr:r2=0:=by rw [HV2.out.2,if_pos g3]
      have HX2E:Hid (x2=n2+m):=hh (by rw [HV2.out.1,if_pos g3]);have HEV:Hid (moveE (getP s.t) k q m=0):=hh (by rw [HE.out,if_neg (fun h=>h HG.out.1),if_neg HG.out.2,if_pos g3]);have HSV:Hid (s.moveA k q m=(s.setAmt k (n1 - m)).setAmt q (n2+m)):=hh (by rw [HS.out,if_pos ⟨HEV.out,HG.out.2⟩]);subst hr;clear g3
      go_wp2_with (refine lR HO1 Tryz.underlying25 Tryz.sizeU ?_)
      refine (L3.out.call fun F h=>a0l h (by have:=HZ.out;omega) k HRA.out).mono ?_;rw [HX1E.out];rintro e w8 ⟨rfl,L4,ho⟩;have L4:=hh L4;have HO2':=hh (ho.2 _ _ HO2.out rfl rfl);clear ho L3 HO1 HO2
      go_wp2_with (refine lR HO2' Tryz.underlying25 Tryz.sizeU ?_)
      refine (L4.out.call fun F h=>a0l h (by have:=HZ.out;have:=a0C s k (n1 - m);omega) q HRB.out).mono ?_;rw [HX2E.out];rintro e w9 ⟨rfl,L5,_⟩;have L5:=hh L5;go_wp2_with fail
      go_ret
      rw [HEV.out,HSV.out];exact L5.out.ret
     ·have hr:r2=6:=by rw [HV2.out.2,if_neg g3]
      have HEV:Hid (moveE (getP s.t) k q m=6):=hh (by rw [HE.out,if_neg (fun h=>h HG.out.1),if_neg HG.out.2,if_neg g3]);have HSV:Hid (s.moveA k q m=s):=hh (by rw [HS.out,HEV.out];rfl);subst hr;clear g3;go_wp2_with fail
      go_ret
      rw [HEV.out,HSV.out];exact L3.out.ret
   ·have hr:r1=13:=by rw [HV1.out.2,if_neg g1]
    have HEV:Hid (moveE (getP s.t) k q m=13):=hh (by rw [HE.out,if_pos g1]);have HSV:Hid (s.moveA k q m=s):=hh (by rw [HS.out,HEV.out];rfl);subst hr;clear g1;go_wp2_with fail
    go_ret
    rw [HEV.out,HSV.out];exact L2.out.ret
  ·simp only [gA,jB,gC];rw [if_pos (by rfl)];refine wA1 25 Tryz.zeroUz ?_;intro O5 wt5 hm;have hb:=hm.out.below;have L5:=hh (L1.out.later hb);have SZ5:=hh (Nat.le_trans SZ1.out hb.size);have HU15:=hh (HU11.out);have HO5:=hh hm.out.cells;have WO5:Hid (wz.heap.size≤O5):=hh (by have h1:=hm.out.eq;have h2:=SZ1.out;omega);have hS1:=a0d hb hS;refine hK _ _ (fun _ _=>hS1) ?_;clear hK hS hb hm L1 SZ1 HU11;have hS:=hS1;clear hS1;refine t1 4 fun K hK=>?_
   simp only [gA,jB,gC];go_simp;refine (less10v HU15.out HU.out HV1.out.1 HV1.out.2 _).mono ?_;rintro e wt6 ⟨sa,sb,sc,sd,hu2,rfl,hb⟩;have L6:=hh (L5.out.later hb);have SZ6:=hh (Nat.le_trans SZ5.out hb.size);have HU16:=hh (HU15.out);have HO6:=bA hb HO5;have WO6:=hh (WO5.out);have HRE6:=hh hu2;clear hu2;have hS1:=a0d hb hS;refine hK _ _ (fun _ _=>hS1) ?_;clear hK hS hb L5 SZ5 HU15 HO5 WO5;have hS:=hS1;clear hS1;refine tA1 5 12 hS ?_;go_frame;refine tA1 6 18 hS ?_;go_frame;refine tA1 7 19 hS ?_;go_frame;refine t1 9 fun K hK=>?_
   simp only [gA,jB,gC];refine wR1 25 #[.int .u64 sa,.int .u64 sb,.int .u64 sc,.int .u64 sd] HO6 Tryz.sizeU ?_;intro wt7 hx8 k8 z8;have HV7:=hh hx8;have SZ7:=hh (Nat.le_trans SZ6.out (Nat.le_of_eq z8.symm));have hS1:=k8.at hS (fun e=>by have h1:=HXB.out;have h2:=WO6.out;have h3:X=O5:=e;have h4:=HSB.out;omega);have L7:=hh (liv_u L6.out HO6.out k8 (by have h1:=HW1.out;have h2:=WO6.out;have h4:=HSB.out;omega));refine hK _ _ (fun _ _=>hS1) ?_;clear hK hS hx8 k8 z8 L6 HO6 SZ6;have hS:=hS1;clear hS1;refine tA1 10 10 hS ?_;go_frame;refine tD ?_;obtain ⟨O1,hO1⟩:=nm (O5);rw [← hO1];have HO1:=HV7;have L2:=L7;have HX2:=hh hS;have HRA:=HRE6;rw [← hO1] at HO1;clear hO1 HV7 L7 HRE6 hS;obtain ⟨wy,hwy⟩:=nm (wt7);rw [← hwy] at HO1 L2 HX2 ⊢;have HW2:Hid (w1.heap.size≤wy.heap.size):=hh (by rw [hwy];exact Nat.le_trans HWZ.out SZ7.out);clear hwy
   by_cases g1:m≤n1
   ·have hr:r1=0:=by rw [HV1.out.2,if_pos g1]
    have HX1E:Hid (x1=n1 - m):=hh (by rw [HV1.out.1,if_pos g1]);subst hr
    by_cases g2:k=q
    ·have HEV:Hid (moveE (getP s.t) k q m=0):=hh (by rw [HE.out,if_neg (fun h=>h g1),if_pos g2]);have HSV:Hid (s.moveA k q m=s):=hh (by rw [HS.out,if_neg (fun h=>h.2 g2)]);have hst:((bs k).toList == (bs q).toList)=true:=by rw [d0I,decide_eq_true g2]
     have hst2:(bs k).toList=(bs q).toList:=by rw [g2]
     clear g1 g2;go_wp2_with fail
     go_ret
     rw [HEV.out,HSV.out];exact L2.out.ret
    have hst:((bs k).toList == (bs q).toList)=false:=by rw [d0I,decide_eq_false g2]
    have hst2:¬ (bs k).toList=(bs q).toList:=by rw [a0g,a0g];exact g2
    have HG:=hh (And.intro g1 g2);clear g1 g2;obtain ⟨x2,hx2⟩:=nm (if n2+m < uHalf then n2+m else 0);obtain ⟨r2,hr2⟩:∃ v:Int,v=if n2+m < uHalf then 0 else 6:=⟨_,rfl⟩;have HV2:=hh (And.intro hx2 hr2);obtain ⟨wz,hwz⟩:=nm (wy.drew);have hbz:Below wy.heap.size wy wz:=by rw [hwz];exact (Below.refl _ _).drew
    have L0:=hh (L2.out.later hbz);have hS:wz.heap[X]? = some (.cells #[.int .u64 a,.int .u64 b,.int .u64 c,.int .u64 d] 25 (0,0)):=a0d hbz HX2.out;have R90:=bA hbz HO1;have HSB:Hid (w1.heap.size≤wz.heap.size):=hh (Nat.le_trans HW2.out hbz.size);have HOB:Hid (O1 < wz.heap.size):=hh (Nat.lt_of_lt_of_le (a0e HO1.out) hbz.size);have SZ0:Hid (wz.heap.size≤wz.heap.size):=hh (Nat.le_refl _);clear hbz L2 HX2 HO1 hx2 hr2;go_wp2_with fail;clear hst hst2;refine a0b (fun w'=>w'.heap[X]? = some (.cells #[.int .u64 a,.int .u64 b,.int .u64 c,.int .u64 d] 25 (0,0))) 11 11 (by kernel_rfl) rfl ?_;rw [← hwz];clear hwz;refine tA1 0 29 hS ?_;go_frame;refine tA1 1 30 hS ?_;go_frame;refine tl 3 (some 32) (fun _ h=>h) Tryz.underlying25 Tryz.sizeU hS ?_;go_frame;refine a0k 2 8 rfl rfl (by kernel_rfl) (fun K hK=>?_) (fun K hK=>?_)
    ·simp only [gA,jB,gC];rw [if_pos (by rfl)];go_simp;refine (a0G L0.out.look HF.out.f q).mono ?_;rintro e wt1 ⟨ta1,tb1,tc1,td1,hu1,rfl,hb⟩;have L1:=hh (L0.out.later hb);have R91:=bA hb R90;have SZ1:=hh (Nat.le_trans SZ0.out hb.size);rw [← HN.out.2] at hu1;have HU11:=hh hu1;clear hu1;have hS1:=a0d hb hS;refine hK _ _ (fun _ _=>hS1) ?_;clear hK hS hb L0 R90 SZ0;have hS:=hS1;clear hS1;refine a0k 4 8 rfl rfl (by kernel_rfl) (fun K hK=>?_) (fun K hK=>?_)
     ·simp only [gA,jB,gC];rw [if_pos (by rfl)];go_simp;refine (more10v HU11.out HU.out HV2.out.1 HV2.out.2 _).mono ?_;rintro e wt2 ⟨tsa,tsb,tsc,tsd,hu2,rfl,hb⟩;have L2:=hh (L1.out.later hb);have R92:=bA hb R91;have SZ2:=hh (Nat.le_trans SZ1.out hb.size);have HU12:=hh (HU11.out);have HRE2:=hh hu2;clear hu2;have hS1:=a0d hb hS;refine hK _ _ (fun _ _=>hS1) ?_;clear hK hS hb L1 R91 SZ1 HU11;have hS:=hS1;clear hS1;refine tA1 5 28 hS ?_;go_frame;refine tA1 6 34 hS ?_;go_frame;refine tA1 7 35 hS ?_;go_frame;refine t1 8 fun K hK=>?_
      simp only [gA,jB,gC];refine wA1 25 Tryz.zeroUz ?_;intro O3 wt3 hm;have hb:=hm.out.below;have L3:=hh (L2.out.later hb);have R93:=bA hb R92;have SZ3:=hh (Nat.le_trans SZ2.out hb.size);have HU13:=hh (HU12.out);have HRE3:=hh (HRE2.out);have HO3:=hh hm.out.cells;have WO3:Hid (wz.heap.size≤O3):=hh (by have h1:=hm.out.eq;have h2:=SZ2.out;omega);have hS1:=a0d hb hS;refine hK _ _ (fun _ _=>hS1) ?_;clear hK hS hb hm L2 R92 SZ2 HU12 HRE2;have hS:=hS1;clear hS1;refine t1 9 fun K hK=>?_
      simp only [gA,jB,gC];refine wR1 25 #[.int .u64 tsa,.int .u64 tsb,.int .u64 tsc,.int .u64 tsd] HO3 Tryz.sizeU ?_;intro wt4 hx8 k8 z8;have HV4:=hh hx8;have SZ4:=hh (Nat.le_trans SZ3.out (Nat.le_of_eq z8.symm));have hS1:=k8.at hS (fun e=>by have h1:=HXB.out;have h2:=WO3.out;have h3:X=O3:=e;have h4:=HSB.out;omega);have L4:=hh (liv_u L3.out HO3.out k8 (by have h1:=HW1.out;have h2:=WO3.out;have h4:=HSB.out;omega));have R94:=hh (k8.at R93.out (fun e=>by have h1:=HOB.out;have h2:=WO3.out;have h3:O1=O3:=e;omega));refine hK _ _ (fun _ _=>hS1) ?_;clear hK hS hx8 k8 z8 L3 HO3 SZ3 R93;have hS:=hS1;clear hS1;refine tA1 10 10 hS ?_;go_frame;refine tD ?_;have HO2:=HV4;have L3:=L4;have HRB:=HRE3;have HO1:=R94;clear hS
      by_cases g3:n2+m < uHalf
      ·have hr:r2=0:=by rw [HV2.out.2,if_pos g3]
       have HX2E:Hid (x2=n2+m):=hh (by rw [HV2.out.1,if_pos g3]);have HEV:Hid (moveE (getP s.t) k q m=0):=hh (by rw [HE.out,if_neg (fun h=>h HG.out.1),if_neg HG.out.2,if_pos g3]);have HSV:Hid (s.moveA k q m=(s.setAmt k (n1 - m)).setAmt q (n2+m)):=hh (by rw [HS.out,if_pos ⟨HEV.out,HG.out.2⟩]);subst hr;clear g3
       go_wp2_with (refine lR HO1 Tryz.underlying25 Tryz.sizeU ?_)
       refine (L3.out.call fun F h=>a0l h (by have:=HZ.out;omega) k HRA.out).mono ?_;rw [HX1E.out];rintro e w8 ⟨rfl,L4,ho⟩;have L4:=hh L4;have HO2':=hh (ho.2 _ _ HO2.out rfl rfl);clear ho L3 HO1 HO2
       go_wp2_with (refine lR HO2' Tryz.underlying25 Tryz.sizeU ?_)
       refine (L4.out.call fun F h=>a0l h (by have:=HZ.out;have:=a0C s k (n1 - m);omega) q HRB.out).mono ?_;rw [HX2E.out];rintro e w9 ⟨rfl,L5,_⟩;have L5:=hh L5;go_wp2_with fail
       go_ret
       rw [HEV.out,HSV.out];exact L5.out.ret
      ·have hr:r2=6:=by rw [HV2.out.2,if_neg g3]
       have HEV:Hid (moveE (getP s.t) k q m=6):=hh (by rw [HE.out,if_neg (fun h=>h HG.out.1),if_neg HG.out.2,if_neg g3]);have HSV:Hid (s.moveA k q m=s):=hh (by rw [HS.out,HEV.out];rfl);subst hr;clear g3;go_wp2_with fail
       go_ret
       rw [HEV.out,HSV.out];exact L3.out.ret
     ·simp only [gA,jB,gC];rw [if_pos (by rfl)];refine wA1 25 Tryz.zeroUz ?_;intro O5 wt5 hm;have hb:=hm.out.below;have L5:=hh (L1.out.later hb);have R95:=bA hb R91;have SZ5:=hh (Nat.le_trans SZ1.out hb.size);have HU15:=hh (HU11.out);have HO5:=hh hm.out.cells;have WO5:Hid (wz.heap.size≤O5):=hh (by have h1:=hm.out.eq;have h2:=SZ1.out;omega);have hS1:=a0d hb hS;refine hK _ _ (fun _ _=>hS1) ?_;clear hK hS hb hm L1 R91 SZ1 HU11;have hS:=hS1;clear hS1;refine t1 4 fun K hK=>?_
      simp only [gA,jB,gC];go_simp;refine (more10v HU15.out HU.out HV2.out.1 HV2.out.2 _).mono ?_;rintro e wt6 ⟨tsa,tsb,tsc,tsd,hu2,rfl,hb⟩;have L6:=hh (L5.out.later hb);have R96:=bA hb R95;have SZ6:=hh (Nat.le_trans SZ5.out hb.size);have HU16:=hh (HU15.out);have HO6:=bA hb HO5;have WO6:=hh (WO5.out);have HRE6:=hh hu2;clear hu2;have hS1:=a0d hb hS;refine hK _ _ (fun _ _=>hS1) ?_;clear hK hS hb L5 R95 SZ5 HU15 HO5 WO5;have hS:=hS1;clear hS1;refine tA1 5 28 hS ?_;go_frame;refine tA1 6 34 hS ?_;go_frame;refine tA1 7 35 hS ?_;go_frame;refine t1 9 fun K hK=>?_
      simp only [gA,jB,gC];refine wR1 25 #[.int .u64 tsa,.int .u64 tsb,.int .u64 tsc,.int .u64 tsd] HO6 Tryz.sizeU ?_;intro wt7 hx8 k8 z8;have HV7:=hh hx8;have SZ7:=hh (Nat.le_trans SZ6.out (Nat.le_of_eq z8.symm));have hS1:=k8.at hS (fun e=>by have h1:=HXB.out;have h2:=WO6.out;have h3:X=O5:=e;have h4:=HSB.out;omega);have L7:=hh (liv_u L6.out HO6.out k8 (by have h1:=HW1.out;have h2:=WO6.out;have h4:=HSB.out;omega));have R97:=hh (k8.at R96.out (fun e=>by have h1:=HOB.out;have h2:=WO6.out;have h3:O1=O5:=e;omega));refine hK _ _ (fun _ _=>hS1) ?_;clear hK hS hx8 k8 z8 L6 HO6 SZ6 R96;have hS:=hS1;clear hS1;refine tA1 10 10 hS ?_;go_frame;refine tD ?_;have HO2:=HV7;have L3:=L7;have HRB:=HRE6;have HO1:=R97;clear hS
      by_cases g3:n2+m < uHalf
      ·have hr:r2=0:=by rw [HV2.out.2,if_pos g3]
       have HX2E:Hid (x2=n2+m):=hh (by rw [HV2.out.1,if_pos g3]);have HEV:Hid (moveE (getP s.t) k q m=0):=hh (by rw [HE.out,if_neg (fun h=>h HG.out.1),if_neg HG.out.2,if_pos g3]);have HSV:Hid (s.moveA k q m=(s.setAmt k (n1 - m)).setAmt q (n2+m)):=hh (by rw [HS.out,if_pos ⟨HEV.out,HG.out.2⟩]);subst hr;clear g3
       go_wp2_with (refine lR HO1 Tryz.underlying25 Tryz.sizeU ?_)
       refine (L3.out.call fun F h=>a0l h (by have:=HZ.out;omega) k HRA.out).mono ?_;rw [HX1E.out];rintro e w8 ⟨rfl,L4,ho⟩;have L4:=hh L4;have HO2':=hh (ho.2 _ _ HO2.out rfl rfl);clear ho L3 HO1 HO2
       go_wp2_with (refine lR HO2' Tryz.underlying25 Tryz.sizeU ?_)
       refine (L4.out.call fun F h=>a0l h (by have:=HZ.out;have:=a0C s k (n1 - m);omega) q HRB.out).mono ?_;rw [HX2E.out];rintro e w9 ⟨rfl,L5,_⟩;have L5:=hh L5;go_wp2_with fail
       go_ret
       rw [HEV.out,HSV.out];exact L5.out.ret
      ·have hr:r2=6:=by rw [HV2.out.2,if_neg g3]
       have HEV:Hid (moveE (getP s.t) k q m=6):=hh (by rw [HE.out,if_neg (fun h=>h HG.out.1),if_neg HG.out.2,if_neg g3]);have HSV:Hid (s.moveA k q m=s):=hh (by rw [HS.out,HEV.out];rfl);subst hr;clear g3;go_wp2_with fail
       go_ret
       rw [HEV.out,HSV.out];exact L3.out.ret
    ·simp only [gA,jB,gC];rw [if_pos (by rfl)];refine wA1 25 Tryz.zeroUz ?_;intro O8 wt8 hm;have hb:=hm.out.below;have L8:=hh (L0.out.later hb);have R98:=bA hb R90;have SZ8:=hh (Nat.le_trans SZ0.out hb.size);have HO8:=hh hm.out.cells;have WO8:Hid (wz.heap.size≤O8):=hh (by have h1:=hm.out.eq;have h2:=SZ0.out;omega);have hS1:=a0d hb hS;refine hK _ _ (fun _ _=>hS1) ?_;clear hK hS hb hm L0 R90 SZ0;have hS:=hS1;clear hS1;refine t1 2 fun K hK=>?_
     simp only [gA,jB,gC];go_simp;refine (a0G L8.out.look HF.out.f q).mono ?_;rintro e wt9 ⟨ta1,tb1,tc1,td1,hu1,rfl,hb⟩;have L9:=hh (L8.out.later hb);have R99:=bA hb R98;have SZ9:=hh (Nat.le_trans SZ8.out hb.size);have HO9:=bA hb HO8;have WO9:=hh (WO8.out);rw [← HN.out.2] at hu1;have HU19:=hh hu1;clear hu1;have hS1:=a0d hb hS;refine hK _ _ (fun _ _=>hS1) ?_;clear hK hS hb L8 R98 SZ8 HO8 WO8;have hS:=hS1;clear hS1;refine t1 4 fun K hK=>?_
     simp only [gA,jB,gC];go_simp;refine (more10v HU19.out HU.out HV2.out.1 HV2.out.2 _).mono ?_;rintro e wt10 ⟨tsa,tsb,tsc,tsd,hu2,rfl,hb⟩;have L10:=hh (L9.out.later hb);have R910:=bA hb R99;have SZ10:=hh (Nat.le_trans SZ9.out hb.size);have HO10:=bA hb HO9;have WO10:=hh (WO9.out);have HU110:=hh (HU19.out);have HRE10:=hh hu2;clear hu2;have hS1:=a0d hb hS;refine hK _ _ (fun _ _=>hS1) ?_;clear hK hS hb L9 R99 SZ9 HO9 WO9 HU19;have hS:=hS1;clear hS1;refine tA1 5 28 hS ?_;go_frame;refine tA1 6 34 hS ?_;go_frame;refine tA1 7 35 hS ?_;go_frame;refine t1 9 fun K hK=>?_
     simp only [gA,jB,gC];refine wR1 25 #[.int .u64 tsa,.int .u64 tsb,.int .u64 tsc,.int .u64 tsd] HO10 Tryz.sizeU ?_;intro wt11 hx8 k8 z8;have HV11:=hh hx8;have SZ11:=hh (Nat.le_trans SZ10.out (Nat.le_of_eq z8.symm));have hS1:=k8.at hS (fun e=>by have h1:=HXB.out;have h2:=WO10.out;have h3:X=O8:=e;have h4:=HSB.out;omega);have L11:=hh (liv_u L10.out HO10.out k8 (by have h1:=HW1.out;have h2:=WO10.out;have h4:=HSB.out;omega));have R911:=hh (k8.at R910.out (fun e=>by have h1:=HOB.out;have h2:=WO10.out;have h3:O1=O8:=e;omega));refine hK _ _ (fun _ _=>hS1) ?_;clear hK hS hx8 k8 z8 L10 HO10 SZ10 R910;have hS:=hS1;clear hS1;refine tA1 10 10 hS ?_;go_frame;refine tD ?_;have HO2:=HV11;have L3:=L11;have HRB:=HRE10;have HO1:=R911;clear hS
     by_cases g3:n2+m < uHalf
     ·have hr:r2=0:=by rw [HV2.out.2,if_pos g3]
      have HX2E:Hid (x2=n2+m):=hh (by rw [HV2.out.1,if_pos g3]);have HEV:Hid (moveE (getP s.t) k q m=0):=hh (by rw [HE.out,if_neg (fun h=>h HG.out.1),if_neg HG.out.2,if_pos g3]);have HSV:Hid (s.moveA k q m=(s.setAmt k (n1 - m)).setAmt q (n2+m)):=hh (by rw [HS.out,if_pos ⟨HEV.out,HG.out.2⟩]);subst hr;clear g3
      go_wp2_with (refine lR HO1 Tryz.underlying25 Tryz.sizeU ?_)
      refine (L3.out.call fun F h=>a0l h (by have:=HZ.out;omega) k HRA.out).mono ?_;rw [HX1E.out];rintro e w8 ⟨rfl,L4,ho⟩;have L4:=hh L4;have HO2':=hh (ho.2 _ _ HO2.out rfl rfl);clear ho L3 HO1 HO2
      go_wp2_with (refine lR HO2' Tryz.underlying25 Tryz.sizeU ?_)
      refine (L4.out.call fun F h=>a0l h (by have:=HZ.out;have:=a0C s k (n1 - m);omega) q HRB.out).mono ?_;rw [HX2E.out];rintro e w9 ⟨rfl,L5,_⟩;have L5:=hh L5;go_wp2_with fail
      go_ret
      rw [HEV.out,HSV.out];exact L5.out.ret
     ·have hr:r2=6:=by rw [HV2.out.2,if_neg g3]
      have HEV:Hid (moveE (getP s.t) k q m=6):=hh (by rw [HE.out,if_neg (fun h=>h HG.out.1),if_neg HG.out.2,if_neg g3]);have HSV:Hid (s.moveA k q m=s):=hh (by rw [HS.out,HEV.out];rfl);subst hr;clear g3;go_wp2_with fail
      go_ret
      rw [HEV.out,HSV.out];exact L3.out.ret
   ·have hr:r1=13:=by rw [HV1.out.2,if_neg g1]
    have HEV:Hid (moveE (getP s.t) k q m=13):=hh (by rw [HE.out,if_pos g1]);have HSV:Hid (s.moveA k q m=s):=hh (by rw [HS.out,HEV.out];rfl);subst hr;clear g1;go_wp2_with fail
    go_ret
    rw [HEV.out,HSV.out];exact L2.out.ret
 ·simp only [gA,jB,gC];rw [if_pos (by rfl)];refine wA1 25 Tryz.zeroUz ?_;intro O8 wt8 hm;have hb:=hm.out.below;have L8:=hh (L0.out.later hb);have SZ8:=hh (Nat.le_trans SZ0.out hb.size);have HO8:=hh hm.out.cells;have WO8:Hid (wz.heap.size≤O8):=hh (by have h1:=hm.out.eq;have h2:=SZ0.out;omega);have hS1:=a0d hb hS;refine hK _ _ (fun _ _=>hS1) ?_;clear hK hS hb hm L0 SZ0;have hS:=hS1;clear hS1;refine t1 2 fun K hK=>?_
  simp only [gA,jB,gC];go_simp;refine (a0G L8.out.look HF.out.f k).mono ?_;rintro e wt9 ⟨a1,b1,c1,d1,hu1,rfl,hb⟩;have L9:=hh (L8.out.later hb);have SZ9:=hh (Nat.le_trans SZ8.out hb.size);have HO9:=bA hb HO8;have WO9:=hh (WO8.out);rw [← HN.out.1] at hu1;have HU19:=hh hu1;clear hu1;have hS1:=a0d hb hS;refine hK _ _ (fun _ _=>hS1) ?_;clear hK hS hb L8 SZ8 HO8 WO8;have hS:=hS1;clear hS1;refine t1 4 fun K hK=>?_
  simp only [gA,jB,gC];go_simp;refine (less10v HU19.out HU.out HV1.out.1 HV1.out.2 _).mono ?_;rintro e wt10 ⟨sa,sb,sc,sd,hu2,rfl,hb⟩;have L10:=hh (L9.out.later hb);have SZ10:=hh (Nat.le_trans SZ9.out hb.size);have HO10:=bA hb HO9;have WO10:=hh (WO9.out);have HU110:=hh (HU19.out);have HRE10:=hh hu2;clear hu2;have hS1:=a0d hb hS;refine hK _ _ (fun _ _=>hS1) ?_;clear hK hS hb L9 SZ9 HO9 WO9 HU19;have hS:=hS1;clear hS1;refine tA1 5 12 hS ?_;go_frame;refine tA1 6 18 hS ?_;go_frame;refine tA1 7 19 hS ?_;go_frame;refine t1 9 fun K hK=>?_
  simp only [gA,jB,gC];refine wR1 25 #[.int .u64 sa,.int .u64 sb,.int .u64 sc,.int .u64 sd] HO10 Tryz.sizeU ?_;intro wt11 hx8 k8 z8;have HV11:=hh hx8;have SZ11:=hh (Nat.le_trans SZ10.out (Nat.le_of_eq z8.symm));have hS1:=k8.at hS (fun e=>by have h1:=HXB.out;have h2:=WO10.out;have h3:X=O8:=e;have h4:=HSB.out;omega);have L11:=hh (liv_u L10.out HO10.out k8 (by have h1:=HW1.out;have h2:=WO10.out;have h4:=HSB.out;omega));refine hK _ _ (fun _ _=>hS1) ?_;clear hK hS hx8 k8 z8 L10 HO10 SZ10;have hS:=hS1;clear hS1;refine tA1 10 10 hS ?_;go_frame;refine tD ?_;obtain ⟨O1,hO1⟩:=nm (O8);rw [← hO1];have HO1:=HV11;have L2:=L11;have HX2:=hh hS;have HRA:=HRE10;rw [← hO1] at HO1;clear hO1 HV11 L11 HRE10 hS;obtain ⟨wy,hwy⟩:=nm (wt11);rw [← hwy] at HO1 L2 HX2 ⊢;have HW2:Hid (w1.heap.size≤wy.heap.size):=hh (by rw [hwy];exact Nat.le_trans HWZ.out SZ11.out);clear hwy
  by_cases g1:m≤n1
  ·have hr:r1=0:=by rw [HV1.out.2,if_pos g1]
   have HX1E:Hid (x1=n1 - m):=hh (by rw [HV1.out.1,if_pos g1]);subst hr
   by_cases g2:k=q
   ·have HEV:Hid (moveE (getP s.t) k q m=0):=hh (by rw [HE.out,if_neg (fun h=>h g1),if_pos g2]);have HSV:Hid (s.moveA k q m=s):=hh (by rw [HS.out,if_neg (fun h=>h.2 g2)]);have hst:((bs k).toList == (bs q).toList)=true:=by rw [d0I,decide_eq_true g2]
    have hst2:(bs k).toList=(bs q).toList:=by rw [g2]
    clear g1 g2;go_wp2_with fail
    go_ret
    rw [HEV.out,HSV.out];exact L2.out.ret
   have hst:((bs k).toList == (bs q).toList)=false:=by rw [d0I,decide_eq_false g2]
   have hst2:¬ (bs k).toList=(bs q).toList:=by rw [a0g,a0g];exact g2
   have HG:=hh (And.intro g1 g2);clear g1 g2;obtain ⟨x2,hx2⟩:=nm (if n2+m < uHalf then n2+m else 0);obtain ⟨r2,hr2⟩:∃ v:Int,v=if n2+m < uHalf then 0 else 6:=⟨_,rfl⟩;have HV2:=hh (And.intro hx2 hr2);obtain ⟨wz,hwz⟩:=nm (wy.drew);have hbz:Below wy.heap.size wy wz:=by rw [hwz];exact (Below.refl _ _).drew
   have L0:=hh (L2.out.later hbz);have hS:wz.heap[X]? = some (.cells #[.int .u64 a,.int .u64 b,.int .u64 c,.int .u64 d] 25 (0,0)):=a0d hbz HX2.out;have R90:=bA hbz HO1;have HSB:Hid (w1.heap.size≤wz.heap.size):=hh (Nat.le_trans HW2.out hbz.size);have HOB:Hid (O1 < wz.heap.size):=hh (Nat.lt_of_lt_of_le (a0e HO1.out) hbz.size);have SZ0:Hid (wz.heap.size≤wz.heap.size):=hh (Nat.le_refl _);clear hbz L2 HX2 HO1 hx2 hr2;go_wp2_with fail;clear hst hst2;refine a0b (fun w'=>w'.heap[X]? = some (.cells #[.int .u64 a,.int .u64 b,.int .u64 c,.int .u64 d] 25 (0,0))) 11 11 (by kernel_rfl) rfl ?_;rw [← hwz];clear hwz;refine tA1 0 29 hS ?_;go_frame;refine tA1 1 30 hS ?_;go_frame;refine tl 3 (some 32) (fun _ h=>h) Tryz.underlying25 Tryz.sizeU hS ?_;go_frame;refine a0k 2 8 rfl rfl (by kernel_rfl) (fun K hK=>?_) (fun K hK=>?_)
   ·simp only [gA,jB,gC];rw [if_pos (by rfl)];go_simp;refine (a0G L0.out.look HF.out.f q).mono ?_;rintro e wt1 ⟨ta1,tb1,tc1,td1,hu1,rfl,hb⟩;have L1:=hh (L0.out.later hb);have R91:=bA hb R90;have SZ1:=hh (Nat.le_trans SZ0.out hb.size);rw [← HN.out.2] at hu1;have HU11:=hh hu1;clear hu1;have hS1:=a0d hb hS;refine hK _ _ (fun _ _=>hS1) ?_;clear hK hS hb L0 R90 SZ0;have hS:=hS1;clear hS1;refine a0k 4 8 rfl rfl (by kernel_rfl) (fun K hK=>?_) (fun K hK=>?_)
    ·simp only [gA,jB,gC];rw [if_pos (by rfl)];go_simp;refine (more10v HU11.out HU.out HV2.out.1 HV2.out.2 _).mono ?_;rintro e wt2 ⟨tsa,tsb,tsc,tsd,hu2,rfl,hb⟩;have L2:=hh (L1.out.later hb);have R92:=bA hb R91;have SZ2:=hh (Nat.le_trans SZ1.out hb.size);have HU12:=hh (HU11.out);have HRE2:=hh hu2;clear hu2;have hS1:=a0d hb hS;refine hK _ _ (fun _ _=>hS1) ?_;clear hK hS hb L1 R91 SZ1 HU11;have hS:=hS1;clear hS1;refine tA1 5 28 hS ?_;go_frame;refine tA1 6 34 hS ?_;go_frame;refine tA1 7 35 hS ?_;go_frame;refine t1 8 fun K hK=>?_
     simp only [gA,jB,gC];refine wA1 25 Tryz.zeroUz ?_;intro O3 wt3 hm;have hb:=hm.out.below;have L3:=hh (L2.out.later hb);have R93:=bA hb R92;have SZ3:=hh (Nat.le_trans SZ2.out hb.size);have HU13:=hh (HU12.out);have HRE3:=hh (HRE2.out);have HO3:=hh hm.out.cells;have WO3:Hid (wz.heap.size≤O3):=hh (by have h1:=hm.out.eq;have h2:=SZ2.out;omega);have hS1:=a0d hb hS;refine hK _ _ (fun _ _=>hS1) ?_;clear hK hS hb hm L2 R92 SZ2 HU12 HRE2;have hS:=hS1;clear hS1;refine t1 9 fun K hK=>?_
     simp only [gA,jB,gC];refine wR1 25 #[.int .u64 tsa,.int .u64 tsb,.int .u64 tsc,.int .u64 tsd] HO3 Tryz.sizeU ?_;intro wt4 hx8 k8 z8;have HV4:=hh hx8;have SZ4:=hh (Nat.le_trans SZ3.out (Nat.le_of_eq z8.symm));have hS1:=k8.at hS (fun e=>by have h1:=HXB.out;have h2:=WO3.out;have h3:X=O3:=e;have h4:=HSB.out;omega);have L4:=hh (liv_u L3.out HO3.out k8 (by have h1:=HW1.out;have h2:=WO3.out;have h4:=HSB.out;omega));have R94:=hh (k8.at R93.out (fun e=>by have h1:=HOB.out;have h2:=WO3.out;have h3:O1=O3:=e;omega));refine hK _ _ (fun _ _=>hS1) ?_;clear hK hS hx8 k8 z8 L3 HO3 SZ3 R93;have hS:=hS1;clear hS1;refine tA1 10 10 hS ?_;go_frame;refine tD ?_;have HO2:=HV4;have L3:=L4;have HRB:=HRE3;have HO1:=R94;clear hS
     by_cases g3:n2+m < uHalf
     ·have hr:r2=0:=by rw [HV2.out.2,if_pos g3]
      have HX2E:Hid (x2=n2+m):=hh (by rw [HV2.out.1,if_pos g3]);have HEV:Hid (moveE (getP s.t) k q m=0):=hh (by rw [HE.out,if_neg (fun h=>h HG.out.1),if_neg HG.out.2,if_pos g3]);have HSV:Hid (s.moveA k q m=(s.setAmt k (n1 - m)).setAmt q (n2+m)):=hh (by rw [HS.out,if_pos ⟨HEV.out,HG.out.2⟩]);subst hr;clear g3
      go_wp2_with (refine lR HO1 Tryz.underlying25 Tryz.sizeU ?_)
      refine (L3.out.call fun F h=>a0l h (by have:=HZ.out;omega) k HRA.out).mono ?_;rw [HX1E.out];rintro e w8 ⟨rfl,L4,ho⟩;have L4:=hh L4;have HO2':=hh (ho.2 _ _ HO2.out rfl rfl);clear ho L3 HO1 HO2
      go_wp2_with (refine lR HO2' Tryz.underlying25 Tryz.sizeU ?_)
      refine (L4.out.call fun F h=>a0l h (by have:=HZ.out;have:=a0C s k (n1 - m);omega) q HRB.out).mono ?_;rw [HX2E.out];rintro e w9 ⟨rfl,L5,_⟩;have L5:=hh L5;go_wp2_with fail
      go_ret
      rw [HEV.out,HSV.out];exact L5.out.ret
     ·have hr:r2=6:=by rw [HV2.out.2,if_neg g3]
      have HEV:Hid (moveE (getP s.t) k q m=6):=hh (by rw [HE.out,if_neg (fun h=>h HG.out.1),if_neg HG.out.2,if_neg g3]);have HSV:Hid (s.moveA k q m=s):=hh (by rw [HS.out,HEV.out];rfl);subst hr;clear g3;go_wp2_with fail
      go_ret
      rw [HEV.out,HSV.out];exact L3.out.ret
    ·simp only [gA,jB,gC];rw [if_pos (by rfl)];refine wA1 25 Tryz.zeroUz ?_;intro O5 wt5 hm;have hb:=hm.out.below;have L5:=hh (L1.out.later hb);have R95:=bA hb R91;have SZ5:=hh (Nat.le_trans SZ1.out hb.size);have HU15:=hh (HU11.out);have HO5:=hh hm.out.cells;have WO5:Hid (wz.heap.size≤O5):=hh (by have h1:=hm.out.eq;have h2:=SZ1.out;omega);have hS1:=a0d hb hS;refine hK _ _ (fun _ _=>hS1) ?_;clear hK hS hb hm L1 R91 SZ1 HU11;have hS:=hS1;clear hS1;refine t1 4 fun K hK=>?_
     simp only [gA,jB,gC];go_simp;refine (more10v HU15.out HU.out HV2.out.1 HV2.out.2 _).mono ?_;rintro e wt6 ⟨tsa,tsb,tsc,tsd,hu2,rfl,hb⟩;have L6:=hh (L5.out.later hb);have R96:=bA hb R95;have SZ6:=hh (Nat.le_trans SZ5.out hb.size);have HU16:=hh (HU15.out);have HO6:=bA hb HO5;have WO6:=hh (WO5.out);have HRE6:=hh hu2;clear hu2;have hS1:=a0d hb hS;refine hK _ _ (fun _ _=>hS1) ?_;clear hK hS hb L5 R95 SZ5 HU15 HO5 WO5;have hS:=hS1;clear hS1;refine tA1 5 28 hS ?_;go_frame;refine tA1 6 34 hS ?_;go_frame;refine tA1 7 35 hS ?_;go_frame;refine t1 9 fun K hK=>?_
     simp only [gA,jB,gC];refine wR1 25 #[.int .u64 tsa,.int .u64 tsb,.int .u64 tsc,.int .u64 tsd] HO6 Tryz.sizeU ?_;intro wt7 hx8 k8 z8;have HV7:=hh hx8;have SZ7:=hh (Nat.le_trans SZ6.out (Nat.le_of_eq z8.symm));have hS1:=k8.at hS (fun e=>by have h1:=HXB.out;have h2:=WO6.out;have h3:X=O5:=e;have h4:=HSB.out;omega);have L7:=hh (liv_u L6.out HO6.out k8 (by have h1:=HW1.out;have h2:=WO6.out;have h4:=HSB.out;omega));have R97:=hh (k8.at R96.out (fun e=>by have h1:=HOB.out;have h2:=WO6.out;have h3:O1=O5:=e;omega));refine hK _ _ (fun _ _=>hS1) ?_;clear hK hS hx8 k8 z8 L6 HO6 SZ6 R96;have hS:=hS1;clear hS1;refine tA1 10 10 hS ?_;go_frame;refine tD ?_;have HO2:=HV7;have L3:=L7;have HRB:=HRE6;have HO1:=R97;clear hS
     by_cases g3:n2+m < uHalf
     ·have hr:r2=0:=by rw [HV2.out.2,if_pos g3]
      have HX2E:Hid (x2=n2+m):=hh (by rw [HV2.out.1,if_pos g3]);have HEV:Hid (moveE (getP s.t) k q m=0):=hh (by rw [HE.out,if_neg (fun h=>h HG.out.1),if_neg HG.out.2,if_pos g3]);have HSV:Hid (s.moveA k q m=(s.setAmt k (n1 - m)).setAmt q (n2+m)):=hh (by rw [HS.out,if_pos ⟨HEV.out,HG.out.2⟩]);subst hr;clear g3
      go_wp2_with (refine lR HO1 Tryz.underlying25 Tryz.sizeU ?_)
      refine (L3.out.call fun F h=>a0l h (by have:=HZ.out;omega) k HRA.out).mono ?_;rw [HX1E.out];rintro e w8 ⟨rfl,L4,ho⟩;have L4:=hh L4;have HO2':=hh (ho.2 _ _ HO2.out rfl rfl);clear ho L3 HO1 HO2
      go_wp2_with (refine lR HO2' Tryz.underlying25 Tryz.sizeU ?_)
      refine (L4.out.call fun F h=>a0l h (by have:=HZ.out;have:=a0C s k (n1 - m);omega) q HRB.out).mono ?_;rw [HX2E.out];rintro e w9 ⟨rfl,L5,_⟩;have L5:=hh L5;go_wp2_with fail
      go_ret
      rw [HEV.out,HSV.out];exact L5.out.ret
     ·have hr:r2=6:=by rw [HV2.out.2,if_neg g3]
      have HEV:Hid (moveE (getP s.t) k q m=6):=hh (by rw [HE.out,if_neg (fun h=>h HG.out.1),if_neg HG.out.2,if_neg g3]);have HSV:Hid (s.moveA k q m=s):=hh (by rw [HS.out,HEV.out];rfl);subst hr;clear g3;go_wp2_with fail
      go_ret
      rw [HEV.out,HSV.out];exact L3.out.ret
   ·simp only [gA,jB,gC];rw [if_pos (by rfl)];refine wA1 25 Tryz.zeroUz ?_;intro O8 wt8 hm;have hb:=hm.out.below;have L8:=hh (L0.out.later hb);have R98:=bA hb R90;have SZ8:=hh (Nat.le_trans SZ0.out hb.size);have HO8:=hh hm.out.cells;have WO8:Hid (wz.heap.size≤O8):=hh (by have h1:=hm.out.eq;have h2:=SZ0.out;omega);have hS1:=a0d hb hS;refine hK _ _ (fun _ _=>hS1) ?_;clear hK hS hb hm L0 R90 SZ0;have hS:=hS1;clear hS1;refine t1 2 fun K hK=>?_
    simp only [gA,jB,gC];go_simp;refine (a0G L8.out.look HF.out.f q).mono ?_;rintro e wt9 ⟨ta1,tb1,tc1,td1,hu1,rfl,hb⟩;have L9:=hh (L8.out.later hb);have R99:=bA hb R98;have SZ9:=hh (Nat.le_trans SZ8.out hb.size);have HO9:=bA hb HO8;have WO9:=hh (WO8.out);rw [← HN.out.2] at hu1;have HU19:=hh hu1;clear hu1;have hS1:=a0d hb hS;refine hK _ _ (fun _ _=>hS1) ?_;clear hK hS hb L8 R98 SZ8 HO8 WO8;have hS:=hS1;clear hS1;refine t1 4 fun K hK=>?_
    simp only [gA,jB,gC];go_simp;refine (more10v HU19.out HU.out HV2.out.1 HV2.out.2 _).mono ?_;rintro e wt10 ⟨tsa,tsb,tsc,tsd,hu2,rfl,hb⟩;have L10:=hh (L9.out.later hb);have R910:=bA hb R99;have SZ10:=hh (Nat.le_trans SZ9.out hb.size);have HO10:=bA hb HO9;have WO10:=hh (WO9.out);have HU110:=hh (HU19.out);have HRE10:=hh hu2;clear hu2;have hS1:=a0d hb hS;refine hK _ _ (fun _ _=>hS1) ?_;clear hK hS hb L9 R99 SZ9 HO9 WO9 HU19;have hS:=hS1;clear hS1;refine tA1 5 28 hS ?_;go_frame;refine tA1 6 34 hS ?_;go_frame;refine tA1 7 35 hS ?_;go_frame;refine t1 9 fun K hK=>?_
    simp only [gA,jB,gC];refine wR1 25 #[.int .u64 tsa,.int .u64 tsb,.int .u64 tsc,.int .u64 tsd] HO10 Tryz.sizeU ?_;intro wt11 hx8 k8 z8;have HV11:=hh hx8;have SZ11:=hh (Nat.le_trans SZ10.out (Nat.le_of_eq z8.symm));have hS1:=k8.at hS (fun e=>by have h1:=HXB.out;have h2:=WO10.out;have h3:X=O8:=e;have h4:=HSB.out;omega);have L11:=hh (liv_u L10.out HO10.out k8 (by have h1:=HW1.out;have h2:=WO10.out;have h4:=HSB.out;omega));have R911:=hh (k8.at R910.out (fun e=>by have h1:=HOB.out;have h2:=WO10.out;have h3:O1=O8:=e;omega));refine hK _ _ (fun _ _=>hS1) ?_;clear hK hS hx8 k8 z8 L10 HO10 SZ10 R910;have hS:=hS1;clear hS1;refine tA1 10 10 hS ?_;go_frame;refine tD ?_;have HO2:=HV11;have L3:=L11;have HRB:=HRE10;have HO1:=R911;clear hS
    by_cases g3:n2+m < uHalf
    ·have hr:r2=0:=by rw [HV2.out.2,if_pos g3]
     have HX2E:Hid (x2=n2+m):=hh (by rw [HV2.out.1,if_pos g3]);have HEV:Hid (moveE (getP s.t) k q m=0):=hh (by rw [HE.out,if_neg (fun h=>h HG.out.1),if_neg HG.out.2,if_pos g3]);have HSV:Hid (s.moveA k q m=(s.setAmt k (n1 - m)).setAmt q (n2+m)):=hh (by rw [HS.out,if_pos ⟨HEV.out,HG.out.2⟩]);subst hr;clear g3
     go_wp2_with (refine lR HO1 Tryz.underlying25 Tryz.sizeU ?_)
     refine (L3.out.call fun F h=>a0l h (by have:=HZ.out;omega) k HRA.out).mono ?_;rw [HX1E.out];rintro e w8 ⟨rfl,L4,ho⟩;have L4:=hh L4;have HO2':=hh (ho.2 _ _ HO2.out rfl rfl);clear ho L3 HO1 HO2
     go_wp2_with (refine lR HO2' Tryz.underlying25 Tryz.sizeU ?_)
     refine (L4.out.call fun F h=>a0l h (by have:=HZ.out;have:=a0C s k (n1 - m);omega) q HRB.out).mono ?_;rw [HX2E.out];rintro e w9 ⟨rfl,L5,_⟩;have L5:=hh L5;go_wp2_with fail
     go_ret
     rw [HEV.out,HSV.out];exact L5.out.ret
    ·have hr:r2=6:=by rw [HV2.out.2,if_neg g3]
     have HEV:Hid (moveE (getP s.t) k q m=6):=hh (by rw [HE.out,if_neg (fun h=>h HG.out.1),if_neg HG.out.2,if_neg g3]);have HSV:Hid (s.moveA k q m=s):=hh (by rw [HS.out,HEV.out];rfl);subst hr;clear g3;go_wp2_with fail
     go_ret
     rw [HEV.out,HSV.out];exact L3.out.ret
  ·have hr:r1=13:=by rw [HV1.out.2,if_neg g1]
   have HEV:Hid (moveE (getP s.t) k q m=13):=hh (by rw [HE.out,if_pos g1]);have HSV:Hid (s.moveA k q m=s):=hh (by rw [HS.out,HEV.out];rfl);subst hr;clear g1;go_wp2_with fail
   go_ret
   rw [HEV.out,HSV.out];exact L2.out.ret
end Go.Proofs.YtabminbgoclnkaaGreat
