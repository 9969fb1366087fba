/- Vaults: the program's functions that look (code). No condition. -/
import Derived.Test.YtabminbgoclnkaaGreatVaRatA
import Derived.Deep.Cut
import Derived.OwnWalk
namespace Go.Proofs.YtabminbgoclnkaaGreat
set_option maxHeartbeats 8000000
set_option maxRecDepth 100000
open Go.RowKit

theorem Tryz.zeroSg (w:World):(zeroValue 76).run Tryz.prog w = .ok (.agg #[.pointer none,.int .i64 0,.int .i64 0,.bool false]) w:=by kernel_rfl
theorem Tryz.sizeSg:(Tryz.prog.info? 76).map (·.size)=some 4:=by kernel_rfl
theorem m0s {f:Txt→Option Txt} {g t:Int} {on:Bool} (h:infF f g=some (t,on)):∃ c,rowF (valF f (kInf g)) = [t,c]∧on=(c == 1):=by
 unfold infF at h
 by_cases h2:(rowF (valF f (kInf g))).length=2
 ·obtain ⟨a,b,e⟩:=i0d h2;rw [e] at h
  cases h
  exact ⟨b,e,rfl⟩
 ·rw [h0A h2] at h;cases h
theorem m0p {f:Txt→Option Txt} {g:Int} (h:infF f g=none):(rowF (valF f (kInf g))).length≠2:=by
 intro h2;obtain ⟨a,b,e⟩:=i0d h2
 unfold infF at h
 rw [e] at h
 cases h

theorem b0C {w:World} {x:Option Addr} {m:Bool} {f:Txt→Option Txt} (h:Look w x m f) (hf:FitF f) {g:Int} (hg:I64 g) (hi:infF f g=none):Calls Tryz.prog 39 #[.pointer x,.int .i64 g] w (Ret w (.tuple #[.agg #[.pointer none,.int .i64 0,.int .i64 0,.bool false],.bool false])):=by
 have H:=hh h;have HV:=hh (hf (kInf g));have HG:=hh hg;have HNO:=hh (m0p hi);obtain ⟨v,hv⟩:=nm (valF f (kInf g));have HVV:=hh hv;rw [← hv] at HV HNO;clear h hf hg hi hv
 go_enter Tryz.func39,Tryz.ntmps39
 have HB:Hid (Below w.heap.size w w):=hh (Below.refl _ _)
 go_wp2_with (refine sA _ Tryz.zeroSg ?_)
 intro R a1 hR;have WR:=mGe hR HB.out.size;have HR:=hh hR.out.cells;have hbR:=hR.out.below;clear hR;replace HB:=bT HB hbR;clear hbR;go_wp2_with fail;obtain ⟨a2,hwl⟩:=nm (World.alloc a1 (.cells #[.int .i64 g] 3));obtain ⟨gl,hgl⟩:=nm ((World.heap a1).size);rw [← hwl,← hgl];have HOI:Hid (Own a2 0 3 intE 1 (.slice (some ⟨gl,0,none⟩) 1 1) [g]):=hh (a0w (l:=[g]) (by rw [hwl,hgl];exact heap_alloc_new _ _) (Nat.zero_le _) (by unfold maxLen;simp));have hb:Below (World.heap a1).size a1 a2:=by rw [hwl];exact a0c _ _
 clear hwl hgl;replace HB:=bT HB hb;replace HR:=bA hb HR;clear hb;refine (b0b 5 [g] _ _ (by simp) (I64s.one HG.out) (HOI.out.rd fun _=>rfl)).mono ?_;rintro e a3 ⟨rfl,hb⟩;replace HB:=bT HB hb;replace HR:=bA hb HR;clear hb;clear HOI;go_wp2_with fail;refine (d0V (H.out.later HB.out) (kInf g)).mono ?_;rintro e _ ⟨rfl,rfl⟩;obtain ⟨b0,hb0⟩:=nm ((f (kInf g)).isSome);rw [← hb0,show (f (kInf g)).getD []=valF f (kInf g) from rfl,← HVV.out];clear hb0;go_wp2_with fail;refine (g0e (bs v) _ (Nat.le_trans (bs_le HV.out) (by decide))).mono ?_;intro e a4 hr;obtain ⟨u,b,rfl,ho,hb,hn⟩:=d0W hr;rw [d0d] at ho;have HO:=hh ho;clear hr ho;replace HB:=bT HB hb;replace HR:=bA hb HR;clear hb
 cases b with
 | false=>
  obtain rfl:=hn rfl;clear hn;clear HO
  go_wp2_with (refine sR 76 #[.pointer none,.int .i64 0,.int .i64 0,.bool false] HR Tryz.sizeSg ?_)
  intro a5 hxR kR zR;clear zR;replace HB:=bS HB kR WR;replace HR:=hh hxR;clear hxR kR;go_wp2_with fail
  exact bR rfl rfl HR Tryz.underlying76 Tryz.sizeSg ⟨rfl,HB.out⟩
 | true=>
  clear hn;obtain ⟨ad,cap,rfl,c1,c2⟩:=RowRet.rd HO.out |>.shape;obtain ⟨n,hn⟩:=nm ((rowF v).length);have hne:((n:Int) == 2)=false:=by have h9:=HNO.out;rw [← hn] at h9;simp;omega
  have hne2:((n:Int) != 2)=true:=by rw [bne,hne];rfl
  rw [← hn] at HO c1 ⊢;clear hn;clear HO
  go_wp2_with (refine sR 76 #[.pointer none,.int .i64 0,.int .i64 0,.bool false] HR Tryz.sizeSg ?_)
  intro a5 hxR kR zR;clear zR;replace HB:=bS HB kR WR;replace HR:=hh hxR;clear hxR kR;go_wp2_with fail
  exact bR rfl rfl HR Tryz.underlying76 Tryz.sizeSg ⟨rfl,HB.out⟩

theorem b0x {w:World} {x:Option Addr} {m:Bool} {f:Txt→Option Txt} (h:Look w x m f) (hf:FitF f) {g:Int} (hg:I64 g) {t:Int} {on:Bool} (hi:infF f g=some (t,on)):Calls Tryz.prog 39 #[.pointer x,.int .i64 g] w (Ret w (.tuple #[.agg #[.pointer x,.int .i64 g,.int .i64 t,.bool on],.bool true])):=by
 have H:=hh h;have HV:=hh (hf (kInf g));have HG:=hh hg;have HSO:=hh (m0s hi);obtain ⟨v,hv⟩:=nm (valF f (kInf g));have HVV:=hh hv;rw [← hv] at HV HSO;clear h hf hg hi hv
 go_enter Tryz.func39,Tryz.ntmps39
 have HB:Hid (Below w.heap.size w w):=hh (Below.refl _ _)
 go_wp2_with (refine sA _ Tryz.zeroSg ?_)
 intro R a1 hR;have WR:=mGe hR HB.out.size;have HR:=hh hR.out.cells;have hbR:=hR.out.below;clear hR;replace HB:=bT HB hbR;clear hbR;go_wp2_with fail;obtain ⟨a2,hwl⟩:=nm (World.alloc a1 (.cells #[.int .i64 g] 3));obtain ⟨gl,hgl⟩:=nm ((World.heap a1).size);rw [← hwl,← hgl];have HOI:Hid (Own a2 0 3 intE 1 (.slice (some ⟨gl,0,none⟩) 1 1) [g]):=hh (a0w (l:=[g]) (by rw [hwl,hgl];exact heap_alloc_new _ _) (Nat.zero_le _) (by unfold maxLen;simp));have hb:Below (World.heap a1).size a1 a2:=by rw [hwl];exact a0c _ _
 clear hwl hgl;replace HB:=bT HB hb;replace HR:=bA hb HR;clear hb;refine (b0b 5 [g] _ _ (by simp) (I64s.one HG.out) (HOI.out.rd fun _=>rfl)).mono ?_;rintro e a3 ⟨rfl,hb⟩;replace HB:=bT HB hb;replace HR:=bA hb HR;clear hb;clear HOI;go_wp2_with fail;refine (d0V (H.out.later HB.out) (kInf g)).mono ?_;rintro e _ ⟨rfl,rfl⟩;obtain ⟨b0,hb0⟩:=nm ((f (kInf g)).isSome);rw [← hb0,show (f (kInf g)).getD []=valF f (kInf g) from rfl,← HVV.out];clear hb0;go_wp2_with fail;refine (g0e (bs v) _ (Nat.le_trans (bs_le HV.out) (by decide))).mono ?_;intro e a4 hr;obtain ⟨u,b,rfl,ho,hb,hn⟩:=d0W hr;rw [d0d] at ho;have HO:=hh ho;clear hr ho;replace HB:=bT HB hb;replace HR:=bA hb HR;clear hb;obtain ⟨cq,hrow,hon⟩:=HSO.out;rw [hrow] at HO
 cases b with
 | false=>
  exfalso
  obtain rfl:=hn rfl;have h9:=(RowRet.rd HO.out).size
  simp at h9
 | true=>
 clear hn;obtain ⟨ad,cap,rfl,c1,c2⟩:=RowRet.rd HO.out |>.shape;obtain ⟨p1,o1,rfl,hp1,hc0⟩:=(RowRet.rd HO.out).at 0 (by simp);obtain ⟨p2,o2,e2,hp2,hc1⟩:=(RowRet.rd HO.out).at 1 (by simp)
 cases e2
 have hc0':a4.cell? ⟨p1,o1,none⟩=some (.int .i64 t):=hc0;have hc1':a4.cell? ⟨p1,o1+1,none⟩=some (.int .i64 cq):=hc1;have HON:=hh hon;clear hc0 hc1 hrow hon hp1 hp2;go_wp2_with fail;have hS:a4.drew.cell? ⟨p1,o1,none⟩=some (.int .i64 t)∧a4.drew.cell? ⟨p1,o1+1,none⟩=some (.int .i64 cq):=⟨hc0',hc1'⟩;clear hc0' hc1';clear HO;obtain ⟨a5,hwz⟩:=nm (a4.drew);have hbz:Below a4.heap.size a4 a5:=by rw [hwz];exact (Below.refl _ _).drew
 replace HB:=bT HB hbz;replace HR:=bA hbz HR;clear hbz;rw [← hwz] at hS;refine a0b (fun w'=>w'.cell? ⟨p1,o1,none⟩=some (.int .i64 t)∧w'.cell? ⟨p1,o1+1,none⟩=some (.int .i64 cq)) 10 12 (by kernel_rfl) rfl ?_;rw [← hwz];clear hwz;refine tA1 0 34 hS ?_;go_frame;refine tA1 1 35 hS ?_;go_frame;refine tA1 2 36 hS ?_;go_frame;refine tA1 3 37 hS ?_;go_frame;refine tk 4 (some 38) rfl rfl (.inl ⟨by rfl,fun w' hS'=>(by obtain ⟨hq1,hq2⟩:=hS';go_simp;rfl)⟩) hS ?_;go_frame;refine tA1 5 39 hS ?_;go_frame;refine tA1 6 40 hS ?_;go_frame;refine tk 7 (some 41) rfl rfl (.inl ⟨by rfl,fun w' hS'=>(by obtain ⟨hq1,hq2⟩:=hS';go_simp;rfl)⟩) hS ?_;go_frame;refine tA1 8 42 hS ?_;go_frame;refine tA1 9 43 hS ?_;go_frame;refine t1 10 fun K hK=>?_
 simp only [gA,jB,gC];refine wR1 76 #[.pointer x,.int .i64 g,.int .i64 t,.bool (cq == 1)] HR Tryz.sizeSg ?_;intro a6 hx kx zx;have HR2:=hh hx;have HB2:=bS HB kx WR;clear hx kx zx;refine hK _ _ (fun h=>absurd rfl h) ?_;clear hK hS;refine a0p 11 (some 5) rfl rfl (by kernel_rfl) (by kernel_rfl) (by kernel_rfl) (by kernel_rfl) (by decide) (fun _ _ _ h=>h) (.inl ⟨by rfl,fun w' _=>(by go_simp;rfl)⟩) (fun h=>absurd h (by decide)) ?_;go_frame;refine tD ?_;go_wp2_with fail
 exact bR rfl rfl HR2 Tryz.underlying76 Tryz.sizeSg ⟨by rw [HON.out];rfl,HB2.out⟩

theorem l0e {w:World} {x:Option Addr} {m:Bool} {f:Txt→Option Txt} (h:Look w x m f) (hf:FitF f) {g:Int} (hg:I64 g):Calls Tryz.prog 9 #[.pointer x,.int .i64 g] w (Ret w (.tuple #[.int .i64 (infT f g),.bool (infO f g),.bool (infK f g)])):=by
 have H:=hh h;have HF:=hh hf;have HG:=hh hg;clear h hf hg
 go_enter Tryz.func9,Tryz.ntmps9
 have HB:Hid (Below w.heap.size w w):=hh (Below.refl _ _);go_wp2_with fail
 cases hi:infF f g with
 | none=>
  refine (b0C (H.out.later HB.out) HF.out HG.out hi).mono ?_;rintro e a1 ⟨rfl,hb⟩;replace HB:=bT HB hb;clear hb
  go_wp2_with (refine sA _ Tryz.zeroSg ?_)
  intro V a2 hV;have WV:=mGe hV HB.out.size;have HV:=hh hV.out.cells;have hbV:=hV.out.below;clear hV;replace HB:=bT HB hbV;clear hbV
  go_wp2_with (refine sR 76 #[.pointer none,.int .i64 0,.int .i64 0,.bool false] HV Tryz.sizeSg ?_)
  intro a3 hxV kV zV;clear zV;replace HB:=bS HB kV WV;replace HV:=hh hxV;clear hxV kV;have HI:=hh (a0s hi);clear hi;go_wp2_with fail;obtain ⟨a4,hwz,hbz⟩:=dr a3;replace HB:=bT HB hbz;replace HV:=bA hbz HV;clear hbz;refine rg1 8 8 hwz HV fun hS=>?_
  clear hwz;refine tA1 0 15 hS ?_;go_frame;refine tk 1 (some 16) rfl rfl (.inl ⟨by rfl,fun w' hS'=>(by have hc:w'.cell? ⟨V,2,none⟩=some (.int .i64 0):=Lib.cell_of_heap (hS') 2;go_simp;rfl)⟩) hS ?_;go_frame;refine tA1 2 17 hS ?_;go_frame;refine tk 3 (some 18) rfl rfl (.inl ⟨by rfl,fun w' hS'=>(by have hc:w'.cell? ⟨V,3,none⟩=some (.bool false):=Lib.cell_of_heap (hS') 3;go_simp;rfl)⟩) hS ?_;go_frame;refine tA1 4 19 hS ?_;go_frame;refine tA1 5 4 hS ?_;go_frame;refine tA1 6 5 hS ?_;go_frame;refine tA1 7 6 hS ?_;go_frame;refine tD ?_;clear hS;go_wp2_with fail
  go_ret3
  exact ⟨by rw [HI.out.1,HI.out.2.1,HI.out.2.2];rfl,HB.out⟩
 | some p=>
  obtain ⟨t,on⟩:=p;have HT:Hid (I64 t):=hh (by have h9:=a0z hi;unfold I64;omega);refine (b0x (H.out.later HB.out) HF.out HG.out hi).mono ?_;rintro e a1 ⟨rfl,hb⟩;replace HB:=bT HB hb;clear hb
  go_wp2_with (refine sA _ Tryz.zeroSg ?_)
  intro V a2 hV;have WV:=mGe hV HB.out.size;have HV:=hh hV.out.cells;have hbV:=hV.out.below;clear hV;replace HB:=bT HB hbV;clear hbV
  go_wp2_with (refine sR 76 #[.pointer x,.int .i64 g,.int .i64 t,.bool on] HV Tryz.sizeSg ?_)
  intro a3 hxV kV zV;clear zV;replace HB:=bS HB kV WV;replace HV:=hh hxV;clear hxV kV;have HI:=hh (a0v hi);clear hi;go_wp2_with fail;obtain ⟨a4,hwz,hbz⟩:=dr a3;replace HB:=bT HB hbz;replace HV:=bA hbz HV;clear hbz;refine rg1 8 8 hwz HV fun hS=>?_
  clear hwz;refine tA1 0 15 hS ?_;go_frame;refine tk 1 (some 16) rfl rfl (.inl ⟨by rfl,fun w' hS'=>(by have hc:w'.cell? ⟨V,2,none⟩=some (.int .i64 t):=Lib.cell_of_heap (hS') 2;go_simp;rfl)⟩) hS ?_;go_frame;refine tA1 2 17 hS ?_;go_frame;refine tk 3 (some 18) rfl rfl (.inl ⟨by rfl,fun w' hS'=>(by have hc:w'.cell? ⟨V,3,none⟩=some (.bool on):=Lib.cell_of_heap (hS') 3;go_simp;rfl)⟩) hS ?_;go_frame;refine tA1 4 19 hS ?_;go_frame;refine tA1 5 4 hS ?_;go_frame;refine tA1 6 5 hS ?_;go_frame;refine tA1 7 6 hS ?_;go_frame;refine tD ?_;clear hS;go_wp2_with fail
  go_ret3
  exact ⟨by rw [HI.out.1,HI.out.2.1,HI.out.2.2];rfl,HB.out⟩

theorem f0u {w:World} {x:Option Addr} {m:Bool} {f:Txt→Option Txt} (h:Look w x m f) (hf:FitF f):Calls Tryz.prog 22 #[.pointer x] w (Ret w (.int .i64 (getI f kCnt))):=by
 have H:=hh h;have HF:=hh hf;obtain ⟨q,hq⟩:=nm (getI f kCnt);have HQ:=hh hq;rw [← hq];clear h hf hq
 go_enter Tryz.func22,Tryz.ntmps22
 have HB:Hid (Below w.heap.size w w):=hh (Below.refl _ _);go_wp2_with fail;refine (b0b 5 [] (.slice none 0 0) _ (by simp) (fun x hx=>by cases hx) (Rd.nil _ _ _)).mono ?_;rintro e a1 ⟨rfl,hb⟩;replace HB:=bT HB hb;clear hb;go_wp2_with fail;refine (j0F (H.out.later HB.out) HF.out kCnt).mono ?_;rw [← HQ.out];rintro e a2 ⟨rfl,hb⟩;replace HB:=bT HB hb;clear hb;go_wp2_with fail
 go_ret
 exact ⟨rfl,HB.out⟩

theorem f0M (n:Int) (w:World):Calls Tryz.prog 49 #[.int .i64 n] w fun e w'=>e = .returned (.bool (goodB 1 n))∧w=w':=by
 go_enter Tryz.func49,Tryz.ntmps49
 go_wp2_with fail;refine (e0C 1 n _).mono ?_;rintro e _ ⟨rfl,rfl⟩;go_wp2_with fail
 go_ret
 exact ⟨rfl,rfl⟩

theorem c0F {g t:Int} (hg:I64 g) (ht:I64 t) (x:Option Addr) (on:Bool) (w:World):Calls Tryz.prog 55 #[.agg #[.pointer x,.int .i64 g,.int .i64 t,.bool on]] w (Ret w (.string (bs (kStk t g)))):=by
 have HG:=hh hg;have HT:=hh ht;clear hg ht
 go_enter Tryz.func55,Tryz.ntmps55
 go_upto_region 1 with fail
 obtain ⟨w1,hw1⟩:=nm (w.alloc (.cells #[.pointer x,.int .i64 g,.int .i64 t,.bool on] 76));obtain ⟨V,hV⟩:=nm (w.heap.size);rw [← hw1,← hV];have HV:Hid (w1.heap[V]? = some (.cells #[.pointer x,.int .i64 g,.int .i64 t,.bool on] 76 (0,0))):=hh (by rw [hw1,hV];exact heap_alloc_new _ _);have HB:Hid (Below w.heap.size w w1):=hh (by rw [hw1];exact a0c _ _);clear hw1 hV;have c1:w1.cell? ⟨V,1,none⟩=some (.int .i64 g):=Lib.cell_of_heap HV.out 1;have c2:w1.cell? ⟨V,2,none⟩=some (.int .i64 t):=Lib.cell_of_heap HV.out 2;go_wp2_with fail;clear c1 c2;refine (i0X HT.out HG.out _).mono ?_;rintro e a1 ⟨rfl,hb⟩;replace HB:=bT HB hb;clear hb;go_wp2_with fail
 go_ret
 exact ⟨rfl,HB.out⟩

theorem c0S {g:Int} (hg:I64 g) (t:Int) (x:Option Addr) (on:Bool) (w:World):Calls Tryz.prog 56 #[.agg #[.pointer x,.int .i64 g,.int .i64 t,.bool on]] w (Ret w (.string (bs (kTot g)))):=by
 have HG:=hh hg;clear hg
 go_enter Tryz.func56,Tryz.ntmps56
 go_upto_region 1 with fail
 obtain ⟨w1,hw1⟩:=nm (w.alloc (.cells #[.pointer x,.int .i64 g,.int .i64 t,.bool on] 76));obtain ⟨V,hV⟩:=nm (w.heap.size);rw [← hw1,← hV];have HV:Hid (w1.heap[V]? = some (.cells #[.pointer x,.int .i64 g,.int .i64 t,.bool on] 76 (0,0))):=hh (by rw [hw1,hV];exact heap_alloc_new _ _);have HB:Hid (Below w.heap.size w w1):=hh (by rw [hw1];exact a0c _ _);clear hw1 hV;have c1:w1.cell? ⟨V,1,none⟩=some (.int .i64 g):=Lib.cell_of_heap HV.out 1;go_wp2_with fail;clear c1;obtain ⟨a1,hwl⟩:=nm (World.alloc w1 (.cells #[.int .i64 g] 3));obtain ⟨gl,hgl⟩:=nm ((World.heap w1).size);rw [← hwl,← hgl];have HOI:Hid (Own a1 0 3 intE 1 (.slice (some ⟨gl,0,none⟩) 1 1) [g]):=hh (a0w (l:=[g]) (by rw [hwl,hgl];exact heap_alloc_new _ _) (Nat.zero_le _) (by unfold maxLen;simp));have hb:Below (World.heap w1).size w1 a1:=by rw [hwl];exact a0c _ _
 clear hwl hgl;replace HB:=bT HB hb;clear hb;refine (b0b 7 [g] _ _ (by simp) (I64s.one HG.out) (HOI.out.rd fun _=>rfl)).mono ?_;rintro e a2 ⟨rfl,hb⟩;replace HB:=bT HB hb;clear hb;clear HOI;go_wp2_with fail
 go_ret
 exact ⟨rfl,HB.out⟩

theorem c0k {w:World} {x:Option Addr} {m:Bool} {f:Txt→Option Txt} (h:Look w x m f) (hf:FitF f) {g t:Int} (hg:I64 g) (ht:I64 t) (on:Bool):Calls Tryz.prog 51 #[.agg #[.pointer x,.int .i64 g,.int .i64 t,.bool on]] w (URet w (vSt f t g)):=by
 have H:=hh h;have HF:=hh hf;have HG:=hh hg;have HT:=hh ht;clear h hf hg ht
 go_enter Tryz.func51,Tryz.ntmps51
 go_wp2_with (refine sA _ Tryz.zeroUz ?_)
 obtain ⟨w1,hw1⟩:=nm (w.alloc (.cells #[.pointer x,.int .i64 g,.int .i64 t,.bool on] 76));obtain ⟨V,hV⟩:=nm (w.heap.size);rw [← hw1,← hV];have HV:Hid (w1.heap[V]? = some (.cells #[.pointer x,.int .i64 g,.int .i64 t,.bool on] 76 (0,0))):=hh (by rw [hw1,hV];exact heap_alloc_new _ _);have HB:Hid (Below w.heap.size w w1):=hh (by rw [hw1];exact a0c _ _);clear hw1 hV;intro R a1 hR;have WR:=mGe hR HB.out.size;have NVR:=mNe hR HV;have HR:=hh hR.out.cells;have hbR:=hR.out.below;clear hR;replace HB:=bT HB hbR;replace HV:=bA hbR HV;clear hbR;go_wp2_with fail;obtain ⟨a2,hwz,hbz⟩:=dr a1;replace HB:=bT HB hbz;replace HV:=bA hbz HV;replace HR:=bA hbz HR;clear hbz;refine rg1 6 6 hwz HV fun hS=>?_
 clear hwz;refine tA1 0 3 hS ?_;go_frame;refine tk 1 (some 4) rfl rfl (.inl ⟨by rfl,fun w' hS'=>(by have hc:w'.cell? ⟨V,0,none⟩=some (.pointer x):=Lib.cell_of_heap (hS') 0;go_simp;rfl)⟩) hS ?_;go_frame;refine tl 2 (some 5) (fun _ h=>h) Tryz.underlying76 Tryz.sizeSg hS ?_;go_frame;refine t1 3 fun K hK=>?_
 simp only [gA,jB,gC];go_simp;refine (c0F HG.out HT.out x on _).mono ?_;rintro e a3 ⟨rfl,hb⟩;replace HB:=bT HB hb;replace HV:=bA hb HV;replace HR:=bA hb HR;clear hb;replace hS:=HV.out;refine hK _ _ (fun _ _=>hS) ?_;clear hK;refine t1 4 fun K hK=>?_
 simp only [gA,jB,gC];go_simp;refine (a0G (H.out.later HB.out) HF.out (kStk t g)).mono ?_;rintro e a4 ⟨xa,xb,xc,xd,hu,rfl,hb⟩;have HXU:=hh hu;clear hu;replace HB:=bT HB hb;replace HV:=bA hb HV;replace HR:=bA hb HR;clear hb;replace hS:=HV.out;refine hK _ _ (fun _ _=>hS) ?_;clear hK;refine t1 5 fun K hK=>?_
 simp only [gA,jB,gC];refine wR1 25 #[.int .u64 xa,.int .u64 xb,.int .u64 xc,.int .u64 xd] HR Tryz.sizeU ?_;intro a5 hxR kR zR;clear zR;replace HB:=bS HB kR WR;replace HV:=ka1 kR HV NVR;replace HR:=hh hxR;clear hxR kR;replace hS:=HV.out;refine hK _ _ (fun _ _=>hS) ?_;clear hK;refine tD ?_;clear hS;go_wp2_with fail
 exact bodyPost_ret (results_cell_row rfl _ _ _ _ _ _ _ rfl HR.out Tryz.underlying25 rfl Tryz.sizeU) rfl ⟨_,_,_,_,HXU.out,rfl,HB.out⟩

theorem b0k {w:World} {x:Option Addr} {m:Bool} {f:Txt→Option Txt} (h:Look w x m f) (hf:FitF f) {g t:Int} (hg:I64 g) (ht:I64 t) (on:Bool):Calls Tryz.prog 52 #[.agg #[.pointer x,.int .i64 g,.int .i64 t,.bool on]] w (URet w (vTo f g)):=by
 have H:=hh h;have HF:=hh hf;have HG:=hh hg;have HT:=hh ht;clear h hf hg ht
 go_enter Tryz.func52,Tryz.ntmps52
 go_wp2_with (refine sA _ Tryz.zeroUz ?_)
 obtain ⟨w1,hw1⟩:=nm (w.alloc (.cells #[.pointer x,.int .i64 g,.int .i64 t,.bool on] 76));obtain ⟨V,hV⟩:=nm (w.heap.size);rw [← hw1,← hV];have HV:Hid (w1.heap[V]? = some (.cells #[.pointer x,.int .i64 g,.int .i64 t,.bool on] 76 (0,0))):=hh (by rw [hw1,hV];exact heap_alloc_new _ _);have HB:Hid (Below w.heap.size w w1):=hh (by rw [hw1];exact a0c _ _);clear hw1 hV;intro R a1 hR;have WR:=mGe hR HB.out.size;have NVR:=mNe hR HV;have HR:=hh hR.out.cells;have hbR:=hR.out.below;clear hR;replace HB:=bT HB hbR;replace HV:=bA hbR HV;clear hbR;go_wp2_with fail;obtain ⟨a2,hwz,hbz⟩:=dr a1;replace HB:=bT HB hbz;replace HV:=bA hbz HV;replace HR:=bA hbz HR;clear hbz;refine rg1 6 6 hwz HV fun hS=>?_
 clear hwz;refine tA1 0 3 hS ?_;go_frame;refine tk 1 (some 4) rfl rfl (.inl ⟨by rfl,fun w' hS'=>(by have hc:w'.cell? ⟨V,0,none⟩=some (.pointer x):=Lib.cell_of_heap (hS') 0;go_simp;rfl)⟩) hS ?_;go_frame;refine tl 2 (some 5) (fun _ h=>h) Tryz.underlying76 Tryz.sizeSg hS ?_;go_frame;refine t1 3 fun K hK=>?_
 simp only [gA,jB,gC];go_simp;refine (c0S HG.out t x on _).mono ?_;rintro e a3 ⟨rfl,hb⟩;replace HB:=bT HB hb;replace HV:=bA hb HV;replace HR:=bA hb HR;clear hb;replace hS:=HV.out;refine hK _ _ (fun _ _=>hS) ?_;clear hK;refine t1 4 fun K hK=>?_
 simp only [gA,jB,gC];go_simp;refine (a0G (H.out.later HB.out) HF.out (kTot g)).mono ?_;rintro e a4 ⟨xa,xb,xc,xd,hu,rfl,hb⟩;have HXU:=hh hu;clear hu;replace HB:=bT HB hb;replace HV:=bA hb HV;replace HR:=bA hb HR;clear hb;replace hS:=HV.out;refine hK _ _ (fun _ _=>hS) ?_;clear hK;refine t1 5 fun K hK=>?_
 simp only [gA,jB,gC];refine wR1 25 #[.int .u64 xa,.int .u64 xb,.int .u64 xc,.int .u64 xd] HR Tryz.sizeU ?_;intro a5 hxR kR zR;clear zR;replace HB:=bS HB kR WR;replace HV:=ka1 kR HV NVR;replace HR:=hh hxR;clear hxR kR;replace hS:=HV.out;refine hK _ _ (fun _ _=>hS) ?_;clear hK;refine tD ?_;clear hS;go_wp2_with fail
 exact bodyPost_ret (results_cell_row rfl _ _ _ _ _ _ _ rfl HR.out Tryz.underlying25 rfl Tryz.sizeU) rfl ⟨_,_,_,_,HXU.out,rfl,HB.out⟩

theorem i0V {w:World} {x:Option Addr} {m:Bool} {f:Txt→Option Txt} (h:Look w x m f) (hf:FitF f) {g:Int} (hg:I64 g):Calls Tryz.prog 16 #[.pointer x,.int .i64 g] w (URet w (totV f g)):=by
 have H:=hh h;have HF:=hh hf;have HG:=hh hg;clear h hf hg
 go_enter Tryz.func16,Tryz.ntmps16
 have HB:Hid (Below w.heap.size w w):=hh (Below.refl _ _)
 go_wp2_with (refine sA _ Tryz.zeroUz ?_)
 intro R a1 hR;have WR:=mGe hR HB.out.size;have HR:=hh hR.out.cells;have hbR:=hR.out.below;clear hR;replace HB:=bT HB hbR;clear hbR;go_wp2_with fail
 cases hi:infF f g with
 | none=>
  have HI:Hid (totV f g=0):=hh (by unfold totV;rw [hi]);refine (b0C (H.out.later HB.out) HF.out HG.out hi).mono ?_;rintro e a2 ⟨rfl,hb⟩;replace HB:=bT HB hb;replace HR:=bA hb HR;clear hb
  go_wp2_with (refine sA _ Tryz.zeroSg ?_)
  intro V a3 hV;have WV:=mGe hV HB.out.size;have NRV:=mNe hV HR;have HV:=hh hV.out.cells;have hbV:=hV.out.below;clear hV;replace HB:=bT HB hbV;replace HR:=bA hbV HR;clear hbV
  go_wp2_with (refine sR 76 #[.pointer none,.int .i64 0,.int .i64 0,.bool false] HV Tryz.sizeSg ?_)
  intro a4 hxV kV zV;clear zV;replace HB:=bS HB kV WV;replace HR:=ka1 kV HR NRV;clear hxV kV;clear hi
  go_wp2_with (refine a0a (t:=25) (old:=u0) rfl 25 _ _ rfl R u0 rfl rfl HR.out Tryz.sizeU rfl (a0j _ _ _ _) ?_)
  intro a5 hxR kR zR;clear zR;replace HB:=bS HB kR WR;replace HR:=hh hxR;clear hxR kR;go_wp2_with fail
  exact bodyPost_ret (results_cell_row rfl _ _ _ _ _ _ _ rfl HR.out Tryz.underlying25 rfl Tryz.sizeU) rfl ⟨_,_,_,_,by rw [HI.out];exact UIs.zero,rfl,HB.out⟩
 | some p=>
  obtain ⟨t,on⟩:=p;have HI:Hid (totV f g=vTo f g):=hh (by unfold totV;rw [hi]);have HT:Hid (I64 t):=hh (by have h9:=a0z hi;unfold I64;omega);refine (b0x (H.out.later HB.out) HF.out HG.out hi).mono ?_;rintro e a2 ⟨rfl,hb⟩;replace HB:=bT HB hb;replace HR:=bA hb HR;clear hb
  go_wp2_with (refine sA _ Tryz.zeroSg ?_)
  intro V a3 hV;have WV:=mGe hV HB.out.size;have NRV:=mNe hV HR;have HV:=hh hV.out.cells;have hbV:=hV.out.below;clear hV;replace HB:=bT HB hbV;replace HR:=bA hbV HR;clear hbV
  go_wp2_with (refine sR 76 #[.pointer x,.int .i64 g,.int .i64 t,.bool on] HV Tryz.sizeSg ?_)
  intro a4 hxV kV zV;clear zV;replace HB:=bS HB kV WV;replace HR:=ka1 kV HR NRV;replace HV:=hh hxV;clear hxV kV;clear hi
  go_wp2_with (refine lR HV Tryz.underlying76 Tryz.sizeSg ?_)
  refine (b0k (H.out.later HB.out) HF.out HG.out HT.out on).mono ?_;rintro e a5 ⟨xa,xb,xc,xd,hu,rfl,hb⟩;have HXU:=hh hu;clear hu;replace HB:=bT HB hb;replace HR:=bA hb HR;clear hb
  go_wp2_with (refine sR 25 #[.int .u64 xa,.int .u64 xb,.int .u64 xc,.int .u64 xd] HR Tryz.sizeU ?_)
  intro a6 hxR kR zR;clear zR;replace HB:=bS HB kR WR;replace HR:=hh hxR;clear hxR kR;go_wp2_with fail
  exact bodyPost_ret (results_cell_row rfl _ _ _ _ _ _ _ rfl HR.out Tryz.underlying25 rfl Tryz.sizeU) rfl ⟨_,_,_,_,by rw [HI.out];exact HXU.out,rfl,HB.out⟩

theorem j0s {w:World} {x:Option Addr} {m:Bool} {f:Txt→Option Txt} (h:Look w x m f) (hf:FitF f) {g:Int} (hg:I64 g):Calls Tryz.prog 18 #[.pointer x,.int .i64 g] w (URet w (stkV f g)):=by
 have H:=hh h;have HF:=hh hf;have HG:=hh hg;clear h hf hg
 go_enter Tryz.func18,Tryz.ntmps18
 have HB:Hid (Below w.heap.size w w):=hh (Below.refl _ _)
 go_wp2_with (refine sA _ Tryz.zeroUz ?_)
 intro R a1 hR;have WR:=mGe hR HB.out.size;have HR:=hh hR.out.cells;have hbR:=hR.out.below;clear hR;replace HB:=bT HB hbR;clear hbR;go_wp2_with fail
 cases hi:infF f g with
 | none=>
  have HI:Hid (stkV f g=0):=hh (by unfold stkV;rw [hi]);refine (b0C (H.out.later HB.out) HF.out HG.out hi).mono ?_;rintro e a2 ⟨rfl,hb⟩;replace HB:=bT HB hb;replace HR:=bA hb HR;clear hb
  go_wp2_with (refine sA _ Tryz.zeroSg ?_)
  intro V a3 hV;have WV:=mGe hV HB.out.size;have NRV:=mNe hV HR;have HV:=hh hV.out.cells;have hbV:=hV.out.below;clear hV;replace HB:=bT HB hbV;replace HR:=bA hbV HR;clear hbV
  go_wp2_with (refine sR 76 #[.pointer none,.int .i64 0,.int .i64 0,.bool false] HV Tryz.sizeSg ?_)
  intro a4 hxV kV zV;clear zV;replace HB:=bS HB kV WV;replace HR:=ka1 kV HR NRV;clear hxV kV;clear hi
  go_wp2_with (refine a0a (t:=25) (old:=u0) rfl 25 _ _ rfl R u0 rfl rfl HR.out Tryz.sizeU rfl (a0j _ _ _ _) ?_)
  intro a5 hxR kR zR;clear zR;replace HB:=bS HB kR WR;replace HR:=hh hxR;clear hxR kR;go_wp2_with fail
  exact bodyPost_ret (results_cell_row rfl _ _ _ _ _ _ _ rfl HR.out Tryz.underlying25 rfl Tryz.sizeU) rfl ⟨_,_,_,_,by rw [HI.out];exact UIs.zero,rfl,HB.out⟩
 | some p=>
  obtain ⟨t,on⟩:=p;have HI:Hid (stkV f g=vSt f t g):=hh (by unfold stkV;rw [hi]);have HT:Hid (I64 t):=hh (by have h9:=a0z hi;unfold I64;omega);refine (b0x (H.out.later HB.out) HF.out HG.out hi).mono ?_;rintro e a2 ⟨rfl,hb⟩;replace HB:=bT HB hb;replace HR:=bA hb HR;clear hb
  go_wp2_with (refine sA _ Tryz.zeroSg ?_)
  intro V a3 hV;have WV:=mGe hV HB.out.size;have NRV:=mNe hV HR;have HV:=hh hV.out.cells;have hbV:=hV.out.below;clear hV;replace HB:=bT HB hbV;replace HR:=bA hbV HR;clear hbV
  go_wp2_with (refine sR 76 #[.pointer x,.int .i64 g,.int .i64 t,.bool on] HV Tryz.sizeSg ?_)
  intro a4 hxV kV zV;clear zV;replace HB:=bS HB kV WV;replace HR:=ka1 kV HR NRV;replace HV:=hh hxV;clear hxV kV;clear hi
  go_wp2_with (refine lR HV Tryz.underlying76 Tryz.sizeSg ?_)
  refine (c0k (H.out.later HB.out) HF.out HG.out HT.out on).mono ?_;rintro e a5 ⟨xa,xb,xc,xd,hu,rfl,hb⟩;have HXU:=hh hu;clear hu;replace HB:=bT HB hb;replace HR:=bA hb HR;clear hb
  go_wp2_with (refine sR 25 #[.int .u64 xa,.int .u64 xb,.int .u64 xc,.int .u64 xd] HR Tryz.sizeU ?_)
  intro a6 hxR kR zR;clear zR;replace HB:=bS HB kR WR;replace HR:=hh hxR;clear hxR kR;go_wp2_with fail
  exact bodyPost_ret (results_cell_row rfl _ _ _ _ _ _ _ rfl HR.out Tryz.underlying25 rfl Tryz.sizeU) rfl ⟨_,_,_,_,by rw [HI.out];exact HXU.out,rfl,HB.out⟩

theorem f0l {w:World} {x:Option Addr} {m:Bool} {f:Txt→Option Txt} (h:Look w x m f) (hf:FitF f) {g:Int} (hg:I64 g) {a b c d:Int} {n:Nat} (hu:UIs a b c d n):Calls Tryz.prog 20 #[.pointer x,.int .i64 g,.agg #[.int .u64 a,.int .u64 b,.int .u64 c,.int .u64 d]] w (URet w (worV f g n)):=by
 have H:=hh h;have HF:=hh hf;have HG:=hh hg;have HU:=hh hu;clear h hf hg hu
 go_enter Tryz.func20,Tryz.ntmps20
 go_wp2_with (refine sA _ Tryz.zeroUz ?_)
 obtain ⟨w1,hw1⟩:=nm (w.alloc (.cells #[.int .u64 a,.int .u64 b,.int .u64 c,.int .u64 d] 25));obtain ⟨Y,hY⟩:=nm (w.heap.size);rw [← hw1,← hY];have HY:Hid (w1.heap[Y]? = some (.cells #[.int .u64 a,.int .u64 b,.int .u64 c,.int .u64 d] 25 (0,0))):=hh (by rw [hw1,hY];exact heap_alloc_new _ _);have HB:Hid (Below w.heap.size w w1):=hh (by rw [hw1];exact a0c _ _);clear hw1 hY;intro R a1 hR;have WR:=mGe hR HB.out.size;have NYR:=mNe hR HY;have HR:=hh hR.out.cells;have hbR:=hR.out.below;clear hR;replace HB:=bT HB hbR;replace HY:=bA hbR HY;clear hbR;go_wp2_with fail
 cases hi:infF f g with
 | none=>
  have HI:Hid (worV f g n=0):=hh (by unfold worV;rw [hi]);refine (b0C (H.out.later HB.out) HF.out HG.out hi).mono ?_;rintro e a2 ⟨rfl,hb⟩;replace HB:=bT HB hb;replace HY:=bA hb HY;replace HR:=bA hb HR;clear hb
  go_wp2_with (refine sA _ Tryz.zeroSg ?_)
  intro V a3 hV;have WV:=mGe hV HB.out.size;have NYV:=mNe hV HY;have NRV:=mNe hV HR;have HV:=hh hV.out.cells;have hbV:=hV.out.below;clear hV;replace HB:=bT HB hbV;replace HR:=bA hbV HR;clear hbV
  go_wp2_with (refine sR 76 #[.pointer none,.int .i64 0,.int .i64 0,.bool false] HV Tryz.sizeSg ?_)
  intro a4 hxV kV zV;clear zV;replace HB:=bS HB kV WV;replace HR:=ka1 kV HR NRV;clear hxV kV;clear hi
  go_wp2_with (refine a0a (t:=25) (old:=u0) rfl 25 _ _ rfl R u0 rfl rfl HR.out Tryz.sizeU rfl (a0j _ _ _ _) ?_)
  intro a5 hxR kR zR;clear zR;replace HB:=bS HB kR WR;replace HR:=hh hxR;clear hxR kR;go_wp2_with fail
  exact bodyPost_ret (results_cell_row rfl _ _ _ _ _ _ _ rfl HR.out Tryz.underlying25 rfl Tryz.sizeU) rfl ⟨_,_,_,_,by rw [HI.out];exact UIs.zero,rfl,HB.out⟩
 | some p=>
  obtain ⟨t,on⟩:=p;have HI:Hid (worV f g n=shF (vTo f g) (vSt f t g) n):=hh (by unfold worV;rw [hi]);have HT:Hid (I64 t):=hh (by have h9:=a0z hi;unfold I64;omega);refine (b0x (H.out.later HB.out) HF.out HG.out hi).mono ?_;rintro e a2 ⟨rfl,hb⟩;replace HB:=bT HB hb;replace HY:=bA hb HY;replace HR:=bA hb HR;clear hb
  go_wp2_with (refine sA _ Tryz.zeroSg ?_)
  intro V a3 hV;have WV:=mGe hV HB.out.size;have NYV:=mNe hV HY;have NRV:=mNe hV HR;have HV:=hh hV.out.cells;have hbV:=hV.out.below;clear hV;replace HB:=bT HB hbV;replace HY:=bA hbV HY;replace HR:=bA hbV HR;clear hbV
  go_wp2_with (refine sR 76 #[.pointer x,.int .i64 g,.int .i64 t,.bool on] HV Tryz.sizeSg ?_)
  intro a4 hxV kV zV;clear zV;replace HB:=bS HB kV WV;replace HY:=ka1 kV HY NYV;replace HR:=ka1 kV HR NRV;replace HV:=hh hxV;clear hxV kV;clear hi;go_wp2_with fail;obtain ⟨a5,hwz,hbz⟩:=dr a4;replace HB:=bT HB hbz;replace HY:=bA hbz HY;replace HR:=bA hbz HR;replace HV:=bA hbz HV;clear hbz;refine rg2 12 12 hwz HV HY fun hS=>?_
  clear hwz;refine tl 0 (some 21) (fun _ h=>h.1) Tryz.underlying76 Tryz.sizeSg hS ?_;go_frame;refine tl 2 (some 23) (fun _ h=>h.1) Tryz.underlying76 Tryz.sizeSg hS ?_;go_frame;refine tl 4 (some 25) (fun _ h=>h.2) Tryz.underlying25 Tryz.sizeU hS ?_;go_frame;refine a0k 1 9 rfl rfl (by kernel_rfl) (fun K hK=>?_) (fun K hK=>?_)
  ·simp only [gA,jB,gC];rw [if_pos (by rfl)];go_simp;refine (c0k (H.out.later HB.out) HF.out HG.out HT.out on).mono ?_;rintro e a6 ⟨xa,xb,xc,xd,hu,rfl,hb⟩;have HXU:=hh hu;clear hu;replace HB:=bT HB hb;replace HY:=bA hb HY;replace HR:=bA hb HR;replace HV:=bA hb HV;clear hb;replace hS:=And.intro HV.out HY.out;refine hK _ _ (fun _ _=>hS) ?_;clear hK;refine a0k 3 9 rfl rfl (by kernel_rfl) (fun K hK=>?_) (fun K hK=>?_)
   ·simp only [gA,jB,gC];rw [if_pos (by rfl)];go_simp;refine (b0k (H.out.later HB.out) HF.out HG.out HT.out on).mono ?_;rintro e a7 ⟨ya,yb,yc,yd,hu,rfl,hb⟩;have HYU:=hh hu;clear hu;replace HB:=bT HB hb;replace HY:=bA hb HY;replace HR:=bA hb HR;replace HV:=bA hb HV;clear hb;replace hS:=And.intro HV.out HY.out;refine hK _ _ (fun _ _=>hS) ?_;clear hK;refine a0k 5 9 rfl rfl (by kernel_rfl) (fun K hK=>?_) (fun K hK=>?_)
    ·simp only [gA,jB,gC];rw [if_pos (by rfl)];go_simp;refine (b0g HXU.out HYU.out HU.out _).mono ?_;rintro e a8 ⟨qa,qb,qc,qd,hu,rfl,hb⟩;have HQU:=hh hu;clear hu;replace HB:=bT HB hb;replace HY:=bA hb HY;replace HR:=bA hb HR;replace HV:=bA hb HV;clear hb;replace hS:=And.intro HV.out HY.out;refine hK _ _ (fun _ _=>hS) ?_;clear hK;refine tA1 6 20 hS ?_;go_frame;refine tA1 7 27 hS ?_;go_frame;refine tA1 8 28 hS ?_;go_frame;refine t1 9 fun K hK=>?_
     simp only [gA,jB,gC];refine wA1 25 Tryz.zeroUz ?_;intro O a9 hO;have WO:=mGe hO HB.out.size;have NYO:=mNe hO HY;have NRO:=mNe hO HR;have NVO:=mNe hO HV;have HO:=hh hO.out.cells;have hbO:=hO.out.below;clear hO;replace HB:=bT HB hbO;replace HY:=bA hbO HY;replace HR:=bA hbO HR;replace HV:=bA hbO HV;clear hbO;replace hS:=And.intro HV.out HY.out;refine hK _ _ (fun _ _=>hS) ?_;clear hK;refine t1 10 fun K hK=>?_
     simp only [gA,jB,gC];refine wR1 25 #[.int .u64 qa,.int .u64 qb,.int .u64 qc,.int .u64 qd] HO Tryz.sizeU ?_;intro a10 hxO kO zO;clear zO;replace HB:=bS HB kO WO;replace HY:=ka1 kO HY NYO;replace HR:=ka1 kO HR NRO;replace HV:=ka1 kO HV NVO;replace HO:=hh hxO;clear hxO kO;replace hS:=And.intro HV.out HY.out;refine hK _ _ (fun _ _=>hS) ?_;clear hK;refine tA1 11 10 hS ?_;go_frame;refine tD ?_;clear hS
     go_wp2_with (first
      | (refine lR HO Tryz.underlying25 Tryz.sizeU ?_)
      | (refine sR 25 #[.int .u64 qa,.int .u64 qb,.int .u64 qc,.int .u64 qd] HR Tryz.sizeU ?_))
     intro a11 hxR kR zR;clear zR;replace HB:=bS HB kR WR;replace HR:=hh hxR;clear hxR kR;go_wp2_with fail
     exact bodyPost_ret (results_cell_row rfl _ _ _ _ _ _ _ rfl HR.out Tryz.underlying25 rfl Tryz.sizeU) rfl ⟨_,_,_,_,by rw [HI.out];exact HQU.out,rfl,HB.out⟩
    ·simp only [gA,jB,gC];rw [if_pos (by rfl)];refine wA1 25 Tryz.zeroUz ?_;intro O a8 hO;have WO:=mGe hO HB.out.size;have NYO:=mNe hO HY;have NRO:=mNe hO HR;have NVO:=mNe hO HV;have HO:=hh hO.out.cells;have hbO:=hO.out.below;clear hO;replace HB:=bT HB hbO;replace HY:=bA hbO HY;replace HR:=bA hbO HR;replace HV:=bA hbO HV;clear hbO;replace hS:=And.intro HV.out HY.out;refine hK _ _ (fun _ _=>hS) ?_;clear hK;refine t1 5 fun K hK=>?_
     simp only [gA,jB,gC];go_simp;refine (b0g HXU.out HYU.out HU.out _).mono ?_;rintro e a9 ⟨qa,qb,qc,qd,hu,rfl,hb⟩;have HQU:=hh hu;clear hu;replace HB:=bT HB hb;replace HY:=bA hb HY;replace HR:=bA hb HR;replace HV:=bA hb HV;replace HO:=bA hb HO;clear hb;replace hS:=And.intro HV.out HY.out;refine hK _ _ (fun _ _=>hS) ?_;clear hK;refine tA1 6 20 hS ?_;go_frame;refine tA1 7 27 hS ?_;go_frame;refine tA1 8 28 hS ?_;go_frame;refine t1 10 fun K hK=>?_
     simp only [gA,jB,gC];refine wR1 25 #[.int .u64 qa,.int .u64 qb,.int .u64 qc,.int .u64 qd] HO Tryz.sizeU ?_;intro a10 hxO kO zO;clear zO;replace HB:=bS HB kO WO;replace HY:=ka1 kO HY NYO;replace HR:=ka1 kO HR NRO;replace HV:=ka1 kO HV NVO;replace HO:=hh hxO;clear hxO kO;replace hS:=And.intro HV.out HY.out;refine hK _ _ (fun _ _=>hS) ?_;clear hK;refine tA1 11 10 hS ?_;go_frame;refine tD ?_;clear hS
     go_wp2_with (first
      | (refine lR HO Tryz.underlying25 Tryz.sizeU ?_)
      | (refine sR 25 #[.int .u64 qa,.int .u64 qb,.int .u64 qc,.int .u64 qd] HR Tryz.sizeU ?_))
     intro a11 hxR kR zR;clear zR;replace HB:=bS HB kR WR;replace HR:=hh hxR;clear hxR kR;go_wp2_with fail
     exact bodyPost_ret (results_cell_row rfl _ _ _ _ _ _ _ rfl HR.out Tryz.underlying25 rfl Tryz.sizeU) rfl ⟨_,_,_,_,by rw [HI.out];exact HQU.out,rfl,HB.out⟩
   ·simp only [gA,jB,gC];rw [if_pos (by rfl)];refine wA1 25 Tryz.zeroUz ?_;intro O a7 hO;have WO:=mGe hO HB.out.size;have NYO:=mNe hO HY;have NRO:=mNe hO HR;have NVO:=mNe hO HV;have HO:=hh hO.out.cells;have hbO:=hO.out.below;clear hO;replace HB:=bT HB hbO;replace HY:=bA hbO HY;replace HR:=bA hbO HR;replace HV:=bA hbO HV;clear hbO;replace hS:=And.intro HV.out HY.out;refine hK _ _ (fun _ _=>hS) ?_;clear hK;refine t1 3 fun K hK=>?_
    simp only [gA,jB,gC];go_simp;refine (b0k (H.out.later HB.out) HF.out HG.out HT.out on).mono ?_;rintro e a8 ⟨ya,yb,yc,yd,hu,rfl,hb⟩;have HYU:=hh hu;clear hu;replace HB:=bT HB hb;replace HY:=bA hb HY;replace HR:=bA hb HR;replace HV:=bA hb HV;replace HO:=bA hb HO;clear hb;replace hS:=And.intro HV.out HY.out;refine hK _ _ (fun _ _=>hS) ?_;clear hK;refine t1 5 fun K hK=>?_
    simp only [gA,jB,gC];go_simp;refine (b0g HXU.out HYU.out HU.out _).mono ?_;rintro e a9 ⟨qa,qb,qc,qd,hu,rfl,hb⟩;have HQU:=hh hu;clear hu;replace HB:=bT HB hb;replace HY:=bA hb HY;replace HR:=bA hb HR;replace HV:=bA hb HV;replace HO:=bA hb HO;clear hb;replace hS:=And.intro HV.out HY.out;refine hK _ _ (fun _ _=>hS) ?_;clear hK;refine tA1 6 20 hS ?_;go_frame;refine tA1 7 27 hS ?_;go_frame;refine tA1 8 28 hS ?_;go_frame;refine t1 10 fun K hK=>?_
    simp only [gA,jB,gC];refine wR1 25 #[.int .u64 qa,.int .u64 qb,.int .u64 qc,.int .u64 qd] HO Tryz.sizeU ?_;intro a10 hxO kO zO;clear zO;replace HB:=bS HB kO WO;replace HY:=ka1 kO HY NYO;replace HR:=ka1 kO HR NRO;replace HV:=ka1 kO HV NVO;replace HO:=hh hxO;clear hxO kO;replace hS:=And.intro HV.out HY.out;refine hK _ _ (fun _ _=>hS) ?_;clear hK;refine tA1 11 10 hS ?_;go_frame;refine tD ?_;clear hS
    go_wp2_with (first
     | (refine lR HO Tryz.underlying25 Tryz.sizeU ?_)
     | (refine sR 25 #[.int .u64 qa,.int .u64 qb,.int .u64 qc,.int .u64 qd] HR Tryz.sizeU ?_))
    intro a11 hxR kR zR;clear zR;replace HB:=bS HB kR WR;replace HR:=hh hxR;clear hxR kR;go_wp2_with fail
    exact bodyPost_ret (results_cell_row rfl _ _ _ _ _ _ _ rfl HR.out Tryz.underlying25 rfl Tryz.sizeU) rfl ⟨_,_,_,_,by rw [HI.out];exact HQU.out,rfl,HB.out⟩
  ·simp only [gA,jB,gC];rw [if_pos (by rfl)];refine wA1 25 Tryz.zeroUz ?_;intro O a6 hO;have WO:=mGe hO HB.out.size;have NYO:=mNe hO HY;have NRO:=mNe hO HR;have NVO:=mNe hO HV;have HO:=hh hO.out.cells;have hbO:=hO.out.below;clear hO;replace HB:=bT HB hbO;replace HY:=bA hbO HY;replace HR:=bA hbO HR;replace HV:=bA hbO HV;clear hbO;replace hS:=And.intro HV.out HY.out;refine hK _ _ (fun _ _=>hS) ?_;clear hK;refine t1 1 fun K hK=>?_
   simp only [gA,jB,gC];go_simp;refine (c0k (H.out.later HB.out) HF.out HG.out HT.out on).mono ?_;rintro e a7 ⟨xa,xb,xc,xd,hu,rfl,hb⟩;have HXU:=hh hu;clear hu;replace HB:=bT HB hb;replace HY:=bA hb HY;replace HR:=bA hb HR;replace HV:=bA hb HV;replace HO:=bA hb HO;clear hb;replace hS:=And.intro HV.out HY.out;refine hK _ _ (fun _ _=>hS) ?_;clear hK;refine t1 3 fun K hK=>?_
   simp only [gA,jB,gC];go_simp;refine (b0k (H.out.later HB.out) HF.out HG.out HT.out on).mono ?_;rintro e a8 ⟨ya,yb,yc,yd,hu,rfl,hb⟩;have HYU:=hh hu;clear hu;replace HB:=bT HB hb;replace HY:=bA hb HY;replace HR:=bA hb HR;replace HV:=bA hb HV;replace HO:=bA hb HO;clear hb;replace hS:=And.intro HV.out HY.out;refine hK _ _ (fun _ _=>hS) ?_;clear hK;refine t1 5 fun K hK=>?_
   simp only [gA,jB,gC];go_simp;refine (b0g HXU.out HYU.out HU.out _).mono ?_;rintro e a9 ⟨qa,qb,qc,qd,hu,rfl,hb⟩;have HQU:=hh hu;clear hu;replace HB:=bT HB hb;replace HY:=bA hb HY;replace HR:=bA hb HR;replace HV:=bA hb HV;replace HO:=bA hb HO;clear hb;replace hS:=And.intro HV.out HY.out;refine hK _ _ (fun _ _=>hS) ?_;clear hK;refine tA1 6 20 hS ?_;go_frame;refine tA1 7 27 hS ?_;go_frame;refine tA1 8 28 hS ?_;go_frame;refine t1 10 fun K hK=>?_
   simp only [gA,jB,gC];refine wR1 25 #[.int .u64 qa,.int .u64 qb,.int .u64 qc,.int .u64 qd] HO Tryz.sizeU ?_;intro a10 hxO kO zO;clear zO;replace HB:=bS HB kO WO;replace HY:=ka1 kO HY NYO;replace HR:=ka1 kO HR NRO;replace HV:=ka1 kO HV NVO;replace HO:=hh hxO;clear hxO kO;replace hS:=And.intro HV.out HY.out;refine hK _ _ (fun _ _=>hS) ?_;clear hK;refine tA1 11 10 hS ?_;go_frame;refine tD ?_;clear hS
   go_wp2_with (first
    | (refine lR HO Tryz.underlying25 Tryz.sizeU ?_)
    | (refine sR 25 #[.int .u64 qa,.int .u64 qb,.int .u64 qc,.int .u64 qd] HR Tryz.sizeU ?_))
   intro a11 hxR kR zR;clear zR;replace HB:=bS HB kR WR;replace HR:=hh hxR;clear hxR kR;go_wp2_with fail
   exact bodyPost_ret (results_cell_row rfl _ _ _ _ _ _ _ rfl HR.out Tryz.underlying25 rfl Tryz.sizeU) rfl ⟨_,_,_,_,by rw [HI.out];exact HQU.out,rfl,HB.out⟩
end Go.Proofs.YtabminbgoclnkaaGreat
