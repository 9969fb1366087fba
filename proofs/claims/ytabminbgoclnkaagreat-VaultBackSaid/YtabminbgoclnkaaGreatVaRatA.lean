/- Rates: what shares cost, and are worth (code, and the reference's). No condition. -/
import Derived.Test.YtabminbgoclnkaaGreatVaVauP
import Derived.Test.YtabminbgoclnkaaGreatVaDivE
import Derived.Test.YtabminbgoclnkaaGreatVaBnkF
import Derived.Deep.Cut
namespace Go.Proofs.YtabminbgoclnkaaGreat
set_option maxHeartbeats 16000000
set_option maxRecDepth 100000
open Go.RowKit

theorem dg8 {n:Nat} (h:n < uMax):(digs n).length≤8:=b0K (by rw [pow8];exact h)
theorem j0k (w:World) (c0 c1 c2:Array Value) (T:TypeId) (w1:World) (hw:w1=((w.alloc (.cells c0 T)).alloc (.cells c1 T)).alloc (.cells c2 T)) :
  w1.heap[w.heap.size]? = some (.cells c0 T (0,0))∧w1.heap[w.heap.size+1]? = some (.cells c1 T (0,0))∧w1.heap[w.heap.size+1+1]? = some (.cells c2 T (0,0))∧Below w.heap.size w w1:=by
 obtain ⟨wa,ha⟩:=nm (w.alloc (.cells c0 T));obtain ⟨wb,hb⟩:=nm (wa.alloc (.cells c1 T));rw [← ha,← hb] at hw;have sa:wa.heap.size=w.heap.size+1:=by rw [ha,World.size_alloc]
 have sb:wb.heap.size=w.heap.size+1+1:=by rw [hb,World.size_alloc,sa]
 have ba:Below w.heap.size w wa:=by rw [ha];exact a0c _ _
 have bb:Below wa.heap.size wa wb:=by rw [hb];exact a0c _ _
 have bc:Below wb.heap.size wb w1:=by rw [hw];exact a0c _ _
 have ea:wa.heap[w.heap.size]? = some (.cells c0 T (0,0)):=by rw [ha];exact heap_alloc_new _ _
 have eb:wb.heap[w.heap.size+1]? = some (.cells c1 T (0,0)):=by rw [hb,← sa];exact heap_alloc_new _ _
 have ec:w1.heap[w.heap.size+1+1]? = some (.cells c2 T (0,0)):=by rw [hw,← sb];exact heap_alloc_new _ _
 exact ⟨a0d bc (a0d bb ea),a0d bc eb,ec,(ba.trans (bb.mono (by omega))).trans (bc.mono (by omega))⟩
theorem g0Q {a b c f a' b' c' f' p0 p1 p2 p3:Int} {n m d:Nat} (h:UIs a b c f n) (h':UIs a' b' c' f' m) (h2:UIs p0 p1 p2 p3 d) (hd0:0 < d) (w:World) :
  Calls Tryz.prog 114 #[.agg #[.int .u64 a,.int .u64 b,.int .u64 c,.int .u64 f],.agg #[.int .u64 a',.int .u64 b',.int .u64 c',.int .u64 f'],.agg #[.int .u64 p0,.int .u64 p1,.int .u64 p2,.int .u64 p3]] w (UOk w (n*m / d) (decide (n*m / d < uMax))):=by
 have HU:=hh h;have HU2:=hh h';have HU3:=hh h2;have HD0:=hh hd0;obtain ⟨qv,hqv⟩:=nm (n*m / d);have HQV:=hh hqv;rw [← hqv];clear h h' h2 hd0 hqv
 go_enter Tryz.func114,Tryz.ntmps114
 go_wp2_with (refine sA _ Tryz.zeroUz ?_)
 obtain ⟨w1,hw1⟩:=nm (((w.alloc (.cells #[.int .u64 a,.int .u64 b,.int .u64 c,.int .u64 f] 25)).alloc (.cells #[.int .u64 a',.int .u64 b',.int .u64 c',.int .u64 f'] 25)).alloc (.cells #[.int .u64 p0,.int .u64 p1,.int .u64 p2,.int .u64 p3] 25));obtain ⟨X,hX⟩:=nm (w.heap.size);obtain ⟨Y,hY⟩:=nm (w.heap.size+1);obtain ⟨Z,hZ⟩:=nm (w.heap.size+1+1);rw [← hw1,← hZ,← hY,← hX];have hbx:=j0k w _ _ _ _ w1 hw1;rw [← hZ,← hY,← hX] at hbx;have HX:=hh hbx.1;have HY:=hh hbx.2.1;have HZ:=hh hbx.2.2.1;have HB:Hid (Below w.heap.size w w1):=hh (by rw [← hX];exact hbx.2.2.2);clear hbx hw1 hX hY hZ;intro R w2 hR;have WR:=mGe hR HB.out.size;have NXR:=mNe hR HX;have NYR:=mNe hR HY;have NZR:=mNe hR HZ;have HR:=hh hR.out.cells;have hbR:=hR.out.below;clear hR;replace HB:=bT HB hbR;replace HX:=bA hbR HX;replace HY:=bA hbR HY;replace HZ:=bA hbR HZ;clear hbR;have e9:=Tryz.eqUn HU3.out UIs.zero;rw [decide_eq_false (by have:=HD0.out;omega)] at e9;have c0:w2.cell? ⟨Z,0,none⟩=some (.int .u64 p0):=Lib.cell_of_heap HZ.out 0;have c1:w2.cell? ⟨Z,1,none⟩=some (.int .u64 p1):=Lib.cell_of_heap HZ.out 1;have c2:w2.cell? ⟨Z,2,none⟩=some (.int .u64 p2):=Lib.cell_of_heap HZ.out 2;have c3:w2.cell? ⟨Z,3,none⟩=some (.int .u64 p3):=Lib.cell_of_heap HZ.out 3;go_wp2_with fail;clear e9 c0 c1 c2 c3
 have HLT:Hid ((digs (n*m)).length≤100000):=hh (by
  have h1:=HU.out.lt;have h2:=HU2.out.lt;have h3:n*m < 4294967296 ^ 16:=by
   rw [show (4294967296:Nat) ^ 16=uMax*uMax by decide]
   exact Nat.lt_of_le_of_lt (Nat.mul_le_mul_right m (Nat.le_of_lt h1)) (Nat.mul_lt_mul_of_pos_left h2 (by decide))
  exact Nat.le_trans (b0K h3) (by decide))
 obtain ⟨a1,hwz,hbz⟩:=dr w2;replace HB:=bT HB hbz;replace HX:=bA hbz HX;replace HY:=bA hbz HY;replace HZ:=bA hbz HZ;replace HR:=bA hbz HR;clear hbz;refine rg3 13 13 hwz HX HY HZ fun hS=>?_
 clear hwz;refine tl 0 (some 15) (fun _ h=>h.1) Tryz.underlying25 Tryz.sizeU hS ?_;go_frame;refine tl 2 (some 17) (fun _ h=>h.2.1) Tryz.underlying25 Tryz.sizeU hS ?_;go_frame;refine tl 5 (some 20) (fun _ h=>h.2.2) Tryz.underlying25 Tryz.sizeU hS ?_;go_frame;refine t1 1 fun K hK=>?_
 simp only [gA,jB,gC];go_simp;refine (c0e HU.out _).mono ?_;rintro e a2 ⟨v1,rfl,r,hb⟩;have V1:=hh r;clear r;replace HB:=bT HB hb;replace HX:=bA hb HX;replace HY:=bA hb HY;replace HZ:=bA hb HZ;replace HR:=bA hb HR;clear hb;replace hS:=And.intro HX.out (And.intro HY.out HZ.out);refine hK _ _ (fun _ _=>hS) ?_;clear hK;refine t1 3 fun K hK=>?_
 simp only [gA,jB,gC];go_simp;refine (c0e HU2.out _).mono ?_;rintro e a3 ⟨v2,rfl,r,hb⟩;have V2:=hh r;clear r;replace HB:=bT HB hb;replace HX:=bA hb HX;replace HY:=bA hb HY;replace HZ:=bA hb HZ;replace HR:=bA hb HR;replace V1:=hh (V1.out.later hb);clear hb;replace hS:=And.intro HX.out (And.intro HY.out HZ.out);refine hK _ _ (fun _ _=>hS) ?_;clear hK;refine t1 4 fun K hK=>?_
 simp only [gA,jB,gC];go_simp;refine (l0s V1.out V2.out (a0F _) (a0F _) (by have:=dg8 HU.out.lt;omega) (by have:=dg8 HU2.out.lt;omega) (a0L _) (a0L _)).mono ?_;rintro e a4 ⟨v4,rfl,r,hb⟩;have V4:=hh r;clear r;replace HB:=bT HB hb;replace HX:=bA hb HX;replace HY:=bA hb HY;replace HZ:=bA hb HZ;replace HR:=bA hb HR;clear hb;clear V1 V2;replace hS:=And.intro HX.out (And.intro HY.out HZ.out);refine hK _ _ (fun _ _=>hS) ?_;clear hK;refine t1 6 fun K hK=>?_
 simp only [gA,jB,gC];go_simp;refine (c0e HU3.out _).mono ?_;rintro e a5 ⟨v3,rfl,r,hb⟩;have V3:=hh r;clear r;replace HB:=bT HB hb;replace HX:=bA hb HX;replace HY:=bA hb HY;replace HZ:=bA hb HZ;replace HR:=bA hb HR;replace V4:=hh (V4.out.later hb);clear hb;replace hS:=And.intro HX.out (And.intro HY.out HZ.out);refine hK _ _ (fun _ _=>hS) ?_;clear hK;refine t1 7 fun K hK=>?_
 simp only [gA,jB,gC];go_simp;refine (i0N (n:=n*m) (m:=d) V4.out V3.out (a0F _) (a0F _) HLT.out (by have:=dg8 HU3.out.lt;omega) (a0L _) (a0L _) HD0.out).mono ?_;rw [← HQV.out];rintro e a6 ⟨v5,v6,rfl,r,_,hb⟩;have V5:=hh r;clear r;replace HB:=bT HB hb;replace HX:=bA hb HX;replace HY:=bA hb HY;replace HZ:=bA hb HZ;replace HR:=bA hb HR;clear hb;clear V4 V3;replace hS:=And.intro HX.out (And.intro HY.out HZ.out);refine hK _ _ (fun _ _=>hS) ?_;clear hK;refine tA1 8 14 hS ?_;go_frame;refine tA1 9 23 hS ?_;go_frame;refine tA1 10 24 hS ?_;go_frame;refine tA1 11 8 hS ?_;go_frame;refine tA1 12 9 hS ?_;go_frame;refine tD ?_;clear hS;clear HX HY HZ;go_wp2_with fail;refine (j0X (n:=qv) V5.out (a0F _) (a0L _)).mono ?_;rintro e a7 ⟨sa,sb,sc,sd,hu,rfl,hb⟩;have HSU:=hh hu;clear hu;replace HB:=bT HB hb;replace HR:=bA hb HR;clear hb;clear V5
 go_wp2_with (refine sR 25 #[.int .u64 sa,.int .u64 sb,.int .u64 sc,.int .u64 sd] HR Tryz.sizeU ?_)
 intro a8 hxR kR zR;clear zR;replace HB:=bS HB kR WR;replace HR:=hh hxR;clear hxR kR;go_wp2_with fail
 exact bR rfl rfl HR Tryz.underlying25 Tryz.sizeU ⟨_,_,_,_,HSU.out,rfl,HB.out⟩

theorem c0t {P:Program} {o:Oper} {a:Act} {w:World} {K:Act→World→Prop} {Q:Exit→Act→World→Prop} (ty:TypeId) (x y:Operand) (ho:o.op = .store ty x y)
  (g off:Nat) (cells:Array Value) (hx:a.eval x = .pointer (some ⟨g,off,none⟩)) (hy:a.eval y = .agg cells)
  (t:TypeId) (cur:Array Value) (hg:w.heap[g]? = some (.cells cur t (0,0))) (hi:(P.info? ty).map (·.size)=some cells.size)
  (hfit:off+cells.size≤cur.size) (h1:cells.all (·.oneCell')=true) (new:Array Value) (hnew:(cur.toList.take off ++ cells.toList ++ cur.toList.drop (off+cells.size)).toArray=new)
  (h:∀ w',w'.heap[g]? = some (.cells new t (0,0))→Keep (· = g) w w'→w'.heap.size=w.heap.size→K (a.put o.dst undef) w'):o.wp P a w K Q:=by
 have hst:=run_storeCells_at P g off t cells.toList 0 cur w hg (by simpa using hfit) (fun v hv=>(Array.all_eq_true_iff_forall_mem.1 h1) v (by simpa using hv));have hrun:(storeVar ty ⟨g,off,none⟩ (.agg cells)).run P w = .ok () (w.setRow g new):=by
  cases hq:P.info? ty with
  | none=>simp [hq] at hi
  | some i=>
   have hs:cells.size=i.size:=by simp [hq] at hi;omega
   simp only [Nat.add_zero] at hst;rw [show cells.toList.length=cells.size by simp,hnew] at hst
   simp [storeVar,sizeOf,typeInfo,hq,Value.cells,hs,hst]
 unfold Oper.wp execOp
 simp only [ho,hx,hy,Instr.storeAt,Instr.sureAddr,Sem.run_bind,Sem.run_pure,Result.andThen_ok,hrun]
 exact h _ (setRow_heap _ _ _ _ _ _ hg) (Keep.setRow (S:=(· = g)) (Keep.refl _ _) (.inl rfl) _) (setRow_size _ _ _)
theorem Tryz.zeroSd (w:World):(zeroValue 126).run Tryz.prog w = .ok (.agg #[.int .u64 0,.int .u64 0,.int .u64 0,.int .u64 0,.int .u64 0,.int .u64 0,.int .u64 0,.int .u64 0]) w:=by kernel_rfl
theorem Tryz.sizeSd:(Tryz.prog.info? 126).map (·.size)=some 8:=by kernel_rfl

theorem i0k (w:World):Calls Tryz.prog 159 #[] w (URet w 1000):=by
 go_enter Tryz.func159,Tryz.ntmps159
 have HB:Hid (Below w.heap.size w w):=hh (Below.refl _ _)
 go_wp2_with (refine sA _ Tryz.zeroUz ?_)
 intro R a1 hR;have WR:=mGe hR HB.out.size;have HR:=hh hR.out.cells;have hbR:=hR.out.below;clear hR;replace HB:=bT HB hbR;clear hbR;go_wp2_with fail;refine (l0a (A:=1000) (by decide) _).mono ?_;rintro e a2 ⟨xa,xb,xc,xd,hu,rfl,hb⟩;have HXU:=hh hu;clear hu;replace HB:=bT HB hb;replace HR:=bA hb HR;clear hb
 go_wp2_with (refine sR 25 #[.int .u64 xa,.int .u64 xb,.int .u64 xc,.int .u64 xd] HR Tryz.sizeU ?_)
 intro a3 hxR kR zR;clear zR;replace HB:=bS HB kR WR;replace HR:=hh hxR;clear hxR kR;go_wp2_with fail
 exact bodyPost_ret (results_cell_row rfl _ _ _ _ _ _ _ rfl HR.out Tryz.underlying25 rfl Tryz.sizeU) rfl ⟨_,_,_,_,HXU.out,rfl,HB.out⟩

theorem g0s (w:World):Calls Tryz.prog 150 #[] w (URet w 1000):=by
 go_enter Tryz.func150,Tryz.ntmps150
 have HB:Hid (Below w.heap.size w w):=hh (Below.refl _ _)
 go_wp2_with (refine sA _ Tryz.zeroUz ?_)
 intro R a1 hR;have WR:=mGe hR HB.out.size;have HR:=hh hR.out.cells;have hbR:=hR.out.below;clear hR;replace HB:=bT HB hbR;clear hbR
 go_wp2_with (refine sR 25 #[.int .u64 1000,.int .u64 0,.int .u64 0,.int .u64 0] HR Tryz.sizeU ?_)
 intro a2 hxR kR zR;clear zR;replace HB:=bS HB kR WR;replace HR:=hh hxR;clear hxR kR;go_wp2_with fail
 exact bodyPost_ret (results_cell_row rfl _ _ _ _ _ _ _ rfl HR.out Tryz.underlying25 rfl Tryz.sizeU) rfl ⟨_,_,_,_,(by unfold UIs;omega),rfl,HB.out⟩

theorem e0X {a b c f a' b' c' f':Int} {st tot:Nat} (h:UIs a b c f st) (h':UIs a' b' c' f' tot) (w:World):Calls Tryz.prog 137 #[.agg #[.int .u64 a,.int .u64 b,.int .u64 c,.int .u64 f,.int .u64 a',.int .u64 b',.int .u64 c',.int .u64 f']] w (Ret w (.bool (decide (st < uHalf∧tot < uHalf)))):=by
 have HU:=hh h;have HV:=hh h';obtain ⟨q1,hq1⟩:=nm (decide (st < uHalf));obtain ⟨q2,hq2⟩:=nm (decide (tot < uHalf));have HG:Hid (decide (st < uHalf∧tot < uHalf)=(q1 && q2)):=hh (by rw [hq1,hq2,Bool.decide_and]);have HQ1:=hh hq1;have HQ2:=hh hq2;clear h h' hq1 hq2
 go_enter Tryz.func137,Tryz.ntmps137
 go_wp2_with fail;obtain ⟨w1,hw1⟩:=nm (w.alloc (.cells #[.int .u64 a,.int .u64 b,.int .u64 c,.int .u64 f,.int .u64 a',.int .u64 b',.int .u64 c',.int .u64 f'] 126));obtain ⟨X,hX⟩:=nm (w.heap.size);rw [← hw1,← hX];have HX:Hid (w1.heap[X]? = some (.cells #[.int .u64 a,.int .u64 b,.int .u64 c,.int .u64 f,.int .u64 a',.int .u64 b',.int .u64 c',.int .u64 f'] 126 (0,0))):=hh (by rw [hw1,hX];exact heap_alloc_new _ _);have HB:Hid (Below w.heap.size w w1):=hh (by rw [hw1];exact a0c _ _);clear hw1 hX
 go_wp2_with (first
  | (refine wpList_load_mid rfl 25 _ rfl X 0 rfl [.int .u64 a,.int .u64 b,.int .u64 c,.int .u64 f] _ (a0m HX.out 0 _ rfl) Tryz.underlying25 rfl Tryz.sizeU ?_)
  | (refine wpList_load_mid rfl 25 _ rfl X 4 rfl [.int .u64 a',.int .u64 b',.int .u64 c',.int .u64 f'] _ (a0m HX.out 4 _ rfl) Tryz.underlying25 rfl Tryz.sizeU ?_))
 refine (b0I HU.out _).mono ?_;rw [← HQ1.out];rintro e a1 ⟨rfl,hb⟩;replace HB:=bT HB hb;replace HX:=bA hb HX;clear hb
 cases q1 with
 | false=>
  go_wp2_with fail
  go_ret
  exact ⟨by rw [HG.out];rfl,HB.out⟩
 | true=>
  have c4:a1.cell? ⟨X,4,none⟩=some (.int .u64 a'):=Lib.cell_of_heap HX.out 4;have c5:a1.cell? ⟨X,5,none⟩=some (.int .u64 b'):=Lib.cell_of_heap HX.out 5;have c6:a1.cell? ⟨X,6,none⟩=some (.int .u64 c'):=Lib.cell_of_heap HX.out 6;have c7:a1.cell? ⟨X,7,none⟩=some (.int .u64 f'):=Lib.cell_of_heap HX.out 7;go_wp2_with fail;clear c4 c5 c6 c7;refine (b0I HV.out _).mono ?_;rw [← HQ2.out];rintro e a2 ⟨rfl,hb⟩;replace HB:=bT HB hb;clear hb;go_wp2_with fail
  go_ret
  exact ⟨by rw [HG.out];rfl,HB.out⟩

def SidesRet (w:World) (n m:Nat) (e:Ending) (w':World):Prop:=∃ a b c f a' b' c' f':Int,UIs a b c f n∧UIs a' b' c' f' m∧e = .returned (.agg #[.int .u64 a,.int .u64 b,.int .u64 c,.int .u64 f,.int .u64 a',.int .u64 b',.int .u64 c',.int .u64 f'])∧Below w.heap.size w w'

theorem f0i {a b c f a' b' c' f':Int} {st tot:Nat} (h:UIs a b c f st) (h':UIs a' b' c' f' tot) (hl:st < uHalf∧tot < uHalf) (w:World):Calls Tryz.prog 138 #[.agg #[.int .u64 a,.int .u64 b,.int .u64 c,.int .u64 f,.int .u64 a',.int .u64 b',.int .u64 c',.int .u64 f']] w (SidesRet w (st+1000) (tot+1000)):=by
 have HU:=hh h;have HV:=hh h';have HL:=hh hl;clear h h' hl
 go_enter Tryz.func138,Tryz.ntmps138
 go_wp2_with (refine sA _ Tryz.zeroSd ?_)
 obtain ⟨w1,hw1⟩:=nm (w.alloc (.cells #[.int .u64 a,.int .u64 b,.int .u64 c,.int .u64 f,.int .u64 a',.int .u64 b',.int .u64 c',.int .u64 f'] 126));obtain ⟨X,hX⟩:=nm (w.heap.size);rw [← hw1,← hX];have HX:Hid (w1.heap[X]? = some (.cells #[.int .u64 a,.int .u64 b,.int .u64 c,.int .u64 f,.int .u64 a',.int .u64 b',.int .u64 c',.int .u64 f'] 126 (0,0))):=hh (by rw [hw1,hX];exact heap_alloc_new _ _);have HB:Hid (Below w.heap.size w w1):=hh (by rw [hw1];exact a0c _ _);clear hw1 hX;intro R a1 hR;have WR:=mGe hR HB.out.size;have NXR:=mNe hR HX;have HR:=hh hR.out.cells;have hbR:=hR.out.below;clear hR;replace HB:=bT HB hbR;replace HX:=bA hbR HX;clear hbR
 go_wp2_with (refine sA _ Tryz.zeroSd ?_)
 intro O a2 hO;have WO:=mGe hO HB.out.size;have NXO:=mNe hO HX;have NRO:=mNe hO HR;have HO:=hh hO.out.cells;have hbO:=hO.out.below;clear hO;replace HB:=bT HB hbO;replace HX:=bA hbO HX;replace HR:=bA hbO HR;clear hbO;go_wp2_with fail;obtain ⟨a3,hwz,hbz⟩:=dr a2;replace HB:=bT HB hbz;replace HX:=bA hbz HX;replace HR:=bA hbz HR;replace HO:=bA hbz HO;clear hbz;refine rg1 9 9 hwz HX fun hS=>?_
 clear hwz;refine tA1 0 5 hS ?_;go_frame;refine tk 1 (some 6) rfl rfl (a0E (by rfl) 25 _ rfl (.pointer (some ⟨X,0,none⟩)) rfl (.agg #[.int .u64 a,.int .u64 b,.int .u64 c,.int .u64 f]) (fun w' hS'=>run_loadAt_mid w' X 0 25 [.int .u64 a,.int .u64 b,.int .u64 c,.int .u64 f] _ (a0m (hS') 0 _ rfl) Tryz.underlying25 rfl Tryz.sizeU)) hS ?_;go_frame;refine t1 2 fun K hK=>?_
 simp only [gA,jB,gC];go_simp;refine (i0k _).mono ?_;rintro e a4 ⟨va,vb,vc,vd,hv,rfl,hb⟩;have HVI:=hh hv;clear hv;replace HB:=bT HB hb;replace HX:=bA hb HX;replace HR:=bA hb HR;replace HO:=bA hb HO;clear hb;replace hS:=HX.out;refine hK _ _ (fun _ _=>hS) ?_;clear hK;refine t1 3 fun K hK=>?_
 simp only [gA,jB,gC];go_simp;refine (g0c HU.out HVI.out _).mono ?_;rw [decide_eq_true (p:=st+1000 < uMax) (by have:=HL.out;unfold uHalf at this;unfold uMax;omega)];rintro e a5 ⟨xa,xb,xc,xd,hv,rfl,hb⟩;have HxU:=hh hv;clear hv HVI;replace HB:=bT HB hb;replace HX:=bA hb HX;replace HR:=bA hb HR;replace HO:=bA hb HO;clear hb;replace hS:=HX.out;refine hK _ _ (fun _ _=>hS) ?_;clear hK;refine tA1 4 4 hS ?_;go_frame;refine tA1 5 9 hS ?_;go_frame;refine tA1 6 10 hS ?_;go_frame;refine tA1 7 11 hS ?_;go_frame;refine t1 8 fun K hK=>?_
 simp only [gA,jB,gC];refine c0t 25 _ _ rfl O 0 #[.int .u64 xa,.int .u64 xb,.int .u64 xc,.int .u64 xd] rfl rfl 126 #[.int .u64 0,.int .u64 0,.int .u64 0,.int .u64 0,.int .u64 0,.int .u64 0,.int .u64 0,.int .u64 0] HO.out Tryz.sizeU (by simp) (a0j _ _ _ _) #[.int .u64 xa,.int .u64 xb,.int .u64 xc,.int .u64 xd,.int .u64 0,.int .u64 0,.int .u64 0,.int .u64 0] rfl ?_;intro a6 hxO kO zO;clear zO;replace HB:=bS HB kO WO;replace HX:=ka1 kO HX NXO;replace HR:=ka1 kO HR NRO;replace HO:=hh hxO;clear hxO kO;replace hS:=HX.out;refine hK _ _ (fun _ _=>hS) ?_;clear hK;refine tD ?_;clear hS;go_wp2_with fail;obtain ⟨a7,hwz,hbz⟩:=dr a6;replace HB:=bT HB hbz;replace HX:=bA hbz HX;replace HR:=bA hbz HR;replace HO:=bA hbz HO;clear hbz;refine rg1 9 9 hwz HX fun hS=>?_
 clear hwz;refine tA1 0 13 hS ?_;go_frame;refine tk 1 (some 14) rfl rfl (a0E (by rfl) 25 _ rfl (.pointer (some ⟨X,4,none⟩)) rfl (.agg #[.int .u64 a',.int .u64 b',.int .u64 c',.int .u64 f']) (fun w' hS'=>run_loadAt_mid w' X 4 25 [.int .u64 a',.int .u64 b',.int .u64 c',.int .u64 f'] _ (a0m (hS') 4 _ rfl) Tryz.underlying25 rfl Tryz.sizeU)) hS ?_;go_frame;refine t1 2 fun K hK=>?_
 simp only [gA,jB,gC];go_simp;refine (i0k _).mono ?_;rintro e a8 ⟨va,vb,vc,vd,hv,rfl,hb⟩;have HVI:=hh hv;clear hv;replace HB:=bT HB hb;replace HX:=bA hb HX;replace HR:=bA hb HR;replace HO:=bA hb HO;clear hb;replace hS:=HX.out;refine hK _ _ (fun _ _=>hS) ?_;clear hK;refine t1 3 fun K hK=>?_
 simp only [gA,jB,gC];go_simp;refine (g0c HV.out HVI.out _).mono ?_;rw [decide_eq_true (p:=tot+1000 < uMax) (by have:=HL.out;unfold uHalf at this;unfold uMax;omega)];rintro e a9 ⟨ya,yb,yc,yd,hv,rfl,hb⟩;have HyU:=hh hv;clear hv HVI;replace HB:=bT HB hb;replace HX:=bA hb HX;replace HR:=bA hb HR;replace HO:=bA hb HO;clear hb;replace hS:=HX.out;refine hK _ _ (fun _ _=>hS) ?_;clear hK;refine tA1 4 12 hS ?_;go_frame;refine tA1 5 17 hS ?_;go_frame;refine tA1 6 18 hS ?_;go_frame;refine tA1 7 19 hS ?_;go_frame;refine t1 8 fun K hK=>?_
 simp only [gA,jB,gC];refine c0t 25 _ _ rfl O 4 #[.int .u64 ya,.int .u64 yb,.int .u64 yc,.int .u64 yd] rfl rfl 126 #[.int .u64 xa,.int .u64 xb,.int .u64 xc,.int .u64 xd,.int .u64 0,.int .u64 0,.int .u64 0,.int .u64 0] HO.out Tryz.sizeU (by simp) (a0j _ _ _ _) #[.int .u64 xa,.int .u64 xb,.int .u64 xc,.int .u64 xd,.int .u64 ya,.int .u64 yb,.int .u64 yc,.int .u64 yd] rfl ?_;intro a10 hxO kO zO;clear zO;replace HB:=bS HB kO WO;replace HX:=ka1 kO HX NXO;replace HR:=ka1 kO HR NRO;replace HO:=hh hxO;clear hxO kO;replace hS:=HX.out;refine hK _ _ (fun _ _=>hS) ?_;clear hK;refine tD ?_;clear hS
 go_wp2_with (first
  | (refine lR HO Tryz.underlying126 Tryz.sizeSd ?_)
  | (refine sR 126 #[.int .u64 xa,.int .u64 xb,.int .u64 xc,.int .u64 xd,.int .u64 ya,.int .u64 yb,.int .u64 yc,.int .u64 yd] HR Tryz.sizeSd ?_))
 intro a11 hxR kR zR;clear zR;replace HB:=bS HB kR WR;replace HR:=hh hxR;clear hxR kR;go_wp2_with fail
 exact bodyPost_ret (results_cell_row rfl _ _ _ _ _ _ _ rfl HR.out Tryz.underlying126 rfl Tryz.sizeSd) rfl ⟨_,_,_,_,_,_,_,_,HxU.out,HyU.out,rfl,HB.out⟩

theorem l0r {a b c f a' b' c' f' p0 p1 p2 p3:Int} {st tot x:Nat} (h:UIs a b c f st) (h':UIs a' b' c' f' tot) (hx:UIs p0 p1 p2 p3 x) (hp:0 < st) (w:World):Calls Tryz.prog 101 #[.agg #[.int .u64 a,.int .u64 b,.int .u64 c,.int .u64 f,.int .u64 a',.int .u64 b',.int .u64 c',.int .u64 f'],.agg #[.int .u64 p0,.int .u64 p1,.int .u64 p2,.int .u64 p3]] w (UOk w (x*tot / st) (decide (x*tot / st < uMax))):=by
 have HU:=hh h;have HV:=hh h';have HX3:=hh hx;have HP0:=hh hp;obtain ⟨q,hq⟩:=nm (x*tot / st);have HQ:=hh hq;rw [← hq];clear h h' hx hp hq
 go_enter Tryz.func101,Tryz.ntmps101
 go_wp2_with (refine sA _ Tryz.zeroUz ?_)
 obtain ⟨w1,hw1⟩:=nm ((w.alloc (.cells #[.int .u64 a,.int .u64 b,.int .u64 c,.int .u64 f,.int .u64 a',.int .u64 b',.int .u64 c',.int .u64 f'] 126)).alloc (.cells #[.int .u64 p0,.int .u64 p1,.int .u64 p2,.int .u64 p3] 25));obtain ⟨X,hX⟩:=nm (w.heap.size);obtain ⟨Y,hY⟩:=nm (w.heap.size+1);rw [← hw1,← hY,← hX];have hbx:=box2 w _ _ _ _ w1 hw1;rw [← hY,← hX] at hbx;have HX:=hh hbx.1;have HY:=hh hbx.2.1;have HB:Hid (Below w.heap.size w w1):=hh (by rw [← hX];exact hbx.2.2.1);clear hbx hw1 hX hY;intro R a1 hR;have WR:=mGe hR HB.out.size;have NXR:=mNe hR HX;have NYR:=mNe hR HY;have HR:=hh hR.out.cells;have hbR:=hR.out.below;clear hR;replace HB:=bT HB hbR;replace HX:=bA hbR HX;replace HY:=bA hbR HY;clear hbR
 go_wp2_with (first
  | (refine lR HY Tryz.underlying25 Tryz.sizeU ?_)
  | (refine wpList_load_mid rfl 25 _ rfl X 4 rfl [.int .u64 a',.int .u64 b',.int .u64 c',.int .u64 f'] _ (a0m HX.out 4 _ rfl) Tryz.underlying25 rfl Tryz.sizeU ?_)
  | (refine wpList_load_mid rfl 25 _ rfl X 0 rfl [.int .u64 a,.int .u64 b,.int .u64 c,.int .u64 f] _ (a0m HX.out 0 _ rfl) Tryz.underlying25 rfl Tryz.sizeU ?_))
 refine (g0D HX3.out HV.out HU.out HP0.out _).mono ?_;rw [← HQ.out];rintro e a2 ⟨xa,xb,xc,xd,hu,rfl,hb⟩;have HXU:=hh hu;clear hu;replace HB:=bT HB hb;replace HR:=bA hb HR;clear hb
 go_wp2_with (refine sR 25 #[.int .u64 xa,.int .u64 xb,.int .u64 xc,.int .u64 xd] HR Tryz.sizeU ?_)
 intro a3 hxR kR zR;clear zR;replace HB:=bS HB kR WR;replace HR:=hh hxR;clear hxR kR;go_wp2_with fail
 exact bR rfl rfl HR Tryz.underlying25 Tryz.sizeU ⟨_,_,_,_,HXU.out,rfl,HB.out⟩

theorem j0t {a b c f a' b' c' f' p0 p1 p2 p3:Int} {st tot x:Nat} (h:UIs a b c f st) (h':UIs a' b' c' f' tot) (hx:UIs p0 p1 p2 p3 x) (hp:0 < tot) (w:World):Calls Tryz.prog 113 #[.agg #[.int .u64 a,.int .u64 b,.int .u64 c,.int .u64 f,.int .u64 a',.int .u64 b',.int .u64 c',.int .u64 f'],.agg #[.int .u64 p0,.int .u64 p1,.int .u64 p2,.int .u64 p3]] w (UOk w (x*st / tot) (decide (x*st / tot < uMax))):=by
 have HU:=hh h;have HV:=hh h';have HX3:=hh hx;have HP0:=hh hp;obtain ⟨q,hq⟩:=nm (x*st / tot);have HQ:=hh hq;rw [← hq];clear h h' hx hp hq
 go_enter Tryz.func113,Tryz.ntmps113
 go_wp2_with (refine sA _ Tryz.zeroUz ?_)
 obtain ⟨w1,hw1⟩:=nm ((w.alloc (.cells #[.int .u64 a,.int .u64 b,.int .u64 c,.int .u64 f,.int .u64 a',.int .u64 b',.int .u64 c',.int .u64 f'] 126)).alloc (.cells #[.int .u64 p0,.int .u64 p1,.int .u64 p2,.int .u64 p3] 25));obtain ⟨X,hX⟩:=nm (w.heap.size);obtain ⟨Y,hY⟩:=nm (w.heap.size+1);rw [← hw1,← hY,← hX];have hbx:=box2 w _ _ _ _ w1 hw1;rw [← hY,← hX] at hbx;have HX:=hh hbx.1;have HY:=hh hbx.2.1;have HB:Hid (Below w.heap.size w w1):=hh (by rw [← hX];exact hbx.2.2.1);clear hbx hw1 hX hY;intro R a1 hR;have WR:=mGe hR HB.out.size;have NXR:=mNe hR HX;have NYR:=mNe hR HY;have HR:=hh hR.out.cells;have hbR:=hR.out.below;clear hR;replace HB:=bT HB hbR;replace HX:=bA hbR HX;replace HY:=bA hbR HY;clear hbR
 go_wp2_with (first
  | (refine lR HY Tryz.underlying25 Tryz.sizeU ?_)
  | (refine wpList_load_mid rfl 25 _ rfl X 4 rfl [.int .u64 a',.int .u64 b',.int .u64 c',.int .u64 f'] _ (a0m HX.out 4 _ rfl) Tryz.underlying25 rfl Tryz.sizeU ?_)
  | (refine wpList_load_mid rfl 25 _ rfl X 0 rfl [.int .u64 a,.int .u64 b,.int .u64 c,.int .u64 f] _ (a0m HX.out 0 _ rfl) Tryz.underlying25 rfl Tryz.sizeU ?_))
 refine (g0D HX3.out HU.out HV.out HP0.out _).mono ?_;rw [← HQ.out];rintro e a2 ⟨xa,xb,xc,xd,hu,rfl,hb⟩;have HXU:=hh hu;clear hu;replace HB:=bT HB hb;replace HR:=bA hb HR;clear hb
 go_wp2_with (refine sR 25 #[.int .u64 xa,.int .u64 xb,.int .u64 xc,.int .u64 xd] HR Tryz.sizeU ?_)
 intro a3 hxR kR zR;clear zR;replace HB:=bS HB kR WR;replace HR:=hh hxR;clear hxR kR;go_wp2_with fail
 exact bR rfl rfl HR Tryz.underlying25 Tryz.sizeU ⟨_,_,_,_,HXU.out,rfl,HB.out⟩

theorem m0e {a b c f a' b' c' f' p0 p1 p2 p3:Int} {st tot x:Nat} (h:UIs a b c f st) (h':UIs a' b' c' f' tot) (hx:UIs p0 p1 p2 p3 x) (w:World):Calls Tryz.prog 100 #[.agg #[.int .u64 a,.int .u64 b,.int .u64 c,.int .u64 f,.int .u64 a',.int .u64 b',.int .u64 c',.int .u64 f'],.agg #[.int .u64 p0,.int .u64 p1,.int .u64 p2,.int .u64 p3],.func (.func 101) #[] #[]] w (UOk w (shQ st tot x) (shK st tot x)):=by
 have HU:=hh h;have HV:=hh h';have HX3:=hh hx;obtain ⟨q,hq⟩:=nm (shQ st tot x);obtain ⟨ok,hok⟩:=nm (shK st tot x);obtain ⟨gd,hgd⟩:=nm (decide (st < uHalf∧tot < uHalf));have HQ:Hid (q=x*(tot+1000) / (st+1000)):=hh (by rw [hq];rfl);have HG:=hh hgd;have HOK:=hh hok;have HK:Hid (shK st tot x=(gd && decide (q < uMax))):=hh (by rw [hgd,hq];unfold shK;rw [Bool.decide_and]);rw [← hq,← hok];clear h h' hx hq hok hgd
 go_enter Tryz.func100,Tryz.ntmps100
 go_wp2_with (refine sA _ Tryz.zeroUz ?_)
 obtain ⟨w1,hw1⟩:=nm ((w.alloc (.cells #[.int .u64 a,.int .u64 b,.int .u64 c,.int .u64 f,.int .u64 a',.int .u64 b',.int .u64 c',.int .u64 f'] 126)).alloc (.cells #[.int .u64 p0,.int .u64 p1,.int .u64 p2,.int .u64 p3] 25));obtain ⟨X,hX⟩:=nm (w.heap.size);obtain ⟨Y,hY⟩:=nm (w.heap.size+1);rw [← hw1,← hY,← hX];have hbx:=box2 w _ _ _ _ w1 hw1;rw [← hY,← hX] at hbx;have HX:=hh hbx.1;have HY:=hh hbx.2.1;have HB:Hid (Below w.heap.size w w1):=hh (by rw [← hX];exact hbx.2.2.1);clear hbx hw1 hX hY;intro R a1 hR;have WR:=mGe hR HB.out.size;have NXR:=mNe hR HX;have NYR:=mNe hR HY;have HR:=hh hR.out.cells;have hbR:=hR.out.below;clear hR;replace HB:=bT HB hbR;replace HX:=bA hbR HX;replace HY:=bA hbR HY;clear hbR
 go_wp2_with (refine lR HX Tryz.underlying126 Tryz.sizeSd ?_)
 refine (e0X HU.out HV.out _).mono ?_;rw [← HG.out];rintro e a2 ⟨rfl,hb⟩;replace HB:=bT HB hb;replace HX:=bA hb HX;replace HY:=bA hb HY;replace HR:=bA hb HR;clear hb
 cases gd with
 | false=>
  have HF:Hid (ok=false):=hh (by rw [HOK.out,HK.out];rfl)
  go_wp2_with (refine a0a (t:=25) (old:=u0) rfl 25 _ _ rfl R u0 rfl rfl HR.out Tryz.sizeU rfl (a0j _ _ _ _) ?_)
  intro a3 hxR kR zR;clear zR;replace HB:=bS HB kR WR;replace HR:=hh hxR;clear hxR kR;go_wp2_with fail
  exact bR rfl rfl HR Tryz.underlying25 Tryz.sizeU ⟨_,_,_,_,by rw [HF.out];exact UIs.zero,by rw [HF.out];rfl,HB.out⟩
 | true=>
  have HL:Hid (st < uHalf∧tot < uHalf):=hh (of_decide_eq_true HG.out.symm);have HF:Hid (ok=decide (q < uMax)):=hh (by rw [HOK.out,HK.out];rfl);go_wp2_with fail;obtain ⟨a3,hwz,hbz⟩:=dr a2;replace HB:=bT HB hbz;replace HX:=bA hbz HX;replace HY:=bA hbz HY;replace HR:=bA hbz HR;clear hbz;refine rg2 9 9 hwz HX HY fun hS=>?_
  clear hwz;refine tA1 0 12 hS ?_;go_frame;refine tl 1 (some 13) (fun _ h=>h.1) Tryz.underlying126 Tryz.sizeSd hS ?_;go_frame;refine tl 3 (some 15) (fun _ h=>h.2) Tryz.underlying25 Tryz.sizeU hS ?_;go_frame;refine t1 2 fun K hK=>?_
  simp only [gA,jB,gC];go_simp;refine (f0i HU.out HV.out HL.out _).mono ?_;rintro e a4 ⟨ma,mb,mc,md,na,nb,nc,nd,h1,h2,rfl,hb⟩;have HM1:=hh h1;have HM2:=hh h2;clear h1 h2;replace HB:=bT HB hb;replace HX:=bA hb HX;replace HY:=bA hb HY;replace HR:=bA hb HR;clear hb;replace hS:=And.intro HX.out HY.out;refine hK _ _ (fun _ _=>hS) ?_;clear hK;refine t1 4 fun K hK=>?_
  simp only [gA,jB,gC];go_simp;refine (l0r HM1.out HM2.out HX3.out (by omega) _).mono ?_;rw [← HQ.out,← HF.out];rintro e a5 ⟨xa,xb,xc,xd,hu,rfl,hb⟩;have HXU:=hh hu;clear hu;replace HB:=bT HB hb;replace HX:=bA hb HX;replace HY:=bA hb HY;replace HR:=bA hb HR;clear hb;replace hS:=And.intro HX.out HY.out;refine hK _ _ (fun _ _=>hS) ?_;clear hK;refine tA1 5 17 hS ?_;go_frame;refine tA1 6 18 hS ?_;go_frame;refine t1 7 fun K hK=>?_
  simp only [gA,jB,gC];refine wR1 25 #[.int .u64 xa,.int .u64 xb,.int .u64 xc,.int .u64 xd] HR Tryz.sizeU ?_;intro a6 hxR kR zR;clear zR;replace HB:=bS HB kR WR;replace HX:=ka1 kR HX NXR;replace HY:=ka1 kR HY NYR;replace HR:=hh hxR;clear hxR kR;replace hS:=And.intro HX.out HY.out;refine hK _ _ (fun _ _=>hS) ?_;clear hK;refine tA1 8 7 hS ?_;go_frame;refine tD ?_;clear hS;go_wp2_with fail
  exact bR rfl rfl HR Tryz.underlying25 Tryz.sizeU ⟨_,_,_,_,HXU.out,rfl,HB.out⟩

theorem m0k {a b c f a' b' c' f' p0 p1 p2 p3:Int} {st tot x:Nat} (h:UIs a b c f st) (h':UIs a' b' c' f' tot) (hx:UIs p0 p1 p2 p3 x) (w:World):Calls Tryz.prog 100 #[.agg #[.int .u64 a,.int .u64 b,.int .u64 c,.int .u64 f,.int .u64 a',.int .u64 b',.int .u64 c',.int .u64 f'],.agg #[.int .u64 p0,.int .u64 p1,.int .u64 p2,.int .u64 p3],.func (.func 113) #[] #[]] w (UOk w (shQ tot st x) (shK tot st x)):=by
 have HU:=hh h;have HV:=hh h';have HX3:=hh hx;obtain ⟨q,hq⟩:=nm (shQ tot st x);obtain ⟨ok,hok⟩:=nm (shK tot st x);obtain ⟨gd,hgd⟩:=nm (decide (st < uHalf∧tot < uHalf));have HQ:Hid (q=x*(st+1000) / (tot+1000)):=hh (by rw [hq];rfl);have HG:=hh hgd;have HOK:=hh hok;have HK:Hid (shK tot st x=(gd && decide (q < uMax))):=hh (by rw [hgd,hq];unfold shK;rw [Bool.decide_and];congr 1;exact decide_eq_decide.2 And.comm);rw [← hq,← hok];clear h h' hx hq hok hgd
 go_enter Tryz.func100,Tryz.ntmps100
 go_wp2_with (refine sA _ Tryz.zeroUz ?_)
 obtain ⟨w1,hw1⟩:=nm ((w.alloc (.cells #[.int .u64 a,.int .u64 b,.int .u64 c,.int .u64 f,.int .u64 a',.int .u64 b',.int .u64 c',.int .u64 f'] 126)).alloc (.cells #[.int .u64 p0,.int .u64 p1,.int .u64 p2,.int .u64 p3] 25));obtain ⟨X,hX⟩:=nm (w.heap.size);obtain ⟨Y,hY⟩:=nm (w.heap.size+1);rw [← hw1,← hY,← hX];have hbx:=box2 w _ _ _ _ w1 hw1;rw [← hY,← hX] at hbx;have HX:=hh hbx.1;have HY:=hh hbx.2.1;have HB:Hid (Below w.heap.size w w1):=hh (by rw [← hX];exact hbx.2.2.1);clear hbx hw1 hX hY;intro R a1 hR;have WR:=mGe hR HB.out.size;have NXR:=mNe hR HX;have NYR:=mNe hR HY;have HR:=hh hR.out.cells;have hbR:=hR.out.below;clear hR;replace HB:=bT HB hbR;replace HX:=bA hbR HX;replace HY:=bA hbR HY;clear hbR
 go_wp2_with (refine lR HX Tryz.underlying126 Tryz.sizeSd ?_)
 refine (e0X HU.out HV.out _).mono ?_;rw [← HG.out];rintro e a2 ⟨rfl,hb⟩;replace HB:=bT HB hb;replace HX:=bA hb HX;replace HY:=bA hb HY;replace HR:=bA hb HR;clear hb
 cases gd with
 | false=>
  have HF:Hid (ok=false):=hh (by rw [HOK.out,HK.out];rfl)
  go_wp2_with (refine a0a (t:=25) (old:=u0) rfl 25 _ _ rfl R u0 rfl rfl HR.out Tryz.sizeU rfl (a0j _ _ _ _) ?_)
  intro a3 hxR kR zR;clear zR;replace HB:=bS HB kR WR;replace HR:=hh hxR;clear hxR kR;go_wp2_with fail
  exact bR rfl rfl HR Tryz.underlying25 Tryz.sizeU ⟨_,_,_,_,by rw [HF.out];exact UIs.zero,by rw [HF.out];rfl,HB.out⟩
 | true=>
  have HL:Hid (st < uHalf∧tot < uHalf):=hh (of_decide_eq_true HG.out.symm);have HF:Hid (ok=decide (q < uMax)):=hh (by rw [HOK.out,HK.out];rfl);go_wp2_with fail;obtain ⟨a3,hwz,hbz⟩:=dr a2;replace HB:=bT HB hbz;replace HX:=bA hbz HX;replace HY:=bA hbz HY;replace HR:=bA hbz HR;clear hbz;refine rg2 9 9 hwz HX HY fun hS=>?_
  clear hwz;refine tA1 0 12 hS ?_;go_frame;refine tl 1 (some 13) (fun _ h=>h.1) Tryz.underlying126 Tryz.sizeSd hS ?_;go_frame;refine tl 3 (some 15) (fun _ h=>h.2) Tryz.underlying25 Tryz.sizeU hS ?_;go_frame;refine t1 2 fun K hK=>?_
  simp only [gA,jB,gC];go_simp;refine (f0i HU.out HV.out HL.out _).mono ?_;rintro e a4 ⟨ma,mb,mc,md,na,nb,nc,nd,h1,h2,rfl,hb⟩;have HM1:=hh h1;have HM2:=hh h2;clear h1 h2;replace HB:=bT HB hb;replace HX:=bA hb HX;replace HY:=bA hb HY;replace HR:=bA hb HR;clear hb;replace hS:=And.intro HX.out HY.out;refine hK _ _ (fun _ _=>hS) ?_;clear hK;refine t1 4 fun K hK=>?_
  simp only [gA,jB,gC];go_simp;refine (j0t HM1.out HM2.out HX3.out (by omega) _).mono ?_;rw [← HQ.out,← HF.out];rintro e a5 ⟨xa,xb,xc,xd,hu,rfl,hb⟩;have HXU:=hh hu;clear hu;replace HB:=bT HB hb;replace HX:=bA hb HX;replace HY:=bA hb HY;replace HR:=bA hb HR;clear hb;replace hS:=And.intro HX.out HY.out;refine hK _ _ (fun _ _=>hS) ?_;clear hK;refine tA1 5 17 hS ?_;go_frame;refine tA1 6 18 hS ?_;go_frame;refine t1 7 fun K hK=>?_
  simp only [gA,jB,gC];refine wR1 25 #[.int .u64 xa,.int .u64 xb,.int .u64 xc,.int .u64 xd] HR Tryz.sizeU ?_;intro a6 hxR kR zR;clear zR;replace HB:=bS HB kR WR;replace HX:=ka1 kR HX NXR;replace HY:=ka1 kR HY NYR;replace HR:=hh hxR;clear hxR kR;replace hS:=And.intro HX.out HY.out;refine hK _ _ (fun _ _=>hS) ?_;clear hK;refine tA1 8 7 hS ?_;go_frame;refine tD ?_;clear hS;go_wp2_with fail
  exact bR rfl rfl HR Tryz.underlying25 Tryz.sizeU ⟨_,_,_,_,HXU.out,rfl,HB.out⟩

theorem c0E {a b c f a' b' c' f' p0 p1 p2 p3:Int} {st tot x:Nat} (h:UIs a b c f st) (h':UIs a' b' c' f' tot) (hx:UIs p0 p1 p2 p3 x) (w:World):Calls Tryz.prog 50 #[.agg #[.int .u64 a,.int .u64 b,.int .u64 c,.int .u64 f],.agg #[.int .u64 a',.int .u64 b',.int .u64 c',.int .u64 f'],.agg #[.int .u64 p0,.int .u64 p1,.int .u64 p2,.int .u64 p3]] w (UOk w (shQ st tot x) (shK st tot x)):=by
 have HU:=hh h;have HV:=hh h';have HX3:=hh hx;obtain ⟨q,hq⟩:=nm (shQ st tot x);obtain ⟨ok,hok⟩:=nm (shK st tot x);have HQ:=hh hq;have HOK:=hh hok;rw [← hq,← hok];clear h h' hx hq hok
 go_enter Tryz.func50,Tryz.ntmps50
 go_wp2_with (refine sA _ Tryz.zeroUz ?_)
 obtain ⟨w1,hw1⟩:=nm (((w.alloc (.cells #[.int .u64 a,.int .u64 b,.int .u64 c,.int .u64 f] 25)).alloc (.cells #[.int .u64 a',.int .u64 b',.int .u64 c',.int .u64 f'] 25)).alloc (.cells #[.int .u64 p0,.int .u64 p1,.int .u64 p2,.int .u64 p3] 25));obtain ⟨X,hX⟩:=nm (w.heap.size);obtain ⟨Y,hY⟩:=nm (w.heap.size+1);obtain ⟨Z,hZ⟩:=nm (w.heap.size+1+1);rw [← hw1,← hZ,← hY,← hX];have hbx:=box3 w _ _ _ _ _ _ w1 hw1;rw [← hZ,← hY,← hX] at hbx;have HX:=hh hbx.1;have HY:=hh hbx.2.1;have HZ:=hh hbx.2.2.1;have HB:Hid (Below w.heap.size w w1):=hh (by rw [← hX];exact hbx.2.2.2);clear hbx hw1 hX hY hZ;intro R a1 hR;have WR:=mGe hR HB.out.size;have NXR:=mNe hR HX;have NYR:=mNe hR HY;have NZR:=mNe hR HZ;have HR:=hh hR.out.cells;have hbR:=hR.out.below;clear hR;replace HB:=bT HB hbR;replace HX:=bA hbR HX;replace HY:=bA hbR HY;replace HZ:=bA hbR HZ;clear hbR
 go_wp2_with (first
  | (refine lR HX Tryz.underlying25 Tryz.sizeU ?_)
  | (refine lR HY Tryz.underlying25 Tryz.sizeU ?_)
  | (refine lR HZ Tryz.underlying25 Tryz.sizeU ?_))
 refine (m0e HU.out HV.out HX3.out _).mono ?_;rw [← HQ.out,← HOK.out];rintro e a2 ⟨xa,xb,xc,xd,hu,rfl,hb⟩;have HXU:=hh hu;clear hu;replace HB:=bT HB hb;replace HR:=bA hb HR;clear hb
 go_wp2_with (refine sR 25 #[.int .u64 xa,.int .u64 xb,.int .u64 xc,.int .u64 xd] HR Tryz.sizeU ?_)
 intro a3 hxR kR zR;clear zR;replace HB:=bS HB kR WR;replace HR:=hh hxR;clear hxR kR;go_wp2_with fail
 exact bR rfl rfl HR Tryz.underlying25 Tryz.sizeU ⟨_,_,_,_,HXU.out,rfl,HB.out⟩

theorem b0g {a b c f a' b' c' f' p0 p1 p2 p3:Int} {st tot x:Nat} (h:UIs a b c f st) (h':UIs a' b' c' f' tot) (hx:UIs p0 p1 p2 p3 x) (w:World):Calls Tryz.prog 65 #[.agg #[.int .u64 a,.int .u64 b,.int .u64 c,.int .u64 f],.agg #[.int .u64 a',.int .u64 b',.int .u64 c',.int .u64 f'],.agg #[.int .u64 p0,.int .u64 p1,.int .u64 p2,.int .u64 p3]] w (UOk w (shQ tot st x) (shK tot st x)):=by
 have HU:=hh h;have HV:=hh h';have HX3:=hh hx;obtain ⟨q,hq⟩:=nm (shQ tot st x);obtain ⟨ok,hok⟩:=nm (shK tot st x);have HQ:=hh hq;have HOK:=hh hok;rw [← hq,← hok];clear h h' hx hq hok
 go_enter Tryz.func65,Tryz.ntmps65
 go_wp2_with (refine sA _ Tryz.zeroUz ?_)
 obtain ⟨w1,hw1⟩:=nm (((w.alloc (.cells #[.int .u64 a,.int .u64 b,.int .u64 c,.int .u64 f] 25)).alloc (.cells #[.int .u64 a',.int .u64 b',.int .u64 c',.int .u64 f'] 25)).alloc (.cells #[.int .u64 p0,.int .u64 p1,.int .u64 p2,.int .u64 p3] 25));obtain ⟨X,hX⟩:=nm (w.heap.size);obtain ⟨Y,hY⟩:=nm (w.heap.size+1);obtain ⟨Z,hZ⟩:=nm (w.heap.size+1+1);rw [← hw1,← hZ,← hY,← hX];have hbx:=box3 w _ _ _ _ _ _ w1 hw1;rw [← hZ,← hY,← hX] at hbx;have HX:=hh hbx.1;have HY:=hh hbx.2.1;have HZ:=hh hbx.2.2.1;have HB:Hid (Below w.heap.size w w1):=hh (by rw [← hX];exact hbx.2.2.2);clear hbx hw1 hX hY hZ;intro R a1 hR;have WR:=mGe hR HB.out.size;have NXR:=mNe hR HX;have NYR:=mNe hR HY;have NZR:=mNe hR HZ;have HR:=hh hR.out.cells;have hbR:=hR.out.below;clear hR;replace HB:=bT HB hbR;replace HX:=bA hbR HX;replace HY:=bA hbR HY;replace HZ:=bA hbR HZ;clear hbR
 go_wp2_with (first
  | (refine lR HX Tryz.underlying25 Tryz.sizeU ?_)
  | (refine lR HY Tryz.underlying25 Tryz.sizeU ?_)
  | (refine lR HZ Tryz.underlying25 Tryz.sizeU ?_))
 refine (m0k HU.out HV.out HX3.out _).mono ?_;rw [← HQ.out,← HOK.out];rintro e a2 ⟨xa,xb,xc,xd,hu,rfl,hb⟩;have HXU:=hh hu;clear hu;replace HB:=bT HB hb;replace HR:=bA hb HR;clear hb
 go_wp2_with (refine sR 25 #[.int .u64 xa,.int .u64 xb,.int .u64 xc,.int .u64 xd] HR Tryz.sizeU ?_)
 intro a3 hxR kR zR;clear zR;replace HB:=bS HB kR WR;replace HR:=hh hxR;clear hxR kR;go_wp2_with fail
 exact bR rfl rfl HR Tryz.underlying25 Tryz.sizeU ⟨_,_,_,_,HXU.out,rfl,HB.out⟩

theorem d0a {a b c f:Int} {st:Nat} (h:UIs a b c f st) (hl:st < uHalf) (w:World):Calls Tryz.prog 115 #[.agg #[.int .u64 a,.int .u64 b,.int .u64 c,.int .u64 f]] w (URet w (st+1000)):=by
 have HU:=hh h;have HL:=hh hl;clear h hl
 go_enter Tryz.func115,Tryz.ntmps115
 go_wp2_with (refine sA _ Tryz.zeroUz ?_)
 obtain ⟨w1,hw1⟩:=nm (w.alloc (.cells #[.int .u64 a,.int .u64 b,.int .u64 c,.int .u64 f] 25));obtain ⟨X,hX⟩:=nm (w.heap.size);rw [← hw1,← hX];have HX:Hid (w1.heap[X]? = some (.cells #[.int .u64 a,.int .u64 b,.int .u64 c,.int .u64 f] 25 (0,0))):=hh (by rw [hw1,hX];exact heap_alloc_new _ _);have HB:Hid (Below w.heap.size w w1):=hh (by rw [hw1];exact a0c _ _);clear hw1 hX;intro R a1 hR;have WR:=mGe hR HB.out.size;have NXR:=mNe hR HX;have HR:=hh hR.out.cells;have hbR:=hR.out.below;clear hR;replace HB:=bT HB hbR;replace HX:=bA hbR HX;clear hbR;go_wp2_with fail;obtain ⟨a2,hwz,hbz⟩:=dr a1;replace HB:=bT HB hbz;replace HX:=bA hbz HX;replace HR:=bA hbz HR;clear hbz;refine rg1 9 9 hwz HX fun hS=>?_
 clear hwz;refine tl 0 (some 6) (fun _ h=>h) Tryz.underlying25 Tryz.sizeU hS ?_;go_frame;refine a0k 1 6 rfl rfl (by kernel_rfl) (fun K hK=>?_) (fun K hK=>?_)
 ·simp only [gA,jB,gC];rw [if_pos (by rfl)];go_simp;refine (g0s _).mono ?_;rintro e a3 ⟨va,vb,vc,vd,hv,rfl,hb⟩;have HVI:=hh hv;clear hv;replace HB:=bT HB hb;replace HX:=bA hb HX;replace HR:=bA hb HR;clear hb;replace hS:=HX.out;refine hK _ _ (fun _ _=>hS) ?_;clear hK;refine a0k 2 6 rfl rfl (by kernel_rfl) (fun K hK=>?_) (fun K hK=>?_)
  ·simp only [gA,jB,gC];rw [if_pos (by rfl)];go_simp;refine (b0B HU.out HVI.out _).mono ?_;rw [decide_eq_true (p:=st+1000 < uMax) (by have:=HL.out;unfold uHalf at this;unfold uMax;omega)];rintro e a4 ⟨xa,xb,xc,xd,hv,rfl,hb⟩;have HXU:=hh hv;clear hv HVI;replace HB:=bT HB hb;replace HX:=bA hb HX;replace HR:=bA hb HR;clear hb;replace hS:=HX.out;refine hK _ _ (fun _ _=>hS) ?_;clear hK;refine tA1 3 5 hS ?_;go_frame;refine tA1 4 9 hS ?_;go_frame;refine tA1 5 10 hS ?_;go_frame;refine t1 6 fun K hK=>?_
   simp only [gA,jB,gC];refine wA1 25 Tryz.zeroUz ?_;intro O a5 hO;have WO:=mGe hO HB.out.size;have NXO:=mNe hO HX;have NRO:=mNe hO HR;have HO:=hh hO.out.cells;have hbO:=hO.out.below;clear hO;replace HB:=bT HB hbO;replace HX:=bA hbO HX;replace HR:=bA hbO HR;clear hbO;replace hS:=HX.out;refine hK _ _ (fun _ _=>hS) ?_;clear hK;refine t1 7 fun K hK=>?_
   simp only [gA,jB,gC];refine wR1 25 #[.int .u64 xa,.int .u64 xb,.int .u64 xc,.int .u64 xd] HO Tryz.sizeU ?_;intro a6 hxO kO zO;clear zO;replace HB:=bS HB kO WO;replace HX:=ka1 kO HX NXO;replace HR:=ka1 kO HR NRO;replace HO:=hh hxO;clear hxO kO;replace hS:=HX.out;refine hK _ _ (fun _ _=>hS) ?_;clear hK;refine tA1 8 4 hS ?_;go_frame;refine tD ?_;clear hS
   go_wp2_with (first
    | (refine lR HO Tryz.underlying25 Tryz.sizeU ?_)
    | (refine sR 25 #[.int .u64 xa,.int .u64 xb,.int .u64 xc,.int .u64 xd] HR Tryz.sizeU ?_))
   intro a7 hxR kR zR;clear zR;replace HB:=bS HB kR WR;replace HR:=hh hxR;clear hxR kR;go_wp2_with fail
   exact bodyPost_ret (results_cell_row rfl _ _ _ _ _ _ _ rfl HR.out Tryz.underlying25 rfl Tryz.sizeU) rfl ⟨_,_,_,_,HXU.out,rfl,HB.out⟩
  ·simp only [gA,jB,gC];rw [if_pos (by rfl)];refine wA1 25 Tryz.zeroUz ?_;intro O a4 hO;have WO:=mGe hO HB.out.size;have NXO:=mNe hO HX;have NRO:=mNe hO HR;have HO:=hh hO.out.cells;have hbO:=hO.out.below;clear hO;replace HB:=bT HB hbO;replace HX:=bA hbO HX;replace HR:=bA hbO HR;clear hbO;replace hS:=HX.out;refine hK _ _ (fun _ _=>hS) ?_;clear hK;refine t1 2 fun K hK=>?_
   simp only [gA,jB,gC];go_simp;refine (b0B HU.out HVI.out _).mono ?_;rw [decide_eq_true (p:=st+1000 < uMax) (by have:=HL.out;unfold uHalf at this;unfold uMax;omega)];rintro e a5 ⟨xa,xb,xc,xd,hv,rfl,hb⟩;have HXU:=hh hv;clear hv HVI;replace HB:=bT HB hb;replace HX:=bA hb HX;replace HR:=bA hb HR;replace HO:=bA hb HO;clear hb;replace hS:=HX.out;refine hK _ _ (fun _ _=>hS) ?_;clear hK;refine tA1 3 5 hS ?_;go_frame;refine tA1 4 9 hS ?_;go_frame;refine tA1 5 10 hS ?_;go_frame;refine t1 7 fun K hK=>?_
   simp only [gA,jB,gC];refine wR1 25 #[.int .u64 xa,.int .u64 xb,.int .u64 xc,.int .u64 xd] HO Tryz.sizeU ?_;intro a6 hxO kO zO;clear zO;replace HB:=bS HB kO WO;replace HX:=ka1 kO HX NXO;replace HR:=ka1 kO HR NRO;replace HO:=hh hxO;clear hxO kO;replace hS:=HX.out;refine hK _ _ (fun _ _=>hS) ?_;clear hK;refine tA1 8 4 hS ?_;go_frame;refine tD ?_;clear hS
   go_wp2_with (first
    | (refine lR HO Tryz.underlying25 Tryz.sizeU ?_)
    | (refine sR 25 #[.int .u64 xa,.int .u64 xb,.int .u64 xc,.int .u64 xd] HR Tryz.sizeU ?_))
   intro a7 hxR kR zR;clear zR;replace HB:=bS HB kR WR;replace HR:=hh hxR;clear hxR kR;go_wp2_with fail
   exact bodyPost_ret (results_cell_row rfl _ _ _ _ _ _ _ rfl HR.out Tryz.underlying25 rfl Tryz.sizeU) rfl ⟨_,_,_,_,HXU.out,rfl,HB.out⟩
 ·simp only [gA,jB,gC];rw [if_pos (by rfl)];refine wA1 25 Tryz.zeroUz ?_;intro O a3 hO;have WO:=mGe hO HB.out.size;have NXO:=mNe hO HX;have NRO:=mNe hO HR;have HO:=hh hO.out.cells;have hbO:=hO.out.below;clear hO;replace HB:=bT HB hbO;replace HX:=bA hbO HX;replace HR:=bA hbO HR;clear hbO;replace hS:=HX.out;refine hK _ _ (fun _ _=>hS) ?_;clear hK;refine t1 1 fun K hK=>?_
  simp only [gA,jB,gC];go_simp;refine (g0s _).mono ?_;rintro e a4 ⟨va,vb,vc,vd,hv,rfl,hb⟩;have HVI:=hh hv;clear hv;replace HB:=bT HB hb;replace HX:=bA hb HX;replace HR:=bA hb HR;replace HO:=bA hb HO;clear hb;replace hS:=HX.out;refine hK _ _ (fun _ _=>hS) ?_;clear hK;refine t1 2 fun K hK=>?_
  simp only [gA,jB,gC];go_simp;refine (b0B HU.out HVI.out _).mono ?_;rw [decide_eq_true (p:=st+1000 < uMax) (by have:=HL.out;unfold uHalf at this;unfold uMax;omega)];rintro e a5 ⟨xa,xb,xc,xd,hv,rfl,hb⟩;have HXU:=hh hv;clear hv HVI;replace HB:=bT HB hb;replace HX:=bA hb HX;replace HR:=bA hb HR;replace HO:=bA hb HO;clear hb;replace hS:=HX.out;refine hK _ _ (fun _ _=>hS) ?_;clear hK;refine tA1 3 5 hS ?_;go_frame;refine tA1 4 9 hS ?_;go_frame;refine tA1 5 10 hS ?_;go_frame;refine t1 7 fun K hK=>?_
  simp only [gA,jB,gC];refine wR1 25 #[.int .u64 xa,.int .u64 xb,.int .u64 xc,.int .u64 xd] HO Tryz.sizeU ?_;intro a6 hxO kO zO;clear zO;replace HB:=bS HB kO WO;replace HX:=ka1 kO HX NXO;replace HR:=ka1 kO HR NRO;replace HO:=hh hxO;clear hxO kO;replace hS:=HX.out;refine hK _ _ (fun _ _=>hS) ?_;clear hK;refine tA1 8 4 hS ?_;go_frame;refine tD ?_;clear hS
  go_wp2_with (first
   | (refine lR HO Tryz.underlying25 Tryz.sizeU ?_)
   | (refine sR 25 #[.int .u64 xa,.int .u64 xb,.int .u64 xc,.int .u64 xd] HR Tryz.sizeU ?_))
  intro a7 hxR kR zR;clear zR;replace HB:=bS HB kR WR;replace HR:=hh hxR;clear hxR kR;go_wp2_with fail
  exact bodyPost_ret (results_cell_row rfl _ _ _ _ _ _ _ rfl HR.out Tryz.underlying25 rfl Tryz.sizeU) rfl ⟨_,_,_,_,HXU.out,rfl,HB.out⟩

theorem c0m {a b c f a' b' c' f' p0 p1 p2 p3:Int} {st tot x:Nat} (h:UIs a b c f st) (h':UIs a' b' c' f' tot) (hx:UIs p0 p1 p2 p3 x) (w:World):Calls Tryz.prog 90 #[.agg #[.int .u64 a,.int .u64 b,.int .u64 c,.int .u64 f],.agg #[.int .u64 a',.int .u64 b',.int .u64 c',.int .u64 f'],.agg #[.int .u64 p0,.int .u64 p1,.int .u64 p2,.int .u64 p3]] w (UOk w (shQ st tot x) (shK st tot x)):=by
 have HU:=hh h;have HV:=hh h';have HX3:=hh hx;obtain ⟨q,hq⟩:=nm (shQ st tot x);obtain ⟨ok,hok⟩:=nm (shK st tot x);obtain ⟨q1,hq1⟩:=nm (decide (st < uHalf));obtain ⟨q2,hq2⟩:=nm (decide (tot < uHalf));have HQ:Hid (q=x*(tot+1000) / (st+1000)):=hh (by rw [hq];rfl);have HQ1:=hh hq1;have HQ2:=hh hq2;have HOK:=hh hok;have HK:Hid (shK st tot x=((q1 && q2) && decide (q < uMax))):=hh (by rw [hq1,hq2,hq];unfold shK;rw [Bool.decide_and,Bool.decide_and]);rw [← hq,← hok];clear h h' hx hq hok hq1 hq2
 go_enter Tryz.func90,Tryz.ntmps90
 go_wp2_with (refine sA _ Tryz.zeroUz ?_)
 obtain ⟨w1,hw1⟩:=nm (((w.alloc (.cells #[.int .u64 a,.int .u64 b,.int .u64 c,.int .u64 f] 25)).alloc (.cells #[.int .u64 a',.int .u64 b',.int .u64 c',.int .u64 f'] 25)).alloc (.cells #[.int .u64 p0,.int .u64 p1,.int .u64 p2,.int .u64 p3] 25));obtain ⟨X,hX⟩:=nm (w.heap.size);obtain ⟨Y,hY⟩:=nm (w.heap.size+1);obtain ⟨Z,hZ⟩:=nm (w.heap.size+1+1);rw [← hw1,← hZ,← hY,← hX];have hbx:=box3 w _ _ _ _ _ _ w1 hw1;rw [← hZ,← hY,← hX] at hbx;have HX:=hh hbx.1;have HY:=hh hbx.2.1;have HZ:=hh hbx.2.2.1;have HB:Hid (Below w.heap.size w w1):=hh (by rw [← hX];exact hbx.2.2.2);clear hbx hw1 hX hY hZ;intro R a1 hR;have WR:=mGe hR HB.out.size;have NXR:=mNe hR HX;have NYR:=mNe hR HY;have NZR:=mNe hR HZ;have HR:=hh hR.out.cells;have hbR:=hR.out.below;clear hR;replace HB:=bT HB hbR;replace HX:=bA hbR HX;replace HY:=bA hbR HY;replace HZ:=bA hbR HZ;clear hbR
 go_wp2_with (refine lR HX Tryz.underlying25 Tryz.sizeU ?_)
 refine (a0P HU.out _).mono ?_;rw [← HQ1.out];rintro e a2 ⟨rfl,hb⟩;replace HB:=bT HB hb;replace HX:=bA hb HX;replace HY:=bA hb HY;replace HZ:=bA hb HZ;replace HR:=bA hb HR;clear hb
 cases q1 with
 | false=>
  have HF:Hid (ok=false):=hh (by rw [HOK.out,HK.out];rfl)
  go_wp2_with (refine a0a (t:=25) (old:=u0) rfl 25 _ _ rfl R u0 rfl rfl HR.out Tryz.sizeU rfl (a0j _ _ _ _) ?_)
  intro a3 hxR kR zR;clear zR;replace HB:=bS HB kR WR;replace HR:=hh hxR;clear hxR kR;go_wp2_with fail
  exact bR rfl rfl HR Tryz.underlying25 Tryz.sizeU ⟨_,_,_,_,by rw [HF.out];exact UIs.zero,by rw [HF.out];rfl,HB.out⟩
 | true=>
  have c0:a2.cell? ⟨Y,0,none⟩=some (.int .u64 a'):=Lib.cell_of_heap HY.out 0;have c1:a2.cell? ⟨Y,1,none⟩=some (.int .u64 b'):=Lib.cell_of_heap HY.out 1;have c2:a2.cell? ⟨Y,2,none⟩=some (.int .u64 c'):=Lib.cell_of_heap HY.out 2;have c3:a2.cell? ⟨Y,3,none⟩=some (.int .u64 f'):=Lib.cell_of_heap HY.out 3;go_wp2_with fail;clear c0 c1 c2 c3;refine (a0P HV.out _).mono ?_;rw [← HQ2.out];rintro e a3 ⟨rfl,hb⟩;replace HB:=bT HB hb;replace HX:=bA hb HX;replace HY:=bA hb HY;replace HZ:=bA hb HZ;replace HR:=bA hb HR;clear hb
  cases q2 with
  | false=>
   have HF:Hid (ok=false):=hh (by rw [HOK.out,HK.out];rfl)
   go_wp2_with (refine a0a (t:=25) (old:=u0) rfl 25 _ _ rfl R u0 rfl rfl HR.out Tryz.sizeU rfl (a0j _ _ _ _) ?_)
   intro a4 hxR kR zR;clear zR;replace HB:=bS HB kR WR;replace HR:=hh hxR;clear hxR kR;go_wp2_with fail
   exact bR rfl rfl HR Tryz.underlying25 Tryz.sizeU ⟨_,_,_,_,by rw [HF.out];exact UIs.zero,by rw [HF.out];rfl,HB.out⟩
  | true=>
   have HF:Hid (ok=decide (q < uMax)):=hh (by rw [HOK.out,HK.out];rfl);have HL:Hid (st < uHalf∧tot < uHalf):=hh ⟨of_decide_eq_true HQ1.out.symm,of_decide_eq_true HQ2.out.symm⟩;go_wp2_with fail;obtain ⟨a4,hwz,hbz⟩:=dr a3;replace HB:=bT HB hbz;replace HX:=bA hbz HX;replace HY:=bA hbz HY;replace HZ:=bA hbz HZ;replace HR:=bA hbz HR;clear hbz;refine rg3 10 10 hwz HX HY HZ fun hS=>?_
   clear hwz;refine tl 0 (some 17) (fun _ h=>h.2.2) Tryz.underlying25 Tryz.sizeU hS ?_;go_frame;refine tl 1 (some 18) (fun _ h=>h.2.1) Tryz.underlying25 Tryz.sizeU hS ?_;go_frame;refine tl 3 (some 20) (fun _ h=>h.1) Tryz.underlying25 Tryz.sizeU hS ?_;go_frame;refine t1 2 fun K hK=>?_
   simp only [gA,jB,gC];go_simp;refine (d0a HV.out HL.out.2 _).mono ?_;rintro e a5 ⟨ta,tb,tc,td,hv,rfl,hb⟩;have HtM:=hh hv;clear hv;replace HB:=bT HB hb;replace HX:=bA hb HX;replace HY:=bA hb HY;replace HZ:=bA hb HZ;replace HR:=bA hb HR;clear hb;replace hS:=And.intro HX.out (And.intro HY.out HZ.out);refine hK _ _ (fun _ _=>hS) ?_;clear hK;refine t1 4 fun K hK=>?_
   simp only [gA,jB,gC];go_simp;refine (d0a HU.out HL.out.1 _).mono ?_;rintro e a6 ⟨sa,sb,sc,sd,hv,rfl,hb⟩;have HsM:=hh hv;clear hv;replace HB:=bT HB hb;replace HX:=bA hb HX;replace HY:=bA hb HY;replace HZ:=bA hb HZ;replace HR:=bA hb HR;clear hb;replace hS:=And.intro HX.out (And.intro HY.out HZ.out);refine hK _ _ (fun _ _=>hS) ?_;clear hK;refine t1 5 fun K hK=>?_
   simp only [gA,jB,gC];go_simp;refine (g0Q HX3.out HtM.out HsM.out (by omega) _).mono ?_;rw [← HQ.out,← HF.out];rintro e a7 ⟨xa,xb,xc,xd,hu,rfl,hb⟩;have HXU:=hh hu;clear hu;replace HB:=bT HB hb;replace HX:=bA hb HX;replace HY:=bA hb HY;replace HZ:=bA hb HZ;replace HR:=bA hb HR;clear hb;replace hS:=And.intro HX.out (And.intro HY.out HZ.out);refine hK _ _ (fun _ _=>hS) ?_;clear hK;refine tA1 6 23 hS ?_;go_frame;refine tA1 7 24 hS ?_;go_frame;refine t1 8 fun K hK=>?_
   simp only [gA,jB,gC];refine wR1 25 #[.int .u64 xa,.int .u64 xb,.int .u64 xc,.int .u64 xd] HR Tryz.sizeU ?_;intro a8 hxR kR zR;clear zR;replace HB:=bS HB kR WR;replace HX:=ka1 kR HX NXR;replace HY:=ka1 kR HY NYR;replace HZ:=ka1 kR HZ NZR;replace HR:=hh hxR;clear hxR kR;replace hS:=And.intro HX.out (And.intro HY.out HZ.out);refine hK _ _ (fun _ _=>hS) ?_;clear hK;refine tA1 9 7 hS ?_;go_frame;refine tD ?_;clear hS;go_wp2_with fail
   exact bR rfl rfl HR Tryz.underlying25 Tryz.sizeU ⟨_,_,_,_,HXU.out,rfl,HB.out⟩

theorem a0V {a b c f a' b' c' f' p0 p1 p2 p3:Int} {st tot x:Nat} (h:UIs a b c f st) (h':UIs a' b' c' f' tot) (hx:UIs p0 p1 p2 p3 x) (w:World):Calls Tryz.prog 66 #[.agg #[.int .u64 a,.int .u64 b,.int .u64 c,.int .u64 f],.agg #[.int .u64 a',.int .u64 b',.int .u64 c',.int .u64 f'],.agg #[.int .u64 p0,.int .u64 p1,.int .u64 p2,.int .u64 p3]] w (UOk w (shQ tot st x) (shK tot st x)):=by
 have HU:=hh h;have HV:=hh h';have HX3:=hh hx;obtain ⟨q,hq⟩:=nm (shQ tot st x);obtain ⟨ok,hok⟩:=nm (shK tot st x);obtain ⟨q1,hq1⟩:=nm (decide (st < uHalf));obtain ⟨q2,hq2⟩:=nm (decide (tot < uHalf));have HQ:Hid (q=x*(st+1000) / (tot+1000)):=hh (by rw [hq];rfl);have HQ1:=hh hq1;have HQ2:=hh hq2;have HOK:=hh hok;have HK:Hid (shK tot st x=((q1 && q2) && decide (q < uMax))):=hh (by rw [hq1,hq2,hq];unfold shK;rw [Bool.decide_and,Bool.decide_and];rw [Bool.and_comm (decide (tot < uHalf))]);rw [← hq,← hok];clear h h' hx hq hok hq1 hq2
 go_enter Tryz.func66,Tryz.ntmps66
 go_wp2_with (refine sA _ Tryz.zeroUz ?_)
 obtain ⟨w1,hw1⟩:=nm (((w.alloc (.cells #[.int .u64 a,.int .u64 b,.int .u64 c,.int .u64 f] 25)).alloc (.cells #[.int .u64 a',.int .u64 b',.int .u64 c',.int .u64 f'] 25)).alloc (.cells #[.int .u64 p0,.int .u64 p1,.int .u64 p2,.int .u64 p3] 25));obtain ⟨X,hX⟩:=nm (w.heap.size);obtain ⟨Y,hY⟩:=nm (w.heap.size+1);obtain ⟨Z,hZ⟩:=nm (w.heap.size+1+1);rw [← hw1,← hZ,← hY,← hX];have hbx:=box3 w _ _ _ _ _ _ w1 hw1;rw [← hZ,← hY,← hX] at hbx;have HX:=hh hbx.1;have HY:=hh hbx.2.1;have HZ:=hh hbx.2.2.1;have HB:Hid (Below w.heap.size w w1):=hh (by rw [← hX];exact hbx.2.2.2);clear hbx hw1 hX hY hZ;intro R a1 hR;have WR:=mGe hR HB.out.size;have NXR:=mNe hR HX;have NYR:=mNe hR HY;have NZR:=mNe hR HZ;have HR:=hh hR.out.cells;have hbR:=hR.out.below;clear hR;replace HB:=bT HB hbR;replace HX:=bA hbR HX;replace HY:=bA hbR HY;replace HZ:=bA hbR HZ;clear hbR
 go_wp2_with (refine lR HX Tryz.underlying25 Tryz.sizeU ?_)
 refine (a0P HU.out _).mono ?_;rw [← HQ1.out];rintro e a2 ⟨rfl,hb⟩;replace HB:=bT HB hb;replace HX:=bA hb HX;replace HY:=bA hb HY;replace HZ:=bA hb HZ;replace HR:=bA hb HR;clear hb
 cases q1 with
 | false=>
  have HF:Hid (ok=false):=hh (by rw [HOK.out,HK.out];rfl)
  go_wp2_with (refine a0a (t:=25) (old:=u0) rfl 25 _ _ rfl R u0 rfl rfl HR.out Tryz.sizeU rfl (a0j _ _ _ _) ?_)
  intro a3 hxR kR zR;clear zR;replace HB:=bS HB kR WR;replace HR:=hh hxR;clear hxR kR;go_wp2_with fail
  exact bR rfl rfl HR Tryz.underlying25 Tryz.sizeU ⟨_,_,_,_,by rw [HF.out];exact UIs.zero,by rw [HF.out];rfl,HB.out⟩
 | true=>
  have c0:a2.cell? ⟨Y,0,none⟩=some (.int .u64 a'):=Lib.cell_of_heap HY.out 0;have c1:a2.cell? ⟨Y,1,none⟩=some (.int .u64 b'):=Lib.cell_of_heap HY.out 1;have c2:a2.cell? ⟨Y,2,none⟩=some (.int .u64 c'):=Lib.cell_of_heap HY.out 2;have c3:a2.cell? ⟨Y,3,none⟩=some (.int .u64 f'):=Lib.cell_of_heap HY.out 3;go_wp2_with fail;clear c0 c1 c2 c3;refine (a0P HV.out _).mono ?_;rw [← HQ2.out];rintro e a3 ⟨rfl,hb⟩;replace HB:=bT HB hb;replace HX:=bA hb HX;replace HY:=bA hb HY;replace HZ:=bA hb HZ;replace HR:=bA hb HR;clear hb
  cases q2 with
  | false=>
   have HF:Hid (ok=false):=hh (by rw [HOK.out,HK.out];rfl)
   go_wp2_with (refine a0a (t:=25) (old:=u0) rfl 25 _ _ rfl R u0 rfl rfl HR.out Tryz.sizeU rfl (a0j _ _ _ _) ?_)
   intro a4 hxR kR zR;clear zR;replace HB:=bS HB kR WR;replace HR:=hh hxR;clear hxR kR;go_wp2_with fail
   exact bR rfl rfl HR Tryz.underlying25 Tryz.sizeU ⟨_,_,_,_,by rw [HF.out];exact UIs.zero,by rw [HF.out];rfl,HB.out⟩
  | true=>
   have HF:Hid (ok=decide (q < uMax)):=hh (by rw [HOK.out,HK.out];rfl);have HL:Hid (st < uHalf∧tot < uHalf):=hh ⟨of_decide_eq_true HQ1.out.symm,of_decide_eq_true HQ2.out.symm⟩;go_wp2_with fail;obtain ⟨a4,hwz,hbz⟩:=dr a3;replace HB:=bT HB hbz;replace HX:=bA hbz HX;replace HY:=bA hbz HY;replace HZ:=bA hbz HZ;replace HR:=bA hbz HR;clear hbz;refine rg3 10 10 hwz HX HY HZ fun hS=>?_
   clear hwz;refine tl 0 (some 17) (fun _ h=>h.2.2) Tryz.underlying25 Tryz.sizeU hS ?_;go_frame;refine tl 1 (some 18) (fun _ h=>h.1) Tryz.underlying25 Tryz.sizeU hS ?_;go_frame;refine tl 3 (some 20) (fun _ h=>h.2.1) Tryz.underlying25 Tryz.sizeU hS ?_;go_frame;refine t1 2 fun K hK=>?_
   simp only [gA,jB,gC];go_simp;refine (d0a HU.out HL.out.1 _).mono ?_;rintro e a5 ⟨sa,sb,sc,sd,hv,rfl,hb⟩;have HsM:=hh hv;clear hv;replace HB:=bT HB hb;replace HX:=bA hb HX;replace HY:=bA hb HY;replace HZ:=bA hb HZ;replace HR:=bA hb HR;clear hb;replace hS:=And.intro HX.out (And.intro HY.out HZ.out);refine hK _ _ (fun _ _=>hS) ?_;clear hK;refine t1 4 fun K hK=>?_
   simp only [gA,jB,gC];go_simp;refine (d0a HV.out HL.out.2 _).mono ?_;rintro e a6 ⟨ta,tb,tc,td,hv,rfl,hb⟩;have HtM:=hh hv;clear hv;replace HB:=bT HB hb;replace HX:=bA hb HX;replace HY:=bA hb HY;replace HZ:=bA hb HZ;replace HR:=bA hb HR;clear hb;replace hS:=And.intro HX.out (And.intro HY.out HZ.out);refine hK _ _ (fun _ _=>hS) ?_;clear hK;refine t1 5 fun K hK=>?_
   simp only [gA,jB,gC];go_simp;refine (g0Q HX3.out HsM.out HtM.out (by omega) _).mono ?_;rw [← HQ.out,← HF.out];rintro e a7 ⟨xa,xb,xc,xd,hu,rfl,hb⟩;have HXU:=hh hu;clear hu;replace HB:=bT HB hb;replace HX:=bA hb HX;replace HY:=bA hb HY;replace HZ:=bA hb HZ;replace HR:=bA hb HR;clear hb;replace hS:=And.intro HX.out (And.intro HY.out HZ.out);refine hK _ _ (fun _ _=>hS) ?_;clear hK;refine tA1 6 23 hS ?_;go_frame;refine tA1 7 24 hS ?_;go_frame;refine t1 8 fun K hK=>?_
   simp only [gA,jB,gC];refine wR1 25 #[.int .u64 xa,.int .u64 xb,.int .u64 xc,.int .u64 xd] HR Tryz.sizeU ?_;intro a8 hxR kR zR;clear zR;replace HB:=bS HB kR WR;replace HX:=ka1 kR HX NXR;replace HY:=ka1 kR HY NYR;replace HZ:=ka1 kR HZ NZR;replace HR:=hh hxR;clear hxR kR;replace hS:=And.intro HX.out (And.intro HY.out HZ.out);refine hK _ _ (fun _ _=>hS) ?_;clear hK;refine tA1 9 7 hS ?_;go_frame;refine tD ?_;clear hS;go_wp2_with fail
   exact bR rfl rfl HR Tryz.underlying25 Tryz.sizeU ⟨_,_,_,_,HXU.out,rfl,HB.out⟩
end Go.Proofs.YtabminbgoclnkaaGreat
