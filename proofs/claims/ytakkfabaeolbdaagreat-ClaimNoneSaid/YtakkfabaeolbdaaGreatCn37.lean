/- leaf.group.open (code). No condition. Claims: as they lie; what leaf.Claim answers. No condition. leaf.Claim (code). No condition. -/
import Derived.Test.YtakkfabaeolbdaaGreatCn20
import Derived.Test.YtakkfabaeolbdaaGreatCn35
namespace Go.Proofs.YtakkfabaeolbdaaGreat
section
set_option maxHeartbeats 16000000
set_option maxRecDepth 100000
open Go.RowKit

theorem g0K {P:Program} {o:Oper} {a:Act} {w:World} {K:Act→World→Prop} {Q:Exit→Act→World→Prop} (ty:TypeId) (x y:Operand) (ho:o.op = .store ty x y)
  (g:Nat) (cells:Array Value) (hx:a.eval x = .pointer (some ⟨g,0,none⟩)) (hy:a.eval y = .agg cells)
  (t:TypeId) (old:Array Value) (hg:w.heap[g]? = some (.cells old t (0,0))) (hi:(P.info? ty).map (·.size)=some cells.size)
  (hold:old.size=cells.size) (h1:cells.all (·.oneCell')=true)
  (h:∀ w',w'.heap[g]? = some (.cells cells t (0,0))→Keep (· = g) w w'→w'.heap.size=w.heap.size→K (a.put o.dst undef) w'):o.wp P a w K Q:=
 wp_store_row ty x y ho g cells hx hy t old hg hi hold h1 (h _ (setRow_heap _ _ _ _ _ _ hg) (Keep.setRow (S:=(· = g)) (Keep.refl _ _) (.inl rfl) _) (setRow_size _ _ _))
def lfC (i t:Int) (m:Nat) (s:SlV):Array Value:=#[.int .i64 i,.int .i64 t,.int .u64 (uw0 m),.int .u64 (uw1 m),.int .u64 (uw2 m),.int .u64 (uw3 m),slV s]
def lfZ:Array Value:=#[.int .i64 0,.int .i64 0,.int .u64 0,.int .u64 0,.int .u64 0,.int .u64 0,.slice none 0 0]
theorem Tryz.zeroLf (w:World):(zeroValue 72).run Tryz.prog w = .ok (.agg lfZ) w:=by kernel_rfl
theorem Tryz.sizeLf:(Tryz.prog.info? 72).map (·.size)=some 7:=by kernel_rfl
theorem e0p (i t:Int) (m:Nat) (s:SlV):(lfC i t m s).all (·.oneCell')=true:=by simp [lfC,slV,Value.oneCell']
theorem g0D {l:List (List UInt8)} {k:Int} {i:Nat} (hk:k=1∨k=2) (h1:l≠[]) (h2:l.length≤1024) (hi:i < l.length):proofE k l i=0∧proofV k l i=proofF k l i:=by
 have h0:l.length≠0:=fun e=>h1 (List.eq_nil_of_length_eq_zero e)
 have hw:whyF k l.length=0:=by unfold whyF;rw [if_pos hk,if_neg h0,if_neg (by omega)]
 have hE:proofE k l i=0:=by unfold proofE;rw [if_pos hw,if_neg (by omega)]
 exact ⟨hE,by unfold proofV;rw [if_pos hE,Int.toNat_natCast]⟩
def OpenRet (w:World) (t:Int) (rows:List LRow) (e:Ending) (w':World):Prop:=Below w.heap.size w w' ∧
 ((fidx (fun r=>decide (r.t=t)) rows = -1∧e = .returned (.tuple #[.agg lfZ,.bool false])) ∨
 ∃ (i:Nat) (r:LRow) (s:SlV),fidx (fun r=>decide (r.t=t)) rows=i∧rows[i]? = some r∧e = .returned (.tuple #[.agg (lfC i t r.m s),.bool true])∧Own w' w.heap.size 27 hE 32 (slV s) (proofF 2 (leavesG rows) i))
theorem m0A (p:LRow→Bool) (l:List LRow):fidx p l = -1∨∃ i:Nat,i < l.length∧fidx p l=i:=by
 unfold fidx
 cases h:l.findIdx? p with
 | none=>exact .inl rfl
 | some i=>obtain ⟨hi,_⟩:=List.findIdx?_eq_some_iff_getElem.1 h;exact .inr ⟨i,hi,rfl⟩
theorem Rd.amtAt {w:World} {b off n cap:Nat} {l:List LRow} (h:Rd w rowE 6 (.slice (some ⟨b,off,none⟩) n cap) l) {i:Nat} (hi:i < l.length):w.rangeAt b (off+i*6+2) [.int .u64 (uw0 l[i].m),.int .u64 (uw1 l[i].m),.int .u64 (uw2 l[i].m),.int .u64 (uw3 l[i].m)]:=by
 obtain ⟨b',off',he,_,_,_,c2,c3,c4,c5⟩:=h.six i hi
 cases he
 intro j v hj
 match j,hj with
 | 0,hj=>cases hj;exact c2
 | 1,hj=>cases hj;exact c3
 | 2,hj=>cases hj;exact c4
 | 3,hj=>cases hj;exact c5
 | j+4,hj=>simp at hj
theorem n0x (w:World) (x t:Int) (ga:Option Addr) (gn gc:Nat) (rows:List LRow) (hr:Rd w rowE 6 (.slice ga gn gc) rows) (hok:∀ r∈rows,ROk r) (hlen:gn≤1024) (hne:rows≠[]) :
  Calls Tryz.prog 78 #[.agg #[.int .i64 x,.slice ga gn gc],.int .i64 t] w (OpenRet w t rows):=by
 have hn:=hr.size;obtain ⟨b,off,rfl⟩:∃ b off,ga=some ⟨b,off,none⟩:=by obtain ⟨b,off,h,_⟩:=hr.six 0 (List.length_pos_iff.2 hne);exact ⟨b,off,h⟩
 have HR:=hh hr;have HOK:=hh hok;have HN:=hh hn;have HNE:=hh hne;have HL:=hh hlen;have hl9:gn < 1000000:=by omega
 clear hr hok hn hne hlen
 go_enter Tryz.func78,Tryz.ntmps78
 go_wp2_with (refine sA _ Tryz.zeroLf ?_)
 obtain ⟨w1,hw1⟩:=nm (w.alloc (.cells #[.int .i64 x,.slice (some ⟨b,off,none⟩) gn gc] 144));rw [← hw1];obtain ⟨w2,hw2⟩:=nm (w1.alloc (.cells #[.int .i64 t] 3));rw [← hw2];obtain ⟨P,hP⟩:=nm (w.heap.size);rw [← hP];obtain ⟨A,hA⟩:=nm (P+1);rw [← hA];have hs1:w1.heap.size=P+1:=by rw [hw1,hP];exact Array.size_push _
 have hb1:Below w.heap.size w w1:=by rw [hw1];exact (Below.refl _ _).alloc (Nat.le_refl _) _
 have hb2:Below w1.heap.size w1 w2:=by rw [hw2];exact (Below.refl _ _).alloc (Nat.le_refl _) _
 have hP1:w1.heap[P]? = some (.cells #[.int .i64 x,.slice (some ⟨b,off,none⟩) gn gc] 144 (0,0)):=by rw [hw1,hP];exact heap_alloc_new _ _
 have hA2:w2.heap[A]? = some (.cells #[.int .i64 t] 3 (0,0)):=by rw [hw2,hA,← hs1];exact heap_alloc_new _ _
 intro R w3 hR;have HP3:=hh (a0c hR.out.below (a0c hb2 hP1));have HA3:=hh (a0c hR.out.below hA2);have HR3:=hh hR.out.cells;have HB3:=hh ((hb1.trans (hb2.mono hb1.size)).trans (hR.out.below.mono (hb1.trans (hb2.mono hb1.size)).size));have WR:=hh (show w.heap.size≤R by have:=hR.out.eq;have:=hb2.size;omega);clear hw1 hw2 hP hA hs1 hb1 hb2 hP1 hA2 hR;have cP:w3.cell? ⟨P,1,none⟩=some (.slice (some ⟨b,off,none⟩) gn gc):=Lib.cell_of_heap HP3.out 1;go_wp2_with fail;refine (q0N w3 A (fun r=>decide (r.t=t)) _ rows (HR.out.later HB3.out) (by have:=HN.out;omega) (fun W hb x _=>o0o t A x W (a0c hb HA3.out))).mono ?_;rintro e w4 ⟨rfl,hb4⟩;have HP4:=hh (a0c hb4 HP3.out);have HA4:=hh (a0c hb4 HA3.out);have HR4:=hh (a0c hb4 HR3.out);have HB4:=bT HB3 hb4;clear hb4 HP3 HA3 HR3 HB3 cP;have hcase:=m0A (fun r=>decide (r.t=t)) rows;obtain ⟨q,hq⟩:=nm (fidx (fun r=>decide (r.t=t)) rows);rw [← hq] at hcase ⊢;have HQ:=hh hq;clear hq
 rcases hcase with rfl | ⟨i,hi,rfl⟩
 ·go_wp2_with (refine a0a (t:=72) (old:=lfZ) rfl 72 _ _ rfl R lfZ rfl rfl HR4.out Tryz.sizeLf rfl (by simp [lfZ,Value.oneCell']) ?_)
  intro w5 h5 k5 z5;have H5:=hh h5;have H6:=hh (k5.onto HB4.out (Nat.le_refl _) WR.out);clear h5 k5 z5;go_wp2_with fail
  exact bodyPost_ret (a0l rfl _ _ R _ lfZ _ _ rfl H5.out Tryz.underlying72 rfl Tryz.sizeLf _ rfl) rfl ⟨H6.out,.inl ⟨HQ.out.symm,rfl⟩⟩
 ·have HI:=hh hi;have hig:i < gn:=by have:=HN.out;omega
  clear hi;have cP:w4.cell? ⟨P,1,none⟩=some (.slice (some ⟨b,off,none⟩) gn gc):=Lib.cell_of_heap HP4.out 1;have cP0:w4.cell? ⟨P,0,none⟩=some (.int .i64 x):=Lib.cell_of_heap HP4.out 0;go_wp2_with fail;refine (e0E w4 x (some ⟨b,off,none⟩) gn gc rows (HR.out.later HB4.out) HOK.out (by have:=HL.out;omega)).mono ?_;rintro e w5 ⟨v5,rfl,htx,hb5⟩;have HTX:=hh htx;have HP5:=hh (a0c hb5 HP4.out);have HA5:=hh (a0c hb5 HA4.out);have HR5:=hh (a0c hb5 HR4.out);have HB5:=bT HB4 hb5;clear htx hb5 HP4 HA4 HR4 HB4 cP cP0;go_wp2_with fail;refine (h0o 2 i (leavesG rows) v5 w5 HTX.out (d0u HOK.out)).mono ?_;have hpv:=g0D (k:=2) (i:=i) (l:=leavesG rows) (.inr rfl) (by intro h;have:=congrArg List.length h;rw [a0D] at this;exact HNE.out (List.eq_nil_of_length_eq_zero this)) (by rw [a0D];have:=HN.out;have:=HL.out;omega) (by rw [a0D];exact HI.out);rw [hpv.1,hpv.2];rintro e w6 ⟨v6,rfl,hown,hb6⟩;clear hpv;have hrd:=hown.rd (fun x=>by simp [hE]);obtain ⟨ad6,cap6,rfl,_,_⟩:=hrd.shape;obtain ⟨k6,hk6⟩:=nm ((proofF 2 (leavesG rows) i).length);rw [← hk6] at hrd ⊢;clear hrd;rw [← hk6] at hown;have HNR:=hh (show ∀ k,(slV (ad6,k6,cap6)).ownBlock=some k→¬ k=R from fun k e he=>by have:=(hown.lt k e).1;have:=a0b HR5.out;omega)
  have HPR:=hh (show Own w6 w.heap.size 27 hE 32 (slV (ad6,k6,cap6)) (proofF 2 (leavesG rows) i) from hown.mono HB5.out.size);have HP6:=hh (a0c hb6 HP5.out);have HA6:=hh (a0c hb6 HA5.out);have HR6:=hh (a0c hb6 HR5.out);have HB6:=bT HB5 hb6;clear hown hb6 hk6 HP5 HA5 HR5 HB5 HTX;have HRi:=hh (show ∀ W,Below w.heap.size w W→W.rangeAt b (off+i*6+2) [.int .u64 (uw0 rows[i].m),.int .u64 (uw1 rows[i].m),.int .u64 (uw2 rows[i].m),.int .u64 (uw3 rows[i].m)] from fun W h=>(HR.out.later h).amtAt HI.out);have HRG:=hh (show rows[i]? = some rows[i] from List.getElem?_eq_getElem HI.out);obtain ⟨r,hrr⟩:=nm (rows[i]);rw [← hrr] at HRi HRG;clear hrr
  go_upto_region 5 with fail
  have WRA:=hh (show A≠R∧P≠R from ⟨fun e=>(by have h1:=HA6.out;have h2:=HR6.out;rw [e,h2] at h1;cases h1),fun e=>(by have h1:=HP6.out;have h2:=HR6.out;rw [e,h2] at h1;cases h1)⟩);obtain ⟨wz,hwz,hbz⟩:=dr w6;have HBz:=bT HB6 hbz;have hS:=And.intro (a0c hbz HA6.out) (And.intro (a0c hbz HP6.out) (And.intro (HRi.out wz HBz.out) (show ∃ cs,wz.heap[R]? = some (.cells cs 72 (0,0))∧cs.size=7 from ⟨_,a0c hbz HR6.out,rfl⟩)));have HPRz:=hh (HPR.out.later hbz);clear hbz HP6 HA6 HR6 HB6;refine rg (fun w'=>w'.heap[A]? = some (.cells #[.int .i64 t] 3 (0,0))∧w'.heap[P]? = some (.cells #[.int .i64 x,.slice (some ⟨b,off,none⟩) gn gc] 144 (0,0))∧w'.rangeAt b (off+i*6+2) [.int .u64 (uw0 r.m),.int .u64 (uw1 r.m),.int .u64 (uw2 r.m),.int .u64 (uw3 r.m)]∧∃ cs,w'.heap[R]? = some (.cells cs 72 (0,0))∧cs.size=7) 12 12 hwz hS ?_;clear hwz;refine tA1 0 23 hS ?_;go_frame;refine tk 1 (some 24) rfl rfl (.inl ⟨by rfl,fun w' hS'=>(by have hc:w'.cell? ⟨A,0,none⟩=some (.int .i64 t):=Lib.cell_of_heap hS'.1 0;go_simp;rfl)⟩) hS ?_;go_frame;refine tA1 2 25 hS ?_;go_frame;refine tk 3 (some 26) rfl rfl (.inl ⟨by rfl,fun w' hS'=>(by have hc:w'.cell? ⟨P,1,none⟩=some (.slice (some ⟨b,off,none⟩) gn gc):=Lib.cell_of_heap hS'.2.1 1;go_simp;rfl)⟩) hS ?_;go_frame;refine tA1 4 27 hS ?_;go_frame;refine tA1 5 28 hS ?_;go_frame
  refine tA1 6 29 hS ?_;go_frame;refine tk 7 (some 30) rfl rfl (yieldsIf_load_mid (by rfl) 25 _ rfl b (off+i*6+2) rfl [.int .u64 (uw0 r.m),.int .u64 (uw1 r.m),.int .u64 (uw2 r.m),.int .u64 (uw3 r.m)] _ (fun w' hS'=>hS'.2.2.1) Tryz.underlying25 rfl Tryz.sizeU) hS ?_;go_frame;refine tA1 8 31 hS ?_;go_frame;refine tA1 9 32 hS ?_;go_frame;refine t1 10 fun K hK=>?_
  simp only [gA,jB,gC];obtain ⟨cs,hcs,hcz⟩:=hS.2.2.2;refine g0K (t:=72) (old:=cs) 72 _ _ rfl R (lfC i t r.m (ad6,k6,cap6)) rfl rfl hcs Tryz.sizeLf hcz (e0p _ _ _ _) ?_;intro w8 hx8 k8 _;have HX8:=hh hx8;have HB8:=hh (k8.onto HBz.out (Nat.le_refl _) WR.out);have HPR8:=hh (HPRz.out.keep k8 HNR.out);have hS8:=And.intro (k8.at hS.1 WRA.out.1) (And.intro (k8.at hS.2.1 WRA.out.2) (And.intro (HRi.out w8 HB8.out) (show ∃ cs,w8.heap[R]? = some (.cells cs 72 (0,0))∧cs.size=7 from ⟨_,hx8,rfl⟩)));refine hK _ _ (fun _ _=>hS8) ?_;clear hK hS hx8 k8 HBz HPRz hcs hcz;have hS:=hS8;clear hS8;refine tA1 11 5 hS ?_;go_frame;refine tD ?_;have H8:=HX8;go_wp2_with fail
  exact bodyPost_ret (a0l rfl _ _ R _ (lfC i t r.m (ad6,k6,cap6)) _ _ rfl HX8.out Tryz.underlying72 rfl Tryz.sizeLf _ rfl) rfl ⟨HB8.out,.inr ⟨i,r,(ad6,k6,cap6),HQ.out.symm,HRG.out,rfl,HPR8.out⟩⟩
end
section
open Go.RowKit

theorem d0w {P:Program} {ops:Array Oper} {rest:List Oper} {o:Oper} {a:Act} {w:World} {Q:Exit→Act→World→Prop} (hgd:o.guard=none) (ty:TypeId) (x y:Operand) (ho:o.op = .store ty x y)
  (g off:Nat) (cells:Array Value) (hx:a.eval x = .pointer (some ⟨g,off,none⟩)) (hy:a.eval y = .agg cells)
  (t:TypeId) (cur:Array Value) (hg:w.heap[g]? = some (.cells cur t (0,0))) (hi:(P.info? ty).map (·.size)=some cells.size)
  (hfit:off+cells.size≤cur.size) (h1:cells.all (·.oneCell')=true) (new:Array Value) (hnew:(cur.toList.take off ++ cells.toList ++ cur.toList.drop (off+cells.size)).toArray=new)
  (h:∀ w',w'.heap[g]? = some (.cells new t (0,0))→Keep (· = g) w w'→w'.heap.size=w.heap.size→wpList P ops Q rest (a.put o.dst undef) w'):wpList P ops Q (o :: rest) a w:=by
 refine wpList_plain hgd fun K hK=>?_
 have hst:=run_storeCells_at P g off t cells.toList 0 cur w hg (by simpa using hfit) (fun v hv=>(Array.all_eq_true_iff_forall_mem.1 h1) v (by simpa using hv));have hrun:(storeVar ty ⟨g,off,none⟩ (.agg cells)).run P w = .ok () (w.setRow g new):=by
  cases hq:P.info? ty with
  | none=>simp [hq] at hi
  | some i=>
   have hs:cells.size=i.size:=by simp [hq] at hi;omega
   simp only [Nat.add_zero] at hst;rw [show cells.toList.length=cells.size by simp,hnew] at hst
   simp [storeVar,sizeOf,typeInfo,hq,Value.cells,hs,hst]
 unfold Oper.wp execOp
 simp only [ho,hx,hy,Instr.storeAt,Instr.sureAddr,Sem.run_bind,Sem.run_pure,Result.andThen_ok,hrun]
 exact hK _ _ (h _ (setRow_heap _ _ _ _ _ _ hg) (Keep.setRow (S:=(· = g)) (Keep.refl _ _) (.inl rfl) _) (setRow_size _ _ _))
def clC (rt ix e:Int) (h:List UInt8) (p lv:SlV) (to:Int):Array Value:=(([Value.int .i64 rt,.int .i64 ix,.int .i64 e]:List Value) ++ h.map byteV ++ [slV p,slV lv,.int .i64 to]).toArray
theorem c0x (rt ix e:Int) {h:List UInt8} (hhq:h.length=32) (p lv:SlV) (to:Int):(clC rt ix e h p lv to).size=38:=by simp [clC,hhq]
theorem clC_0 (rt ix e:Int) (h:List UInt8) (p lv:SlV) (to:Int):(clC rt ix e h p lv to)[0]? = some (.int .i64 rt):=by simp [clC]
theorem clC_1 (rt ix e:Int) (h:List UInt8) (p lv:SlV) (to:Int):(clC rt ix e h p lv to)[1]? = some (.int .i64 ix):=by simp [clC]
theorem clC_2 (rt ix e:Int) (h:List UInt8) (p lv:SlV) (to:Int):(clC rt ix e h p lv to)[2]? = some (.int .i64 e):=by simp [clC]
theorem l0P (rt ix e:Int) {h:List UInt8} (hhq:h.length=32) (p lv:SlV) (to:Int):(clC rt ix e h p lv to)[35]? = some (slV p):=by
 unfold clC
 rw [List.getElem?_toArray,List.getElem?_append_right (by simp [hhq])];simp [hhq]
theorem f0M (rt ix e:Int) {h:List UInt8} (hhq:h.length=32) (p lv:SlV) (to:Int):(clC rt ix e h p lv to)[36]? = some (slV lv):=by
 unfold clC
 rw [List.getElem?_toArray,List.getElem?_append_right (by simp [hhq])];simp [hhq]
theorem r0S (rt ix e:Int) {h:List UInt8} (hhq:h.length=32) (p lv:SlV) (to:Int):(clC rt ix e h p lv to)[37]? = some (.int .i64 to):=by
 unfold clC
 rw [List.getElem?_toArray,List.getElem?_append_right (by simp [hhq])];simp [hhq]
theorem p0o (rt ix e:Int) {h:List UInt8} (p lv:SlV) (to:Int):((clC rt ix e h p lv to).toList.drop 3).take (h.map byteV).length=h.map byteV:=by
 unfold clC
 rw [List.toList_toArray,List.append_assoc,List.drop_left' (by rfl),List.take_left]
theorem r0p (rt ix e:Int) {h h':List UInt8} (hhq:h.length=32) (hhq':h'.length=32) (p lv:SlV) (to:Int):((clC rt ix e h p lv to).toList.take 3 ++ (c8 h').toList ++ (clC rt ix e h p lv to).toList.drop (3+(c8 h').size)).toArray=clC rt ix e h' p lv to:=by
 have h1:(c8 h').size=32:=by rw [a0m,hhq']
 rw [h1]
 unfold clC c8
 rw [List.toList_toArray,List.toList_toArray,List.drop_append_of_le_length (by simp [hhq]),List.append_assoc,List.append_assoc,List.take_left' (by rfl)];rw [List.drop_eq_nil_of_le (by simp [hhq])]
 simp
theorem n0E (rt ix e:Int) {h:List UInt8} (hhq:h.length=32) (p p' lv:SlV) (to:Int):(clC rt ix e h p lv to).setIfInBounds 35 (slV p')=clC rt ix e h p' lv to:=by
 unfold clC
 rw [List.setIfInBounds_toArray,List.set_append_right _ _ (by simp [hhq])]
 simp [hhq]
theorem m0N (rt ix e:Int) {h:List UInt8} (hhq:h.length=32) (p lv lv':SlV) (to:Int):(clC rt ix e h p lv to).setIfInBounds 36 (slV lv')=clC rt ix e h p lv' to:=by
 unfold clC
 rw [List.setIfInBounds_toArray,List.set_append_right _ _ (by simp [hhq])]
 simp [hhq]
theorem c0n (rt ix e:Int) (h:List UInt8) (p lv:SlV) (to:Int):(clC rt ix e h p lv to).all (·.oneCell')=true:=by
 rw [Array.all_eq_true'];intro x hx;simp only [clC,List.mem_toArray,List.mem_append,List.mem_map,List.mem_cons,List.not_mem_nil,or_false] at hx
 rcases hx with ((rfl | rfl | rfl) | ⟨y,_,rfl⟩) | (rfl | rfl | rfl)<;>rfl
abbrev nilS:SlV:=(none,0,0)
def clZ:Array Value:=clC 0 0 0 zero32 nilS nilS 0
theorem Tryz.zeroCl (w:World):(zeroValue 31).run Tryz.prog w = .ok (.agg clZ) w:=by kernel_rfl
theorem Tryz.sizeCl (rt ix e:Int) {h:List UInt8} (hhq:h.length=32) (p lv:SlV) (to:Int):(Tryz.prog.info? 31).map (·.size)=some (clC rt ix e h p lv to).size:=by rw [c0x _ _ _ hhq];kernel_rfl

structure CLf where
 i:Int
 t:Int
 m:Nat
 p:List (List UInt8)
structure CCl where
 root:Int
 idx:Int
 e:Int
 h:List UInt8
 p:List (List UInt8)
 lv:List CLf
 to:Int
def lfE (x:CLf × SlV):List Value:=(lfC x.1.i x.1.t x.1.m x.2).toList
theorem f0D (x:CLf × SlV):(lfE x).length=7:=rfl
theorem s0r (x:CLf × SlV):∀ u∈lfE x,u.oneCell'=true:=by
 intro u hu;have:=e0p x.1.i x.1.t x.1.m x.2;rw [Array.all_eq_true'] at this
 exact this u (by simpa [lfE] using hu)
def LvRd (w:World) (lv:SlV) (l:List CLf):Prop:=∃ xs:List (CLf × SlV),xs.map (·.1)=l∧Rd w lfE 7 (slV lv) xs∧∀ x∈xs,Rd w hE 32 (slV x.2) x.1.p
def ClAt (w:World) (v:Value) (c:CCl):Prop:=∃ p lv:SlV,v = .agg (clC c.root c.idx c.e c.h p lv c.to)∧Rd w hE 32 (slV p) c.p∧LvRd w lv c.lv
theorem LvRd.later {w w':World} {lv:SlV} {l:List CLf} (h:LvRd w lv l) (hb:Below w.heap.size w w'):LvRd w' lv l:=by
 obtain ⟨xs,h1,h2,h3⟩:=h
 exact ⟨xs,h1,h2.later hb,fun x hx=>(h3 x hx).later hb⟩
theorem ClAt.later {w w':World} {v:Value} {c:CCl} (h:ClAt w v c) (hb:Below w.heap.size w w'):ClAt w' v c:=by
 obtain ⟨p,lv,h1,h2,h3⟩:=h
 exact ⟨p,lv,h1,h2.later hb,h3.later hb⟩
def OLf (w:World) (B:Nat) (lv:SlV) (xs:List (CLf × SlV)):Prop:=Own w B 72 lfE 7 (slV lv) xs∧∀ x∈xs,Own w 0 27 hE 32 (slV x.2) x.1.p
theorem OLf.nil (w:World) (B:Nat):OLf w B nilS []:=⟨Own.nil _ _ _ _ _,fun x h=>by simp at h⟩
theorem OLf.later {w w':World} {B:Nat} {lv:SlV} {xs:List (CLf × SlV)} (h:OLf w B lv xs) (hb:Below w.heap.size w w'):OLf w' B lv xs:=⟨h.1.later hb,fun x hx=>(h.2 x hx).later hb⟩
theorem OLf.keep {w w':World} {B:Nat} {lv:SlV} {xs:List (CLf × SlV)} (h:OLf w B lv xs) {S:Nat→Prop} (k:Keep S w w') (hS:∀ x,S x→∃ cs T fr,w.heap[x]? = some (.cells cs T fr)∧T≠72∧T≠27):OLf w' B lv xs:=by
 refine ⟨h.1.keep k fun x hx hs=>?_,fun y hy=>(h.2 y hy).keep k fun x hx hs=>?_⟩
 ·obtain ⟨cs,T,fr,e,h2,_⟩:=hS x hs;obtain ⟨cs',fr',e'⟩:=h.1.cellsAt hx;rw [e] at e';cases e';exact h2 rfl
 ·obtain ⟨cs,T,fr,e,_,h3⟩:=hS x hs;obtain ⟨cs',fr',e'⟩:=(h.2 y hy).cellsAt hx;rw [e] at e';cases e';exact h3 rfl
theorem OLf.snoc {w w':World} {B:Nat} {lv lv':SlV} {xs:List (CLf × SlV)} {x:CLf × SlV} (h:OLf w B lv xs) (hx:Own w 0 27 hE 32 (slV x.2) x.1.p) (hg:w.grownBy w' (slV lv).ownBlock) (ho:Own w' B 72 lfE 7 (slV lv') (xs ++ [x])):OLf w' B lv' (xs ++ [x]):=by
 have hap:∀ k,(slV lv).ownBlock=some k→∃ cs T fr,w.heap[k]? = some (.cells cs T fr)∧T≠27:=fun k hk=>by
  obtain ⟨cs,fr,e⟩:=h.1.cellsAt hk
  exact ⟨cs,_,fr,e,by decide⟩
 refine ⟨ho,fun y hy=>?_⟩
 rcases List.mem_append.1 hy with hy | hy
 ·exact (h.2 y hy).grow_apart hg hap
 ·obtain rfl:y=x:=by simpa using hy
  exact hx.grow_apart hg hap
theorem OLf.rd {w:World} {B:Nat} {lv:SlV} {xs:List (CLf × SlV)} (h:OLf w B lv xs):LvRd w lv (xs.map (·.1)):=⟨xs,rfl,h.1.rd f0D,fun x hx=>(h.2 x hx).rd b0U⟩
theorem s0O (w:World) (x:CLf × SlV) (e:TypeId):Rd (w.alloc (.cells (lfC x.1.i x.1.t x.1.m x.2) e)) lfE 7 (.slice (some ⟨w.heap.size,0,none⟩) 1 1) [x]:=by
 refine ⟨_,_,rfl,Nat.le_refl _,by unfold maxLen;omega,fun _=>⟨_,_,rfl,by simp,fun i hi j hj=>?_⟩⟩;obtain rfl:i=0:=by simpa using hi
 rw [Lib.cell_of_heap (heap_alloc_new w _)]
 simp [lfE]

def open1 (rows:List LRow) (t:Int):Option CLf:=match rows.findIdx? (fun r=>decide (r.t=t)) with
 | none=>none
 | some i=>match rows[i]? with
  | some r=>some ⟨i,t,r.m,proofF 2 (leavesG rows) i⟩
  | none=>none
def openAll (rows:List LRow):List Int→Option (List CLf)
 | []=>some []
 | t :: ts=>match open1 rows t,openAll rows ts with
  | some x,some xs=>some (x :: xs)
  | _,_=>none
theorem q0X {rows:List LRow} {t:Int} (h:fidx (fun r=>decide (r.t=t)) rows = -1):open1 rows t=none:=by
 unfold fidx at h;unfold open1
 cases hq:rows.findIdx? (fun r=>decide (r.t=t)) with
 | none=>rfl
 | some i=>rw [hq] at h;simp only [] at h;omega
theorem p0p {rows:List LRow} {t:Int} {i:Nat} {r:LRow} (h:fidx (fun r=>decide (r.t=t)) rows=i) (hr:rows[i]? = some r):open1 rows t=some ⟨i,t,r.m,proofF 2 (leavesG rows) i⟩:=by
 unfold fidx at h;unfold open1
 cases hq:rows.findIdx? (fun r=>decide (r.t=t)) with
 | none=>rw [hq] at h;simp only [] at h;omega
 | some j=>
       rw [hq] at h;simp only [] at h;obtain rfl:j=i:=by omega
       simp only [hr]
theorem i0L {rows:List LRow} {ts:List Int} {xs:List CLf} (t:Int) (h:openAll rows ts=some xs):openAll rows (ts ++ [t])=(open1 rows t).map fun x=>xs ++ [x]:=by
 induction ts generalizing xs with
 | nil=>cases h;rw [List.nil_append];unfold openAll;cases open1 rows t<;>simp [openAll]
 | cons a ts ih=>
  rw [List.cons_append]
  unfold openAll at h ⊢
  cases ha:open1 rows a with
  | none=>rw [ha] at h;cases h
  | some x=>
   cases hs:openAll rows ts with
   | none=>rw [ha,hs] at h;cases h
   | some ys=>
    rw [ha,hs] at h;cases h;rw [ih hs]
    cases open1 rows t<;>rfl
theorem j0h {rows:List LRow} {ts us:List Int} (h:openAll rows ts=none):openAll rows (ts ++ us)=none:=by
 induction ts with
 | nil=>cases h
 | cons a ts ih=>
  rw [List.cons_append]
  unfold openAll at h ⊢
  cases ha:open1 rows a with
  | none=>rfl
  | some x=>
   cases hs:openAll rows ts with
   | none=>rw [ih hs]
   | some ys=>rw [ha,hs] at h;cases h
def claimR (l:List LRow) (e:Int) (ts:List Int):Except Int CCl:=match sortedF l with
 | none=>.error 2
 | some s=>if ts.length=0∨8 < ts.length then .error 2 else match (groupsF s).findIdx? (fun g=>decide (g.1=e)) with
  | none=>.error 8
  | some q=>match (groupsF s)[q]? with
   | none=>.error 8
   | some g=>match openAll g.2 ts with
    | none=>.error 8
    | some lv=>.ok ⟨0,q,e,rootF 2 (leavesG g.2),proofF 1 (tableL s) q,lv,e⟩
end
section
open Go.RowKit

theorem Rd.i64 {w:World} {ad:Option Addr} {n cap:Nat} {l:List Int} (h:Rd w intE 1 (.slice ad n cap) l) (i:Nat) (hi:i < l.length):∃ b off,ad=some ⟨b,off,none⟩∧w.cell? ⟨b,off+i,none⟩=some (.int .i64 l[i]):=by
 obtain ⟨ad',cap',he,_,_,h3⟩:=h
 cases he
 obtain ⟨b,off,rfl,_,hc⟩:=h3 (by intro hl;subst hl;simp at hi);have:=hc i hi 0 (by omega);simp only [Nat.mul_one,Nat.add_zero] at this
 exact ⟨b,off,rfl,this⟩
theorem Tryz.infoLf:(Tryz.prog.info? 72).map (fun i=>(i.zero,i.size,i.bytes))=some (some (.agg lfZ),7,72):=by kernel_rfl
theorem Tryz.sizeHashes:(Tryz.prog.info? 28).map (·.size)=some 1:=by kernel_rfl
theorem Tryz.sizeLeaves:(Tryz.prog.info? 29).map (·.size)=some 1:=by kernel_rfl
theorem GPair.fidx {w:World} {b:Option Nat} {raws:List (Int × SlV)} {gs:List (Int × List LRow)} (h:GPair w b raws gs) (e:Int):Go.Proofs.YtakkfabaeolbdaaGreat.fidx (fun g:Int × SlV=>decide (g.1=e)) raws=Go.Proofs.YtakkfabaeolbdaaGreat.fidx (fun g:Int × List LRow=>decide (g.1=e)) gs:=by
 have hm:raws.map (·.1)=gs.map (·.1):=by
  apply List.ext_getElem?
  intro i;rw [List.getElem?_map,List.getElem?_map]
  rcases Nat.lt_or_ge i raws.length with hi | hi
  ·have hi2:i < gs.length:=by rw [← h.1];exact hi
   have:=(h.2.1 i _ _ (List.getElem?_eq_getElem hi) (List.getElem?_eq_getElem hi2)).1;rw [List.getElem?_eq_getElem hi,List.getElem?_eq_getElem hi2]
   simp [this]
  ·rw [List.getElem?_eq_none hi,List.getElem?_eq_none (by rw [← h.1];exact hi)];rfl
 have h1:raws.findIdx? (fun g=>decide (g.1=e))=(raws.map (·.1)).findIdx? (fun x=>decide (x=e)):=by rw [List.findIdx?_map];rfl
 have h2:gs.findIdx? (fun g=>decide (g.1=e))=(gs.map (·.1)).findIdx? (fun x=>decide (x=e)):=by rw [List.findIdx?_map];rfl
 unfold Go.Proofs.YtakkfabaeolbdaaGreat.fidx
 rw [h1,h2,hm]
theorem k0b {l:List LRow} (e:Int) (ts:List Int) (h:sortedF l=none):claimR l e ts = .error 2:=by unfold claimR;rw [h]
theorem g0L {l s:List LRow} (e:Int) {ts:List Int} (h:sortedF l=some s) (h2:ts.length=0∨8 < ts.length):claimR l e ts = .error 2:=by unfold claimR;rw [h];simp only [];rw [if_pos h2]
theorem o0z {l s:List LRow} {e:Int} {ts:List Int} (h:sortedF l=some s) (h2:¬ (ts.length=0∨8 < ts.length)) (h3:fidx (fun g:Int × List LRow=>decide (g.1=e)) (groupsF s) = -1):claimR l e ts = .error 8:=by
 unfold claimR;rw [h];simp only [];rw [if_neg h2]
 unfold fidx at h3
 cases hq:(groupsF s).findIdx? (fun g=>decide (g.1=e)) with
 | none=>rfl
 | some i=>rw [hq] at h3;simp only [] at h3;omega
theorem n0Q {l s:List LRow} {e:Int} {ts:List Int} (h:sortedF l=some s) (h2:¬ (ts.length=0∨8 < ts.length)) {q:Nat} {g:Int × List LRow} (h3:fidx (fun g:Int × List LRow=>decide (g.1=e)) (groupsF s)=q) (h4:(groupsF s)[q]? = some g):claimR l e ts=match openAll g.2 ts with
  | none=>.error 8
  | some lv=>.ok ⟨0,q,e,rootF 2 (leavesG g.2),proofF 1 (tableL s) q,lv,e⟩:=by
 unfold claimR;rw [h];simp only [];rw [if_neg h2]
 unfold fidx at h3
 cases hq:(groupsF s).findIdx? (fun g=>decide (g.1=e)) with
 | none=>rw [hq] at h3;simp only [] at h3;omega
 | some i=>
  rw [hq] at h3;simp only [] at h3;obtain rfl:i=q:=by omega
  simp only [];rw [h4]
  all_goals rfl
theorem r0j {α:Type} (p:α→Bool) (l:List α):fidx p l = -1∨∃ i:Nat,i < l.length∧fidx p l=i:=by
 unfold fidx
 cases h:l.findIdx? p with
 | none=>exact .inl rfl
 | some i=>obtain ⟨hi,_⟩:=List.findIdx?_eq_some_iff_getElem.1 h;exact .inr ⟨i,hi,rfl⟩
end
end Go.Proofs.YtakkfabaeolbdaaGreat
