/- The leaves of a group (code). No condition. Tables: leaf.of, leaf.Root (code). No condition. leaf.Root (code). No condition. -/
import Derived.Test.YtakkfabaeolbdaaGreatCn19
import Derived.Test.YtakkfabaeolbdaaGreatCn16
namespace Go.Proofs.YtakkfabaeolbdaaGreat
section
set_option maxHeartbeats 16000000
set_option maxRecDepth 100000
open Go.RowKit

def stE (s:SlV):List Value:=[slV s]
theorem e0k (s:SlV):(stE s).length=1:=rfl
def OTx (w:World) (B:Nat) (vo:Value) (ss:List SlV) (ls:List (List UInt8)):Prop:=Own w B 122 stE 1 vo ss∧ss.length=ls.length∧∀ (i:Nat) (s:SlV) (l:List UInt8),ss[i]? = some s→ls[i]? = some l→Own w 0 5 u8E 1 (slV s) l
theorem OTx.nil (w:World) (B:Nat):OTx w B (.slice none 0 0) [] []:=⟨Own.nil _ _ _ _ _,rfl,fun i s l h=>by simp at h⟩
theorem OTx.later {w w':World} {B:Nat} {vo:Value} {ss:List SlV} {ls:List (List UInt8)} (h:OTx w B vo ss ls) (hb:Below w.heap.size w w'):OTx w' B vo ss ls:=⟨h.1.later hb,h.2.1,fun i s l h1 h2=>(h.2.2 i s l h1 h2).later hb⟩
theorem OTx.keep {w w':World} {B:Nat} {vo:Value} {ss:List SlV} {ls:List (List UInt8)} (h:OTx w B vo ss ls) {S:Nat→Prop} (k:Keep S w w') (hS:∀ x,S x→∃ cs T fr,w.heap[x]? = some (.cells cs T fr)∧T≠5∧T≠122):OTx w' B vo ss ls:=by
 refine ⟨h.1.keep k fun x hx hs=>?_,h.2.1,fun i s l h1 h2=>(h.2.2 i s l h1 h2).keep k fun x hx hs=>?_⟩
 ·obtain ⟨cs,T,fr,e,_,h2⟩:=hS x hs;obtain ⟨cs',fr',e'⟩:=h.1.cellsAt hx;rw [e] at e';cases e';exact h2 rfl
 ·obtain ⟨cs,T,fr,e,h3,_⟩:=hS x hs;obtain ⟨cs',fr',e'⟩:=(h.2.2 i s l h1 h2).cellsAt hx;rw [e] at e';cases e';exact h3 rfl
theorem Own.grow_apart {α:Type} {w w':World} {B:Nat} {e:TypeId} {enc:α→List Value} {sz:Nat} {v:Value} {l:List α} {row:Option Nat} (h:Own w B e enc sz v l) (hg:w.grownBy w' row) (hr:∀ k,row=some k→∃ cs T fr,w.heap[k]? = some (.cells cs T fr)∧T≠e):Own w' B e enc sz v l:=by
 refine ⟨h.1,?_⟩
 rcases h.2 with h2 | ⟨g,cap,cur,rfl,hB,hhq,r⟩
 ·exact .inl h2
 ·refine .inr ⟨g,cap,cur,rfl,hB,?_,r⟩;rw [hg.block g (a0b hhq) (fun e1=>?_)]
  ·exact hhq
  ·obtain ⟨cs,T,fr,h1,h2⟩:=hr g e1.symm;rw [hhq] at h1;cases h1;exact h2 rfl
theorem OTx.snoc {w w':World} {B:Nat} {vo vo':Value} {ss:List SlV} {ls:List (List UInt8)} {s:SlV} {l:List UInt8} (h:OTx w B vo ss ls) (hs:Own w 0 5 u8E 1 (slV s) l) (hg:w.grownBy w' vo.ownBlock) (ho:Own w' B 122 stE 1 vo' (ss ++ [s])):OTx w' B vo' (ss ++ [s]) (ls ++ [l]):=by
 have hap:∀ k,vo.ownBlock=some k→∃ cs T fr,w.heap[k]? = some (.cells cs T fr)∧T≠5:=fun k hk=>by
  obtain ⟨cs,fr,e⟩:=h.1.cellsAt hk
  exact ⟨cs,_,fr,e,by decide⟩
 refine ⟨ho,by simp [h.2.1],fun i t x h1 h2=>?_⟩
 rcases Nat.lt_or_ge i ss.length with hi | hi
 ·rw [List.getElem?_append_left hi] at h1;rw [List.getElem?_append_left (by rw [← h.2.1];exact hi)] at h2
  exact (h.2.2 i t x h1 h2).grow_apart hg hap
 ·rw [List.getElem?_append_right hi] at h1;rw [List.getElem?_append_right (by rw [← h.2.1];exact hi)] at h2;have h0:i - ss.length=0:=by
   rcases Nat.eq_zero_or_pos (i - ss.length) with h | h
   ·exact h
   ·rw [List.getElem?_eq_none (by simp;omega)] at h1;cases h1
  rw [h0] at h1;rw [← h.2.1,h0] at h2
  simp at h1 h2
  subst h1 h2
  exact hs.grow_apart hg hap
theorem Rd.mapV {w:World} {v:Value} {ss:List SlV} (h:Rd w stE 1 v ss):Rd w slE 1 v (ss.map slV):=by
 obtain ⟨ad,cap,rfl,h1,h2,h3⟩:=h;refine ⟨ad,cap,by rw [List.length_map],by rw [List.length_map];exact h1,h2,fun hne=>?_⟩;obtain ⟨b,off,rfl,hb,hc⟩:=h3 (by intro e;subst e;simp at hne);refine ⟨b,off,rfl,hb,fun i hi j hj=>?_⟩;rw [List.length_map] at hi;rw [hc i hi j hj];simp [stE,slE]
theorem OTx.texts {w:World} {B:Nat} {vo:Value} {ss:List SlV} {ls:List (List UInt8)} (h:OTx w B vo ss ls):Texts w vo ls:=
 ⟨ss.map slV,(h.1.rd e0k).mapV,by rw [List.length_map];exact h.2.1,fun i u l h1 h2=>by
  rw [List.getElem?_map] at h1
  cases hs:ss[i]? with
  | none=>rw [hs] at h1;cases h1
  | some s=>
   rw [hs] at h1;cases h1
   exact (h.2.2 i s l hs h2).rd b0D⟩
def leavesG (rows:List LRow):List (List UInt8):=rows.map fun r=>tokL r.t r.m
def TxRet (w:World) (ls:List (List UInt8)) (e:Ending) (w':World):Prop:=∃ v,e = .returned v∧Texts w' v ls∧Below w.heap.size w w'
theorem j0z (rows:List LRow) (i:Nat) (h:i < rows.length):leavesG (rows.take (i+1))=leavesG (rows.take i) ++ [tokL rows[i].t rows[i].m]:=by
 unfold leavesG;rw [List.take_succ_eq_append_getElem h,List.map_append];rfl
theorem Tryz.infoTx:(Tryz.prog.info? 122).map (fun i=>(i.zero,i.size,i.bytes))=some (some (.slice none 0 0),1,24):=by kernel_rfl
theorem e0E (w:World) (x:Int) (ad:Option Addr) (n cap:Nat) (rows:List LRow) (hr:Rd w rowE 6 (.slice ad n cap) rows) (hok:∀ r∈rows,ROk r) (hlen:n < 1000000) :
  Calls Tryz.prog 76 #[.agg #[.int .i64 x,.slice ad n cap]] w (TxRet w (leavesG rows)):=by
 have hn:=hr.size;have HR:=hh hr;have HOK:=hh hok;have HN:=hh hn;clear hr hok hn
 go_enter Tryz.func76,Tryz.ntmps76
 go_wp2_with fail;obtain ⟨w1,hw1⟩:=nm (w.alloc (.cells #[.int .i64 x,.slice ad n cap] 144));rw [← hw1];have HB1:=hh (show Below w.heap.size w w1 by rw [hw1];exact (Below.refl _ _).alloc (Nat.le_refl _) _);clear hw1
 go_loopw [3,9] (fun vo y wr=>∃ (i:Nat) (ss:List SlV),y = .int .i64 i∧i≤n∧Hid (OTx wr w.heap.size vo ss (leavesG (rows.take i)))∧Hid (ss.length=i)∧Hid (Below w.heap.size w wr)) (fun _ y _=>n - (intOf y).toNat)
 case atStart=>exact ⟨0,[],rfl,by omega,hh (OTx.nil _ _),hh rfl,HB1⟩
 case round=>
  clear HB1;obtain ⟨i,ss,rfl,hin,HO,HSL,HB⟩:=hrel
  by_cases hlt:i < n
  ·have hi:i < rows.length:=by have:=HN.out;omega
   obtain ⟨bb,off,rfl,_,c0,c1,c2,c3,c4,c5⟩:=(HR.out.later HB.out).six i hi;have hrk:=HOK.out _ (List.getElem_mem hi);have htk:=j0z rows i hi;obtain ⟨r,hrr⟩:=nm (rows[i]);rw [← hrr] at c0 c1 c2 c3 c4 c5 hrk htk;have HRK:=hh hrk;have HTK:=hh htk;clear hrk htk hrr hi
   go_wp2_with (refine sA _ Tryz.zeroRow ?_)
   intro X d1 hX
   go_wp2_with (refine a0a (t:=63) (old:=#[.int .i64 0,.int .i64 0,.int .u64 0,.int .u64 0,.int .u64 0,.int .u64 0]) rfl 63 _ _ rfl X #[.int .i64 r.e,.int .i64 r.t,.int .u64 (uw0 r.m),.int .u64 (uw1 r.m),.int .u64 (uw2 r.m),.int .u64 (uw3 r.m)] rfl rfl hX.out.cells Tryz.sizeRow rfl (p0d r) ?_)
   intro d2 hxX kX zX;clear zX;have hbX:Below wr.heap.size wr d2:=hX.out.below.trans (kX.below (B:=wr.heap.size) (fun x hx e=>by have:=hX.out.eq;omega) hX.out.below.size);have HO2:=hh (HO.out.later hbX);have HB2:=bT HB hbX;have q1:d2.cell? ⟨X,1,none⟩=some (.int .i64 r.t):=Lib.cell_of_heap hxX 1;have q2:d2.cell? ⟨X,2,none⟩=some (.int .u64 (uw0 r.m)):=Lib.cell_of_heap hxX 2;have q3:d2.cell? ⟨X,3,none⟩=some (.int .u64 (uw1 r.m)):=Lib.cell_of_heap hxX 3;have q4:d2.cell? ⟨X,4,none⟩=some (.int .u64 (uw2 r.m)):=Lib.cell_of_heap hxX 4;have q5:d2.cell? ⟨X,5,none⟩=some (.int .u64 (uw3 r.m)):=Lib.cell_of_heap hxX 5;clear hX hxX kX hbX HO HB c0 c1 c2 c3 c4 c5;go_wp2_with fail;refine (n0L d2 r.t HRK.out.1.2.2 (uw_is HRK.out.2)).mono ?_;rintro e w3 ⟨v3,rfl,ho3,hb3⟩;obtain ⟨ad3,cap3,rfl,_,_⟩:=(ho3.rd b0D).shape;obtain ⟨k3,hk3⟩:=nm ((tokL r.t r.m).length);rw [← hk3] at ho3 ⊢;have HT3:=hh (show Own w3 0 5 u8E 1 (slV (ad3,k3,cap3)) (tokL r.t r.m) from ho3.mono (Nat.zero_le _));have HO3:=hh (HO2.out.later hb3);have HB3:=bT HB2 hb3;clear ho3 hb3 hk3 HO2 HB2 q1 q2 q3 q4 q5
   go_wp2_with (at_builtin;refine b0x (enc:=stE) rfl _ _ _ rfl Tryz.underlying57 Tryz.infoTx rfl ((ad3,k3,cap3):SlV) HO3.out.1 rfl rfl rfl rfl (by have:=HSL.out;unfold maxLen;omega) (by have:=HSL.out;omega) HB3.out (Nat.le_refl _) HB3.out.size (Nat.le_refl _) ?_)
   intro v' w' ho' hb' hg';have HO4:=hh (HO3.out.snoc HT3.out hg' ho');have HB4:=hh hb';rw [← HTK.out] at HO4;clear ho' hb' hg' HO3 HT3 HB3;go_wp2_with fail
   go_roundw
   case rel=>exact ⟨i+1,_,by go_num,hlt,HO4,hh (by rw [List.length_append,HSL.out];rfl),HB4⟩
   case measure=>simp [intOf];omega
  ·obtain rfl:i=n:=by omega
   have HE:=hh (show leavesG (rows.take i)=leavesG rows by rw [List.take_of_length_le (by rw [HN.out];exact Nat.le_refl _)]);rw [HE.out] at HO;go_wp2_with fail
   go_ret
   exact ⟨_,rfl,HO.out.texts,HB.out⟩
end
section
set_option maxHeartbeats 16000000
set_option maxRecDepth 100000
open Go.RowKit

theorem k0k {P:Program} {o:Oper} {a:Act} {w:World} {K:Act→World→Prop} {Q:Exit→Act→World→Prop} (ty:TypeId) (x y:Operand) (ho:o.op = .store ty x y)
  (g i:Nat) (v:Value) (hx:a.eval x = .pointer (some ⟨g,i,none⟩)) (hy:a.eval y=v) (hv:v.cells=#[v]) (h1:v.oneCell'=true)
  (t:TypeId) (cs:Array Value) (hg:w.heap[g]? = some (.cells cs t (0,0))) (hi:(P.info? ty).map (·.size)=some 1) (hb:i < cs.size) (new:Array Value) (hnew:cs.setIfInBounds i v=new)
  (h:∀ w',w'.heap[g]? = some (.cells new t (0,0))→Keep (· = g) w w'→w'.heap.size=w.heap.size→K (a.put o.dst undef) w'):o.wp P a w K Q:=by
 have hc:(w.cell? ⟨g,i,none⟩).isSome=true:=by rw [Lib.cell_of_heap hg,Array.getElem?_eq_getElem hb];rfl
 have hf:w.frozen? ⟨g,i,none⟩=false:=Lib.frozen_of_heap hg i;have z0:∀ j,j < [v].length→j=0:=fun j hj=>by simpa using hj
 have hst:=run_storeCells_cells (P:=P) g i [v] 0 w (fun j hj=>by rw [z0 j hj];exact hc) (fun j hj=>by rw [z0 j hj];exact hf) (fun u hu=>(by simpa using hu:u=v)▸h1);have hsv:(storeVar ty ⟨g,i,none⟩ v).run P w = .ok () (w.setCell ⟨g,i,none⟩ v):=by
  cases hq:P.info? ty with
  | none=>simp [hq] at hi
  | some inf=>
   have hs:inf.size=1:=by simpa [hq] using hi
   simp only [Nat.add_zero] at hst
   simp [storeVar,sizeOf,typeInfo,hq,hv,hs,hst,World.setCells]
 unfold Oper.wp execOp
 simp only [ho,hx,hy,Instr.storeAt,Instr.sureAddr,Sem.run_bind,Sem.run_pure,Result.andThen_ok,hsv]
 exact h _ (by rw [heap_setCell_same _ _ _ _ _ _ hg,hnew]) (Keep.setCell (S:=(· = g)) (p:=⟨g,i,none⟩) (Keep.refl _ _) (.inl rfl) _) (by simp [World.setCell])
theorem g0s {C:List LRow→Prop} (h0:C []) (h1:∀ r l,C (l.drop (lead r.e l))→C (r :: l)):∀ (n:Nat) (l:List LRow),l.length≤n→C l:=by
 intro n
 induction n with
 | zero=>intro l hl;have:l = []:=List.eq_nil_of_length_eq_zero (by omega);rw [this];exact h0
 | succ n ih=>
  intro l hl
  cases l with
  | nil=>exact h0
  | cons r l=>exact h1 r l (ih _ (by rw [List.length_drop];simp at hl;omega))
theorem a0M (l:List LRow):(groupsF l).length≤l.length∧∀ g∈groupsF l,g.2≠[]∧g.2.length≤l.length∧∀ r∈g.2,r∈l∧r.e=g.1:=by
 refine g0s (C:=fun l=>(groupsF l).length≤l.length∧∀ g∈groupsF l,g.2≠[]∧g.2.length≤l.length∧∀ r∈g.2,r∈l∧r.e=g.1) ?_ ?_ l.length l (Nat.le_refl _)
 ·rw [d0C];exact ⟨Nat.le_refl _,fun g h=>by simp at h⟩
 ·rintro r l ⟨h1,h2⟩;rw [b0T];have hd:(l.drop (lead r.e l)).length≤l.length:=by rw [List.length_drop];omega
  refine ⟨by simp only [List.length_cons];omega,fun g hg=>?_⟩
  rcases List.mem_cons.1 hg with rfl | hg
  ·refine ⟨by simp,by simp only [List.length_cons,List.length_take];omega,fun x hx=>?_⟩
   rcases List.mem_cons.1 hx with rfl | hx
   ·exact ⟨by simp,rfl⟩
   ·refine ⟨List.mem_cons_of_mem _ (List.mem_of_mem_take hx),?_⟩;obtain ⟨j,hj,rfl⟩:=List.mem_iff_getElem.1 hx;rw [List.length_take] at hj;rw [List.getElem_take]
    exact i0e r.e l j (by omega) (by omega)
  ·obtain ⟨a,b,c⟩:=h2 g hg
   exact ⟨a,by simp only [List.length_cons];omega,fun x hx=>⟨List.mem_cons_of_mem _ (List.mem_of_mem_drop (c x hx).1),(c x hx).2⟩⟩
theorem m0m {l:List LRow} (h:l≠[]):groupsF l≠[]:=by
 cases l with
 | nil=>exact absurd rfl h
 | cons r l=>rw [b0T];simp
def earLeaf (g:Int × List LRow):List UInt8:=earL g.1 (rootF 2 (leavesG g.2))
def tableL (s:List LRow):List (List UInt8):=(groupsF s).map earLeaf
theorem j0w {l:List LRow} (h:(l.map rkey).Nodup):∀ r∈sortR l,r∈l:=by
 intro r hr;obtain ⟨k,hk,rfl⟩:=List.mem_map.1 hr;have hk2:k∈l.map rkey:=(b0G _).mem_iff.1 hk;obtain ⟨j,hj,rfl⟩:=r0M hk2;rw [k0T h j hj]
 exact List.getElem_mem hj
theorem c0r {l s:List LRow} (h:sortedF l=some s):SortOk l∧s=sortR l∧(∀ r∈s,r∈l)∧s.length=l.length:=by
 unfold sortedF at h
 split at h
 ·rename_i hk
  cases h
  exact ⟨hk,rfl,j0w hk.2.2,c0L l⟩
 ·cases h
theorem d0u {rows:List LRow} (h:∀ r∈rows,ROk r):Fair (leavesG rows):=by
 intro b hb;obtain ⟨r,hr,rfl⟩:=List.mem_map.1 hb;have:=l0z (t:=r.t) (m:=r.m) (h r hr).1.2.2
 omega
theorem f0H {k:Int} {ls:List (List UInt8)} (hk:k=1∨k=2) (h1:ls≠[]) (h2:ls.length≤1024):rootV k ls = .tuple #[.agg (c8 (rootF k.toNat ls)),.int .i64 0]:=by
 unfold rootV
 have h0:ls.length≠0:=fun e=>h1 (List.eq_nil_of_length_eq_zero e)
 rw [if_pos]
 unfold whyF
 rw [if_pos hk,if_neg h0,if_neg (by omega)]
theorem g0e (l:List UInt8):(c8 l).all (·.oneCell')=true:=by
 rw [Array.all_eq_true'];intro x hx;simp only [c8,List.mem_toArray,List.mem_map] at hx;obtain ⟨y,_,rfl⟩:=hx
 rfl
theorem a0D (rows:List LRow):(leavesG rows).length=rows.length:=by unfold leavesG;rw [List.length_map]
theorem b0a (s:List LRow):(tableL s).length=(groupsF s).length:=by unfold tableL;rw [List.length_map]
theorem d0c (k:Nat) (l:List (List UInt8)):(rootF k l).length=32:=a0P k l
theorem Tryz.zeroTab (w:World):(zeroValue 139).run Tryz.prog w = .ok (.agg #[.slice none 0 0,.slice none 0 0]) w:=by kernel_rfl
theorem Tryz.sizeTab:(Tryz.prog.info? 139).map (·.size)=some 2:=by kernel_rfl
theorem Tryz.zeroGrp (w:World):(zeroValue 144).run Tryz.prog w = .ok (.agg #[.int .i64 0,.slice none 0 0]) w:=by kernel_rfl
theorem Tryz.sizeTxs:(Tryz.prog.info? 57).map (·.size)=some 1:=by kernel_rfl
theorem s0i (s:SlV):∀ u∈stE s,u.oneCell'=true:=by
 intro u hu;obtain rfl:u=slV s:=by simpa [stE] using hu
 rfl
theorem Own.apart_at {α:Type} {w w':World} {B:Nat} {e T:TypeId} {enc:α→List Value} {sz:Nat} {v:Value} {l:List α} (h:Own w B e enc sz v l) (hg:w.grownBy w' v.ownBlock) {k:Nat} {cs:Array Value} {fr:Nat × Nat} (ho:w.heap[k]? = some (.cells cs T fr)) (hT:T≠e):w'.heap[k]? = some (.cells cs T fr):=by
 rw [hg.block k (a0b ho) (fun e1=>?_)]
 ·exact ho
 ·obtain ⟨cs',fr',e'⟩:=h.cellsAt e1.symm;rw [ho] at e';cases e';exact hT rfl
theorem e0m (a c:Option Addr) (n m k l:Nat):(#[Value.slice a n k,.slice c m l].all (·.oneCell'))=true:=by simp [Value.oneCell']
theorem p0k (x:Int) (a:Option Addr) (n k:Nat):(#[Value.int .i64 x,.slice a n k].all (·.oneCell'))=true:=by simp [Value.oneCell']
structure OfSt (w w':World) (t:Nat) (vg vo:Value) (raws:List (Int × SlV)) (b:Option Nat) (gs:List (Int × List LRow)) (ss:List SlV) (ls:List (List UInt8)):Prop where
 tab:w'.heap[t]? = some (.cells #[vg,vo] 139 (0,0))
 own:Own w' (t+1) 144 gE 2 vg raws
 pair:GPair w' b raws gs
 txt:OTx w' (t+1) vo ss ls
 below:Below w.heap.size w w'
theorem OfSt.later {w w' w2:World} {t:Nat} {vg vo:Value} {raws:List (Int × SlV)} {b:Option Nat} {gs:List (Int × List LRow)} {ss:List SlV} {ls:List (List UInt8)} (h:OfSt w w' t vg vo raws b gs ss ls) (hb:Below w'.heap.size w' w2):OfSt w w2 t vg vo raws b gs ss ls:=
 ⟨a0c hb h.tab,h.own.later hb,h.pair.later hb,h.txt.later hb,h.below.trans (hb.mono h.below.size)⟩
def OfRet (w:World) (l:List LRow) (e:Ending) (w':World):Prop:=Below w.heap.size w w' ∧
 ((sortedF l=none∧e = .returned (.tuple #[.agg #[.slice none 0 0,.slice none 0 0],.bool false])) ∨
 ∃ s vg vo raws b,sortedF l=some s∧e = .returned (.tuple #[.agg #[vg,vo],.bool true])∧Rd w' gE 2 vg raws∧GPair w' b raws (groupsF s)∧Texts w' vo (tableL s))
theorem r0E (w:World) (v:Value) (l:List LRow) (hr:Rd w rowE 6 v l) (hok:∀ r∈l,ROk r) (hlen:l.length < 1000000000):Calls Tryz.prog 72 #[v] w (OfRet w l):=by
 have HR:=hh hr;have HOK:=hh hok;have HL:=hh hlen;clear hr hok hlen
 go_enter Tryz.func72,Tryz.ntmps72
 go_wp2_with (refine sA _ Tryz.zeroTab ?_)
 intro R a1 hR
 go_wp2_with (refine sA _ Tryz.zeroTab ?_)
 intro t a2 ht;have hb12:Below a1.heap.size a1 a2:=ht.out.below;have HB2:=hh (hR.out.below.trans (hb12.mono hR.out.below.size));have HRb:=hh (a0c hb12 hR.out.cells);have HT:=hh ht.out.cells;have WR:=hh (show R=w.heap.size∧t=w.heap.size+1∧a2.heap.size=w.heap.size+2 by have:=hR.out.eq;have:=hR.out.size;have:=ht.out.eq;have:=ht.out.size;omega);clear hb12 hR ht;go_wp2_with fail;refine (m0M a2 v l (HR.out.later HB2.out) HOK.out HL.out).mono ?_;rintro e a3 ⟨hb3,⟨hF,rfl⟩ | ⟨vs,s,hF,rfl,ho⟩⟩
 ·have HF:=hh hF;have HRb3:=hh (a0c hb3 HRb.out);have HT3:=hh (a0c hb3 HT.out);have HB3:=bT HB2 hb3;clear hb3 hF HRb HT HB2
  go_wp2_with (first
   | (refine lR HT3 Tryz.underlying139 Tryz.sizeTab ?_)
   | (refine a0a (t:=139) (old:=#[.slice none 0 0,.slice none 0 0]) rfl 139 _ _ rfl R #[.slice none 0 0,.slice none 0 0] rfl rfl HRb3.out Tryz.sizeTab rfl (e0m _ _ _ _ _ _) ?_))
  intro a4 h4 k4 z4;clear z4;have HB4:=hh (HB3.out.trans (k4.below (B:=w.heap.size) (fun q hq e=>by have:=WR.out;omega) HB3.out.size));have HR4:=hh h4;clear h4 k4;go_wp2_with fail
  exact bR rfl rfl HR4 Tryz.underlying139 Tryz.sizeTab ⟨HB4.out,.inl ⟨HF.out,rfl⟩⟩
 ·have hmem:=c0r hF;have hvs:=ho.rd h0S;obtain ⟨ad,cap,rfl,_,_⟩:=hvs.shape;obtain ⟨n,hn⟩:=nm (s.length);rw [← hn] at ho hvs ⊢;have HF:=hh hF;have HMM:=hh hmem;have HVS:=hh hvs;have HN:=hh hn;have HRb3:=hh (a0c hb3 HRb.out);have HT3:=hh (a0c hb3 HT.out);have HB3:=bT HB2 hb3;have HBT:Hid (∀ x,Value.ownBlock (.slice ad n cap)=some x→x≠t∧x≠R):=hh (fun x hx=>by have:=(ho.lt x hx).1;have:=WR.out;omega);clear hb3 hF hmem hvs hn ho HRb HT HB2;go_wp2_with fail;refine (m0k a3 _ s HVS.out (by have:=HMM.out;have:=HMM.out.1.1;omega)).mono ?_;rintro e a4 ⟨vg,raws,rfl,hog,hgp,hb4⟩;have hgr:=hog.rd j0m;obtain ⟨adg,capg,rfl,_,_⟩:=hgr.shape;obtain ⟨m,hm⟩:=nm (raws.length);rw [← hm] at hog ⊢;have HM:=hh hm;have HRb4:=hh (a0c hb4 HRb3.out);have hT4:=a0c hb4 HT3.out;have HB4:=bT HB3 hb4;have hgp4:=hgp.later hb4;have HOG:=hh hog;have HGP:=hh hgp4;have HT4:=hh hT4;have WA:=hh (show t < a3.heap.size from a0b HT3.out);have cT:a4.cell? ⟨t,0,none⟩=some (.slice none 0 0):=Lib.cell_of_heap hT4 0;have fT:a4.frozen? ⟨t,0,none⟩=false:=Lib.frozen_of_heap hT4 0;clear hb4 hgr hm hog hgp hgp4 hT4 HRb3 HT3 HB3 HVS;go_wp2_with fail;obtain ⟨w5,hw5⟩:=nm (a4.setCell ⟨t,0,none⟩ (.slice adg m capg));rw [← hw5]
  have hk5:Keep (· = t) a4 w5:=by rw [hw5];exact Keep.setCell (S:=(· = t)) (p:=⟨t,0,none⟩) (Keep.refl _ _) (.inl rfl) _
  have hT5:w5.heap[t]? = some (.cells #[.slice adg m capg,.slice none 0 0] 139 (0,0)):=by rw [hw5];exact heap_setCell_same a4 t 0 _ _ _ HT4.out
  have HK5:=hh hk5;have HT5:=hh hT5;have cT5:w5.cell? ⟨t,0,none⟩=some (.slice adg m capg):=Lib.cell_of_heap hT5 0;obtain ⟨M,hMM⟩:=nm (a4.heap.size);have HMM2:=hh hMM;have WB:=hh (show t < M by have:=a0b HT4.out;omega);have HM2:=hh (show m=(groupsF s).length∧(groupsF s).length≤1024∧s.length≤1024 by have:=HM.out;have:=HGP.out.1;have:=HMM.out;have:=(a0M s).1;have:=HMM.out.1.1;omega);have hm30:m < 1000000:=by have:=HM2.out;omega
  clear hw5 hk5 hT5 cT fT HT4 hMM;go_wp2_with fail;clear cT5
  go_loopw [24] (fun y wr=>∃ (i:Nat) (ss:List SlV) (vo:Value),y = .int .i64 i∧i≤m∧Hid (wr.heap[t]? = some (.cells #[.slice adg m capg,vo] 139 (0,0)))∧Hid (OTx wr M vo ss ((tableL s).take i))∧Hid (ss.length=i)∧Hid (Keep (· = t) a4 wr)) (fun y _=>m - (intOf y).toNat)
  case atStart=>exact ⟨0,[],_,rfl,by omega,HT5,hh (OTx.nil _ _),hh rfl,HK5⟩
  case round=>
   clear HK5 HT5;obtain ⟨i,ss,vo,rfl,hin,HTi,HO,HSL,HK⟩:=hrel
   by_cases hlt:i < m
   ·have hi:i < raws.length:=by have:=HM.out;omega
    have hig:i < (groupsF s).length:=by have:=HM2.out;omega
    obtain ⟨gb,goff,rfl,_,c0,c1⟩:=((HOG.out.rd j0m).keep HK.out fun k e _ he=>by have:=(HOG.out.lt k e).1;have:=WA.out;subst he;omega).grp i hi;have hpr:=HGP.out.2.1 i raws[i] (groupsF s)[i] (List.getElem?_eq_getElem hi) (List.getElem?_eq_getElem hig);have hrd:=hpr.2.keep HK.out fun k e _ he=>(HBT.out k (HGP.out.2.2 raws[i] (List.getElem_mem hi) k e)).1 he
    have hgm:=(a0M s).2 (groupsF s)[i] (List.getElem_mem hig);have htk:(tableL s).take (i+1)=(tableL s).take i ++ [earLeaf (groupsF s)[i]]:=by
     rw [List.take_succ_eq_append_getElem (by rw [b0a];exact hig)];congr 2;unfold tableL;rw [List.getElem_map]
    have hre:=hpr.1;obtain ⟨⟨ge,ga,gn,gc⟩,hraw⟩:∃ x,x=raws[i]:=⟨_,rfl⟩;rw [← hraw] at c0 c1 hrd hre;obtain ⟨g,hg⟩:=nm ((groupsF s)[i]);rw [← hg] at hrd hgm htk hre;clear hpr hraw hg hi hig;obtain ⟨g1,g2⟩:=g;simp only [] at hre c0 c1;subst hre;have hgn:gn=g2.length:=hrd.size;have HGR:=hh (show Rd wr rowE 6 (.slice ga gn gc) g2 from hrd);have HGM:=hh hgm;have HTK:=hh htk;have HGO:=hh (show ∀ r∈g2,ROk r from fun r hr=>HOK.out r (HMM.out.2.2.1 r (hgm.2.2 r hr).1));have HE1:=hh (show ge < 9223372036854775808 by
     cases g2 with
     | nil=>exact absurd rfl hgm.1
     | cons r0 tl=>
      have:=(hgm.2.2 r0 (by simp)).2;have h3:=HOK.out r0 (HMM.out.2.2.1 r0 (hgm.2.2 r0 (by simp)).1);rw [← show r0.e=ge from this];exact h3.1.1.2)
    have HGN:=hh (show gn=g2.length∧gn≤1024∧gn < 1000000 by have:=HM2.out;have:g2.length≤s.length:=hgm.2.1;omega);have HBw:=hh (HK.out.onto HB4.out (by have:=WR.out;have:=WB.out;have:=HMM2.out;omega) (by have:=WR.out;omega));clear hgm htk hgn hrd
    go_wp2_with (refine sA _ Tryz.zeroGrp ?_)
    intro G d1 hG
    go_wp2_with (refine a0a (t:=144) (old:=#[.int .i64 0,.slice none 0 0]) rfl 144 _ _ rfl G #[.int .i64 ge,.slice ga gn gc] rfl rfl hG.out.cells Tryz.sizeGrp rfl (p0k _ _ _ _) ?_)
    intro d2 hgX kG zG;have hbG:Below wr.heap.size wr d2:=hG.out.below.trans (kG.below (B:=wr.heap.size) (fun x hx e=>by have:=hG.out.eq;omega) hG.out.below.size);have HT2:=hh (a0c hbG HTi.out);have HO2:=hh (HO.out.later hbG);have HK2:=hh (HK.out.then_below hbG);have HG2:=hh hgX;have HGR2:=hh (HGR.out.later hbG);clear hG hgX kG zG hbG HTi HO HK c0 c1 HGR;have cG0:d2.cell? ⟨G,0,none⟩=some (.int .i64 ge):=Lib.cell_of_heap HG2.out 0;have cG1:d2.cell? ⟨G,1,none⟩=some (.slice ga gn gc):=Lib.cell_of_heap HG2.out 1;go_wp2_with fail;refine (e0E d2 ge ga gn gc g2 HGR2.out HGO.out HGN.out.2.2).mono ?_;rintro e d3 ⟨v3,rfl,htx,hb3⟩;have HTX:=hh htx;have HT3:=hh (a0c hb3 HT2.out);have HO3:=hh (HO2.out.later hb3);have HK3:=hh (HK2.out.then_below hb3);have HG3:=hh (a0c hb3 HG2.out);clear htx hb3 HT2 HO2 HK2 HG2 HGR2 cG0 cG1;go_wp2_with fail;refine (c0b 2 (leavesG g2) v3 d3 HTX.out (d0u HGO.out)).mono ?_;rw [f0H (.inr rfl) (by intro h;have:=congrArg List.length h;rw [a0D] at this;exact HGM.out.1 (List.eq_nil_of_length_eq_zero this)) (by rw [a0D];have:=HGN.out;omega)];rintro e d4 ⟨rfl,hb4⟩;obtain ⟨rt,hrt⟩:=nm (rootF 2 (leavesG g2));have hr2:rootF (2:Int).toNat (leavesG g2)=rt:=by rw [hrt];rfl
    rw [hr2];have HRT:=hh hrt;have HR32:=hh (show rt.length=32 by rw [hrt];exact d0c _ _);have HT4:=hh (a0c hb4 HT3.out);have HO4:=hh (HO3.out.later hb4);have HK4:=hh (HK3.out.then_below hb4);have HG4:=hh (a0c hb4 HG3.out);clear hrt hr2 hb4 HT3 HO3 HK3 HG3 HTX
    go_wp2_with (refine sA _ Tryz.zeroHash ?_)
    intro H d5 hH
    go_wp2_with (refine a0a (t:=27) (old:=cB 32 []) rfl 27 _ _ rfl H (c8 rt) rfl rfl hH.out.cells (Tryz.sizeHc rt HR32.out) (by rw [a0m,HR32.out];rfl) (g0e rt) ?_)
    intro d6 hhX kH zH;have hbH:Below d4.heap.size d4 d6:=hH.out.below.trans (kH.below (B:=d4.heap.size) (fun x hx e=>by have:=hH.out.eq;omega) hH.out.below.size);have HT6:=hh (a0c hbH HT4.out);have HO6:=hh (HO4.out.later hbH);have HK6:=hh (HK4.out.then_below hbH);have HG6:=hh (a0c hbH HG4.out);have HH6:=hh hhX;clear hH hhX kH zH hbH HT4 HO4 HK4 HG4
    go_upto_region 10 with fail
    obtain ⟨wz,hwz,hbz⟩:=dr d6;have hS:=And.intro (a0c hbz HT6.out) (And.intro (a0c hbz HG6.out) (a0c hbz HH6.out));have HOz:=hh (HO6.out.later hbz);have HKz:=hh (HK6.out.then_below hbz);clear hbz HT6 HG6 HH6 HO6 HK6;refine rg (fun w'=>w'.heap[t]? = some (.cells #[.slice (some ⟨gb,goff,none⟩) m capg,vo] 139 (0,0))∧w'.heap[G]? = some (.cells #[.int .i64 ge,.slice ga gn gc] 144 (0,0))∧w'.heap[H]? = some (.cells (c8 rt) 27 (0,0))) 9 10 hwz hS ?_;clear hwz;refine tA1 0 34 hS ?_;go_frame;refine tk 1 (some 35) rfl rfl (.inl ⟨by rfl,fun w' hS'=>(by have hc:w'.cell? ⟨t,1,none⟩=some (vo):=Lib.cell_of_heap hS'.1 1;go_simp;rfl)⟩) hS ?_;go_frame;refine tA1 2 36 hS ?_;go_frame;refine tk 3 (some 37) rfl rfl (.inl ⟨by rfl,fun w' hS'=>(by have hc:w'.cell? ⟨G,0,none⟩=some (.int .i64 ge):=Lib.cell_of_heap hS'.2.1 0;go_simp;rfl)⟩) hS ?_;go_frame;refine tk 4 (some 38) rfl rfl (a0p (by rfl) 27 _ rfl (.pointer (some ⟨H,0,none⟩)) rfl (.agg (c8 rt)) (fun w' hS'=>d0T hS'.2.2 Tryz.underlying27 rfl (Tryz.sizeHc rt HR32.out))) hS ?_;go_frame;refine t1 5 fun K hK=>?_
    simp only [gA,jB,gC];go_simp;refine (o0c _ ge HE1.out HR32.out).mono ?_;rintro e w2 ⟨v2,rfl,ho,hb⟩;obtain ⟨ad2,cap2,rfl,_,_⟩:=(ho.rd b0D).shape;obtain ⟨k2,hk2⟩:=nm ((earL ge rt).length);rw [← hk2] at ho ⊢;have HS2:=hh (show Own w2 0 5 u8E 1 (slV (ad2,k2,cap2)) (earL ge rt) from ho.mono (Nat.zero_le _));have HO7:=hh (HOz.out.later hb);have HK7:=hh (HKz.out.then_below hb);clear ho hk2 HOz HKz;have hSn:=And.intro (a0c hb hS.1) (And.intro (a0c hb hS.2.1) (a0c hb hS.2.2));refine hK _ _ (fun _ _=>hSn) ?_;clear hK hS;have hS:=hSn;clear hSn;clear hb;refine t1 6 fun K hK=>?_
    simp only [gA,jB,gC];go_simp;obtain ⟨w6,hw6⟩:=nm (w2.alloc (.cells #[.slice ad2 k2 cap2] 122));have hb:Below w2.heap.size w2 w6:=by rw [hw6];exact (Below.refl _ _).alloc (Nat.le_refl _) _
    have HL6:=hh (show Rd w6 stE 1 (.slice (some ⟨w2.heap.size,0,none⟩) 1 1) [((ad2,k2,cap2):SlV)] by rw [hw6];exact c0w w2 stE e0k _ _ _ 1 rfl (by omega) rfl);have HS6:=hh (HS2.out.later hb);have HO8:=hh (HO7.out.later hb);have HK8:=hh (HK7.out.then_below hb);rw [← hw6];clear hw6 HO7 HK7 HS2;have hSn:=And.intro (a0c hb hS.1) (And.intro (a0c hb hS.2.1) (a0c hb hS.2.2));refine hK _ _ (fun _ _=>hSn) ?_;clear hK hS;have hS:=hSn;clear hSn;clear hb;refine t1 7 fun K hK=>?_
    simp only [gA,jB,gC];refine a0L (.tmp 35) (.tmp 40) 57 rfl Tryz.underlying57 Tryz.infoTx rfl (by decide) e0k s0i HO8.out.1 rfl _ rfl HL6.out (by have:=HSL.out;simp;unfold maxLen;omega) (by have:=HSL.out;simp;omega) (B:=M) (w0:=w6) (Below.refl _ _) (Nat.le_refl _) (by rw [HMM2.out];exact HK8.out.size) ?_;intro v7 w7 ho7 hb7 hg7;have HO9:=hh (HO8.out.snoc HS6.out hg7 ho7);have HK9:=hh (HK8.out.then (S':=fun x=>M≤x) ⟨hb7.os,hb7.tape,hb7.output,hb7.size,fun i _ hn=>hb7.block i (by omega)⟩ fun x hx=>.inr (by rw [← HMM2.out];exact hx));have hS7:=And.intro (HO8.out.1.other hg7 WB.out hS.1) (And.intro (HO8.out.1.apart_at hg7 hS.2.1 (by decide)) (HO8.out.1.apart_at hg7 hS.2.2 (by decide)));refine hK _ _ (fun _ _=>hS7) ?_;clear hK ho7 hb7 hg7 HO8 HK8 HS6 HL6 hS;have hS:=hS7;clear hS7;obtain ⟨ad7,cap7,rfl,_,_⟩:=(HO9.out.1.rd e0k).shape;obtain ⟨k7,hk7⟩:=nm ((ss ++ [((ad2,k2,cap2):SlV)]).length);rw [← hk7] at HO9 ⊢;clear hk7;refine tA1 8 42 hS ?_;go_frame;refine t1 9 fun K hK=>?_
    simp only [gA,jB,gC];refine k0k 57 _ _ rfl t 1 (.slice ad7 k7 cap7) rfl rfl rfl rfl 139 #[.slice (some ⟨gb,goff,none⟩) m capg,vo] hS.1 Tryz.sizeTxs (by simp) #[.slice (some ⟨gb,goff,none⟩) m capg,.slice ad7 k7 cap7] rfl ?_;intro w8 h8 k8 z8;have HT10:=hh h8;have HK10:=hh (HK9.out.then k8 fun x hx=>.inl hx);have HO10:=hh (HO9.out.keep k8 fun x hx=>⟨#[.slice (some ⟨gb,goff,none⟩) m capg,vo],139,(0,0),(by rw [hx];exact hS.1),by decide,by decide⟩);refine hK _ _ (fun h=>absurd rfl h) ?_;clear hK h8 k8 z8 hS HO9 HK9;refine tD ?_;rw [HRT.out] at HO10;have hte:(tableL s).take i ++ [earL ge (rootF 2 (leavesG g2))]=(tableL s).take (i+1):=HTK.out.symm;rw [hte] at HO10;clear hte;go_wp2_with fail
    go_roundw
    case rel=>exact ⟨i+1,_,_,by go_num,hlt,HT10,HO10,hh (by rw [List.length_append,HSL.out];rfl),HK10⟩
    case measure=>simp [intOf];omega
   ·obtain rfl:i=m:=by omega
    obtain ⟨ad7,cap7,rfl,_,_⟩:=(HO.out.1.rd e0k).shape;obtain ⟨k7,hk7⟩:=nm (ss.length);rw [← hk7] at HO HTi;rw [List.take_of_length_le (by rw [b0a];have:=HM2.out;omega)] at HO;have HRw:=hh (HK.out.at HRb4.out (by have:=WR.out;omega));have HBw:=hh (HK.out.onto HB4.out (by have:=WR.out;have:=WB.out;have:=HMM2.out;omega) (by have:=WR.out;omega));clear hk7
    go_wp2_with (first
     | (refine lR HTi Tryz.underlying139 Tryz.sizeTab ?_)
     | (refine a0a (t:=139) (old:=#[.slice none 0 0,.slice none 0 0]) rfl 139 _ _ rfl R #[.slice adg i capg,.slice ad7 k7 cap7] rfl rfl HRw.out Tryz.sizeTab rfl (e0m _ _ _ _ _ _) ?_))
    intro d2 h4 k4 z4;have HRd:=hh (((HOG.out.rd j0m).keep HK.out fun k e _ he=>by have:=(HOG.out.lt k e).1;have:=WA.out;subst he;omega).keep k4 fun k e _ he=>by have:=(HOG.out.lt k e).1;have:=WA.out;have:=WR.out;omega);have HGPd:=hh ((HGP.out.keep HK.out fun x e he=>(HBT.out x e).1 he).keep k4 fun x e he=>(HBT.out x e).2 he);have HTXd:=hh (HO.out.keep k4 fun x hx=>⟨#[.slice none 0 0,.slice none 0 0],139,(0,0),(by rw [hx];exact HRw.out),by decide,by decide⟩).texts;have HBd:=hh (HBw.out.trans (k4.below (B:=w.heap.size) (fun q hq e=>by have:=WR.out;omega) HBw.out.size));have HR4:=hh h4;clear h4 k4 z4;go_wp2_with fail
    exact bR rfl rfl HR4 Tryz.underlying139 Tryz.sizeTab ⟨HBd.out,.inr ⟨s,_,_,raws,_,HF.out,rfl,HRd.out,HGPd.out,HTXd⟩⟩
end
section
set_option maxHeartbeats 4000000
set_option maxRecDepth 100000
open Go.RowKit

theorem j0O {l s:List LRow} (h:sortedF l=some s) (hok:∀ r∈l,ROk r):(∀ r∈s,ROk r)∧0 < s.length∧s.length≤1024:=by
 obtain ⟨h1,_,h3,h4⟩:=c0r h
 exact ⟨fun r hr=>hok r (h3 r hr),by rw [h4];exact h1.1.1,by rw [h4];exact h1.1.2⟩
theorem f0I {s:List LRow} (hok:∀ r∈s,ROk r):∀ g∈groupsF s,g.1 < 9223372036854775808∧∀ r∈g.2,ROk r:=by
 intro g hg;obtain ⟨a,b,c⟩:=(a0M s).2 g hg;refine ⟨?_,fun r hr=>hok r (c r hr).1⟩;obtain ⟨g1,g2⟩:=g
 cases g2 with
 | nil=>exact absurd rfl a
 | cons r0 tl=>
  obtain ⟨h1,h2⟩:=c r0 (by simp);have h3:=(hok r0 h1).1.1.2;rw [← show r0.e=g1 from h2];exact h3
theorem g0T {s:List LRow} (hok:∀ r∈s,ROk r):Fair (tableL s):=by
 intro b hb;obtain ⟨g,hg,rfl⟩:=List.mem_map.1 hb;have:=l0O (e:=g.1) (h:=rootF 2 (leavesG g.2)) (f0I hok g hg).1 (d0c _ _)
 unfold earLeaf;omega
theorem i0n {s:List LRow} (h:0 < s.length):tableL s≠[]:=by
 intro e;have:=congrArg List.length e;rw [b0a] at this
 exact m0m (l:=s) (by intro h2;subst h2;simp at h) (List.eq_nil_of_length_eq_zero this)
theorem e0F {s:List LRow} (h:s.length≤1024):(tableL s).length≤1024:=by
 rw [b0a];have:=(a0M s).1;omega
def rootT (l:List LRow):List UInt8 × Int:=match sortedF l with
 | some s=>(rootF 1 (tableL s),0)
 | none=>(zero32,2)
theorem i0b (l:List LRow):(rootT l).1.length=32:=by
 unfold rootT
 split
 ·exact d0c _ _
 ·exact a0i
theorem n0N (w:World) (v:Value) (l:List LRow) (hr:Rd w rowE 6 v l) (hok:∀ r∈l,ROk r) (hlen:l.length < 1000000000) :
  Calls Tryz.prog 49 #[v] w (Ret w (.tuple #[.agg (c8 (rootT l).1),.int .i64 (rootT l).2])):=by
 have HR:=hh hr;have HOK:=hh hok;have HL:=hh hlen;obtain ⟨RV,hRV⟩:=nm ((Value.tuple #[.agg (c8 (rootT l).1),.int .i64 (rootT l).2]));rw [← hRV];have HRV:=hh hRV;clear hr hok hlen hRV
 go_enter Tryz.func49,Tryz.ntmps49
 go_wp2_with (refine sA _ Tryz.zeroHash ?_)
 intro R w1 h1';go_wp2_with fail;refine (r0E w1 v l (HR.out.later h1'.out.below) HOK.out HL.out).mono ?_;rintro e w2 ⟨hb2,hF⟩;have HR2:=hh (a0c hb2 h1'.out.cells);have HB2:=hh (h1'.out.below.trans (hb2.mono h1'.out.below.size));have HWR:=hh h1'.out.eq;clear hb2 h1'
 rcases hF with ⟨hF,rfl⟩ | ⟨s,vg,vo,raws,b,hF,rfl,hvg,_,htx⟩
 ·have hv:RV=(.tuple #[.agg (c8 zero32),.int .i64 2]):=by rw [HRV.out];unfold rootT;rw [hF]
  have HV:=hh hv;clear hv hF
  go_wp2_with (refine sA _ Tryz.zeroTab ?_)
  intro X w3 h3
  go_wp2_with (refine a0a (t:=139) (old:=#[.slice none 0 0,.slice none 0 0]) rfl 139 _ _ rfl X #[.slice none 0 0,.slice none 0 0] rfl rfl h3.out.cells Tryz.sizeTab rfl (e0m _ _ _ _ _ _) ?_)
  intro w4 h4 k4 z4;have hb:Below w2.heap.size w2 w4:=h3.out.below.trans (k4.below (B:=w2.heap.size) (fun q hq e=>by have:=h3.out.eq;omega) h3.out.below.size);have HR4:=hh (a0c hb HR2.out);have HB4:=bT HB2 hb;clear h3 h4 k4 z4 hb HR2 HB2
  go_wp2_with (refine a0a (t:=27) (old:=cB 32 []) rfl 27 _ _ rfl R (c8 zero32) rfl rfl HR4.out (Tryz.sizeHs _ a0i) (by rw [a0m,a0i];rfl) (by rw [← a0O 32 _ a0i];exact one_b _ _) ?_)
  intro w5 h5 k5 z5;have H5:=hh h5;have H6:=hh (k5.onto HB4.out (Nat.le_refl _) (by have:=HWR.out;omega));clear h5 k5 z5;go_wp2_with fail
  exact bodyPost_ret (a0l rfl _ _ R _ (c8 zero32) _ _ rfl H5.out Tryz.underlying27 rfl (Tryz.sizeHs _ a0i) _ rfl) rfl ⟨by rw [HV.out];rfl,H6.out⟩
 ·have hv:RV=(.tuple #[.agg (c8 (rootF 1 (tableL s))),.int .i64 0]):=by rw [HRV.out];unfold rootT;rw [hF]
  have HV:=hh hv;obtain ⟨hok2,hn1,hn2⟩:=j0O hF HOK.out;obtain ⟨rt,hrt⟩:=nm (rootF 1 (tableL s));have hgood:=f0H (k:=1) (.inl rfl) (i0n hn1) (e0F hn2);rw [show rootF (1:Int).toNat (tableL s)=rt by rw [hrt];rfl] at hgood;rw [← hrt] at HV;have HGO:=hh hgood;have HR32:=hh (show rt.length=32 by rw [hrt];exact d0c _ _);have HFT:=hh (g0T hok2);have HTX:=hh htx;obtain ⟨ad1,cap1,rfl,_,_⟩:=hvg.shape;obtain ⟨n1,hn1'⟩:∃ n,n=raws.length:=⟨_,rfl⟩;rw [← hn1'];obtain ⟨ad2,cap2,rfl,_,_⟩:=htx.shape;obtain ⟨n2,hn2'⟩:∃ n,n=(tableL s).length:=⟨_,rfl⟩;rw [← hn2'] at HTX ⊢;clear hv hF hvg htx hok2 hn1 hn2 hgood hrt hn1' hn2'
  go_wp2_with (refine sA _ Tryz.zeroTab ?_)
  intro X w3 h3
  go_wp2_with (refine a0a (t:=139) (old:=#[.slice none 0 0,.slice none 0 0]) rfl 139 _ _ rfl X #[.slice ad1 n1 cap1,.slice ad2 n2 cap2] rfl rfl h3.out.cells Tryz.sizeTab rfl (e0m _ _ _ _ _ _) ?_)
  intro w4 h4 k4 z4;have hb:Below w2.heap.size w2 w4:=h3.out.below.trans (k4.below (B:=w2.heap.size) (fun q hq e=>by have:=h3.out.eq;omega) h3.out.below.size);have HR4:=hh (a0c hb HR2.out);have HB4:=bT HB2 hb;have HTX4:=hh (HTX.out.later hb);have q1:w4.cell? ⟨X,1,none⟩=some (.slice ad2 n2 cap2):=Lib.cell_of_heap h4 1;clear h3 h4 k4 z4 hb HR2 HB2 HTX;go_wp2_with fail;refine (c0b 1 (tableL s) _ w4 HTX4.out HFT.out).mono ?_;rw [HGO.out];rintro e w5 ⟨rfl,hb5⟩;have HR5:=hh (a0c hb5 HR4.out);have HB5:=bT HB4 hb5;clear hb5 HR4 HB4 HTX4 q1
  go_wp2_with (refine a0a (t:=27) (old:=cB 32 []) rfl 27 _ _ rfl R (c8 rt) rfl rfl HR5.out (Tryz.sizeHc rt HR32.out) (by rw [a0m,HR32.out];rfl) (g0e rt) ?_)
  intro w6 h6 k6 z6;have H6:=hh h6;have H7:=hh (k6.onto HB5.out (Nat.le_refl _) (by have:=HWR.out;omega));clear h6 k6 z6;go_wp2_with fail
  exact bodyPost_ret (a0l rfl _ _ R _ (c8 rt) _ _ rfl H6.out Tryz.underlying27 rfl (Tryz.sizeHc rt HR32.out) _ rfl) rfl ⟨by rw [HV.out];rfl,H7.out⟩
end
end Go.Proofs.YtakkfabaeolbdaaGreat
