/- slices.Clone and maps.Clone as a store calls them: no condition. slices.Delete and slices.Clone as a store calls them: no condition. -/
import Derived.Shelf.SlMaps.Clone
import Derived.Test.YtakkfabaeolbdaaGreatCnStoI
namespace Go.Proofs.YtakkfabaeolbdaaGreat
section
set_option maxHeartbeats 4000000
set_option maxRecDepth 100000
open Go.RowKit

theorem d0W {P:Program} (w:World) (t e:TypeId) (a:Option Addr) (n c:Nat) (h:P.underlying t=some (.slice e)):(binOp .eql t (.slice a n c) (.slice none 0 0)).run P w = .ok (.bool a.isNone) w:=by
 have:=Lib.run_eql_slice_nil (P:=P) w t e a n c 0 0 h
 simpa using this
theorem s0x (l:List Txt):∀ x∈l,∀ u∈tE x,u.oneCell'=true:=fun x _ u hu=>by rw [List.mem_singleton.1 hu];rfl
theorem c0f (l:List WasP):∀ x∈l,∀ u∈wasE x,u.oneCell'=true:=fun x _ u hu=>by
 simp only [wasE,List.mem_cons,List.not_mem_nil,or_false] at hu
 rcases hu with rfl | rfl | rfl<;>rfl
theorem a0x (l:List (Txt × Txt)):∀ x∈l,∀ u∈pairE x,u.oneCell'=true:=fun x _ u hu=>by
 simp only [pairE,List.mem_cons,List.not_mem_nil,or_false] at hu
 rcases hu with rfl | rfl<;>rfl
def CloneRet {α:Type} (w:World) (e:TypeId) (enc:α→List Value) (sz:Nat) (l:List α) (x:Ending) (w':World):Prop:=∃ v',x = .returned v'∧LO w' e enc sz v' l∧Below w.heap.size w w'∧∀ k,v'.ownBlock=some k→w.heap.size≤k

theorem Tryz.infoCS:(Tryz.prog.info? 9).map (fun i=>(i.zero,i.size,i.bytes))=some (some (.string ⟨#[]⟩),1,16):=by kernel_rfl
theorem l0Z (w:World) (v:Value) (l:List Txt) (hr:Rd w tE 1 v l) (hlen:l.length < 1099511627776) :
  Calls Tryz.prog 232 #[v] w (CloneRet w 9 tE 1 l):=by
 obtain ⟨ad,cap,rfl,h1,h2⟩:=hr.shape;have heq:=fun a n c w=>d0W (P:=Tryz.prog) w 229 9 a n c Tryz.underlying229
 cases ad with
 | none=>
  have hl:l = []:=by
   by_cases hl:l = []
   ·exact hl
   ·obtain ⟨ad',cap',e,c1,c2,c3⟩:=hr
    cases e
    obtain ⟨b,off,e,_⟩:=c3 hl
    cases e
  subst hl
  go_enter Tryz.func232,Tryz.ntmps232
  go_wp2_with fail
  go_ret
  exact ⟨_,rfl,LO.nil _ _ _ _,Below.refl _ _,fun k e=>by cases e⟩
 | some a=>
  have HR:=hh hr;have hm:([]:List Txt).length+l.length≤maxLen:=by unfold maxLen;simp;omega
  have hb:(([]:List Txt).length+l.length)*16≤140737488355328:=by simp;omega
  have HM:=hh hm;have HB:=hh hb;clear hr hm hb
  go_enter Tryz.func232,Tryz.ntmps232
  go_wp2_with (at_builtin;refine a0y (l2:=l) (enc:=tE) rfl _ _ 229 229 rfl Tryz.underlying229 Tryz.underlying229 Tryz.infoCS rfl (by decide) g0E (s0x l) (LO.made (enc:=tE) (sz:=1) w #[] 0 0 rfl (Nat.le_refl _) (Nat.zero_le _) (by simp) (by simp)) rfl _ rfl (HR.out.alloc _) HM.out HB.out ?_)
  intro v' w' r1 r2 r3;have hb1:Below w.heap.size w (w.alloc (.cells #[] 9)):=(Below.refl _ _).alloc (Nat.le_refl _) _;have hb2:Below w.heap.size w w':=hb1.trans (r2.below (B:=w.heap.size) (fun q hq e=>by have h3:w.heap.size=q:=Option.some.inj e;omega) (by simp));have hk:∀ k,v'.ownBlock=some k→w.heap.size≤k:=by
   intro k e
   rcases r3 with r3 | ⟨g,e2,hg⟩
   ·rw [r3] at e;cases e;exact Nat.le_refl _
   ·rw [e] at e2;cases e2;simp at hg;omega
  have R1:=hh r1;have HB2:=hh hb2;have HK:=hh hk;clear r1 r2 r3 hb1 hb2 hk;go_wp2_with fail
  go_ret
  exact ⟨_,rfl,R1.out,HB2.out,HK.out⟩
end
section
set_option maxHeartbeats 4000000
set_option maxRecDepth 100000
open Go.RowKit

def DelRet (w:World) (e:TypeId) (v:Value) (us:List Value) (x:Ending) (w':World):Prop:=∃ v',x = .returned v'∧LO w' e vE 1 v' us∧Keep (fun k=>v.ownBlock=some k) w w'∧v'.ownBlock=v.ownBlock
theorem d0U {P:Program} (w:World) (t ty e:TypeId) (ht:P.underlying t=some (.slice e)) {z:Value} (hz:∀ w,(zeroValue e).run P w = .ok z w) (hzc:z.cells=#[z]) (h1:z.oneCell'=true) (g o c:Nat) (cur:Array Value) (T:TypeId) (hg:w.heap[g]? = some (.cells cur T (0,0))) (hfit:o+1≤cur.size) :
  (Builtin.clear_ #[t] ty #[.slice (some ⟨g,o,none⟩) 1 c]).run P w = .ok (.tuple #[]) (w.setRow g (cur.toList.take o ++ [z] ++ cur.toList.drop (o+1)).toArray):=by
 have hst:=run_storeCells_at P g o T [z] 0 cur w hg (by simpa using hfit) (by simpa using h1);have hzz:(Builtin.zeroCells z.cells 1).toList = [z]:=by rw [hzc];simp [Builtin.zeroCells]
 unfold Builtin.clear_
 simp only [List.getElem?_toArray,List.getElem?_cons_zero,Sem.run_bind,run_underlying ht,Result.andThen_ok,hz w,hzz];rw [Nat.add_zero] at hst;simp only [hst,Result.andThen_ok,Sem.run_pure,List.length_singleton]
theorem b0E {P:Program} {o:Oper} {a:Act} {K:Act→World→Prop} {Q:Exit→Act→World→Prop} {w:World} (d x:Operand) (dT sT:TypeId) (hop:o.op = .call { callee:=.builtin .append,args:=#[d,x],argTypes:=#[dT,sT] })
  (v u:Value) (hd:a.eval d=v) (hx:a.eval x=u) {v':Value} {w':World} (hr:(Builtin.append_ #[dT,sT] o.type #[v,u]).run P w = .ok v' w') (hK:K (a.put o.dst v') w'):o.wp P a w K Q:=by
 unfold Oper.wp
 simp [execOp,hop,resolve,invoke,builtin,hd,hx,hr,Result.andThen]
 exact hK
theorem b0j {P:Program} {ops:Array Oper} {rest:List Oper} {o:Oper} {a:Act} {Q:Exit→Act→World→Prop} {w:World} (hgd:o.guard=none) (x:Operand) (dT:TypeId) (hop:o.op = .call { callee:=.builtin .clear,args:=#[x],argTypes:=#[dT] })
  (u:Value) (hx:a.eval x=u) {v':Value} {w':World} (hr:(Builtin.clear_ #[dT] o.type #[u]).run P w = .ok v' w') (hK:wpList P ops Q rest (a.put o.dst v') w'):wpList P ops Q (o :: rest) a w:=by
 refine wpList_plain hgd fun K hK'=>?_
 unfold Oper.wp
 simp [execOp,hop,resolve,invoke,builtin,hx,hr,Result.andThen]
 exact hK' _ _ hK

theorem Tryz.zeroIS (w:World):(zeroValue 9).run Tryz.prog w = .ok (Value.string ⟨#[]⟩) w:=by kernel_rfl
theorem s0y (w:World) (v:Value) (us:List Value) (h1:∀ u∈us,u.oneCell'=true) (hown:LO w 9 vE 1 v us) (i:Nat) (hi:i < us.length) (hlen:us.length < 1099511627776) :
  Calls Tryz.prog 233 #[v,.int .i64 i,.int .i64 ((i:Int)+1)] w (DelRet w 9 v (us.take i ++ us.drop (i+1))):=by
 obtain ⟨g,cap,cur,rfl,hg,c1,c2,c3,c4⟩:=hown.opened (by intro e;subst e;simp at hi);obtain ⟨m,hn⟩:∃ m,m+1=us.length:=⟨us.length - 1,by omega⟩;rw [a0W,Nat.mul_one,← hn] at c4;rw [Nat.mul_one] at c3;rw [← hn] at c1 hi hlen ⊢
 unfold maxLen at c2
 have hcs:∀ j u,us[j]? = some u→w.cell? ⟨g,j,none⟩=some u:=by
  intro j u hj;rw [Lib.cell_of_heap hg];rw [← c4,List.getElem?_take] at hj
  split at hj
  ·simpa using hj
  ·cases hj
 obtain ⟨i0,hi0,hz0,hzs,hzb⟩:=info_parts Tryz.infoIS;have hdl:(us.drop (i+1)).length=m - i:=by rw [List.length_drop,← hn];omega
 obtain ⟨new1,hnew1⟩:=nm ((cur.toList.take i ++ us.drop (i+1) ++ cur.toList.drop (i+(us.drop (i+1)).length)).toArray);have hz1:new1.size=cur.size:=by
  rw [hnew1];simp only [List.size_toArray,List.length_append,List.length_take,List.length_drop,Array.length_toList,← hn];omega
 have hap:∀ ty (ad:Addr) sl sc,sl=m - i→(sl=0∨ad=⟨g,i+1,none⟩)→(Builtin.append_ #[229,229] ty #[.slice (some ⟨g,0,none⟩) i cap,.slice (some ad) sl sc]).run Tryz.prog w.drew = .ok (.slice (some ⟨g,0,none⟩) m cap) (w.drew.setRow g new1):=fun ty ad sl sc hsl had=>by
  have h:=run_append_room (P:=Tryz.prog) w.drew 229 ty 9 i0 Tryz.underlying229 hi0 g i cap cur hg ad sl sc (us.drop (i+1)) (by rw [hdl,hzs,hsl,Nat.mul_one]) (fun j u hj=>by
   rcases had with h0 | rfl
   ·have:=(List.getElem?_eq_some_iff.1 hj).1;omega
   ·rw [Addr.add_lit];exact hcs (i+1+j) u (by rwa [List.getElem?_drop] at hj)) (fun u hu=>h1 u (List.mem_of_mem_drop hu)) (by omega) (by rw [hzs,hdl];omega)
  rw [hzs,Nat.mul_one,show i+sl=m by omega] at h;rw [hnew1]
  exact h
 obtain ⟨W1,hW1⟩:=nm (w.drew.setRow g new1);have hg1:W1.heap[g]? = some (.cells new1 9 (0,0)):=by rw [hW1];exact setRow_heap _ _ _ _ _ _ hg
 have hk1:Keep (fun k=>some g=some k) w W1:=by rw [hW1];exact Keep.setRow (S:=fun k=>some g=some k) ((Keep.refl _ _).drew) (.inl rfl) _
 rw [← hW1] at hap;have hcl:∀ ty sc,(Builtin.clear_ #[229] ty #[.slice (some ⟨g,m,none⟩) 1 sc]).run Tryz.prog W1 = .ok (.tuple #[]) (W1.setRow g (new1.toList.take (m) ++ [Value.string ⟨#[]⟩] ++ new1.toList.drop (m+1)).toArray):=fun ty sc=>
  d0U W1 229 ty 9 Tryz.underlying229 Tryz.zeroIS rfl rfl g (m) sc new1 _ hg1 (by rw [hz1];omega)
 obtain ⟨new2,hnew2⟩:=nm ((new1.toList.take (m) ++ [Value.string ⟨#[]⟩] ++ new1.toList.drop (m+1)).toArray);have hz2:new2.size=cur.size:=by
  rw [hnew2];simp only [List.size_toArray,List.length_append,List.length_take,List.length_drop,Array.length_toList,List.length_singleton,hz1];omega
 rw [← hnew2] at hcl;obtain ⟨W2,hW2⟩:=nm (W1.setRow g new2);have hg2:W2.heap[g]? = some (.cells new2 9 (0,0)):=by rw [hW2];exact setRow_heap _ _ _ _ _ _ hg1
 have hk2:Keep (fun k=>some g=some k) w W2:=by rw [hW2];exact Keep.setRow (S:=fun k=>some g=some k) hk1 (.inl rfl) _
 rw [← hW2] at hcl;have hfin:new2.toList.take (m)=us.take i ++ us.drop (i+1):=by
  have e1:new2.toList.take (m)=new1.toList.take (m):=by
   rw [hnew2,List.append_assoc]
   exact List.take_left' (by rw [List.length_take,Array.length_toList,hz1];omega)
  rw [e1,hnew1];have e2:cur.toList.take i=us.take i:=by rw [← c4,List.take_take];congr 1;omega
  rw [e2]
  exact List.take_left' (by rw [List.length_append,List.length_take,hdl];omega)
 have HAP:=hh hap;have HCL:=hh hcl;have HG2:=hh hg2;have HK2:=hh hk2;have HFIN:=hh hfin;have HZ2:=hh hz2;have HN:=hh hn;have HC3:=hh c3;have HC2:=hh c2;have hb1:(0:Int)≤(i:Int)+1:=by omega
 have htn:((i:Int)+1).toNat=i+1:=by omega
 have hib:((i:Int) == (i:Int)+1)=false:=by simp;omega
 have hin:(i:Int)+1≤(m:Int)+1:=by omega
 have hil:(i:Int)≤(m:Int)+1:=by omega
 have him:(i:Int)≤(m:Int):=by omega
 have hwm:IntKind.i64.wrap ((m:Int)+1)=(m:Int)+1:=IntWalk.i64_in _ (by omega);have hm1:((m:Int)+1).toNat=m+1:=by omega
 have hm2:(0:Int)≤(m:Int)+1:=by omega
 have hm3:(m:Int)≤(m:Int)+1:=by omega
 have hii:(i:Int)≤(i:Int)+1:=by omega
 have hci:¬ cap=i:=by omega
 clear hap hcl hg2 hk2 hfin hz2 hn c3 hcs hi0 hz0 hzs hzb hdl hnew1 hz1 hW1 hg1 hk1 hnew2 hW2 hown hg h1 c4;have hcm:((m+1:Nat):Int)=(m:Int)+1:=by omega
 by_cases hcc:cap=i+1
 ·subst hcc;obtain rfl:m=i:=by omega
  go_enter Tryz.func233,Tryz.ntmps233
  go_wp2_with fail;refine a0f (fun _=>True) 7 8 (by kernel_rfl) rfl ?_;refine a0g 0 (some 20) rfl rfl (by kernel_rfl) (by kernel_rfl) (by kernel_rfl) (by kernel_rfl) (by kernel_rfl) (by kernel_rfl) (fun _ _ _ h=>h) (.inl ⟨by rfl,fun w' _=>(by go_simp;rfl)⟩) trivial ?_;go_frame;refine a0g 1 (some 21) rfl rfl (by kernel_rfl) (by kernel_rfl) (by kernel_rfl) (by kernel_rfl) (by kernel_rfl) (by kernel_rfl) (fun _ _ _ h=>h) (.inl ⟨by rfl,fun w' _=>(by go_simp;rfl)⟩) trivial ?_;go_frame;refine a0g 2 (some 22) rfl rfl (by kernel_rfl) (by kernel_rfl) (by kernel_rfl) (by kernel_rfl) (by kernel_rfl) (by kernel_rfl) (fun _ _ _ h=>h) (.inl ⟨by rfl,fun w' _=>(by go_simp;rfl)⟩) trivial ?_;go_frame;refine a0g 3 (some 23) rfl rfl (by kernel_rfl) (by kernel_rfl) (by kernel_rfl) (by kernel_rfl) (by kernel_rfl) (by kernel_rfl) (fun _ _ _ h=>h) (.inl ⟨by rfl,fun w' _=>(by go_simp;rfl)⟩) trivial ?_;go_frame;refine a0g 4 (some 24) rfl rfl (by kernel_rfl) (by kernel_rfl) (by kernel_rfl) (by kernel_rfl) (by kernel_rfl) (by kernel_rfl) (fun _ _ _ h=>h) (.inl ⟨by rfl,fun w' _=>(by go_simp;rfl)⟩) trivial ?_;go_frame;refine a0g 5 (some 25) rfl rfl (by kernel_rfl) (by kernel_rfl) (by kernel_rfl) (by kernel_rfl) (by kernel_rfl) (by kernel_rfl) (fun _ _ _ h=>h) (.inl ⟨by rfl,fun w' _=>(by go_simp;rfl)⟩) trivial ?_;go_frame;refine t1 6 fun K hK=>?_
  simp only [gA,jB,gC];refine b0E _ _ 229 229 rfl _ _ rfl rfl (HAP.out _ _ _ _ (by omega) (.inl (by omega))) ?_;refine hK _ _ (fun _ _=>trivial) ?_;clear hK;refine t1 7 fun K hK=>?_
  simp only [gA,jB,gC];go_simp;refine hK _ _ (fun h=>absurd rfl h) ?_;clear hK;refine tD ?_
  go_wp2_with (refine b0j rfl _ 229 rfl _ rfl (HCL.out _ _) ?_)
  go_ret
  refine ⟨_,rfl,LO.mk ?_ HG2.out ?_ (by unfold maxLen;exact HC2.out) (by rw [HZ2.out,Nat.mul_one];exact HC3.out) ?_,HK2.out,rfl⟩
  ·have:=HN.out;rw [List.length_append,List.length_take,List.length_drop];omega
  ·omega
  ·rw [a0W,Nat.mul_one];exact HFIN.out
 ·have hmc:¬ cap=m:=by omega
  have hic:i≤cap:=by omega
  have hicc:i+1≤cap:=by omega
  go_enter Tryz.func233,Tryz.ntmps233
  go_wp2_with fail;refine a0f (fun _=>True) 7 8 (by kernel_rfl) rfl ?_;refine a0g 0 (some 20) rfl rfl (by kernel_rfl) (by kernel_rfl) (by kernel_rfl) (by kernel_rfl) (by kernel_rfl) (by kernel_rfl) (fun _ _ _ h=>h) (.inl ⟨by rfl,fun w' _=>(by go_simp;rfl)⟩) trivial ?_;go_frame;refine a0g 1 (some 21) rfl rfl (by kernel_rfl) (by kernel_rfl) (by kernel_rfl) (by kernel_rfl) (by kernel_rfl) (by kernel_rfl) (fun _ _ _ h=>h) (.inl ⟨by rfl,fun w' _=>(by go_simp;rfl)⟩) trivial ?_;go_frame;refine a0g 2 (some 22) rfl rfl (by kernel_rfl) (by kernel_rfl) (by kernel_rfl) (by kernel_rfl) (by kernel_rfl) (by kernel_rfl) (fun _ _ _ h=>h) (.inl ⟨by rfl,fun w' _=>(by go_simp;rfl)⟩) trivial ?_;go_frame;refine a0g 3 (some 23) rfl rfl (by kernel_rfl) (by kernel_rfl) (by kernel_rfl) (by kernel_rfl) (by kernel_rfl) (by kernel_rfl) (fun _ _ _ h=>h) (.inl ⟨by rfl,fun w' _=>(by go_simp;rfl)⟩) trivial ?_;go_frame;refine a0g 4 (some 24) rfl rfl (by kernel_rfl) (by kernel_rfl) (by kernel_rfl) (by kernel_rfl) (by kernel_rfl) (by kernel_rfl) (fun _ _ _ h=>h) (.inl ⟨by rfl,fun w' _=>(by go_simp;rfl)⟩) trivial ?_;go_frame;refine a0g 5 (some 25) rfl rfl (by kernel_rfl) (by kernel_rfl) (by kernel_rfl) (by kernel_rfl) (by kernel_rfl) (by kernel_rfl) (fun _ _ _ h=>h) (.inl ⟨by rfl,fun w' _=>(by go_simp;rfl)⟩) trivial ?_;go_frame;refine t1 6 fun K hK=>?_
  simp only [gA,jB,gC];refine b0E _ _ 229 229 rfl _ _ rfl rfl (HAP.out _ _ _ _ (by omega) (.inr rfl)) ?_;refine hK _ _ (fun _ _=>trivial) ?_;clear hK;refine t1 7 fun K hK=>?_
  simp only [gA,jB,gC];go_simp;refine hK _ _ (fun h=>absurd rfl h) ?_;clear hK;refine tD ?_
  go_wp2_with (refine b0j rfl _ 229 rfl _ rfl (HCL.out _ _) ?_)
  go_ret
  refine ⟨_,rfl,LO.mk ?_ HG2.out ?_ (by unfold maxLen;exact HC2.out) (by rw [HZ2.out,Nat.mul_one];exact HC3.out) ?_,HK2.out,rfl⟩
  ·have:=HN.out;rw [List.length_append,List.length_take,List.length_drop];omega
  ·omega
  ·rw [a0W,Nat.mul_one];exact HFIN.out

theorem Tryz.zeroIB (w:World):(zeroValue 229).run Tryz.prog w = .ok (Value.slice none 0 0) w:=by kernel_rfl
theorem o0l (w:World) (v:Value) (us:List Value) (h1:∀ u∈us,u.oneCell'=true) (hown:LO w 229 vE 1 v us) (i:Nat) (hi:i < us.length) (hlen:us.length < 1099511627776) :
  Calls Tryz.prog 234 #[v,.int .i64 i,.int .i64 ((i:Int)+1)] w (DelRet w 229 v (us.take i ++ us.drop (i+1))):=by
 obtain ⟨g,cap,cur,rfl,hg,c1,c2,c3,c4⟩:=hown.opened (by intro e;subst e;simp at hi);obtain ⟨m,hn⟩:∃ m,m+1=us.length:=⟨us.length - 1,by omega⟩;rw [a0W,Nat.mul_one,← hn] at c4;rw [Nat.mul_one] at c3;rw [← hn] at c1 hi hlen ⊢
 unfold maxLen at c2
 have hcs:∀ j u,us[j]? = some u→w.cell? ⟨g,j,none⟩=some u:=by
  intro j u hj;rw [Lib.cell_of_heap hg];rw [← c4,List.getElem?_take] at hj
  split at hj
  ·simpa using hj
  ·cases hj
 obtain ⟨i0,hi0,hz0,hzs,hzb⟩:=info_parts Tryz.infoIB;have hdl:(us.drop (i+1)).length=m - i:=by rw [List.length_drop,← hn];omega
 obtain ⟨new1,hnew1⟩:=nm ((cur.toList.take i ++ us.drop (i+1) ++ cur.toList.drop (i+(us.drop (i+1)).length)).toArray);have hz1:new1.size=cur.size:=by
  rw [hnew1];simp only [List.size_toArray,List.length_append,List.length_take,List.length_drop,Array.length_toList,← hn];omega
 have hap:∀ ty (ad:Addr) sl sc,sl=m - i→(sl=0∨ad=⟨g,i+1,none⟩)→(Builtin.append_ #[38,38] ty #[.slice (some ⟨g,0,none⟩) i cap,.slice (some ad) sl sc]).run Tryz.prog w.drew = .ok (.slice (some ⟨g,0,none⟩) m cap) (w.drew.setRow g new1):=fun ty ad sl sc hsl had=>by
  have h:=run_append_room (P:=Tryz.prog) w.drew 38 ty 229 i0 Tryz.underlying38 hi0 g i cap cur hg ad sl sc (us.drop (i+1)) (by rw [hdl,hzs,hsl,Nat.mul_one]) (fun j u hj=>by
   rcases had with h0 | rfl
   ·have:=(List.getElem?_eq_some_iff.1 hj).1;omega
   ·rw [Addr.add_lit];exact hcs (i+1+j) u (by rwa [List.getElem?_drop] at hj)) (fun u hu=>h1 u (List.mem_of_mem_drop hu)) (by omega) (by rw [hzs,hdl];omega)
  rw [hzs,Nat.mul_one,show i+sl=m by omega] at h;rw [hnew1]
  exact h
 obtain ⟨W1,hW1⟩:=nm (w.drew.setRow g new1);have hg1:W1.heap[g]? = some (.cells new1 229 (0,0)):=by rw [hW1];exact setRow_heap _ _ _ _ _ _ hg
 have hk1:Keep (fun k=>some g=some k) w W1:=by rw [hW1];exact Keep.setRow (S:=fun k=>some g=some k) ((Keep.refl _ _).drew) (.inl rfl) _
 rw [← hW1] at hap;have hcl:∀ ty sc,(Builtin.clear_ #[38] ty #[.slice (some ⟨g,m,none⟩) 1 sc]).run Tryz.prog W1 = .ok (.tuple #[]) (W1.setRow g (new1.toList.take (m) ++ [Value.slice none 0 0] ++ new1.toList.drop (m+1)).toArray):=fun ty sc=>
  d0U W1 38 ty 229 Tryz.underlying38 Tryz.zeroIB rfl rfl g (m) sc new1 _ hg1 (by rw [hz1];omega)
 obtain ⟨new2,hnew2⟩:=nm ((new1.toList.take (m) ++ [Value.slice none 0 0] ++ new1.toList.drop (m+1)).toArray);have hz2:new2.size=cur.size:=by
  rw [hnew2];simp only [List.size_toArray,List.length_append,List.length_take,List.length_drop,Array.length_toList,List.length_singleton,hz1];omega
 rw [← hnew2] at hcl;obtain ⟨W2,hW2⟩:=nm (W1.setRow g new2);have hg2:W2.heap[g]? = some (.cells new2 229 (0,0)):=by rw [hW2];exact setRow_heap _ _ _ _ _ _ hg1
 have hk2:Keep (fun k=>some g=some k) w W2:=by rw [hW2];exact Keep.setRow (S:=fun k=>some g=some k) hk1 (.inl rfl) _
 rw [← hW2] at hcl;have hfin:new2.toList.take (m)=us.take i ++ us.drop (i+1):=by
  have e1:new2.toList.take (m)=new1.toList.take (m):=by
   rw [hnew2,List.append_assoc]
   exact List.take_left' (by rw [List.length_take,Array.length_toList,hz1];omega)
  rw [e1,hnew1];have e2:cur.toList.take i=us.take i:=by rw [← c4,List.take_take];congr 1;omega
  rw [e2]
  exact List.take_left' (by rw [List.length_append,List.length_take,hdl];omega)
 have HAP:=hh hap;have HCL:=hh hcl;have HG2:=hh hg2;have HK2:=hh hk2;have HFIN:=hh hfin;have HZ2:=hh hz2;have HN:=hh hn;have HC3:=hh c3;have HC2:=hh c2;have hb1:(0:Int)≤(i:Int)+1:=by omega
 have htn:((i:Int)+1).toNat=i+1:=by omega
 have hib:((i:Int) == (i:Int)+1)=false:=by simp;omega
 have hin:(i:Int)+1≤(m:Int)+1:=by omega
 have hil:(i:Int)≤(m:Int)+1:=by omega
 have him:(i:Int)≤(m:Int):=by omega
 have hwm:IntKind.i64.wrap ((m:Int)+1)=(m:Int)+1:=IntWalk.i64_in _ (by omega);have hm1:((m:Int)+1).toNat=m+1:=by omega
 have hm2:(0:Int)≤(m:Int)+1:=by omega
 have hm3:(m:Int)≤(m:Int)+1:=by omega
 have hii:(i:Int)≤(i:Int)+1:=by omega
 have hci:¬ cap=i:=by omega
 clear hap hcl hg2 hk2 hfin hz2 hn c3 hcs hi0 hz0 hzs hzb hdl hnew1 hz1 hW1 hg1 hk1 hnew2 hW2 hown hg h1 c4;have hcm:((m+1:Nat):Int)=(m:Int)+1:=by omega
 by_cases hcc:cap=i+1
 ·subst hcc;obtain rfl:m=i:=by omega
  go_enter Tryz.func234,Tryz.ntmps234
  go_wp2_with fail;refine a0f (fun _=>True) 7 8 (by kernel_rfl) rfl ?_;refine a0g 0 (some 20) rfl rfl (by kernel_rfl) (by kernel_rfl) (by kernel_rfl) (by kernel_rfl) (by kernel_rfl) (by kernel_rfl) (fun _ _ _ h=>h) (.inl ⟨by rfl,fun w' _=>(by go_simp;rfl)⟩) trivial ?_;go_frame;refine a0g 1 (some 21) rfl rfl (by kernel_rfl) (by kernel_rfl) (by kernel_rfl) (by kernel_rfl) (by kernel_rfl) (by kernel_rfl) (fun _ _ _ h=>h) (.inl ⟨by rfl,fun w' _=>(by go_simp;rfl)⟩) trivial ?_;go_frame;refine a0g 2 (some 22) rfl rfl (by kernel_rfl) (by kernel_rfl) (by kernel_rfl) (by kernel_rfl) (by kernel_rfl) (by kernel_rfl) (fun _ _ _ h=>h) (.inl ⟨by rfl,fun w' _=>(by go_simp;rfl)⟩) trivial ?_;go_frame;refine a0g 3 (some 23) rfl rfl (by kernel_rfl) (by kernel_rfl) (by kernel_rfl) (by kernel_rfl) (by kernel_rfl) (by kernel_rfl) (fun _ _ _ h=>h) (.inl ⟨by rfl,fun w' _=>(by go_simp;rfl)⟩) trivial ?_;go_frame;refine a0g 4 (some 24) rfl rfl (by kernel_rfl) (by kernel_rfl) (by kernel_rfl) (by kernel_rfl) (by kernel_rfl) (by kernel_rfl) (fun _ _ _ h=>h) (.inl ⟨by rfl,fun w' _=>(by go_simp;rfl)⟩) trivial ?_;go_frame;refine a0g 5 (some 25) rfl rfl (by kernel_rfl) (by kernel_rfl) (by kernel_rfl) (by kernel_rfl) (by kernel_rfl) (by kernel_rfl) (fun _ _ _ h=>h) (.inl ⟨by rfl,fun w' _=>(by go_simp;rfl)⟩) trivial ?_;go_frame;refine t1 6 fun K hK=>?_
  simp only [gA,jB,gC];refine b0E _ _ 38 38 rfl _ _ rfl rfl (HAP.out _ _ _ _ (by omega) (.inl (by omega))) ?_;refine hK _ _ (fun _ _=>trivial) ?_;clear hK;refine t1 7 fun K hK=>?_
  simp only [gA,jB,gC];go_simp;refine hK _ _ (fun h=>absurd rfl h) ?_;clear hK;refine tD ?_
  go_wp2_with (refine b0j rfl _ 38 rfl _ rfl (HCL.out _ _) ?_)
  go_ret
  refine ⟨_,rfl,LO.mk ?_ HG2.out ?_ (by unfold maxLen;exact HC2.out) (by rw [HZ2.out,Nat.mul_one];exact HC3.out) ?_,HK2.out,rfl⟩
  ·have:=HN.out;rw [List.length_append,List.length_take,List.length_drop];omega
  ·omega
  ·rw [a0W,Nat.mul_one];exact HFIN.out
 ·have hmc:¬ cap=m:=by omega
  have hic:i≤cap:=by omega
  have hicc:i+1≤cap:=by omega
  go_enter Tryz.func234,Tryz.ntmps234
  go_wp2_with fail;refine a0f (fun _=>True) 7 8 (by kernel_rfl) rfl ?_;refine a0g 0 (some 20) rfl rfl (by kernel_rfl) (by kernel_rfl) (by kernel_rfl) (by kernel_rfl) (by kernel_rfl) (by kernel_rfl) (fun _ _ _ h=>h) (.inl ⟨by rfl,fun w' _=>(by go_simp;rfl)⟩) trivial ?_;go_frame;refine a0g 1 (some 21) rfl rfl (by kernel_rfl) (by kernel_rfl) (by kernel_rfl) (by kernel_rfl) (by kernel_rfl) (by kernel_rfl) (fun _ _ _ h=>h) (.inl ⟨by rfl,fun w' _=>(by go_simp;rfl)⟩) trivial ?_;go_frame;refine a0g 2 (some 22) rfl rfl (by kernel_rfl) (by kernel_rfl) (by kernel_rfl) (by kernel_rfl) (by kernel_rfl) (by kernel_rfl) (fun _ _ _ h=>h) (.inl ⟨by rfl,fun w' _=>(by go_simp;rfl)⟩) trivial ?_;go_frame;refine a0g 3 (some 23) rfl rfl (by kernel_rfl) (by kernel_rfl) (by kernel_rfl) (by kernel_rfl) (by kernel_rfl) (by kernel_rfl) (fun _ _ _ h=>h) (.inl ⟨by rfl,fun w' _=>(by go_simp;rfl)⟩) trivial ?_;go_frame;refine a0g 4 (some 24) rfl rfl (by kernel_rfl) (by kernel_rfl) (by kernel_rfl) (by kernel_rfl) (by kernel_rfl) (by kernel_rfl) (fun _ _ _ h=>h) (.inl ⟨by rfl,fun w' _=>(by go_simp;rfl)⟩) trivial ?_;go_frame;refine a0g 5 (some 25) rfl rfl (by kernel_rfl) (by kernel_rfl) (by kernel_rfl) (by kernel_rfl) (by kernel_rfl) (by kernel_rfl) (fun _ _ _ h=>h) (.inl ⟨by rfl,fun w' _=>(by go_simp;rfl)⟩) trivial ?_;go_frame;refine t1 6 fun K hK=>?_
  simp only [gA,jB,gC];refine b0E _ _ 38 38 rfl _ _ rfl rfl (HAP.out _ _ _ _ (by omega) (.inr rfl)) ?_;refine hK _ _ (fun _ _=>trivial) ?_;clear hK;refine t1 7 fun K hK=>?_
  simp only [gA,jB,gC];go_simp;refine hK _ _ (fun h=>absurd rfl h) ?_;clear hK;refine tD ?_
  go_wp2_with (refine b0j rfl _ 38 rfl _ rfl (HCL.out _ _) ?_)
  go_ret
  refine ⟨_,rfl,LO.mk ?_ HG2.out ?_ (by unfold maxLen;exact HC2.out) (by rw [HZ2.out,Nat.mul_one];exact HC3.out) ?_,HK2.out,rfl⟩
  ·have:=HN.out;rw [List.length_append,List.length_take,List.length_drop];omega
  ·omega
  ·rw [a0W,Nat.mul_one];exact HFIN.out
end
end Go.Proofs.YtakkfabaeolbdaaGreat
