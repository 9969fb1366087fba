/- Slices at the head of a block of their own, whose capacity may have been cut: no condition. -/
import Derived.Test.YtabminbgoclnkaaGreatVa2
namespace Go.Proofs.YtabminbgoclnkaaGreat
open Go.RowKit

def LO {α:Type} (w:World) (e:TypeId) (enc:α→List Value) (sz:Nat) (v:Value) (l:List α):Prop:=
 (v = .slice none 0 0∧l = [])∨∃ g cap cur,v = .slice (some ⟨g,0,none⟩) l.length cap∧w.heap[g]? = some (.cells cur e (0,0))∧l.length≤cap∧cap≤maxLen∧cap*sz≤cur.size∧cur.toList.take (l.length*sz)=l.flatMap enc

section
variable {α:Type} {w w':World} {e:TypeId} {enc:α→List Value} {sz:Nat} {v:Value} {l:List α}

theorem LO.nil (w:World) (e:TypeId) (enc:α→List Value) (sz:Nat):LO w e enc sz (.slice none 0 0) []:=.inl ⟨rfl,rfl⟩
theorem LO.of_own {B:Nat} (h:Own w B e enc sz v l):LO w e enc sz v l:=by
 rcases h.2 with ⟨rfl,h2⟩ | ⟨g,cap,cur,rfl,hg,hhq,h1,h2,h3,h4⟩
 ·exact .inl ⟨rfl,List.eq_nil_of_length_eq_zero h2⟩
 ·exact .inr ⟨g,cap,cur,rfl,hhq,h1,h2,Nat.le_of_eq h3.symm,h4⟩
theorem LO.lt (h:LO w e enc sz v l):∀ k,v.ownBlock=some k→k < w.heap.size:=by
 intro k hk
 rcases h with ⟨rfl,_⟩ | ⟨g,cap,cur,rfl,hhq,_⟩
 ·cases hk
 ·cases hk;exact a0e hhq
theorem LO.keep (h:LO w e enc sz v l) {S:Nat→Prop} (hk:Keep S w w') (hS:∀ k,v.ownBlock=some k→¬ S k):LO w' e enc sz v l:=by
 rcases h with h | ⟨g,cap,cur,rfl,hhq,r⟩
 ·exact .inl h
 ·exact .inr ⟨g,cap,cur,rfl,hk.at hhq (hS g rfl),r⟩
theorem LO.later (h:LO w e enc sz v l) (hb:Below w.heap.size w w'):LO w' e enc sz v l:=h.keep (Keep.of_below (S:=fun _=>False) hb) fun _ _=>id
theorem LO.rd (h:LO w e enc sz v l) (he:∀ x,(enc x).length=sz):Rd w enc sz v l:=by
 rcases h with ⟨rfl,rfl⟩ | ⟨g,cap,cur,rfl,hhq,h1,h2,h3,h4⟩
 ·exact Rd.nil _ _ _
 ·refine ⟨_,cap,rfl,h1,h2,fun _=>⟨g,0,rfl,a0e hhq,fun i hi j hj=>?_⟩⟩;have h5:=c0I enc sz he l i hi j hj;rw [← h4,List.getElem?_take,if_pos (by
   have:i*sz+sz≤l.length*sz:=by rw [← Nat.succ_mul];exact Nat.mul_le_mul_right _ hi
   omega)] at h5
  rw [← h5]
  simp [World.cell?,hhq]
theorem LO.shape (h:LO w e enc sz v l):∃ ad cap,v = .slice ad l.length cap∧l.length≤cap∧cap≤9223372036854775807:=by
 rcases h with ⟨rfl,rfl⟩ | ⟨g,cap,cur,rfl,hhq,h1,h2,h3,h4⟩
 ·exact ⟨none,0,rfl,Nat.le_refl _,by omega⟩
 ·unfold maxLen at h2;exact ⟨_,cap,rfl,h1,h2⟩
theorem LO.opened (h:LO w e enc sz v l) (hl:l≠[]):∃ g cap cur,v = .slice (some ⟨g,0,none⟩) l.length cap∧w.heap[g]? = some (.cells cur e (0,0))∧l.length≤cap∧cap≤maxLen∧cap*sz≤cur.size∧cur.toList.take (l.length*sz)=l.flatMap enc:=by
 rcases h with ⟨_,rfl⟩ | h
 ·exact absurd rfl hl
 ·exact h
theorem LO.mk {g cap:Nat} {cur:Array Value} {n:Nat} (hn:n=l.length) (hhq:w.heap[g]? = some (.cells cur e (0,0))) (h1:n≤cap) (h2:cap≤maxLen) (h3:cap*sz≤cur.size) (h4:cur.toList.take (n*sz)=l.flatMap enc):LO w e enc sz (.slice (some ⟨g,0,none⟩) n cap) l:=by
 subst hn;exact .inr ⟨g,cap,cur,rfl,hhq,h1,h2,h3,h4⟩
theorem LO.cut (he:∀ x,(enc x).length=sz) {g n cap:Nat} (h:LO w e enc sz (.slice (some ⟨g,0,none⟩) n cap) l) (m c:Nat) (hm:m≤n) (hc:m≤c) (hcc:c≤cap):LO w e enc sz (.slice (some ⟨g,0,none⟩) m c) (l.take m):=by
 rcases h with ⟨h,_⟩ | ⟨g',cap',cur,hv,hhq,h1,h2,h3,h4⟩
 ·cases h
 ·cases hv
  refine LO.mk (by rw [List.length_take];omega) hhq hc (by omega) (Nat.le_trans (Nat.mul_le_mul_right _ hcc) h3) ?_;have h5:(l.take m).flatMap enc=(l.flatMap enc).take (m*sz):=by
   have h6:l=l.take m ++ l.drop m:=(List.take_append_drop m l).symm
   conv=>rhs;rw [h6,List.flatMap_append]
   rw [List.take_left'];rw [b0G enc sz he,List.length_take,Nat.min_eq_left hm]
  rw [h5,← h4,List.take_take]
  congr 1
  have:m*sz≤l.length*sz:=Nat.mul_le_mul_right _ hm
  omega
theorem LO.made (w:World) (cs:Array Value) (cap:Nat) (n:Nat) (hn:n=l.length) (h1:n≤cap) (h2:cap≤maxLen) (h3:cap*sz≤cs.size) (h4:cs.toList.take (n*sz)=l.flatMap enc) :
  LO (w.alloc (.cells cs e)) e enc sz (.slice (some ⟨w.heap.size,0,none⟩) n cap) l:=LO.mk hn (heap_alloc_new _ _) h1 h2 h3 h4
end

def MovedO (w:World) (v v':Value):Prop:=v'.ownBlock=v.ownBlock∨∃ g,v'.ownBlock=some g∧w.heap.size≤g

theorem b0R {P:Program} {w:World} {t u ty e e':TypeId} (ht:P.underlying t=some (.slice e)) (hu:P.underlying u=some (.slice e')) (s x:Value) :
  (Builtin.append_ #[t,u] ty #[s,x]).run P w=(Builtin.append_ #[t,t] ty #[s,x]).run P w:=by
 unfold Builtin.append_
 simp only [List.getElem?_toArray,List.getElem?_cons_zero,List.getElem?_cons_succ,Sem.run_bind,run_underlying ht,Result.andThen_ok]
 cases s<;>first | rfl | (simp only [Sem.run_bind,run_underlying ht,run_underlying hu,Result.andThen_ok])
theorem b0f {P:Program} {o:Oper} {a:Act} {K:Act→World→Prop} {Q:Exit→Act→World→Prop} {w:World} (s x:Operand) (t u:TypeId)
  (ho:o.op = .call { callee:=.builtin .append,args:=#[s,x],argTypes:=#[t,u] })
  {e:TypeId} {z:Value} {sz bytes:Nat} (ht:P.underlying t=some (.slice e)) (hut:P.underlying u=some (.slice e)) (hi:(P.info? e).map (fun i=>(i.zero,i.size,i.bytes))=some (some z,sz,bytes)) (hz:z.cells.size=sz) (hsz:0 < sz)
  {α:Type} {enc:α→List Value} (hel:∀ x,(enc x).length=sz) {v:Value} {l l2:List α} (heo:∀ x∈l2,∀ u∈enc x,u.oneCell'=true) (hown:LO w e enc sz v l) (hs:a.eval s=v)
  (v2:Value) (hx:a.eval x=v2) (hrd:Rd w enc sz v2 l2) (hlen:l.length+l2.length≤maxLen) (hbytes:(l.length+l2.length)*bytes≤140737488355328)
  (h:∀ v' w',LO w' e enc sz v' (l ++ l2)→Keep (fun k=>v.ownBlock=some k) w w'→MovedO w v v'→K (a.put o.dst v') w') :
  o.wp P a w K Q:=by
 obtain ⟨i,hi,hz0,hz1,hz2⟩:=info_parts hi;obtain ⟨ad,cap,rfl,c1,c2,c3⟩:=hrd
 cases ad with
 | none=>
  have hl:l2 = []:=by
   cases l2 with
   | nil=>rfl
   | cons y l2=>obtain ⟨b,off,h1,_⟩:=c3 (by simp);cases h1
  subst hl;have hrun:(Builtin.append_ #[t,t] o.type #[v,.slice none 0 cap]).run P w = .ok v w:=by
   rcases hown with ⟨rfl,rfl⟩ | ⟨g,cap,cur,rfl,_,hnc,_⟩
   ·simp [Builtin.append_,run_underlying ht,sizeOf,typeInfo,hi,Builtin.lenOf,Builtin.firstCells]
   ·simp [Builtin.append_,run_underlying ht,sizeOf,typeInfo,hi,Builtin.lenOf,Builtin.firstCells,hnc,storeCells]
  unfold Oper.wp
  simp only [List.length_nil] at hx
  simp [execOp,ho,resolve,invoke,builtin,hs,hx,b0R ht hut,hrun,Result.andThen]
  exact h v w (by simpa using hown) (Keep.refl _ _) (.inl rfl)
 | some ad=>
  have hnews:∀ j u,(l2.flatMap enc)[j]? = some u→w.cell? (ad.add j)=some u:=by
   intro j u hj;have hj1:j < l2.length*sz:=by have:=(List.getElem?_eq_some_iff.1 hj).1;rwa [b0G enc sz hel] at this
   have hne:l2≠[]:=by intro e;subst e;simp at hj1
   obtain ⟨b,off,h1,_,hc⟩:=c3 hne
   cases h1
   have hd:j / sz < l2.length:=(Nat.div_lt_iff_lt_mul hsz).2 hj1;have hm:j % sz < sz:=Nat.mod_lt _ hsz;have h2:=hc (j / sz) hd (j % sz) hm;have h3:=c0I enc sz hel l2 (j / sz) hd (j % sz) hm;have h4:j / sz*sz+j % sz=j:=Nat.div_add_mod' j sz;rw [h4] at h3;rw [Nat.add_assoc,h4] at h2;have h5:(⟨b,off,none⟩:Addr).add j=⟨b,off+j,none⟩:=by unfold Addr.add;split<;>simp_all
   rw [h5,h2,← h3,hj]
  have hone:∀ u∈l2.flatMap enc,u.oneCell'=true:=by
   intro u hu;obtain ⟨y,hy0,hy⟩:=List.mem_flatMap.1 hu
   exact heo y hy0 u hy
  have hl2:=b0G enc sz hel l2
  by_cases hroom:∃ g c cur,v = .slice (some ⟨g,0,none⟩) l.length c∧w.heap[g]? = some (.cells cur e (0,0))∧l.length≤c∧c≤maxLen∧c*sz≤cur.size∧cur.toList.take (l.length*sz)=l.flatMap enc∧l.length+l2.length≤c
  ·obtain ⟨g,c,cur,rfl,hhq,h1,h2,h3,h4,h5⟩:=hroom;obtain ⟨news,hN⟩:∃ news,news=l2.flatMap enc:=⟨_,rfl⟩;rw [← hN] at hnews hone hl2;have hfit:(l.length+l2.length)*sz≤cur.size:=Nat.le_trans (Nat.mul_le_mul_right _ h5) h3;rw [Nat.add_mul] at hfit;have hrun:=run_append_room (P:=P) w t o.type e i ht hi g l.length c cur hhq ad l2.length cap news (by rw [hl2,hz1]) hnews hone h5 (by rw [hz1,hl2];exact hfit)
   unfold Oper.wp
   simp [execOp,ho,resolve,invoke,builtin,hs,hx,b0R ht hut,hrun,Result.andThen]
   refine h _ _ ?_ (Keep.setRow (S:=fun k=>Value.ownBlock (.slice (some ⟨g,0,none⟩) l.length c)=some k) (Keep.refl _ _) (.inl rfl) _) (.inl rfl);refine LO.mk (by rw [List.length_append]) (setRow_heap _ _ _ _ _ _ hhq) h5 h2 ?_ ?_
   ·simp only [List.size_toArray,List.length_append,List.length_take,List.length_drop,Array.length_toList,hz1,hl2];omega
   ·simp only [hz1];have e1:(cur.toList.take (l.length*sz) ++ news).length=(l.length+l2.length)*sz:=by
     rw [List.length_append,List.length_take,Array.length_toList (xs:=cur),hl2,Nat.add_mul,Nat.min_eq_left (Nat.le_trans (Nat.le_add_right _ _) hfit)]
    rw [← e1,← List.append_assoc,List.take_left' rfl,h4,List.flatMap_append,hN]
  ·have hgo:∃ (ao:Option Addr) (c:Nat),v = .slice ao l.length c∧(ao=none→l.length=0∧c=0)∧(∀ b,ao=some b→∀ j u,(l.flatMap enc)[j]? = some u→w.cell? (b.add j)=some u)∧(l.length+l2.length≤c→ao=none):=by
    rcases hown with ⟨rfl,rfl⟩ | ⟨g,c,cur,rfl,hhq,h1,h2,h3,h4⟩
    ·exact ⟨none,0,rfl,fun _=>⟨rfl,rfl⟩,(fun b hb=>by cases hb),fun _=>rfl⟩
    ·refine ⟨some ⟨g,0,none⟩,c,rfl,(fun e=>by cases e),?_,fun h5=>absurd ⟨g,c,cur,rfl,hhq,h1,h2,h3,h4,h5⟩ hroom⟩;intro b hb j u hj
     cases hb
     have h5:(⟨g,0,none⟩:Addr).add j=⟨g,j,none⟩:=by unfold Addr.add;split<;>simp_all
     rw [h5,Lib.cell_of_heap hhq];rw [← h4,List.getElem?_take] at hj
     split at hj
     ·simpa using hj
     ·cases hj
   obtain ⟨ao,c,rfl,g1,g2,g3⟩:=hgo
   by_cases hfits:l.length+l2.length≤c
   ·have:=g3 hfits;subst this;obtain ⟨z1,z2⟩:=g1 rfl;have hl0:l = []:=List.eq_nil_of_length_eq_zero z1;have hl20:l2 = []:=List.eq_nil_of_length_eq_zero (by omega);subst hl0;subst hl20;subst z2;have hrun:(Builtin.append_ #[t,t] o.type #[.slice none 0 0,.slice (some ad) 0 cap]).run P w = .ok (.slice none 0 0) w:=by
     have hlc:∀ (b:Addr),(loadCells b 0).run P w = .ok #[] w:=fun b=>by unfold loadCells;simp [loadCellsFrom]
     simp [Builtin.append_,run_underlying ht,sizeOf,typeInfo,hi,Builtin.lenOf,Builtin.firstCells,hlc]
    unfold Oper.wp
    simp only [List.length_nil] at hx hs
    simp [execOp,ho,resolve,invoke,builtin,hs,hx,b0R ht hut,hrun,Result.andThen]
    exact h _ w (LO.nil _ _ _ _) (Keep.refl _ _) (.inl rfl)
   ·have hrun:∃ v' w',(Builtin.append_ #[t,t] o.type #[.slice ao l.length c,.slice (some ad) l2.length cap]).run P w = .ok v' w'∧w'.ownsRow w.heap.size e sz v' (l.length+l2.length) (l.flatMap enc ++ l2.flatMap enc)∧w.grownBy w' none:=by
     cases ao with
     | some b=>exact run_append_arg_grows (P:=P) w t o.type e i z sz bytes ht hi hz0 hz1 hz2 hz hsz b l.length c (l.flatMap enc) (b0G enc sz hel l) (g2 b rfl) ad l2.length cap (l2.flatMap enc) hl2 hnews (by omega) hlen hbytes
     | none=>
      obtain ⟨z1,z2⟩:=g1 rfl;have hl0:l = []:=List.eq_nil_of_length_eq_zero z1;subst hl0;subst z2;obtain ⟨v',w',r1,r2,r3,_⟩:=run_append_own (P:=P) w w.heap.size t o.type e i z sz bytes ht hi hz0 hz1 hz2 hz hsz (.slice none 0 0) 0 [] (World.ownsRow_nil w _ e sz) ad l2.length cap (l2.flatMap enc) hl2 hnews hone (by simpa using hlen) (by simpa using hbytes) (Nat.le_refl _)
      exact ⟨v',w',r1,by simpa using r2,r3⟩
    obtain ⟨v',w',hrun,r1,r2⟩:=hrun
    unfold Oper.wp
    simp [execOp,ho,resolve,invoke,builtin,hs,hx,b0R ht hut,hrun,Result.andThen]
    have hown:Own w' w.heap.size e enc sz v' (l ++ l2):=by unfold Own;rw [List.flatMap_append,List.length_append];exact r1
    refine h _ _ (LO.of_own hown) (Keep.of_below ⟨r2.os,r2.tape,r2.output,r2.size,fun k hk=>r2.block k hk (by simp)⟩) ?_
    rcases r1.2 with ⟨_,r3⟩ | ⟨g,cap,cur,rfl,r3,_⟩
    ·omega
    ·exact .inr ⟨g,rfl,r3⟩
theorem a0B {P:Program} {ops:Array Oper} {rest:List Oper} {o:Oper} {a:Act} {Q:Exit→Act→World→Prop} {w:World} (hgd:o.guard=none) (s x:Operand) (t u:TypeId)
  (ho:o.op = .call { callee:=.builtin .append,args:=#[s,x],argTypes:=#[t,u] })
  {e:TypeId} {z:Value} {sz bytes:Nat} (ht:P.underlying t=some (.slice e)) (hut:P.underlying u=some (.slice e)) (hi:(P.info? e).map (fun i=>(i.zero,i.size,i.bytes))=some (some z,sz,bytes)) (hz:z.cells.size=sz) (hsz:0 < sz)
  {α:Type} {enc:α→List Value} (hel:∀ x,(enc x).length=sz) {v:Value} {l l2:List α} (heo:∀ x∈l2,∀ u∈enc x,u.oneCell'=true) (hown:LO w e enc sz v l) (hs:a.eval s=v)
  (v2:Value) (hx:a.eval x=v2) (hrd:Rd w enc sz v2 l2) (hlen:l.length+l2.length≤maxLen) (hbytes:(l.length+l2.length)*bytes≤140737488355328)
  (h:∀ v' w',LO w' e enc sz v' (l ++ l2)→Keep (fun k=>v.ownBlock=some k) w w'→MovedO w v v'→wpList P ops Q rest (a.put o.dst v') w') :
  wpList P ops Q (o :: rest) a w:=
 wpList_plain hgd fun _ hK=>b0f s x t u ho ht hut hi hz hsz hel heo hown hs v2 hx hrd hlen hbytes fun v' w' h1 h2 h3=>hK _ _ (h v' w' h1 h2 h3)
theorem c0Q {P:Program} {ops:Array Oper} {rest:List Oper} {o:Oper} {a:Act} {Q:Exit→Act→World→Prop} {w:World} (hgd:o.guard=none) (s x:Operand) (t u:TypeId)
  (ho:o.op = .call { callee:=.builtin .append,args:=#[s,x],argTypes:=#[t,u] })
  {e:TypeId} {z:Value} {sz bytes:Nat} (ht:P.underlying t=some (.slice e)) (hut:P.underlying u=some (.slice e)) (hi:(P.info? e).map (fun i=>(i.zero,i.size,i.bytes))=some (some z,sz,bytes)) (hz:z.cells.size=sz) (hsz:0 < sz)
  {α:Type} {enc:α→List Value} (hel:∀ x,(enc x).length=sz) {v:Value} {l:List α} (hown:LO w e enc sz v l) (hs:a.eval s=v)
  (y:α) (heo:∀ u∈enc y,u.oneCell'=true) (g:Nat) (cs:Array Value) (T:TypeId) (hg:w.heap[g]? = some (.cells cs T (0,0))) (hcs:cs.toList=enc y) (hx:a.eval x = .slice (some ⟨g,0,none⟩) 1 1) (hlen:l.length+1≤maxLen) (hbytes:(l.length+1)*bytes≤140737488355328)
  (h:∀ v' w',LO w' e enc sz v' (l ++ [y])→Keep (fun k=>v.ownBlock=some k) w w'→MovedO w v v'→wpList P ops Q rest (a.put o.dst v') w') :
  wpList P ops Q (o :: rest) a w:=
 a0B (l2:=[y]) hgd s x t u ho ht hut hi hz hsz hel (fun x hx=>by rw [List.mem_singleton.1 hx];exact heo) hown hs _ hx ⟨some ⟨g,0,none⟩,1,rfl,Nat.le_refl _,by unfold maxLen;omega,fun _=>⟨g,0,rfl,a0e hg,fun i hi j hj=>by
  have h0:i=0:=by simpa using hi
  subst h0;rw [Lib.cell_of_heap hg]
  simp [← hcs]⟩⟩ hlen hbytes h
end Go.Proofs.YtabminbgoclnkaaGreat
