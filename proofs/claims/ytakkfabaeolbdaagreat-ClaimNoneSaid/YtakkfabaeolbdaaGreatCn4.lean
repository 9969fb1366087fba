/- Slices at the head of a block of their own, whose capacity may have been cut: no condition. Maps of texts to texts, as walks meet them: no condition. A store in memory; is, Made, New, Get, Len, Mark: no condition. The library's binary searches, as a store calls them: no condition. -/
import Derived.Test.YtakkfabaeolbdaaGreatCn2
import Derived.Test.YtakkfabaeolbdaaGreatCn3
import Derived.MapKept
import Derived.ChangeMaps5
import Derived.Maps.OwnSet
import Derived.Lib.Bytealg
import Derived.Laws.Externs
namespace Go.Proofs.YtakkfabaeolbdaaGreat
section
open Go.RowKit

def LO {α:Type} (w:World) (e:TypeId) (enc:α→List Value) (sz:Nat) (v:Value) (l:List α):Prop:=
 (v = .slice none 0 0∧l = [])∨∃ g cap cur,v = .slice (some ⟨g,0,none⟩) l.length cap∧w.heap[g]? = some (.cells cur e (0,0))∧l.length≤cap∧cap≤maxLen∧cap*sz≤cur.size∧cur.toList.take (l.length*sz)=l.flatMap enc

section
variable {α:Type} {w w':World} {e:TypeId} {enc:α→List Value} {sz:Nat} {v:Value} {l:List α}

theorem LO.nil (w:World) (e:TypeId) (enc:α→List Value) (sz:Nat):LO w e enc sz (.slice none 0 0) []:=.inl ⟨rfl,rfl⟩
theorem LO.of_own {B:Nat} (h:Own w B e enc sz v l):LO w e enc sz v l:=by
 rcases h.2 with ⟨rfl,h2⟩ | ⟨g,cap,cur,rfl,hg,hhq,h1,h2,h3,h4⟩
 ·exact .inl ⟨rfl,List.eq_nil_of_length_eq_zero h2⟩
 ·exact .inr ⟨g,cap,cur,rfl,hhq,h1,h2,Nat.le_of_eq h3.symm,h4⟩
theorem LO.lt (h:LO w e enc sz v l):∀ k,v.ownBlock=some k→k < w.heap.size:=by
 intro k hk
 rcases h with ⟨rfl,_⟩ | ⟨g,cap,cur,rfl,hhq,_⟩
 ·cases hk
 ·cases hk;exact a0b hhq
theorem LO.keep (h:LO w e enc sz v l) {S:Nat→Prop} (hk:Keep S w w') (hS:∀ k,v.ownBlock=some k→¬ S k):LO w' e enc sz v l:=by
 rcases h with h | ⟨g,cap,cur,rfl,hhq,r⟩
 ·exact .inl h
 ·exact .inr ⟨g,cap,cur,rfl,hk.at hhq (hS g rfl),r⟩
theorem LO.later (h:LO w e enc sz v l) (hb:Below w.heap.size w w'):LO w' e enc sz v l:=h.keep (Keep.of_below (S:=fun _=>False) hb) fun _ _=>id
theorem LO.rd (h:LO w e enc sz v l) (he:∀ x,(enc x).length=sz):Rd w enc sz v l:=by
 rcases h with ⟨rfl,rfl⟩ | ⟨g,cap,cur,rfl,hhq,h1,h2,h3,h4⟩
 ·exact Rd.nil _ _ _
 ·refine ⟨_,cap,rfl,h1,h2,fun _=>⟨g,0,rfl,a0b hhq,fun i hi j hj=>?_⟩⟩;have h5:=a0Z enc sz he l i hi j hj;rw [← h4,List.getElem?_take,if_pos (by
   have:i*sz+sz≤l.length*sz:=by rw [← Nat.succ_mul];exact Nat.mul_le_mul_right _ hi
   omega)] at h5
  rw [← h5]
  simp [World.cell?,hhq]
theorem LO.shape (h:LO w e enc sz v l):∃ ad cap,v = .slice ad l.length cap∧l.length≤cap∧cap≤9223372036854775807:=by
 rcases h with ⟨rfl,rfl⟩ | ⟨g,cap,cur,rfl,hhq,h1,h2,h3,h4⟩
 ·exact ⟨none,0,rfl,Nat.le_refl _,by omega⟩
 ·unfold maxLen at h2;exact ⟨_,cap,rfl,h1,h2⟩
theorem LO.opened (h:LO w e enc sz v l) (hl:l≠[]):∃ g cap cur,v = .slice (some ⟨g,0,none⟩) l.length cap∧w.heap[g]? = some (.cells cur e (0,0))∧l.length≤cap∧cap≤maxLen∧cap*sz≤cur.size∧cur.toList.take (l.length*sz)=l.flatMap enc:=by
 rcases h with ⟨_,rfl⟩ | h
 ·exact absurd rfl hl
 ·exact h
theorem LO.mk {g cap:Nat} {cur:Array Value} {n:Nat} (hn:n=l.length) (hhq:w.heap[g]? = some (.cells cur e (0,0))) (h1:n≤cap) (h2:cap≤maxLen) (h3:cap*sz≤cur.size) (h4:cur.toList.take (n*sz)=l.flatMap enc):LO w e enc sz (.slice (some ⟨g,0,none⟩) n cap) l:=by
 subst hn;exact .inr ⟨g,cap,cur,rfl,hhq,h1,h2,h3,h4⟩
theorem LO.cut (he:∀ x,(enc x).length=sz) {g n cap:Nat} (h:LO w e enc sz (.slice (some ⟨g,0,none⟩) n cap) l) (m c:Nat) (hm:m≤n) (hc:m≤c) (hcc:c≤cap):LO w e enc sz (.slice (some ⟨g,0,none⟩) m c) (l.take m):=by
 rcases h with ⟨h,_⟩ | ⟨g',cap',cur,hv,hhq,h1,h2,h3,h4⟩
 ·cases h
 ·cases hv
  refine LO.mk (by rw [List.length_take];omega) hhq hc (by omega) (Nat.le_trans (Nat.mul_le_mul_right _ hcc) h3) ?_;have h5:(l.take m).flatMap enc=(l.flatMap enc).take (m*sz):=by
   have h6:l=l.take m ++ l.drop m:=(List.take_append_drop m l).symm
   conv=>rhs;rw [h6,List.flatMap_append]
   rw [List.take_left'];rw [a0R enc sz he,List.length_take,Nat.min_eq_left hm]
  rw [h5,← h4,List.take_take]
  congr 1
  have:m*sz≤l.length*sz:=Nat.mul_le_mul_right _ hm
  omega
theorem LO.made (w:World) (cs:Array Value) (cap:Nat) (n:Nat) (hn:n=l.length) (h1:n≤cap) (h2:cap≤maxLen) (h3:cap*sz≤cs.size) (h4:cs.toList.take (n*sz)=l.flatMap enc) :
  LO (w.alloc (.cells cs e)) e enc sz (.slice (some ⟨w.heap.size,0,none⟩) n cap) l:=LO.mk hn (heap_alloc_new _ _) h1 h2 h3 h4
end

def MovedO (w:World) (v v':Value):Prop:=v'.ownBlock=v.ownBlock∨∃ g,v'.ownBlock=some g∧w.heap.size≤g

theorem b0X {P:Program} {w:World} {t u ty e e':TypeId} (ht:P.underlying t=some (.slice e)) (hu:P.underlying u=some (.slice e')) (s x:Value) :
  (Builtin.append_ #[t,u] ty #[s,x]).run P w=(Builtin.append_ #[t,t] ty #[s,x]).run P w:=by
 unfold Builtin.append_
 simp only [List.getElem?_toArray,List.getElem?_cons_zero,List.getElem?_cons_succ,Sem.run_bind,run_underlying ht,Result.andThen_ok]
 cases s<;>first | rfl | (simp only [Sem.run_bind,run_underlying ht,run_underlying hu,Result.andThen_ok])
theorem b0n {P:Program} {o:Oper} {a:Act} {K:Act→World→Prop} {Q:Exit→Act→World→Prop} {w:World} (s x:Operand) (t u:TypeId)
  (ho:o.op = .call { callee:=.builtin .append,args:=#[s,x],argTypes:=#[t,u] })
  {e:TypeId} {z:Value} {sz bytes:Nat} (ht:P.underlying t=some (.slice e)) (hut:P.underlying u=some (.slice e)) (hi:(P.info? e).map (fun i=>(i.zero,i.size,i.bytes))=some (some z,sz,bytes)) (hz:z.cells.size=sz) (hsz:0 < sz)
  {α:Type} {enc:α→List Value} (hel:∀ x,(enc x).length=sz) {v:Value} {l l2:List α} (heo:∀ x∈l2,∀ u∈enc x,u.oneCell'=true) (hown:LO w e enc sz v l) (hs:a.eval s=v)
  (v2:Value) (hx:a.eval x=v2) (hrd:Rd w enc sz v2 l2) (hlen:l.length+l2.length≤maxLen) (hbytes:(l.length+l2.length)*bytes≤140737488355328)
  (h:∀ v' w',LO w' e enc sz v' (l ++ l2)→Keep (fun k=>v.ownBlock=some k) w w'→MovedO w v v'→K (a.put o.dst v') w') :
  o.wp P a w K Q:=by
 obtain ⟨i,hi,hz0,hz1,hz2⟩:=info_parts hi;obtain ⟨ad,cap,rfl,c1,c2,c3⟩:=hrd
 cases ad with
 | none=>
  have hl:l2 = []:=by
   cases l2 with
   | nil=>rfl
   | cons y l2=>obtain ⟨b,off,h1,_⟩:=c3 (by simp);cases h1
  subst hl;have hrun:(Builtin.append_ #[t,t] o.type #[v,.slice none 0 cap]).run P w = .ok v w:=by
   rcases hown with ⟨rfl,rfl⟩ | ⟨g,cap,cur,rfl,_,hnc,_⟩
   ·simp [Builtin.append_,run_underlying ht,sizeOf,typeInfo,hi,Builtin.lenOf,Builtin.firstCells]
   ·simp [Builtin.append_,run_underlying ht,sizeOf,typeInfo,hi,Builtin.lenOf,Builtin.firstCells,hnc,storeCells]
  unfold Oper.wp
  simp only [List.length_nil] at hx
  simp [execOp,ho,resolve,invoke,builtin,hs,hx,b0X ht hut,hrun,Result.andThen]
  exact h v w (by simpa using hown) (Keep.refl _ _) (.inl rfl)
 | some ad=>
  have hnews:∀ j u,(l2.flatMap enc)[j]? = some u→w.cell? (ad.add j)=some u:=by
   intro j u hj;have hj1:j < l2.length*sz:=by have:=(List.getElem?_eq_some_iff.1 hj).1;rwa [a0R enc sz hel] at this
   have hne:l2≠[]:=by intro e;subst e;simp at hj1
   obtain ⟨b,off,h1,_,hc⟩:=c3 hne
   cases h1
   have hd:j / sz < l2.length:=(Nat.div_lt_iff_lt_mul hsz).2 hj1;have hm:j % sz < sz:=Nat.mod_lt _ hsz;have h2:=hc (j / sz) hd (j % sz) hm;have h3:=a0Z enc sz hel l2 (j / sz) hd (j % sz) hm;have h4:j / sz*sz+j % sz=j:=Nat.div_add_mod' j sz;rw [h4] at h3;rw [Nat.add_assoc,h4] at h2;have h5:(⟨b,off,none⟩:Addr).add j=⟨b,off+j,none⟩:=by unfold Addr.add;split<;>simp_all
   rw [h5,h2,← h3,hj]
  have hone:∀ u∈l2.flatMap enc,u.oneCell'=true:=by
   intro u hu;obtain ⟨y,hy0,hy⟩:=List.mem_flatMap.1 hu
   exact heo y hy0 u hy
  have hl2:=a0R enc sz hel l2
  by_cases hroom:∃ g c cur,v = .slice (some ⟨g,0,none⟩) l.length c∧w.heap[g]? = some (.cells cur e (0,0))∧l.length≤c∧c≤maxLen∧c*sz≤cur.size∧cur.toList.take (l.length*sz)=l.flatMap enc∧l.length+l2.length≤c
  ·obtain ⟨g,c,cur,rfl,hhq,h1,h2,h3,h4,h5⟩:=hroom;obtain ⟨news,hN⟩:∃ news,news=l2.flatMap enc:=⟨_,rfl⟩;rw [← hN] at hnews hone hl2;have hfit:(l.length+l2.length)*sz≤cur.size:=Nat.le_trans (Nat.mul_le_mul_right _ h5) h3;rw [Nat.add_mul] at hfit;have hrun:=run_append_room (P:=P) w t o.type e i ht hi g l.length c cur hhq ad l2.length cap news (by rw [hl2,hz1]) hnews hone h5 (by rw [hz1,hl2];exact hfit)
   unfold Oper.wp
   simp [execOp,ho,resolve,invoke,builtin,hs,hx,b0X ht hut,hrun,Result.andThen]
   refine h _ _ ?_ (Keep.setRow (S:=fun k=>Value.ownBlock (.slice (some ⟨g,0,none⟩) l.length c)=some k) (Keep.refl _ _) (.inl rfl) _) (.inl rfl);refine LO.mk (by rw [List.length_append]) (setRow_heap _ _ _ _ _ _ hhq) h5 h2 ?_ ?_
   ·simp only [List.size_toArray,List.length_append,List.length_take,List.length_drop,Array.length_toList,hz1,hl2];omega
   ·simp only [hz1];have e1:(cur.toList.take (l.length*sz) ++ news).length=(l.length+l2.length)*sz:=by
     rw [List.length_append,List.length_take,Array.length_toList (xs:=cur),hl2,Nat.add_mul,Nat.min_eq_left (Nat.le_trans (Nat.le_add_right _ _) hfit)]
    rw [← e1,← List.append_assoc,List.take_left' rfl,h4,List.flatMap_append,hN]
  ·have hgo:∃ (ao:Option Addr) (c:Nat),v = .slice ao l.length c∧(ao=none→l.length=0∧c=0)∧(∀ b,ao=some b→∀ j u,(l.flatMap enc)[j]? = some u→w.cell? (b.add j)=some u)∧(l.length+l2.length≤c→ao=none):=by
    rcases hown with ⟨rfl,rfl⟩ | ⟨g,c,cur,rfl,hhq,h1,h2,h3,h4⟩
    ·exact ⟨none,0,rfl,fun _=>⟨rfl,rfl⟩,(fun b hb=>by cases hb),fun _=>rfl⟩
    ·refine ⟨some ⟨g,0,none⟩,c,rfl,(fun e=>by cases e),?_,fun h5=>absurd ⟨g,c,cur,rfl,hhq,h1,h2,h3,h4,h5⟩ hroom⟩;intro b hb j u hj
     cases hb
     have h5:(⟨g,0,none⟩:Addr).add j=⟨g,j,none⟩:=by unfold Addr.add;split<;>simp_all
     rw [h5,Lib.cell_of_heap hhq];rw [← h4,List.getElem?_take] at hj
     split at hj
     ·simpa using hj
     ·cases hj
   obtain ⟨ao,c,rfl,g1,g2,g3⟩:=hgo
   by_cases hfits:l.length+l2.length≤c
   ·have:=g3 hfits;subst this;obtain ⟨z1,z2⟩:=g1 rfl;have hl0:l = []:=List.eq_nil_of_length_eq_zero z1;have hl20:l2 = []:=List.eq_nil_of_length_eq_zero (by omega);subst hl0;subst hl20;subst z2;have hrun:(Builtin.append_ #[t,t] o.type #[.slice none 0 0,.slice (some ad) 0 cap]).run P w = .ok (.slice none 0 0) w:=by
     have hlc:∀ (b:Addr),(loadCells b 0).run P w = .ok #[] w:=fun b=>by unfold loadCells;simp [loadCellsFrom]
     simp [Builtin.append_,run_underlying ht,sizeOf,typeInfo,hi,Builtin.lenOf,Builtin.firstCells,hlc]
    unfold Oper.wp
    simp only [List.length_nil] at hx hs
    simp [execOp,ho,resolve,invoke,builtin,hs,hx,b0X ht hut,hrun,Result.andThen]
    exact h _ w (LO.nil _ _ _ _) (Keep.refl _ _) (.inl rfl)
   ·have hrun:∃ v' w',(Builtin.append_ #[t,t] o.type #[.slice ao l.length c,.slice (some ad) l2.length cap]).run P w = .ok v' w'∧w'.ownsRow w.heap.size e sz v' (l.length+l2.length) (l.flatMap enc ++ l2.flatMap enc)∧w.grownBy w' none:=by
     cases ao with
     | some b=>exact run_append_arg_grows (P:=P) w t o.type e i z sz bytes ht hi hz0 hz1 hz2 hz hsz b l.length c (l.flatMap enc) (a0R enc sz hel l) (g2 b rfl) ad l2.length cap (l2.flatMap enc) hl2 hnews (by omega) hlen hbytes
     | none=>
      obtain ⟨z1,z2⟩:=g1 rfl;have hl0:l = []:=List.eq_nil_of_length_eq_zero z1;subst hl0;subst z2;obtain ⟨v',w',r1,r2,r3,_⟩:=run_append_own (P:=P) w w.heap.size t o.type e i z sz bytes ht hi hz0 hz1 hz2 hz hsz (.slice none 0 0) 0 [] (World.ownsRow_nil w _ e sz) ad l2.length cap (l2.flatMap enc) hl2 hnews hone (by simpa using hlen) (by simpa using hbytes) (Nat.le_refl _)
      exact ⟨v',w',r1,by simpa using r2,r3⟩
    obtain ⟨v',w',hrun,r1,r2⟩:=hrun
    unfold Oper.wp
    simp [execOp,ho,resolve,invoke,builtin,hs,hx,b0X ht hut,hrun,Result.andThen]
    have hown:Own w' w.heap.size e enc sz v' (l ++ l2):=by unfold Own;rw [List.flatMap_append,List.length_append];exact r1
    refine h _ _ (LO.of_own hown) (Keep.of_below ⟨r2.os,r2.tape,r2.output,r2.size,fun k hk=>r2.block k hk (by simp)⟩) ?_
    rcases r1.2 with ⟨_,r3⟩ | ⟨g,cap,cur,rfl,r3,_⟩
    ·omega
    ·exact .inr ⟨g,rfl,r3⟩
theorem a0y {P:Program} {ops:Array Oper} {rest:List Oper} {o:Oper} {a:Act} {Q:Exit→Act→World→Prop} {w:World} (hgd:o.guard=none) (s x:Operand) (t u:TypeId)
  (ho:o.op = .call { callee:=.builtin .append,args:=#[s,x],argTypes:=#[t,u] })
  {e:TypeId} {z:Value} {sz bytes:Nat} (ht:P.underlying t=some (.slice e)) (hut:P.underlying u=some (.slice e)) (hi:(P.info? e).map (fun i=>(i.zero,i.size,i.bytes))=some (some z,sz,bytes)) (hz:z.cells.size=sz) (hsz:0 < sz)
  {α:Type} {enc:α→List Value} (hel:∀ x,(enc x).length=sz) {v:Value} {l l2:List α} (heo:∀ x∈l2,∀ u∈enc x,u.oneCell'=true) (hown:LO w e enc sz v l) (hs:a.eval s=v)
  (v2:Value) (hx:a.eval x=v2) (hrd:Rd w enc sz v2 l2) (hlen:l.length+l2.length≤maxLen) (hbytes:(l.length+l2.length)*bytes≤140737488355328)
  (h:∀ v' w',LO w' e enc sz v' (l ++ l2)→Keep (fun k=>v.ownBlock=some k) w w'→MovedO w v v'→wpList P ops Q rest (a.put o.dst v') w') :
  wpList P ops Q (o :: rest) a w:=
 wpList_plain hgd fun _ hK=>b0n s x t u ho ht hut hi hz hsz hel heo hown hs v2 hx hrd hlen hbytes fun v' w' h1 h2 h3=>hK _ _ (h v' w' h1 h2 h3)
theorem d0x {P:Program} {ops:Array Oper} {rest:List Oper} {o:Oper} {a:Act} {Q:Exit→Act→World→Prop} {w:World} (hgd:o.guard=none) (s x:Operand) (t u:TypeId)
  (ho:o.op = .call { callee:=.builtin .append,args:=#[s,x],argTypes:=#[t,u] })
  {e:TypeId} {z:Value} {sz bytes:Nat} (ht:P.underlying t=some (.slice e)) (hut:P.underlying u=some (.slice e)) (hi:(P.info? e).map (fun i=>(i.zero,i.size,i.bytes))=some (some z,sz,bytes)) (hz:z.cells.size=sz) (hsz:0 < sz)
  {α:Type} {enc:α→List Value} (hel:∀ x,(enc x).length=sz) {v:Value} {l:List α} (hown:LO w e enc sz v l) (hs:a.eval s=v)
  (y:α) (heo:∀ u∈enc y,u.oneCell'=true) (g:Nat) (cs:Array Value) (T:TypeId) (hg:w.heap[g]? = some (.cells cs T (0,0))) (hcs:cs.toList=enc y) (hx:a.eval x = .slice (some ⟨g,0,none⟩) 1 1) (hlen:l.length+1≤maxLen) (hbytes:(l.length+1)*bytes≤140737488355328)
  (h:∀ v' w',LO w' e enc sz v' (l ++ [y])→Keep (fun k=>v.ownBlock=some k) w w'→MovedO w v v'→wpList P ops Q rest (a.put o.dst v') w') :
  wpList P ops Q (o :: rest) a w:=
 a0y (l2:=[y]) hgd s x t u ho ht hut hi hz hsz hel (fun x hx=>by rw [List.mem_singleton.1 hx];exact heo) hown hs _ hx ⟨some ⟨g,0,none⟩,1,rfl,Nat.le_refl _,by unfold maxLen;omega,fun _=>⟨g,0,rfl,a0b hg,fun i hi j hj=>by
  have h0:i=0:=by simpa using hi
  subst h0;rw [Lib.cell_of_heap hg]
  simp [← hcs]⟩⟩ hlen hbytes h
end
section
open Go.RowKit Go.MapKept

def MapIs (w:World) (g:Nat) (t:Tab):Prop:=
 ∃ es clock,w.heap[g]? = some (.map es clock)∧(∀ x∈es.toList,∃ k v,x.key = .string (bs k)∧x.val = .string (bs v)∧getP t k=some v)∧(es.toList.map (·.key)).Nodup ∧
  (∀ k v,getP t k=some v→∃ x∈es.toList,x.key = .string (bs k))∧es.size=t.length

theorem t0l {a b:Txt} (h:bs a=bs b):a=b:=by
 have:=congrArg (fun s:ByteArray=>s.data.toList) h
 simpa [bs] using this
theorem k0l {a b:Txt} (h:Value.string (bs a)=Value.string (bs b)):a=b:=t0l (Value.string.inj h)

theorem MapIs.keep {w w':World} {g:Nat} {t:Tab} (h:MapIs w g t) {S:Nat→Prop} (hk:Keep S w w') (hS:¬ S g):MapIs w' g t:=by
 obtain ⟨es,clock,hb,r⟩:=h
 exact ⟨es,clock,hk.at hb hS,r⟩
theorem MapIs.lt {w:World} {g:Nat} {t:Tab} (h:MapIs w g t):g < w.heap.size:=by
 obtain ⟨es,clock,hb,r⟩:=h
 exact a0b hb
theorem MapIs.made (w:World):MapIs (w.alloc (.map #[] 0)) w.heap.size []:=
 ⟨#[],0,(MapKept.heap_alloc w _).1,by simp,by simp,by simp [getP],rfl⟩

theorem c0Z (k:Txt):IsKey .string (.string (bs k)):=by simp [IsKey]

theorem k0a {es:Array MapEntry} {t:Tab} (h1:∀ x∈es.toList,∃ k v,x.key = .string (bs k)∧x.val = .string (bs v)∧getP t k=some v) (h3:∀ k v,getP t k=some v→∃ x∈es.toList,x.key = .string (bs k)) (k:Txt) :
  (getP t k=none∧Instr.findNow .string (.string (bs k)) es.toList 0=some none)∨∃ i e v,getP t k=some v∧Instr.findNow .string (.string (bs k)) es.toList 0=some (some (i,.string (bs v)))∧es[i]? = some e∧e.key = .string (bs k):=by
 rcases findNow_spec (c0Z k) es.toList 0 (fun x hx=>by obtain ⟨k',v,e,_⟩:=h1 x hx;rw [e];exact c0Z k') with ⟨h,hn⟩ | ⟨j,e,h,he,hk⟩
 ·left
  refine ⟨?_,h⟩
  cases hg:getP t k with
  | none=>rfl
  | some v=>obtain ⟨x,hx,e⟩:=h3 k v hg;exact absurd e (hn x hx)
 ·right
  obtain ⟨k',v,e1,e2,e3⟩:=h1 e (List.mem_of_getElem? he);have:k'=k:=k0l (e1.symm.trans hk);subst this;rw [Nat.zero_add,e2] at h
  exact ⟨j,e,v,e3,h,by simpa using he,hk⟩

section
variable {P:Program} {ops:Array Oper} {rest:List Oper} {o:Oper} {a:Act} {w:World} {Q:Exit→Act→World→Prop}

theorem k0Y {t kt et:TypeId} (ht:P.underlying t=some (.map kt et)) (hk:P.underlying kt=some .string) (hz:∀ w,(zeroValue et).run P w = .ok (.string (bs [])) w) {g:Nat} {T:Tab} (h:MapIs w g T) (k:Txt) (c:Bool) :
  (Instr.lookup t (.map (some g)) (.string (bs k)) c).run P w = .ok (if c then .tuple #[.string (bs ((getP T k).getD [])),.bool (getP T k).isSome] else .string (bs ((getP T k).getD []))) w:=by
 obtain ⟨es,clock,hb,h1,h2,h3,h4⟩:=h
 unfold Instr.lookup
 simp only [Sem.run_bind,run_underlying ht,Result.andThen_ok,MapKept.run_getObj_map hb,Sem.run_pure,run_checkKey hk (c0Z k) _ 9999]
 rcases k0a h1 h3 k with ⟨hg,hf⟩ | ⟨i,e,v,hg,hf,_⟩
 ·simp only [run_findKey hk hf,Result.andThen_ok,Sem.run_bind,Sem.run_pure,hz w,hg]
  cases c<;>rfl
 ·simp only [run_findKey hk hf,Result.andThen_ok,Sem.run_bind,Sem.run_pure,hg]
  cases c<;>rfl

theorem a0F (hgd:o.guard=none) (t:TypeId) (m x:Operand) (ho:o.op = .lookup t m x true) {kt et:TypeId} (ht:P.underlying t=some (.map kt et)) (hk:P.underlying kt=some .string) (hz:∀ w,(zeroValue et).run P w = .ok (.string (bs [])) w)
  {g:Nat} {T:Tab} (h:MapIs w g T) (k:Txt) (hm:a.eval m = .map (some g)) (hx:a.eval x = .string (bs k))
  (hK:wpList P ops Q rest (a.put o.dst (.tuple #[.string (bs ((getP T k).getD [])),.bool (getP T k).isSome])) w):wpList P ops Q (o :: rest) a w:=by
 refine wpList_plain hgd fun K hK'=>?_
 unfold Oper.wp
 simp only [execOp,ho,hm,hx,Sem.run_bind,k0Y ht hk hz h k true,Result.andThen_ok,Sem.run_pure]
 exact hK' _ _ hK
theorem j0Q (hgd:o.guard=none) (t:TypeId) (m x:Operand) (ho:o.op = .lookup t m x false) {kt et:TypeId} (ht:P.underlying t=some (.map kt et)) (hk:P.underlying kt=some .string) (hz:∀ w,(zeroValue et).run P w = .ok (.string (bs [])) w)
  {g:Nat} {T:Tab} (h:MapIs w g T) (k:Txt) (hm:a.eval m = .map (some g)) (hx:a.eval x = .string (bs k))
  (hK:wpList P ops Q rest (a.put o.dst (.string (bs ((getP T k).getD [])))) w):wpList P ops Q (o :: rest) a w:=by
 refine wpList_plain hgd fun K hK'=>?_
 unfold Oper.wp
 simp only [execOp,ho,hm,hx,Sem.run_bind,k0Y ht hk hz h k false,Result.andThen_ok,Sem.run_pure]
 exact hK' _ _ hK

theorem b0F (w:World) (g:Nat) (o:Obj):Keep (· = g) w { w with heap:=w.heap.setIfInBounds g o }:=
 ⟨rfl,rfl,rfl,by simp,fun k _ hk=>by simp [Ne.symm hk]⟩
theorem j0J (k:Txt):Instr.sameBits 10000 (.string (bs k)) (.string (bs k))=true:=by
 unfold Instr.sameBits;exact (bytes_beq _ _).2 rfl

theorem s0g {t kt et:TypeId} (ht:P.underlying t=some (.map kt et)) (hk:P.underlying kt=some .string) {g:Nat} {T:Tab} (hu:Up T) (h:MapIs w g T) (k v:Txt) :
  ∃ w',(Instr.mapUpdate t (.map (some g)) (.string (bs k)) (.string (bs v))).run P w = .ok () w'∧MapIs w' g (insP T k v)∧Keep (· = g) w w'∧w'.heap.size=w.heap.size:=by
 obtain ⟨es,clock,hb,h1,h2,h3,h4⟩:=h
 unfold Instr.mapUpdate
 simp only [Sem.run_bind,run_underlying ht,Result.andThen_ok,MapKept.run_getObj_map hb,run_checkKey hk (c0Z k) _ 9999]
 rcases k0a h1 h3 k with ⟨hg,hf⟩ | ⟨i,e,v0,hg,hf,he,hek⟩
 ·simp only [run_findKey hk hf,Result.andThen_ok,MapKept.run_setObj_map _ hb];refine ⟨_,rfl,⟨_,_,(MapKept.heap_set hb).1,?_,?_,?_,?_⟩,b0F w _ _,by simp⟩
  ·intro x hx;rw [Array.toList_push] at hx
   rcases List.mem_append.1 hx with hx | hx
   ·obtain ⟨k',v',e1,e2,e3⟩:=h1 x hx;refine ⟨k',v',e1,e2,?_⟩;rw [c0o,if_neg (by rintro rfl;rw [hg] at e3;cases e3)];exact e3
   ·obtain rfl:=List.mem_singleton.1 hx
    exact ⟨k,v,rfl,rfl,by rw [c0o,if_pos rfl]⟩
  ·rw [Array.toList_push,List.map_append,List.nodup_append];refine ⟨h2,by simp,?_⟩;intro x hx y hy;obtain ⟨e,he,rfl⟩:=List.mem_map.1 hx;obtain rfl:=List.mem_singleton.1 hy;intro e0;obtain ⟨k',v',e1,e2,e3⟩:=h1 e he;have:=k0l (e1.symm.trans e0);subst this;rw [hg] at e3;cases e3
  ·intro k' v' h';rw [c0o] at h'
   by_cases hkk:k=k'
   ·subst hkk;exact ⟨_,by rw [Array.toList_push];exact List.mem_append_right _ (List.mem_singleton.2 rfl),rfl⟩
   ·rw [if_neg hkk] at h';obtain ⟨x,hx,e⟩:=h3 k' v' h'
    exact ⟨x,by rw [Array.toList_push];exact List.mem_append_left _ hx,e⟩
  ·rw [Array.size_push,h0e k v hu,if_pos hg,h4]
 ·have hold:((es[i]?).map (·.key)).getD (.string (bs k)) = .string (bs k):=by rw [he];exact hek
  simp only [run_findKey hk hf,Result.andThen_ok,Sem.run_bind,hold,Instr.keyThatStays,j0J,if_true,Sem.run_pure,MapKept.run_setObj_map _ hb];have hi:i < es.size:=(Array.getElem?_eq_some_iff.1 he).1;have hkeys:(es.modify i fun e=>{ e with key:=.string (bs k),val:=.string (bs v) }).toList.map (·.key)=es.toList.map (·.key):=modify_keys i _ (fun x hx=>by rw [he] at hx;cases hx;exact hek.symm);have hmem:∀ x∈(es.modify i fun e=>{ e with key:=.string (bs k),val:=.string (bs v) }).toList,(x.key = .string (bs k)∧x.val = .string (bs v))∨(x∈es.toList∧x.key≠.string (bs k)):=by
   intro x hx;obtain ⟨j,hj,rfl⟩:=List.mem_iff_getElem.1 hx;rw [Array.length_toList,Array.size_modify] at hj;rw [Array.getElem_toList,Array.getElem_modify]
   by_cases hij:i=j
   ·rw [if_pos hij];exact .inl ⟨rfl,rfl⟩
   ·rw [if_neg hij];refine .inr ⟨Array.getElem_mem_toList hj,fun e0=>hij ?_⟩;have ha:(es.toList.map (·.key))[i]'(by simpa using hi) = .string (bs k):=by rw [List.getElem_map,Array.getElem_toList];rw [Array.getElem?_eq_getElem hi] at he;rw [Option.some.inj he];exact hek
    have hb2:(es.toList.map (·.key))[j]'(by simpa using hj) = .string (bs k):=by rw [List.getElem_map,Array.getElem_toList];exact e0
    exact (List.getElem_inj h2).1 (ha.trans hb2.symm)
  refine ⟨_,rfl,⟨_,_,(MapKept.heap_set hb).1,?_,?_,?_,?_⟩,b0F w _ _,by simp⟩
  ·intro x hx
   rcases hmem x hx with ⟨e1,e2⟩ | ⟨hx,hne⟩
   ·exact ⟨k,v,e1,e2,by rw [c0o,if_pos rfl]⟩
   ·obtain ⟨k',v',e1,e2,e3⟩:=h1 x hx
    exact ⟨k',v',e1,e2,by rw [c0o,if_neg (by rintro rfl;exact hne e1)];exact e3⟩
  ·rw [hkeys];exact h2
  ·intro k' v' h';have:∃ x∈es.toList,x.key = .string (bs k'):=by
    rw [c0o] at h'
    by_cases hkk:k=k'
    ·subst hkk;exact h3 _ _ hg
    ·rw [if_neg hkk] at h';exact h3 _ _ h'
   obtain ⟨x,hx,e1⟩:=this;have h5:(Value.string (bs k'))∈es.toList.map (·.key):=List.mem_map.2 ⟨x,hx,e1⟩;rw [← hkeys] at h5;obtain ⟨y,hy,e2⟩:=List.mem_map.1 h5
   exact ⟨y,hy,e2⟩
  ·rw [Array.size_modify,h0e k v hu,if_neg (by rw [hg];simp),h4]

theorem h0f (hgd:o.guard=none) (t:TypeId) (m x y:Operand) (ho:o.op = .mapUpdate t m x y) {kt et:TypeId} (ht:P.underlying t=some (.map kt et)) (hk:P.underlying kt=some .string)
  {g:Nat} {T:Tab} (hu:Up T) (h:MapIs w g T) (k v:Txt) (hm:a.eval m = .map (some g)) (hx:a.eval x = .string (bs k)) (hy:a.eval y = .string (bs v))
  (hK:∀ w',MapIs w' g (insP T k v)→Keep (· = g) w w'→w'.heap.size=w.heap.size→wpList P ops Q rest (a.put o.dst undef) w'):wpList P ops Q (o :: rest) a w:=by
 refine wpList_plain hgd fun K hK'=>?_
 obtain ⟨w',hr,h1,h2,h3⟩:=s0g (w:=w) ht hk hu h k v
 unfold Oper.wp
 simp only [execOp,ho,hm,hx,hy,Sem.run_bind,hr,Result.andThen_ok,Sem.run_pure]
 exact hK' _ _ (hK w' h1 h2 h3)

theorem m0z {t:Tab} {k v:Txt} (hu:Up t) (h:getP t k=some v):(delP t k).length+1=t.length:=by
 induction t with
 | nil=>cases h
 | cons p t ih=>
  have hp:=List.pairwise_cons.1 hu
  by_cases e:p.1=k
  ·have h1:delP t k=t:=c0q (b0f.2 fun q hq e2=>by have:=hp.1 q hq;rw [e,e2,a0r] at this;cases this)
   unfold delP at h1 ⊢
   rw [List.filter_cons_of_neg (by simp [e]),h1];rfl
  ·rw [a0T,if_neg e] at h;have:delP (p :: t) k=p :: delP t k:=by unfold delP;rw [List.filter_cons_of_pos (by simp [e])]
   rw [this,List.length_cons,ih hp.2 h,List.length_cons]

theorem p0P {t kt et:TypeId} (ty:TypeId) (ht:P.underlying t=some (.map kt et)) (hk:P.underlying kt=some .string) {g:Nat} {T:Tab} (hu:Up T) (h:MapIs w g T) (k:Txt) (u:TypeId) :
  ∃ w',(Builtin.delete_ #[t,u] ty #[.map (some g),.string (bs k)]).run P w = .ok (.tuple #[]) w'∧MapIs w' g (delP T k)∧Keep (· = g) w w'∧w'.heap.size=w.heap.size:=by
 obtain ⟨es,clock,hb,h1,h2,h3,h4⟩:=h
 unfold Builtin.delete_
 simp only [List.getElem?_toArray,List.getElem?_cons_zero,List.getElem?_cons_succ,Sem.run_bind,run_underlying ht,Result.andThen_ok,MapKept.run_getObj_map hb,run_checkKey hk (c0Z k) _ 9999]
 rcases k0a h1 h3 k with ⟨hg,hf⟩ | ⟨i,e,v0,hg,hf,he,hek⟩
 ·simp only [run_findKey hk hf,Result.andThen_ok,Sem.run_bind,MapKept.run_setObj_map _ hb,Sem.run_pure]
  exact ⟨_,rfl,⟨_,_,(MapKept.heap_set hb).1,by rw [c0q hg];exact h1,h2,by rw [c0q hg];exact h3,by rw [c0q hg];exact h4⟩,b0F w _ _,by simp⟩
 ·simp only [run_findKey hk hf,Result.andThen_ok,Sem.run_bind,MapKept.run_setObj_map _ hb,Sem.run_pure];have hi:i < es.size:=(Array.getElem?_eq_some_iff.1 he).1;have hki:(es.toList.map (·.key))[i]'(by simpa using hi) = .string (bs k):=by rw [List.getElem_map,Array.getElem_toList];rw [Array.getElem?_eq_getElem hi] at he;rw [Option.some.inj he];exact hek
  have hl:(es.eraseIdxIfInBounds i).toList=es.toList.eraseIdx i:=by
   unfold Array.eraseIdxIfInBounds
   rw [dif_pos hi,Array.toList_eraseIdx]
  have hne:∀ x∈es.toList.eraseIdx i,x∈es.toList∧x.key≠.string (bs k):=by
   intro x hx;refine ⟨List.mem_of_mem_eraseIdx hx,fun e0=>?_⟩;obtain ⟨j,hj,hji,hx2⟩:=List.mem_eraseIdx_iff_getElem.1 hx;have hb2:(es.toList.map (·.key))[j]'(by simpa using hj) = .string (bs k):=by rw [List.getElem_map,hx2];exact e0
   exact hji ((List.getElem_inj h2).1 (hb2.trans hki.symm))
  refine ⟨_,rfl,⟨_,_,(MapKept.heap_set hb).1,?_,?_,?_,?_⟩,b0F w _ _,by simp⟩
  ·intro x hx;rw [hl] at hx;obtain ⟨hx1,hx2⟩:=hne x hx;obtain ⟨k',v',e1,e2,e3⟩:=h1 x hx1
   exact ⟨k',v',e1,e2,by rw [i0r,if_neg (by rintro rfl;exact hx2 e1)];exact e3⟩
  ·rw [hl];exact ((List.eraseIdx_sublist _ _).map _).nodup h2
  ·intro k' v' h';rw [i0r] at h'
   by_cases hkk:k=k'
   ·rw [if_pos hkk] at h';cases h'
   ·rw [if_neg hkk] at h';obtain ⟨x,hx,e1⟩:=h3 k' v' h';refine ⟨x,?_,e1⟩;rw [hl];obtain ⟨j,hj,hxj⟩:=List.mem_iff_getElem.1 hx;refine List.mem_eraseIdx_iff_getElem.2 ⟨j,hj,?_,hxj⟩;rintro rfl;have h6:x.key = .string (bs k):=by rw [← hxj,← hki,List.getElem_map]
    exact hkk (k0l (h6.symm.trans e1))
  ·have h5:=m0z hu hg;have:(es.eraseIdxIfInBounds i).size=es.size - 1:=by
    rw [← Array.length_toList,hl,List.length_eraseIdx,if_pos (by simpa using hi)];simp
   omega
theorem f0w (hgd:o.guard=none) (t u:TypeId) (m x:Operand) (ho:o.op = .call { callee:=.builtin .delete,args:=#[m,x],argTypes:=#[t,u] }) {kt et:TypeId} (ht:P.underlying t=some (.map kt et)) (hk:P.underlying kt=some .string)
  {g:Nat} {T:Tab} (hu:Up T) (h:MapIs w g T) (k:Txt) (hm:a.eval m = .map (some g)) (hx:a.eval x = .string (bs k))
  (hK:∀ w',MapIs w' g (delP T k)→Keep (· = g) w w'→w'.heap.size=w.heap.size→wpList P ops Q rest (a.put o.dst (.tuple #[])) w'):wpList P ops Q (o :: rest) a w:=by
 refine wpList_plain hgd fun K hK'=>?_
 obtain ⟨w',hr,h1,h2,h3⟩:=p0P (w:=w) o.type ht hk hu h k u
 unfold Oper.wp
 simp [execOp,ho,resolve,invoke,builtin,hm,hx,hr,Result.andThen]
 exact hK' _ _ (hK w' h1 h2 h3)
end
end
section
open Go.RowKit

def tE (k:Txt):List Value:=[.string (bs k)]
def wasE (r:WasP):List Value:=[.string (bs r.1),.string (bs r.2.1),.bool r.2.2]
def pairE (p:Txt × Txt):List Value:=[.string (bs p.1),.string (bs p.2)]
def vE (v:Value):List Value:=[v]
theorem g0E (k:Txt):(tE k).length=1:=rfl
theorem b0w (k:WasP):(wasE k).length=3:=rfl
theorem a0v (k:Txt × Txt):(pairE k).length=2:=rfl
theorem l0E (v:Value):(vE v).length=1:=rfl

structure RowsZ (w:World) (zs:List (Value × List Txt)):Prop where
 rows:∀ z∈zs,LO w 9 tE 1 z.1 z.2
 nodup:(zs.filterMap (·.1.ownBlock)).Nodup
structure Bk (w:World) (g bm:Nat) (vb vp:Value) (zs:List (Value × List Txt)):Prop where
 head:w.heap[g]? = some (.cells #[.bool true,.map (some bm),vb,vp] 41 (0,0))
 blocks:LO w 229 vE 1 vb (zs.map (·.1))
 rows:RowsZ w zs
 ne:∀ z∈zs,z.2≠[]∧z.2.length≤64
structure StAt (w:World) (g:Nat) (s:PS) (bm:Nat) (vb vp:Value) (zs:List (Value × List Txt)):Prop where
 bk:Bk w g bm vb vp zs
 map:MapIs w bm s.t
 past:LO w 241 wasE 3 vp s.past
 up:Up s.t
 flat:(zs.map (·.2)).flatten=keysP s.t
def footB (vb:Value) (zs:List (Value × List Txt)):List Nat:=vb.ownBlock.toList ++ zs.filterMap (·.1.ownBlock)
def foot (g bm:Nat) (vb vp:Value) (zs:List (Value × List Txt)):List Nat:=g :: bm :: (vp.ownBlock.toList ++ footB vb zs)
def St (w:World) (g:Nat) (s:PS) (F:List Nat):Prop:=∃ bm vb vp zs,StAt w g s bm vb vp zs∧F=foot g bm vb vp zs

theorem b0k {zs:List (Value × List Txt)} {z:Value × List Txt} {k:Nat} (h:z∈zs) (hk:z.1.ownBlock=some k):k∈zs.filterMap (·.1.ownBlock):=List.mem_filterMap.2 ⟨z,h,hk⟩
theorem RowsZ.keep {w w':World} {zs:List (Value × List Txt)} (h:RowsZ w zs) {S:Nat→Prop} (hk:Keep S w w') (hS:∀ x∈zs.filterMap (·.1.ownBlock),¬ S x):RowsZ w' zs:=
 ⟨fun z hz=>(h.rows z hz).keep hk fun k e=>hS k (b0k hz e),h.nodup⟩
theorem RowsZ.update {w w':World} {pre post:List (Value × List Txt)} {z z':Value × List Txt} (h:RowsZ w (pre ++ z :: post)) (hk:Keep (fun k=>z.1.ownBlock=some k) w w') (hz:LO w' 9 tE 1 z'.1 z'.2) (hm:MovedO w z.1 z'.1):RowsZ w' (pre ++ z' :: post):=by
 have hn:=h.nodup;rw [List.filterMap_append,List.nodup_append] at hn;obtain ⟨n1,n2,n3⟩:=hn;have hlt:∀ y∈pre ++ z :: post,∀ k,y.1.ownBlock=some k→k < w.heap.size:=fun y hy k e=>(h.rows y hy).lt k e
 have hpre:∀ y∈pre,∀ k,y.1.ownBlock=some k→z.1.ownBlock≠some k:=by
  intro y hy k e e2
  exact n3 k (b0k hy e) k (b0k List.mem_cons_self e2) rfl
 have hpost:∀ y∈post,∀ k,y.1.ownBlock=some k→z.1.ownBlock≠some k:=by
  intro y hy k e e2;rw [List.filterMap_cons,e2] at n2
  exact (List.nodup_cons.1 n2).1 (b0k hy e)
 refine ⟨fun y hy=>?_,?_⟩
 ·rcases List.mem_append.1 hy with hy | hy
  ·exact (h.rows y (List.mem_append_left _ hy)).keep hk (hpre y hy)
  ·rcases List.mem_cons.1 hy with rfl | hy
   ·exact hz
   ·exact (h.rows y (List.mem_append_right _ (List.mem_cons_of_mem _ hy))).keep hk (hpost y hy)
 ·have hz':∀ k,z'.1.ownBlock=some k→k ∉ pre.filterMap (·.1.ownBlock)∧k ∉ post.filterMap (·.1.ownBlock):=by
   intro k e;refine ⟨fun hx=>?_,fun hx=>?_⟩<;>obtain ⟨y,hy,e2⟩:=List.mem_filterMap.1 hx
   ·rcases hm with hm | ⟨g,hg,hg2⟩
    ·exact hpre y hy k e2 (by rw [← hm];exact e)
    ·have:=hlt y (List.mem_append_left _ hy) k e2;rw [e] at hg;cases hg;omega
   ·rcases hm with hm | ⟨g,hg,hg2⟩
    ·exact hpost y hy k e2 (by rw [← hm];exact e)
    ·have:=hlt y (List.mem_append_right _ (List.mem_cons_of_mem _ hy)) k e2;rw [e] at hg;cases hg;omega
  have n2':(post.filterMap (·.1.ownBlock)).Nodup:=by
   rw [List.filterMap_cons] at n2
   split at n2
   ·exact n2
   ·exact (List.nodup_cons.1 n2).2
  have n3':∀ a∈pre.filterMap (·.1.ownBlock),∀ b∈post.filterMap (·.1.ownBlock),a≠b:=fun a ha b hb=>n3 a ha b (by
   rw [List.filterMap_cons]
   split
   ·exact hb
   ·exact List.mem_cons_of_mem _ hb)
  rw [List.filterMap_append,List.nodup_append];refine ⟨n1,?_,fun a ha b hb=>?_⟩
  ·rw [List.filterMap_cons]
   split
   ·exact n2'
   ·rename_i k e
    exact List.nodup_cons.2 ⟨(hz' k e).2,n2'⟩
  ·rw [List.filterMap_cons] at hb
   split at hb
   ·exact n3' a ha b hb
   ·rename_i k e
    rcases List.mem_cons.1 hb with rfl | hb
    ·rintro rfl;exact (hz' _ e).1 ha
    ·exact n3' a ha b hb
theorem RowsZ.insert {w:World} {pre post:List (Value × List Txt)} {z:Value × List Txt} (h:RowsZ w (pre ++ post)) (hz:LO w 9 tE 1 z.1 z.2) (hm:∀ k,z.1.ownBlock=some k→k ∉ (pre ++ post).filterMap (·.1.ownBlock)):RowsZ w (pre ++ z :: post):=by
 have hn:=h.nodup;rw [List.filterMap_append,List.nodup_append] at hn;obtain ⟨n1,n2,n3⟩:=hn;refine ⟨fun y hy=>?_,?_⟩
 ·rcases List.mem_append.1 hy with hy | hy
  ·exact h.rows y (List.mem_append_left _ hy)
  ·rcases List.mem_cons.1 hy with rfl | hy
   ·exact hz
   ·exact h.rows y (List.mem_append_right _ hy)
 ·have hm':∀ k,z.1.ownBlock=some k→k ∉ pre.filterMap (·.1.ownBlock)∧k ∉ post.filterMap (·.1.ownBlock):=fun k e=>by
   have:=hm k e;rw [List.filterMap_append,List.mem_append,not_or] at this
   exact this
  rw [List.filterMap_append,List.nodup_append,List.filterMap_cons]
  split
  ·exact ⟨n1,n2,n3⟩
  ·rename_i k e
   refine ⟨n1,List.nodup_cons.2 ⟨(hm' k e).2,n2⟩,fun a ha b hb=>?_⟩
   rcases List.mem_cons.1 hb with rfl | hb
   ·rintro rfl;exact (hm' _ e).1 ha
   ·exact n3 a ha b hb
theorem RowsZ.remove {w:World} {pre post:List (Value × List Txt)} {z:Value × List Txt} (h:RowsZ w (pre ++ z :: post)):RowsZ w (pre ++ post):=by
 refine ⟨fun y hy=>h.rows y ?_,?_⟩
 ·rcases List.mem_append.1 hy with hy | hy
  ·exact List.mem_append_left _ hy
  ·exact List.mem_append_right _ (List.mem_cons_of_mem _ hy)
 ·refine List.Nodup.sublist ?_ h.nodup
  exact List.Sublist.filterMap _ (List.Sublist.append_left (List.sublist_cons_self _ _) _)
theorem Bk.keep {w w':World} {g bm:Nat} {vb vp:Value} {zs:List (Value × List Txt)} (h:Bk w g bm vb vp zs) {S:Nat→Prop} (hk:Keep S w w') (hg:¬ S g) (hS:∀ x∈footB vb zs,¬ S x):Bk w' g bm vb vp zs where
 head:=hk.at h.head hg
 blocks:=h.blocks.keep hk fun k e=>hS k (by simp [footB,e])
 rows:=h.rows.keep hk fun x hx=>hS x (List.mem_append_right _ hx)
 ne:=h.ne
theorem StAt.keep {w w':World} {g:Nat} {s:PS} {bm:Nat} {vb vp:Value} {zs:List (Value × List Txt)} (h:StAt w g s bm vb vp zs) {S:Nat→Prop} (hk:Keep S w w') (hS:∀ x∈foot g bm vb vp zs,¬ S x):StAt w' g s bm vb vp zs where
 bk:=h.bk.keep hk (hS g (by simp [foot])) fun x hx=>hS x (by simp [foot,hx])
 map:=h.map.keep hk (hS bm (by simp [foot]))
 past:=h.past.keep hk fun k e=>hS k (by simp [foot,e])
 up:=h.up
 flat:=h.flat
theorem St.keep {w w':World} {g:Nat} {s:PS} {F:List Nat} (h:St w g s F) {S:Nat→Prop} (hk:Keep S w w') (hS:∀ x∈F,¬ S x):St w' g s F:=by
 obtain ⟨bm,vb,vp,zs,h,rfl⟩:=h
 exact ⟨bm,vb,vp,zs,h.keep hk hS,rfl⟩
theorem St.later {w w':World} {g:Nat} {s:PS} {F:List Nat} (h:St w g s F) (hb:Below w.heap.size w w'):St w' g s F:=
 h.keep (Keep.of_below (S:=fun _=>False) hb) fun _ _=>id
def stoKind (o:Obj):Bool:=match o with
 | .cells _ e (0,0)=>e == 41 || e == 229 || e == 241 || e == 9
 | .map _ _=>true
 | _=>false
theorem LO.kind {α:Type} {w:World} {e:TypeId} {enc:α→List Value} {sz:Nat} {v:Value} {l:List α} (h:LO w e enc sz v l) {k:Nat} (hk:v.ownBlock=some k):∃ cs,w.heap[k]? = some (.cells cs e (0,0)):=by
 rcases h with ⟨rfl,_⟩ | ⟨g,cap,cur,rfl,hhq,_⟩
 ·cases hk
 ·cases hk;exact ⟨_,hhq⟩
theorem StAt.kind {w:World} {g:Nat} {s:PS} {bm:Nat} {vb vp:Value} {zs:List (Value × List Txt)} (h:StAt w g s bm vb vp zs):∀ x∈foot g bm vb vp zs,∃ o,w.heap[x]? = some o∧stoKind o=true:=by
 intro x hx;simp only [foot,footB,List.mem_cons,List.mem_append,Option.mem_toList] at hx
 rcases hx with rfl | rfl | hx | hx | hx
 ·exact ⟨_,h.bk.head,rfl⟩
 ·obtain ⟨es,c,hb,_⟩:=h.map
  exact ⟨_,hb,rfl⟩
 ·obtain ⟨cs,hc⟩:=h.past.kind hx;exact ⟨_,hc,rfl⟩
 ·obtain ⟨cs,hc⟩:=h.bk.blocks.kind hx;exact ⟨_,hc,rfl⟩
 ·obtain ⟨z,hz,e⟩:=List.mem_filterMap.1 hx;obtain ⟨cs,hc⟩:=(h.bk.rows.rows z hz).kind e
  exact ⟨_,hc,rfl⟩
theorem St.kind {w:World} {g:Nat} {s:PS} {F:List Nat} (h:St w g s F):∀ x∈F,∃ o,w.heap[x]? = some o∧stoKind o=true:=by
 obtain ⟨bm,vb,vp,zs,h,rfl⟩:=h
 exact h.kind
theorem St.lt {w:World} {g:Nat} {s:PS} {F:List Nat} (h:St w g s F):∀ x∈F,x < w.heap.size:=by
 intro x hx;obtain ⟨o,ho,_⟩:=h.kind x hx
 exact a0b ho
theorem St.up {w:World} {g:Nat} {s:PS} {F:List Nat} (h:St w g s F):Up s.t:=by
 obtain ⟨bm,vb,vp,zs,h,rfl⟩:=h
 exact h.up
def StRet (w:World) (g:Nat) (F:List Nat) (s':PS) (v:Value) (e:Ending) (w':World):Prop:=
 e = .returned v∧∃ F',St w' g s' F'∧Keep (·∈F) w w'∧∀ x∈F',x∈F∨w.heap.size≤x

theorem b0M (g:Nat) (w:World) (cs:Array Value) (T:TypeId) (hg:w.heap[g]? = some (.cells cs T (0,0))) (h0:cs[0]? = some (.bool true)):Calls Tryz.prog 79 #[.pointer (some ⟨g,0,none⟩)] w fun e w'=>e = .returned (.bool true)∧w=w':=by
 have c0:w.cell? ⟨g,0,none⟩=some (.bool true):=(Lib.cell_of_heap hg 0).trans h0;clear hg h0
 go_enter Tryz.func79,Tryz.ntmps79
 go_wp2
 go_ret
 exact ⟨rfl,rfl⟩
theorem t0t (w:World):Calls Tryz.prog 79 #[.pointer none] w fun e w'=>e = .returned (.bool false)∧w=w':=by
 go_enter Tryz.func79,Tryz.ntmps79
 go_wp2
 go_ret
 exact ⟨rfl,rfl⟩
theorem s0n (g:Nat) (w:World) (cs:Array Value) (T:TypeId) (hg:w.heap[g]? = some (.cells cs T (0,0))) (h0:cs[0]? = some (.bool false)):Calls Tryz.prog 79 #[.pointer (some ⟨g,0,none⟩)] w fun e w'=>e = .returned (.bool false)∧w=w':=by
 have c0:w.cell? ⟨g,0,none⟩=some (.bool false):=(Lib.cell_of_heap hg 0).trans h0;clear hg h0
 go_enter Tryz.func79,Tryz.ntmps79
 go_wp2
 go_ret
 exact ⟨rfl,rfl⟩
theorem c0E {w:World} {g:Nat} {s:PS} {F:List Nat} (h:St w g s F):Calls Tryz.prog 31 #[.pointer (some ⟨g,0,none⟩)] w fun e w'=>e = .returned (.bool true)∧w=w':=by
 obtain ⟨bm,vb,vp,zs,h,rfl⟩:=h;have H:=Lib.hid h.bk.head;clear h
 go_enter Tryz.func31,Tryz.ntmps31
 go_wp2_with fail;refine (b0M g _ _ _ H.out rfl).mono ?_;rintro e w1 ⟨rfl,rfl⟩;go_wp2_with fail
 go_ret
 exact ⟨rfl,rfl⟩
theorem r0f (w:World):Calls Tryz.prog 42 #[] w fun e w'=>∃ g F,e = .returned (.pointer (some ⟨g,0,none⟩))∧St w' g PS.new F∧Below w.heap.size w w'∧∀ x∈F,w.heap.size≤x:=by
 have hmm:=@run_makeMap Tryz.prog
 go_enter Tryz.func42,Tryz.ntmps42
 go_wp2_with fail
 go_ret
 have hb:Below w.heap.size w (w.alloc (.map #[] 0)):=(Below.refl _ _).alloc (Nat.le_refl _) _;have hb2:Below (w.alloc (.map #[] 0)).heap.size (w.alloc (.map #[] 0)) ((w.alloc (.map #[] 0)).alloc (.cells #[.bool true,.map (some w.heap.size),.slice none 0 0,.slice none 0 0] 41)):=(Below.refl _ _).alloc (Nat.le_refl _) _;refine ⟨_,_,rfl,⟨w.heap.size,.slice none 0 0,.slice none 0 0,[],⟨⟨?_,LO.nil _ _ _ _,⟨fun z hz=>absurd hz (by simp),List.Pairwise.nil⟩,fun z hz=>absurd hz (by simp)⟩,(MapIs.made w).keep (S:=fun _=>False) (Keep.of_below hb2) id,LO.nil _ _ _ _,List.Pairwise.nil,rfl⟩,rfl⟩,hb.trans (hb2.mono (by simp)),?_⟩
 ·have:=heap_alloc_new (w.alloc (.map #[] 0)) (.cells #[.bool true,.map (some w.heap.size),.slice none 0 0,.slice none 0 0] 41);rw [World.size_alloc] at this
  exact this
 ·intro x hx
  simp [foot,footB,Value.ownBlock] at hx
  omega
theorem zeroStr (w:World):(zeroValue 9).run Tryz.prog w = .ok (.string (bs [])) w:=by kernel_rfl
theorem h0Q {w:World} {g:Nat} {s:PS} {F:List Nat} (h:St w g s F) (k:Txt):Calls Tryz.prog 95 #[.pointer (some ⟨g,0,none⟩),.string (bs k)] w fun e w'=>e = .returned (.tuple #[.string (bs ((getP s.t k).getD [])),.bool (getP s.t k).isSome])∧w=w':=by
 obtain ⟨bm,vb,vp,zs,h,rfl⟩:=h;have H:=Lib.hid h.bk.head;have HM:=Lib.hid h.map;clear h;have c1:w.cell? ⟨g,1,none⟩=some (.map (some bm)):=Lib.cell_of_heap H.out 1
 go_enter Tryz.func95,Tryz.ntmps95
 go_wp2_with fail;refine (b0M g _ _ _ H.out rfl).mono ?_;rintro e w1 ⟨rfl,rfl⟩
 go_wp2_with (refine a0F rfl 37 _ _ rfl Tryz.underlying37 Tryz.underlying9 zeroStr HM.out k rfl rfl ?_)
 go_ret2
 exact ⟨rfl,rfl⟩
theorem g0d {w:World} {g:Nat} {s:PS} {F:List Nat} (h:St w g s F):Calls Tryz.prog 36 #[.pointer (some ⟨g,0,none⟩)] w fun e w'=>e = .returned (.int .i64 s.past.length)∧w=w':=by
 obtain ⟨bm,vb,vp,zs,h,rfl⟩:=h;obtain ⟨ad,cap,rfl,h1,h2⟩:=h.past.shape;have H:=Lib.hid h.bk.head;clear h;have c3:w.cell? ⟨g,3,none⟩=some (.slice ad s.past.length cap):=Lib.cell_of_heap H.out 3
 go_enter Tryz.func36,Tryz.ntmps36
 go_wp2_with fail;refine (b0M g _ _ _ H.out rfl).mono ?_;rintro e w1 ⟨rfl,rfl⟩;go_wp2_with fail
 go_ret
 exact ⟨rfl,rfl⟩
end
section
set_option maxHeartbeats 1000000
set_option maxRecDepth 100000
open Go.RowKit

theorem a0j (k:Txt):(bs k).toList=k:=by rw [Lib.toList_data];rfl
theorem s0I (x:ByteArray) (w:World):Calls Tryz.prog 266 #[.string x] w fun e w'=>e = .returned (.bool false)∧w=w':=by
 have h:(x.toList == x.toList)=true:=by simp
 go_enter Tryz.func266,Tryz.ntmps266
 go_wp2
 go_ret
 exact ⟨rfl,rfl⟩
theorem q0f (x:ByteArray) (w:World):Calls Tryz.prog 253 #[.string x] w fun e w'=>e = .returned (.bool false)∧w=w':=by
 have h:(x.toList == x.toList)=true:=by simp
 go_enter Tryz.func253,Tryz.ntmps253
 go_wp2
 go_ret
 exact ⟨rfl,rfl⟩
theorem n0C (a b:Txt) (w:World):Calls Tryz.prog 252 #[.string (bs a),.string (bs b)] w fun e w'=>e = .returned (.bool (less a b))∧w=w':=by
 have h:Hid (Op.bytesLess (bs a).toList (bs b).toList=less a b):=by unfold Hid;rw [a0j,a0j];rfl
 go_enter Tryz.func252,Tryz.ntmps252
 go_wp2_with fail;refine (s0I _ _).mono ?_;rintro e w1 ⟨rfl,rfl⟩;go_wp2_with fail
 go_ret
 rw [← h.out]
 exact ⟨rfl,rfl⟩
structure Mid (ks:List Txt) (k:Txt) (i j:Nat):Prop where
 le:i≤j
 len:j≤ks.length
 lo:∀ q (h:q < ks.length),q < i→less ks[q] k=true
 hi:∀ q (h:q < ks.length),j≤q→less ks[q] k=false
theorem Mid.start (ks:List Txt) (k:Txt):Mid ks k 0 ks.length:=⟨Nat.zero_le _,Nat.le_refl _,fun _ _ h'=>absurd h' (Nat.not_lt_zero _),fun _ h h'=>absurd h (Nat.not_lt.2 h')⟩
theorem Mid.up {ks:List Txt} {k:Txt} {i j h:Nat} (m:Mid ks k i j) (hu:UpK ks) (hj:h < j) (hl:less (ks[h]'(Nat.lt_of_lt_of_le hj m.len)) k=true):Mid ks k (h+1) j:=by
 refine ⟨hj,m.len,fun q hq hqh=>?_,m.hi⟩
 rcases Nat.lt_or_ge q h with h1 | h1
 ·exact a0G (hu.ne (Nat.lt_of_lt_of_le hj m.len) h1) hl
 ·obtain rfl:q=h:=by omega
  exact hl
theorem Mid.down {ks:List Txt} {k:Txt} {i j h:Nat} (m:Mid ks k i j) (hu:UpK ks) (hi:i≤h) (hj:h < j) (hl:less (ks[h]'(Nat.lt_of_lt_of_le hj m.len)) k=false):Mid ks k i h:=by
 refine ⟨hi,Nat.le_of_lt (Nat.lt_of_lt_of_le hj m.len),m.lo,fun q hq hqh=>?_⟩
 rcases Nat.lt_or_ge h q with h1 | h1
 ·cases hb:less ks[q] k with
  | false=>rfl
  | true=>rw [a0G (hu.ne hq h1) hb] at hl;cases hl
 ·obtain rfl:q=h:=by omega
  exact hl
theorem Mid.at {ks:List Txt} {k:Txt} {i:Nat} (m:Mid ks k i i):At ks k i:=⟨m.len,m.lo,m.hi⟩

def BsRet (w:World) (R:Nat→Prop) (e:Ending) (w':World):Prop:=∃ (i:Nat) (b:Bool),e = .returned (.tuple #[.int .i64 i,.bool b])∧R i∧w=w'
theorem f0N (w:World) (v:Value) (ks:List Txt) (k:Txt) (hr:Rd w tE 1 v ks) (hu:UpK ks) (hl:ks.length < 4611686018427387904) :
  Calls Tryz.prog 229 #[v,.string (bs k)] w (BsRet w (At ks k)):=by
 obtain ⟨ad,cap,rfl,h1,h2⟩:=hr.shape;obtain ⟨n,hn⟩:∃ n,n=ks.length:=⟨_,rfl⟩;rw [← hn] at h1 hl hr ⊢;have HR:=Lib.hid hr;have HU:=Lib.hid hu;have HN:=Lib.hid hn;clear hr hu hn
 go_enter Tryz.func229,Tryz.ntmps229
 go_wp2_with fail
 go_loop [7,8] (fun a b=>∃ i j:Nat,a = .int .i64 i∧b = .int .i64 j∧i≤j∧j≤n∧Hid (Mid ks k i j)) (fun a b=>(intOf b).toNat - (intOf a).toNat)
 case atStart=>exact ⟨0,n,rfl,rfl,Nat.zero_le _,Nat.le_refl _,Lib.hid (HN.out▸Mid.start ks k)⟩
 case round=>
  obtain ⟨i,j,rfl,rfl,hij,hjn,M⟩:=hrel
  by_cases hlt:i < j
  ·have hjl:Hid ((i+j) / 2 < ks.length):=by unfold Hid;rw [← HN.out];omega
   obtain ⟨b,off,rfl,hb,hc⟩:=HR.out.at ((i+j) / 2) hjl.out;obtain ⟨x,hx⟩:∃ x,x=ks[(i+j) / 2]'hjl.out:=⟨_,rfl⟩;have hc':w.cell? ⟨b,off+(i+j) / 2,none⟩=some (.string (bs x)):=by rw [hx];exact hc
   have HX:=Lib.hid hx;have hw0:IntKind.i64.wrap ((i:Int)+(j:Int))=(i:Int)+(j:Int):=IntWalk.i64_in _ (by omega);clear hc hb hx;go_wp2_with fail;refine (n0C x k _).mono ?_;rintro e w1 ⟨rfl,rfl⟩
   cases hxk:less x k with
   | true=>
    have HL:=Lib.hid hxk;clear hxk;go_wp2_with fail
    go_round
    case rel=>exact ⟨(i+j) / 2+1,j,by go_num,rfl,by omega,hjn,Lib.hid (M.out.up HU.out (by omega) (by rw [← HX.out];exact HL.out))⟩
    case measure=>simp [intOf];omega
   | false=>
    have HL:=Lib.hid hxk;clear hxk;go_wp2_with fail
    go_round
    case rel=>exact ⟨i,(i+j) / 2,rfl,by go_num,by omega,by omega,Lib.hid (M.out.down HU.out (by omega) (by omega) (by rw [← HX.out];exact HL.out))⟩
    case measure=>simp [intOf];omega
  ·obtain rfl:i=j:=by omega
   have HA:=Lib.hid M.out.at;clear M
   by_cases hin:i < n
   ·have hil:Hid (i < ks.length):=by unfold Hid;rw [← HN.out];omega
    obtain ⟨b,off,rfl,hb,hc⟩:=HR.out.at i hil.out;obtain ⟨x,hx⟩:∃ x,x=ks[i]'hil.out:=⟨_,rfl⟩;have hc':w.cell? ⟨b,off+i,none⟩=some (.string (bs x)):=by rw [hx];exact hc
    clear hc hb hx
    cases hxk:((bs x).toList == (bs k).toList) with
    | true=>
     go_wp2_with fail
     go_ret2
     exact ⟨i,true,rfl,HA.out,rfl⟩
    | false=>
     go_wp2_with (refine (q0f _ _).mono ?_;rintro e w1 ⟨rfl,rfl⟩)
     go_ret2
     exact ⟨i,false,rfl,HA.out,rfl⟩
   ·go_wp2_with fail
    go_ret2
    exact ⟨i,false,rfl,HA.out,rfl⟩

theorem r0U:∀ (a b:Txt),decide (Lib.compareBytes a b < 0)=less a b
 | [],[]=>rfl
 | [],_ :: _=>rfl
 | _ :: _,[]=>rfl
 | a :: x,b :: y=>by
  rw [b0J]
  unfold Lib.compareBytes
  by_cases h1:a < b
  ·simp [h1]
  ·rw [if_neg h1]
   by_cases h2:b < a
   ·have hne:¬ a=b:=fun e=>by rw [e] at h2;exact j0o _ h2
    simp [h1,h2,hne]
   ·have he:a=b:=by
     rw [UInt8.lt_iff_toNat_lt] at h1 h2
     exact UInt8.toNat_inj.1 (by omega)
    rw [if_neg h2,r0U x y];subst he
    simp
theorem q0g (a b:Txt) (w:World):Calls Tryz.prog 220 #[.string (bs a),.string (bs b)] w fun e w'=>e = .returned (.int .i64 (Lib.compareBytes a b))∧w=w':=by
 go_enter Tryz.func220,Tryz.ntmps220
 go_wp2
 rw [run_callFunc_extern Tryz.func247 (by kernel_rfl) (by kernel_rfl) (by kernel_rfl) (e:=Extern.BytealgCompare.compare) (by kernel_rfl),Lib.run_compareString];simp only [Result.andThen];rw [Oper.upon_value]
 go_wp2
 go_ret
 exact ⟨rfl,rfl⟩
theorem q0G (a b:Txt) (w:World):Calls Tryz.prog 196 #[.string (bs a),.string (bs b)] w fun e w'=>e = .returned (.int .i64 (Lib.compareBytes a b))∧w=w':=by
 go_enter Tryz.func196,Tryz.ntmps196
 go_wp2_with (go_at_call 220;refine (q0g a b _).mono ?_;rintro e w1 ⟨rfl,rfl⟩)
 go_ret
 exact ⟨rfl,rfl⟩
def lastT (b:List Txt):Txt:=b.getLast?.getD []
theorem g0u (w:World) (v:Value) (b:List Txt) (k:Txt) (hr:Rd w tE 1 v b) (hb:b≠[]) (hl:b.length < 4611686018427387904) :
  Calls Tryz.prog 195 #[v,.string (bs k)] w fun e w'=>e = .returned (.int .i64 (Lib.compareBytes (lastT b) k))∧w=w':=by
 obtain ⟨ad,cap,rfl,h1,h2⟩:=hr.shape;obtain ⟨m,hm⟩:∃ m,b.length=m+1:=⟨b.length - 1,by have:=List.length_pos_iff.2 hb;omega⟩;obtain ⟨bb,off,rfl,hbb,hc⟩:=hr.at m (by omega);have hc':w.cell? ⟨bb,off+m,none⟩=some (.string (bs (lastT b))):=by
  rw [hc];have:lastT b=b[m]'(by omega):=by
   unfold lastT;rw [List.getLast?_eq_getElem?,show b.length - 1=m by omega,List.getElem?_eq_getElem (by omega)];rfl
  rw [this];rfl
 rw [hm] at h1 ⊢;have hcm:((m+1:Nat):Int)=(m:Int)+1:=by omega
 rw [hm] at hl;clear hc hbb hm hr hb
 generalize lastT b=x at *
 go_enter Tryz.func195,Tryz.ntmps195
 go_wp2_with fail;refine (q0G x k _).mono ?_;rintro e w1 ⟨rfl,rfl⟩;go_wp2_with fail
 go_ret
 exact ⟨rfl,rfl⟩

def lasts (bl:List (List Txt)):List Txt:=bl.map lastT
theorem p0t {bl:List (List Txt)} (hu:UpK bl.flatten) (hn:∀ b∈bl,b≠[]):UpK (lasts bl):=by
 unfold lasts UpK
 rw [List.pairwise_map];refine List.Pairwise.imp_of_mem ?_ (List.pairwise_flatten.1 hu).2;intro a b ha hb h;have m:∀ c∈bl,lastT c∈c:=fun c hc=>by
  unfold lastT
  cases hg:c.getLast? with
  | none=>exact absurd (List.getLast?_eq_none_iff.1 hg) (hn c hc)
  | some l=>exact List.mem_of_getLast? hg
 exact h _ (m a ha) _ (m b hb)
structure Rows (w:World) (vb:Value) (vs:List Value) (bl:List (List Txt)):Prop where
 rd:Rd w vE 1 vb vs
 len:vs.length=bl.length
 rows:∀ i (h:i < vs.length) (h':i < bl.length),Rd w tE 1 vs[i] bl[i]

theorem n0J (w:World) (vb:Value) (vs:List Value) (bl:List (List Txt)) (k:Txt) (hr:Rows w vb vs bl) (hu:UpK (lasts bl)) (hne:∀ b∈bl,b≠[]∧b.length < 4611686018427387904) (hl:bl.length < 4611686018427387904) :
  Calls Tryz.prog 194 #[vb,.string (bs k),.func (.func 195) #[] #[]] w (BsRet w (At (lasts bl) k)):=by
 obtain ⟨ad,cap,rfl,h1,h2⟩:=hr.rd.shape;obtain ⟨n,hn⟩:∃ n,n=vs.length:=⟨_,rfl⟩;have hnb:n=(lasts bl).length:=by rw [hn,hr.len];simp [lasts]
 rw [← hn] at h1 ⊢;have hln:n < 4611686018427387904:=by rw [hn,hr.len];exact hl
 have HR:=Lib.hid hr;have HU:=Lib.hid hu;have HN:=Lib.hid hn;have HNB:=Lib.hid hnb;have HE:=Lib.hid hne;clear hr hu hn hnb hne hl
 go_enter Tryz.func194,Tryz.ntmps194
 go_wp2_with fail
 go_loop [9,10] (fun a b=>∃ i j:Nat,a = .int .i64 i∧b = .int .i64 j∧i≤j∧j≤n∧Hid (Mid (lasts bl) k i j)) (fun a b=>(intOf b).toNat - (intOf a).toNat)
 case atStart=>exact ⟨0,n,rfl,rfl,Nat.zero_le _,Nat.le_refl _,Lib.hid (HNB.out▸Mid.start (lasts bl) k)⟩
 case round=>
  obtain ⟨i,j,rfl,rfl,hij,hjn,M⟩:=hrel
  by_cases hlt:i < j
  ·have hjl:Hid ((i+j) / 2 < vs.length∧(i+j) / 2 < bl.length∧(i+j) / 2 < (lasts bl).length):=by unfold Hid;rw [← HNB.out,← HR.out.len,← HN.out];omega
   obtain ⟨b,off,rfl,hb,hc⟩:=HR.out.rd.at ((i+j) / 2) hjl.out.1;have hrow:=HR.out.rows ((i+j) / 2) hjl.out.1 hjl.out.2.1;have hrow2:=HE.out (bl[(i+j) / 2]'hjl.out.2.1) (List.getElem_mem _);obtain ⟨x,hx⟩:∃ x,x=vs[(i+j) / 2]'hjl.out.1:=⟨_,rfl⟩;have hc':w.cell? ⟨b,off+(i+j) / 2,none⟩=some x:=by rw [hx];exact hc
   rw [← hx] at hrow;have HROW:=Lib.hid hrow;have HROW2:=Lib.hid hrow2;have hlast:(lasts bl)[(i+j) / 2]'hjl.out.2.2=lastT (bl[(i+j) / 2]'hjl.out.2.1):=by simp [lasts]
   obtain ⟨y,hy⟩:∃ y,y=lastT (bl[(i+j) / 2]'hjl.out.2.1):=⟨_,rfl⟩;rw [← hy] at hlast;have HY:=Lib.hid hy;have HLA:=Lib.hid hlast;have hw0:IntKind.i64.wrap ((i:Int)+(j:Int))=(i:Int)+(j:Int):=IntWalk.i64_in _ (by omega);clear hc hb hx hrow hrow2 hy hlast;go_wp2_with fail;refine (g0u w x (bl[(i+j) / 2]'hjl.out.2.1) k HROW.out HROW2.out.1 HROW2.out.2).mono ?_;rintro e w1 ⟨rfl,rfl⟩;rw [← HY.out];have hcl:=r0U y k;obtain ⟨z,hz⟩:∃ z,z=Lib.compareBytes y k:=⟨_,rfl⟩;rw [← hz] at hcl ⊢;clear hz
   cases hxk:less y k with
   | true=>
    have HL:=Lib.hid hxk;rw [hxk] at hcl;clear hxk;go_wp2_with fail
    go_round
    case rel=>exact ⟨(i+j) / 2+1,j,by go_num,rfl,by omega,hjn,Lib.hid (M.out.up HU.out (by omega) (by rw [HLA.out];exact HL.out))⟩
    case measure=>simp [intOf];omega
   | false=>
    have HL:=Lib.hid hxk;rw [hxk] at hcl;clear hxk;go_wp2_with fail
    go_round
    case rel=>exact ⟨i,(i+j) / 2,rfl,by go_num,by omega,by omega,Lib.hid (M.out.down HU.out (by omega) (by omega) (by rw [HLA.out];exact HL.out))⟩
    case measure=>simp [intOf];omega
  ·obtain rfl:i=j:=by omega
   have HA:=Lib.hid M.out.at;clear M
   by_cases hin:i < n
   ·have hjl:Hid (i < vs.length∧i < bl.length∧i < (lasts bl).length):=by unfold Hid;rw [← HNB.out,← HR.out.len,← HN.out];omega
    obtain ⟨b,off,rfl,hb,hc⟩:=HR.out.rd.at i hjl.out.1;have hrow:=HR.out.rows i hjl.out.1 hjl.out.2.1;have hrow2:=HE.out (bl[i]'hjl.out.2.1) (List.getElem_mem _);obtain ⟨x,hx⟩:∃ x,x=vs[i]'hjl.out.1:=⟨_,rfl⟩;have hc':w.cell? ⟨b,off+i,none⟩=some x:=by rw [hx];exact hc
    rw [← hx] at hrow;have HROW:=Lib.hid hrow;have HROW2:=Lib.hid hrow2;clear hc hb hx hrow hrow2;go_wp2_with fail;refine (g0u w x (bl[i]'hjl.out.2.1) k HROW.out HROW2.out.1 HROW2.out.2).mono ?_;rintro e w1 ⟨rfl,rfl⟩;obtain ⟨z,hz⟩:∃ z,z=Lib.compareBytes (lastT (bl[i]'hjl.out.2.1)) k:=⟨_,rfl⟩;rw [← hz];clear hz
    cases hz0:(z == 0) with
    | true=>
     go_wp2_with fail
     go_ret2
     exact ⟨i,true,rfl,HA.out,rfl⟩
    | false=>
     go_wp2_with fail
     go_ret2
     exact ⟨i,false,rfl,HA.out,rfl⟩
   ·go_wp2_with fail
    go_ret2
    exact ⟨i,false,rfl,HA.out,rfl⟩

def FindRet (w:World) (bl:List (List Txt)) (k:Txt) (e:Ending) (w':World):Prop:=∃ i:Nat,e = .returned (.int .i64 i)∧Find bl k i∧w=w'
theorem f0v {w:World} {g bm:Nat} {vb vp:Value} {zs:List (Value × List Txt)} (h:Bk w g bm vb vp zs) (hub:UpK (zs.map (·.2)).flatten) (hlz:zs.length < 4611686018427387904) (hne:zs≠[]) (k:Txt):Calls Tryz.prog 150 #[.pointer (some ⟨g,0,none⟩),.string (bs k)] w (FindRet w (zs.map (·.2)) k):=by
 obtain ⟨ad,cap,hvb,h1,h2⟩:=h.blocks.shape;obtain ⟨vs,hvs⟩:∃ vs,vs=zs.map (·.1):=⟨_,rfl⟩;obtain ⟨bl,hbl⟩:∃ bl,bl=zs.map (·.2):=⟨_,rfl⟩;have hl:bl.length < 4611686018427387904:=by rw [hbl,List.length_map];exact hlz
 have hbn:bl≠[]:=by rw [hbl];intro e;exact hne (List.map_eq_nil_iff.1 e)
 have hnn:∀ b∈bl,b≠[]∧b.length≤64:=by
  intro b hb;rw [hbl] at hb;obtain ⟨z,hz,rfl⟩:=List.mem_map.1 hb
  exact h.ne z hz
 have hlen:vs.length=bl.length:=by rw [hvs,hbl,List.length_map,List.length_map]
 rw [← hbl] at hub ⊢;rw [← hvs] at hvb h1;have hrows:Rows w (.slice ad vs.length cap) vs bl:=by
  refine ⟨by rw [← hvb,hvs];exact h.blocks.rd l0E,hlen,fun i a b=>?_⟩;have ha:i < zs.length:=by rw [hvs,List.length_map] at a;exact a
  have e1:vs[i]=zs[i].1:=by simp [hvs]
  have e2:bl[i]=zs[i].2:=by simp [hbl]
  rw [e1,e2]
  exact (h.rows.rows zs[i] (List.getElem_mem _)).rd g0E
 have hul:=p0t hub (fun b hb=>(hnn b hb).1);have hf:∀ i,At (lasts bl) k i→Find bl k (min i (bl.length - 1)):=by
  intro i ha;have hpos:=List.length_pos_iff.2 hbn;have hll:(lasts bl).length=bl.length:=by simp [lasts]
  have hle:=ha.le;have hg:∀ q (hq:q < bl.length),(lasts bl)[q]'(by omega)=lastT bl[q]:=fun q hq=>by simp [lasts]
  have hlt:∀ (b:List Txt) x,x∈b.getLast?→x=lastT b:=fun b x hx=>by unfold lastT;rw [Option.mem_def.1 hx];rfl
  refine ⟨by omega,fun j hj hji x hx=>?_,?_⟩
  ·rw [hlt _ _ hx,← hg j hj];exact ha.lo j (by omega) (by omega)
  ·by_cases hi:i < bl.length
   ·right
    intro x hx;have e:min i (bl.length - 1)=i:=by omega
    rw [hlt _ _ hx,← hg _ (by omega)]
    exact ha.hi _ (by omega) (by omega)
   ·left;omega
 obtain ⟨n,hn⟩:∃ n,n=vs.length:=⟨_,rfl⟩;have hnb:n=bl.length:=by rw [hn,hlen]
 rw [← hn] at h1 hrows;have c2:w.cell? ⟨g,2,none⟩=some (.slice ad n cap):=by rw [hn,← hvb];exact Lib.cell_of_heap h.head 2
 have HR:=Lib.hid hrows;have HU:=Lib.hid hul;have HE:Hid (∀ b∈bl,b≠[]∧b.length < 4611686018427387904):=Lib.hid fun b hb=>⟨(hnn b hb).1,by have:=(hnn b hb).2;omega⟩
 have HF:=Lib.hid hf;have HNB:=Lib.hid hnb;have HL:=Lib.hid hl;have hn0:0 < n:=by rw [hnb];exact List.length_pos_iff.2 hbn
 have hn1:n < 4611686018427387904:=by rw [hnb];exact hl
 clear hrows hul hub hf hn hnb hne hl h hbn hnn hlen hvb hvs hbl hlz
 go_enter Tryz.func150,Tryz.ntmps150
 go_wp2_with fail;refine (n0J w _ vs bl k HR.out HU.out HE.out HL.out).mono ?_;rintro e w1 ⟨i,b,rfl,ha,rfl⟩;have HA:=Lib.hid ha;clear ha
 by_cases hin:i < n
 ·have hd:(i:Int)≤(n:Int) - 1:=by omega
  go_wp2_with fail
  go_ret
  have h3:=HF.out i HA.out;rw [← HNB.out,show min i (n - 1)=i by omega] at h3
  exact ⟨i,rfl,h3,rfl⟩
 ·have hd:¬ (i:Int)≤(n:Int) - 1:=by omega
  go_wp2_with fail
  go_ret
  have h3:=HF.out i HA.out;rw [← HNB.out,show min i (n - 1)=n - 1 by omega] at h3;refine ⟨n - 1,?_,h3,rfl⟩
  show Ending.returned (Value.int .i64 ((n:Int) - 1))=_
  rw [show ((n - 1:Nat):Int)=(n:Int) - 1 by omega]
end
end Go.Proofs.YtakkfabaeolbdaaGreat
