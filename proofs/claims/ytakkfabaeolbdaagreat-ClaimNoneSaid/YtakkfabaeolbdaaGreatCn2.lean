/- append of one element onto a slice of the call's own: where the new slice lies. No condition. Worlds in which only some blocks have turned: no condition. -/
import Derived.Test.YtakkfabaeolbdaaGreatCnBase
import Derived.Deep.MidRow
import Derived.WalkSmall
namespace Go.Proofs.YtakkfabaeolbdaaGreat
section
open Go.RowKit

def Apart (u v:Value):Prop:=u.ownBlock=none∨u.ownBlock≠v.ownBlock
theorem Apart.symm {u v:Value} (h:Apart u v):Apart v u:=by
 rcases h with h | h
 ·cases hv:v.ownBlock with
  | none=>exact .inl hv
  | some b=>exact .inr (by rw [hv,h];simp)
 ·exact .inr fun e=>h e.symm
theorem Apart.nil (v:Value):Apart (.slice none 0 0) v:=.inl rfl

def Moved (w:World) (v v':Value):Prop:=(v'.ownBlock=v.ownBlock∧v.ownBlock≠none)∨∃ g,v'.ownBlock=some g∧w.heap.size≤g

theorem Own.kept {α:Type} {w w':World} {B:Nat} {e:TypeId} {enc:α→List Value} {sz:Nat} {u v:Value} {l:List α} (h:Own w B e enc sz v l) (hg:w.grownBy w' u.ownBlock) (ha:Apart u v):Own w' B e enc sz v l:=by
 refine World.ownsRow.kept h hg ?_
 rcases ha with ha | ha
 ·cases hv:v.ownBlock with
  | none=>exact .inl rfl
  | some b=>exact .inr (by rw [ha];simp)
 ·exact .inr fun e=>ha e.symm

theorem Own.other {α:Type} {w w':World} {B:Nat} {e:TypeId} {enc:α→List Value} {sz:Nat} {v:Value} {l:List α} (h:Own w B e enc sz v l) (hg:w.grownBy w' v.ownBlock) {k:Nat} {o:Obj} (hk:k < B) (ho:w.heap[k]? = some o):w'.heap[k]? = some o:=by
 rw [hg.block k (Array.getElem?_eq_some_iff.1 ho).1 (fun e=>by have:=(h.lt k e.symm).1;omega)];exact ho

theorem Apart.moved {α:Type} {w:World} {B:Nat} {e:TypeId} {enc:α→List Value} {sz:Nat} {u v v':Value} {l:List α} (h:Own w B e enc sz u l) (hm:Moved w v v') (ha:Apart v u):Apart v' u:=by
 rcases hm with ⟨h1,h2⟩ | ⟨g,h1,h2⟩
 ·rcases ha with ha | ha
  ·exact absurd ha h2
  ·exact .inr (by rw [h1];exact ha)
 ·refine .inr fun e=>?_
  rw [h1] at e;have:=(h.lt g e.symm).2
  omega

theorem i0h {P:Program} {ops:Array Oper} {rest:List Oper} {o:Oper} {a:Act} {Q:Exit→Act→World→Prop} {w:World} (hgd:o.guard=none) (s x:Operand) (t:TypeId)
  (ho:o.op = .call { callee:=.builtin .append,args:=#[s,x],argTypes:=#[t,t] })
  {e:TypeId} {z:Value} {sz bytes:Nat} (ht:P.underlying t=some (.slice e)) (hi:(P.info? e).map (fun i=>(i.zero,i.size,i.bytes))=some (some z,sz,bytes)) (hz:z.cells.size=sz) (hsz:0 < sz)
  {α:Type} {enc:α→List Value} {B base:Nat} {w0:World} {v:Value} {l:List α} (y:α) {us:Array Value} (hown:Own w base e enc sz v l) (hs:a.eval s=v)
  (hx:a.eval x = .slice (some ⟨w.heap.size,0,none⟩) 1 1) (hy:us.toList=enc y) (hyl:(enc y).length=sz) (hu:∀ u∈enc y,u.oneCell'=true) (hlen:l.length+1≤maxLen) (hbytes:(l.length+1)*bytes≤140737488355328)
  (hb:Below B w0 w) (hB:B≤base) (hbase:base≤w.heap.size) (hB0:B≤w0.heap.size)
  (h:∀ v' w',Own w' base e enc sz v' (l ++ [y])→Below B w0 w'→w.grownBy w' v.ownBlock→Moved w v v'→wpList P ops Q rest (a.put o.dst v') w') :
  wpList P ops Q (o :: rest) a (w.alloc (.cells us e)):=by
 obtain ⟨i,hi,hz0,hz1,hz2⟩:=info_parts hi;have hcell:∀ j u,(enc y)[j]? = some u→(w.alloc (.cells us e)).cell? ((⟨w.heap.size,0,none⟩:Addr).add j)=some u:=by
  intro j u hj;have e1:(⟨w.heap.size,0,none⟩:Addr).add j=⟨w.heap.size,j,none⟩:=by unfold Addr.add;split<;>simp_all
  rw [e1,Lib.cell_of_heap (heap_alloc_new w _),← hj,← hy]
  simp
 have hbelow:∀ {w':World} {row:Option Nat},(w.alloc (.cells us e)).grownBy w' row→(∀ k,row=some k→base≤k)→Below B w0 w':=by
  intro w' row hg hr
  exact (hb.alloc (Nat.le_trans hB0 hb.size) _).grown hg (by have:=hb.size;simp;omega) (fun k hk=>by have:=hr k hk;omega)
 have hgrow:∀ {w':World} {row:Option Nat},(w.alloc (.cells us e)).grownBy w' row→w.grownBy w' row:=fun {w' row} h2=>
  ⟨h2.os,h2.tape,h2.output,Nat.le_trans (by simp) h2.size,fun k hk hne=>(h2.block k (by simp;omega) hne).trans (Below.heap_alloc _ _ _ hk)⟩
 have hfl:∀ (l:List α),(l ++ [y]).flatMap enc=l.flatMap enc ++ enc y:=by intro l;rw [List.flatMap_append];simp
 have hown1:=hown;obtain ⟨hl1,hown2⟩:=hown1
 rcases hown2 with ⟨rfl,hl0⟩ | ⟨g,cap,cur,rfl,hg,hhq,h1,h2,h3,h4⟩
 ·obtain rfl:l = []:=List.eq_nil_of_length_eq_zero hl0;refine wpList_append_grows _ hgd s x t ho e i z sz bytes ht hi hz0 hz1 hz2 hz hsz none 0 0 [] hs (fun _=>⟨rfl,rfl⟩) (by simp) (fun b hb=>by cases hb) ⟨w.heap.size,0,none⟩ 1 1 (enc y) hx (by rw [hyl,Nat.one_mul]) hcell hu (by omega) hlen hbytes ?_;intro v' w' r1 r2;have r1':Own w' base e enc sz v' ([] ++ [y]):=by
   refine Own.mono (B:=(w.alloc (.cells us e)).heap.size) ?_ (by simp;omega)
   unfold Own;rw [hfl];exact r1
  refine h v' w' r1' (hbelow r2 (by intro k hk;cases hk)) ⟨(hgrow r2).os,(hgrow r2).tape,(hgrow r2).output,(hgrow r2).size,fun k hk _=>(hgrow r2).block k hk (by simp)⟩ ?_
  rcases r1.2 with ⟨_,r3⟩ | ⟨g,cap,cur,rfl,r3,_⟩
  ·simp at r3
  ·exact .inr ⟨g,rfl,by simp at r3;omega⟩
 ·have hcells:∀ j u,(l.flatMap enc)[j]? = some u→(w.alloc (.cells us e)).cell? ((⟨g,0,none⟩:Addr).add j)=some u:=by
   intro j u hj
   exact (hown.alloc (.cells us e)).cells (g:=g) rfl j u hj
  by_cases hc:l.length+1≤cap
  ·refine wpList_append_fits _ hgd s x t ho base e i sz ht hi hz1 g l.length cap (l.flatMap enc) hs (hown.alloc _) ⟨w.heap.size,0,none⟩ 1 1 (enc y) hx (by rw [hyl,Nat.one_mul]) hcell hu hc ?_;intro w' r1 r2;refine h _ w' (by unfold Own;rw [hfl,List.length_append];exact r1) (hbelow r2 (by intro k hk;cases hk;exact hg)) (hgrow r2) (.inl ⟨rfl,by simp [Value.ownBlock]⟩)
  ·refine wpList_append_grows _ hgd s x t ho e i z sz bytes ht hi hz0 hz1 hz2 hz hsz (some ⟨g,0,none⟩) l.length cap (l.flatMap enc) hs (fun e=>by cases e) hl1 (fun b hb=>by cases hb;exact hcells) ⟨w.heap.size,0,none⟩ 1 1 (enc y) hx (by rw [hyl,Nat.one_mul]) hcell hu (by omega) hlen hbytes ?_;intro v' w' r1 r2;have r1':Own w' base e enc sz v' (l ++ [y]):=by
    refine Own.mono (B:=(w.alloc (.cells us e)).heap.size) ?_ (by simp;omega)
    unfold Own;rw [hfl,List.length_append];exact r1
   refine h v' w' r1' (hbelow r2 (by intro k hk;cases hk)) ⟨(hgrow r2).os,(hgrow r2).tape,(hgrow r2).output,(hgrow r2).size,fun k hk _=>(hgrow r2).block k hk (by simp)⟩ ?_
   rcases r1.2 with ⟨_,r3⟩ | ⟨g,cap,cur,rfl,r3,_⟩
   ·omega
   ·exact .inr ⟨g,rfl,by simp at r3;omega⟩

theorem d0p {P:Program} {w:World} (base:Nat) (t ty e:TypeId) (i:TypeInfo) (size:Nat) (ht:P.underlying t=some (.slice e)) (hi:P.info? e=some i)
  (v:Value) (n:Nat) (xs:List Value) (hown:w.ownsRow base e size v n xs) (c:Nat) :
  (Builtin.append_ #[t,t] ty #[v,.slice none 0 c]).run P w = .ok v w:=by
 rcases hown.2 with ⟨rfl,rfl⟩ | ⟨g,cap,cur,rfl,_,_,hnc,_⟩
 ·simp [Builtin.append_,run_underlying ht,sizeOf,typeInfo,hi,Builtin.lenOf,Builtin.firstCells]
 ·simp [Builtin.append_,run_underlying ht,sizeOf,typeInfo,hi,Builtin.lenOf,Builtin.firstCells,hnc,storeCells]

theorem a0L {P:Program} {o:Oper} {a:Act} {K:Act→World→Prop} {Q:Exit→Act→World→Prop} {w:World} (s x:Operand) (t:TypeId)
  (ho:o.op = .call { callee:=.builtin .append,args:=#[s,x],argTypes:=#[t,t] })
  {e:TypeId} {z:Value} {sz bytes:Nat} (ht:P.underlying t=some (.slice e)) (hi:(P.info? e).map (fun i=>(i.zero,i.size,i.bytes))=some (some z,sz,bytes)) (hz:z.cells.size=sz) (hsz:0 < sz)
  {α:Type} {enc:α→List Value} (hel:∀ x,(enc x).length=sz) (heo:∀ x,∀ u∈enc x,u.oneCell'=true) {B base:Nat} {w0:World} {v:Value} {l l2:List α} (hown:Own w base e enc sz v l) (hs:a.eval s=v)
  (v2:Value) (hx:a.eval x=v2) (hrd:Rd w enc sz v2 l2) (hlen:l.length+l2.length≤maxLen) (hbytes:(l.length+l2.length)*bytes≤140737488355328)
  (hb:Below B w0 w) (hB:B≤base) (hbase:base≤w.heap.size)
  (h:∀ v' w',Own w' base e enc sz v' (l ++ l2)→Below B w0 w'→w.grownBy w' v.ownBlock→K (a.put o.dst v') w') :
  o.wp P a w K Q:=by
 obtain ⟨i,hi,hz0,hz1,hz2⟩:=info_parts hi;obtain ⟨ad,cap,rfl,c1,c2,c3⟩:=hrd
 cases ad with
 | none=>
  have hl:l2 = []:=by
   cases l2 with
   | nil=>rfl
   | cons y l2=>obtain ⟨b,off,h1,_⟩:=c3 (by simp);cases h1
  subst hl;have hrun:=d0p (P:=P) (w:=w) base t o.type e i sz ht hi v _ _ hown cap
  unfold Oper.wp
  simp only [List.length_nil] at hx
  simp [execOp,ho,resolve,invoke,builtin,hs,hx,hrun,Result.andThen]
  exact (h v w (by simpa using hown) hb ⟨rfl,rfl,rfl,Nat.le_refl _,fun _ _ _=>rfl⟩)
 | some ad=>
  refine wp_append_own w s x t ho base e i z sz bytes ht hi hz0 hz1 hz2 hz hsz v l.length _ hs hown ad l2.length cap (l2.flatMap enc) hx (a0R enc sz hel l2) ?_ ?_ hlen hbytes hbase ?_
  ·intro j u hj;have hj1:j < l2.length*sz:=by have:=(List.getElem?_eq_some_iff.1 hj).1;rwa [a0R enc sz hel] at this
   have hne:l2≠[]:=by intro e;subst e;simp at hj1
   obtain ⟨b,off,h1,_,hc⟩:=c3 hne
   cases h1
   have hd:j / sz < l2.length:=(Nat.div_lt_iff_lt_mul hsz).2 hj1;have hm:j % sz < sz:=Nat.mod_lt _ hsz;have h2:=hc (j / sz) hd (j % sz) hm;have h3:=a0Z enc sz hel l2 (j / sz) hd (j % sz) hm;have h4:j / sz*sz+j % sz=j:=Nat.div_add_mod' j sz;rw [h4] at h3;rw [Nat.add_assoc,h4] at h2;have h5:(⟨b,off,none⟩:Addr).add j=⟨b,off+j,none⟩:=by unfold Addr.add;split<;>simp_all
   rw [h5,h2,← h3,hj]
  ·intro u hu;obtain ⟨y,_,hy⟩:=List.mem_flatMap.1 hu
   exact heo y u hy
  ·intro v' w' r1 r2 _;refine h v' w' (by unfold Own;rw [List.flatMap_append,List.length_append];exact r1) (hb.grown r2 (by omega) ?_) r2;intro k hk;have:=(hown.lt k hk).1
   omega
theorem l0N {P:Program} {ops:Array Oper} {rest:List Oper} {o:Oper} {a:Act} {Q:Exit→Act→World→Prop} {w:World} (hgd:o.guard=none) (s x:Operand) (t:TypeId)
  (ho:o.op = .call { callee:=.builtin .append,args:=#[s,x],argTypes:=#[t,t] })
  {e:TypeId} {z:Value} {sz bytes:Nat} (ht:P.underlying t=some (.slice e)) (hi:(P.info? e).map (fun i=>(i.zero,i.size,i.bytes))=some (some z,sz,bytes)) (hz:z.cells.size=sz) (hsz:0 < sz)
  {α:Type} {enc:α→List Value} (hel:∀ x,(enc x).length=sz) (heo:∀ x,∀ u∈enc x,u.oneCell'=true) {B base:Nat} {w0:World} {v:Value} {l l2:List α} (hown:Own w base e enc sz v l) (hs:a.eval s=v)
  (v2:Value) (hx:a.eval x=v2) (hrd:Rd w enc sz v2 l2) (hlen:l.length+l2.length≤maxLen) (hbytes:(l.length+l2.length)*bytes≤140737488355328)
  (hb:Below B w0 w) (hB:B≤base) (hbase:base≤w.heap.size)
  (h:∀ v' w',Own w' base e enc sz v' (l ++ l2)→Below B w0 w'→w.grownBy w' v.ownBlock→wpList P ops Q rest (a.put o.dst v') w') :
  wpList P ops Q (o :: rest) a w:=by
 exact wpList_plain hgd fun _ hK=>a0L s x t ho ht hi hz hsz hel heo hown hs v2 hx hrd hlen hbytes hb hB hbase fun v' w' h1 h2 h3=>hK _ _ (h v' w' h1 h2 h3)
end
section
open Go.RowKit

structure Keep (S:Nat→Prop) (w w':World):Prop where
 os:w'.os=w.os
 tape:w'.tape=w.tape
 output:w'.output=w.output
 size:w.heap.size≤w'.heap.size
 block:∀ k,k < w.heap.size→¬ S k→w'.heap[k]? = w.heap[k]?

theorem Keep.refl (S:Nat→Prop) (w:World):Keep S w w:=⟨rfl,rfl,rfl,Nat.le_refl _,fun _ _ _=>rfl⟩
theorem Keep.trans {S:Nat→Prop} {a b c:World} (h:Keep S a b) (k:Keep (fun x=>S x∨a.heap.size≤x) b c):Keep S a c:=
 ⟨k.os.trans h.os,k.tape.trans h.tape,k.output.trans h.output,Nat.le_trans h.size k.size,fun i hi hS=>(k.block i (Nat.lt_of_lt_of_le hi h.size) (by rintro (h | h);exact hS h;omega)).trans (h.block i hi hS)⟩
theorem Keep.mono {S S':Nat→Prop} {a b:World} (h:Keep S a b) (hS:∀ k,k < a.heap.size→S k→S' k):Keep S' a b:=
 ⟨h.os,h.tape,h.output,h.size,fun i hi hn=>h.block i hi fun hs=>hn (hS i hi hs)⟩
theorem Keep.of_below {S:Nat→Prop} {a b:World} (h:Below a.heap.size a b):Keep S a b:=⟨h.os,h.tape,h.output,h.size,fun i hi _=>h.block i hi⟩
theorem Keep.below {S:Nat→Prop} {B:Nat} {a b:World} (h:Keep S a b) (hS:∀ k,k < B→¬ S k) (hB:B≤a.heap.size):Below B a b:=
 ⟨h.os,h.tape,h.output,h.size,fun i hi=>h.block i (by omega) (hS i hi)⟩
theorem Keep.none {S:Nat→Prop} {a b:World} (h:Keep S a b) (hS:∀ k,k < a.heap.size→¬ S k):Below a.heap.size a b:=h.below hS (Nat.le_refl _)
theorem Keep.alloc {S:Nat→Prop} {a w:World} (h:Keep S a w) (o:Obj):Keep S a (w.alloc o):=
 h.trans (Keep.of_below ((Below.refl _ _).alloc (Nat.le_refl _) _))
theorem Keep.setCell {S:Nat→Prop} {a w:World} (h:Keep S a w) {p:Addr} (hp:S p.block∨a.heap.size≤p.block) (u:Value):Keep S a (w.setCell p u):=
 h.trans ⟨rfl,rfl,rfl,by simp [World.setCell],fun k _ hn=>Below.heap_setCell _ _ _ _ (fun e=>hn (e▸hp))⟩
theorem Keep.setRow {S:Nat→Prop} {a w:World} (h:Keep S a w) {g:Nat} (hp:S g∨a.heap.size≤g) (cs:Array Value):Keep S a (w.setRow g cs):=
 h.trans ⟨rfl,rfl,rfl,Nat.le_of_eq (setRow_size _ _ _).symm,fun k _ hn=>setRow_other w g k cs (fun e=>hn (e▸hp))⟩
theorem Keep.drew {S:Nat→Prop} {a w:World} (h:Keep S a w):Keep S a w.drew:=⟨h.os,h.tape,h.output,h.size,h.block⟩
theorem Keep.drewN {S:Nat→Prop} {a w:World} (h:Keep S a w) (n:Nat):Keep S a (w.drewN n):=h.trans (Keep.of_below (below_drewN (Below.refl _ _) n))
theorem Keep.then_below {S:Nat→Prop} {a b c:World} (h:Keep S a b) (k:Below b.heap.size b c):Keep S a c:=h.trans (Keep.of_below k)
theorem Keep.then {S S':Nat→Prop} {a b c:World} (h:Keep S a b) (k:Keep S' b c) (hS:∀ x,S' x→S x∨a.heap.size≤x):Keep S a c:=h.trans (k.mono fun x _ hx=>hS x hx)
theorem Keep.onto {B g:Nat} {w a b:World} (k:Keep (· = g) a b) (h:Below B w a) (hB:B≤w.heap.size) (hg:B≤g):Below B w b:=
 h.trans (k.below (B:=B) (fun i hi e=>by omega) (Nat.le_trans hB h.size))
theorem Keep.at {S:Nat→Prop} {a b:World} (h:Keep S a b) {k:Nat} {o:Obj} (ho:a.heap[k]? = some o) (hn:¬ S k):b.heap[k]? = some o:=by
 rw [h.block k (Array.getElem?_eq_some_iff.1 ho).1 hn];exact ho
theorem a0b {w:World} {k:Nat} {o:Obj} (h:w.heap[k]? = some o):k < w.heap.size:=(Array.getElem?_eq_some_iff.1 h).1

theorem a0C {w:World} {g:Nat} {cs:Array Value} {T:TypeId} {fr:Nat × Nat} (h:w.heap[g]? = some (.cells cs T fr)) (o:Nat) (l:List Value) (hl:(cs.toList.drop o).take l.length=l):w.rangeAt g o l:=by
 intro j v hj;rw [Lib.cell_of_heap h];have h1:j < l.length:=(List.getElem?_eq_some_iff.1 hj).1;rw [← hl,List.getElem?_take,if_pos h1,List.getElem?_drop] at hj
 simpa using hj

theorem a0a {P:Program} {ops:Array Oper} {rest:List Oper} {o:Oper} {a:Act} {w:World} {Q:Exit→Act→World→Prop} (hgd:o.guard=none) (ty:TypeId) (x y:Operand) (ho:o.op = .store ty x y)
  (g:Nat) (cells:Array Value) (hx:a.eval x = .pointer (some ⟨g,0,none⟩)) (hy:a.eval y = .agg cells)
  (t:TypeId) (old:Array Value) (hg:w.heap[g]? = some (.cells old t (0,0))) (hi:(P.info? ty).map (·.size)=some cells.size)
  (hold:old.size=cells.size) (h1:cells.all (·.oneCell')=true)
  (h:∀ w',w'.heap[g]? = some (.cells cells t (0,0))→Keep (· = g) w w'→w'.heap.size=w.heap.size→wpList P ops Q rest (a.put o.dst undef) w'):wpList P ops Q (o :: rest) a w:=
 wpList_store_row hgd ty x y ho g cells hx hy t old hg hi hold h1 (h _ (setRow_heap _ _ _ _ _ _ hg) (Keep.setRow (S:=(· = g)) (Keep.refl _ _) (.inl rfl) _) (setRow_size _ _ _))

theorem b0b {P:Program} {w:World} {ops:Array Oper} {rest:List Oper} {o:Oper} {a:Act} {Q:Exit→Act→World→Prop} (hgd:o.guard=none) (d s:Operand) (dT sT:TypeId)
  (ho:o.op = .call { callee:=.builtin .copy,args:=#[d,s],argTypes:=#[dT,sT] }) (elem:TypeId) (hu:P.underlying dT=some (.slice elem)) (hsz:(P.info? elem).map (·.size)=some 1)
  (g off dLen dCap:Nat) (ad:Addr) (sLen sCap:Nat) (hd:a.eval d = .slice (some ⟨g,off,none⟩) dLen dCap) (hs:a.eval s = .slice (some ad) sLen sCap)
  (cur:Array Value) (t:TypeId) (hg:w.heap[g]? = some (.cells cur t (0,0))) (cs:List Value) (hn:cs.length=Nat.min sLen dLen)
  (hsrc:∀ j v,cs[j]? = some v→w.cell? (ad.add j)=some v) (hfit:off+cs.length≤cur.size) (h1:∀ v∈cs,v.oneCell'=true)
  (new:Array Value) (hnew:(cur.toList.take off ++ (cs ++ cur.toList.drop (off+cs.length))).toArray=new) (c:Int) (hc:c=cs.length)
  (h:∀ w',w'.heap[g]? = some (.cells new t (0,0))→Keep (· = g) w w'→w'.heap.size=w.heap.size→wpList P ops Q rest (a.put o.dst (goInt c)) w'):wpList P ops Q (o :: rest) a w:=by
 subst hc;refine wpList_copy_own hgd d s dT sT ho elem hu hsz g off dLen dCap ad sLen sCap hd hs cur t hg cs hn hsrc hfit h1 ?_;rw [hnew]
 exact h _ (setRow_heap _ _ _ _ _ _ hg) (Keep.setRow (S:=(· = g)) (Keep.refl _ _) (.inl rfl) _) (setRow_size _ _ _)

theorem m0C {P:Program} (w:World) {t e:TypeId} {n:Nat} {ik k:IntKind} (ht:P.underlying t=some (.array n e)) (he:P.underlying e=some (.int ik)) (hs:(P.info? e).map (·.size)=some 1)
  (cs:Array Value) (i:Nat) (hi:i < n) (x:Int) (hx:cs[i]? = some (.int ik x)) :
  (Instr.index t (.agg cs) (.int k (i:Int))).run P w = .ok (.int ik x) w:=by
 cases hq:P.info? e with
 | none=>simp [hq] at hs
 | some inf=>
  have h1:inf.size=1:=by simpa [hq] using hs
  have h3:=g0b (P:=P) w e ik he inf hq h1 cs i x hx
  simp [Instr.index,asIntOf,Sem.run_bind,run_underlying ht,hi,sizeOf,typeInfo,hq,h1,h3]

theorem a0h {P:Program} {ops:Array Oper} {rest:List Oper} {o:Oper} {a:Act} {w:World} {Q:Exit→Act→World→Prop} (hgd:o.guard=none) (ty:TypeId) (x y:Operand) (ho:o.op = .store ty x y)
  (g i:Nat) (v:Value) (hx:a.eval x = .pointer (some ⟨g,i,none⟩)) (hy:a.eval y=v) (hv:v.cells=#[v]) (h1:v.oneCell'=true)
  (t:TypeId) (cs:Array Value) (hg:w.heap[g]? = some (.cells cs t (0,0))) (hi:(P.info? ty).map (·.size)=some 1) (hb:i < cs.size) (new:Array Value) (hnew:cs.setIfInBounds i v=new)
  (h:∀ w',w'.heap[g]? = some (.cells new t (0,0))→Keep (· = g) w w'→w'.heap.size=w.heap.size→wpList P ops Q rest (a.put o.dst undef) w'):wpList P ops Q (o :: rest) a w:=by
 refine wpList_plain hgd fun _ hK=>?_
 have hc:(w.cell? ⟨g,i,none⟩).isSome=true:=by rw [Lib.cell_of_heap hg,Array.getElem?_eq_getElem hb];rfl
 have hf:w.frozen? ⟨g,i,none⟩=false:=Lib.frozen_of_heap hg i;have z0:∀ j,j < [v].length→j=0:=fun j hj=>by simpa using hj
 have hst:=run_storeCells_cells (P:=P) g i [v] 0 w (fun j hj=>by rw [z0 j hj];exact hc) (fun j hj=>by rw [z0 j hj];exact hf) (fun u hu=>(by simpa using hu:u=v)▸h1);have hsv:(storeVar ty ⟨g,i,none⟩ v).run P w = .ok () (w.setCell ⟨g,i,none⟩ v):=by
  cases hq:P.info? ty with
  | none=>simp [hq] at hi
  | some inf=>
   have hs:inf.size=1:=by simpa [hq] using hi
   simp only [Nat.add_zero] at hst
   simp [storeVar,sizeOf,typeInfo,hq,hv,hs,hst,World.setCells]
 unfold Oper.wp execOp
 simp only [ho,hx,hy,Instr.storeAt,Instr.sureAddr,Sem.run_bind,Sem.run_pure,Result.andThen_ok,hsv]
 exact hK _ _ (h _ (by rw [heap_setCell_same _ _ _ _ _ _ hg,hnew]) (Keep.setCell (S:=(· = g)) (p:=⟨g,i,none⟩) (Keep.refl _ _) (.inl rfl) _) (by simp [World.setCell]))

theorem Rd.src {α:Type} {w:World} {enc:α→List Value} {v:α→Value} (he:∀ x,enc x = [v x]) {ad:Addr} {n cap:Nat} {l:List α} (h:Rd w enc 1 (.slice (some ad) n cap) l) (c:Nat):∀ j u,((l.take c).map v)[j]? = some u→w.cell? (ad.add j)=some u:=by
 intro j u hj;have hl:l≠[]:=by intro e;subst e;simp at hj
 obtain ⟨ad',cap',he1,c1,c2,c3⟩:=h
 cases he1
 obtain ⟨b,off,hb,_,hc⟩:=c3 hl
 cases hb
 have hj1:j < l.length:=by have:=(List.getElem?_eq_some_iff.1 hj).1;simp at this;omega
 have h0:=hc j hj1 0 (by omega);rw [he] at h0;rw [Addr.add_mid];simp only [Nat.mul_one,Nat.add_zero,List.getElem?_cons_zero] at h0;rw [h0,← hj];have hj2:j < (l.take c).length:=by have:=(List.getElem?_eq_some_iff.1 hj).1;simpa using this
 rw [List.getElem?_map,List.getElem?_eq_getElem hj2]
 simp

theorem Rd.ptr {α:Type} {w:World} {enc:α→List Value} {sz:Nat} {ad:Option Addr} {n cap:Nat} {l:List α} (h:Rd w enc sz (.slice ad n cap) l) (hl:0 < l.length):∃ b off,ad=some ⟨b,off,none⟩∧b < w.heap.size:=by
 obtain ⟨ad',cap',he,_,_,h3⟩:=h
 injection he with h4
 obtain ⟨b,off,h5,h6,_⟩:=h3 (by intro e;subst e;simp at hl)
 exact ⟨b,off,h4.trans h5,h6⟩
structure Made (w:World) (g:Nat) (cs:Array Value) (ty:TypeId) (w':World):Prop where
 eq:g=w.heap.size
 cells:w'.heap[g]? = some (.cells cs ty (0,0))
 below:Below w.heap.size w w'
 size:w'.heap.size=w.heap.size+1
theorem g0N (w:World) (cs:Array Value) (ty:TypeId):Made w w.heap.size cs ty (w.alloc (.cells cs ty)):=
 ⟨rfl,heap_alloc_new _ _,(Below.refl _ _).alloc (Nat.le_refl _) _,World.size_alloc _ _⟩
theorem a0t {P:Program} {ops:Array Oper} {rest:List Oper} {o:Oper} {a:Act} {w:World} {Q:Exit→Act→World→Prop} (hgd:o.guard=none) (ty:TypeId) (ho:o.op = .alloc ty)
  (z:Value) (cs:Array Value) (hz:∀ w,(zeroValue ty).run P w = .ok z w) (hc:z.cells=cs)
  (h:∀ g w',Hid (Made w g cs ty w')→wpList P ops Q rest (a.put o.dst (.pointer (some ⟨g,0,none⟩))) w'):wpList P ops Q (o :: rest) a w:=by
 refine wpList_plain hgd fun _ hK=>?_
 unfold Oper.wp execOp
 simp only [ho,Instr.alloc,Sem.run_bind,Sem.run_pure,Result.andThen_ok,hz w];have:(newVar ty z).run P w = .ok ⟨w.heap.size,0,none⟩ (w.alloc (.cells cs ty)):=by
  rw [← hc];rfl
 simp only [this,Result.andThen_ok]
 exact hK _ _ (h _ _ (g0N w cs ty))

theorem a0l {P:Program} {fn:Func} {p u:Tmp} {ty:TypeId} (h:fn.results=#[.cell p ty,.tmp u]) (tmps:Array Value) (w:World) (g:Nat) (t:TypeId) (cs:Array Value) (fr:Nat × Nat) (d:TypeDesc)
  (hp:tmps.getD p undef = .pointer (some ⟨g,0,none⟩)) (hg:w.heap[g]? = some (.cells cs t fr))
  (hu:P.underlying ty=some d) (hd:(match d with | .struct _ | .array _ _=>true | _=>false)=true) (hi:(P.info? ty).map (·.size)=some cs.size) (v:Value) (hv:tmps.getD u undef=v) :
  (results fn tmps).run P w = .ok (.tuple #[.agg cs,v]) w:=by
 subst hv;exact b0m h tmps w g t cs fr d hp hg hu hd hi
theorem i0q {P:Program} {ops:Array Oper} {rest:List Oper} {o:Oper} {a:Act} {w:World} {Q:Exit→Act→World→Prop} (hw:Region.wanted o (yielded ops a.tmps)=true)
  (h:∀ K:Act→World→Prop,(∀ a w,wpList P ops Q rest a w→K a w)→o.wp P a w K Q):wpList P ops Q (o :: rest) a w:=
 wpList_step fun K hK=>by rw [if_pos hw];exact h K hK
theorem e0j {P:Program} {ops:Array Oper} {rest:List Oper} {o:Oper} {a:Act} {w:World} {Q:Exit→Act→World→Prop} (hw:Region.wanted o (yielded ops a.tmps)=true) (ty:TypeId) (x:Operand) (ho:o.op = .load ty x)
  (g:Nat) (hx:a.eval x = .pointer (some ⟨g,0,none⟩)) (t:TypeId) (cs:Array Value) (fr:Nat × Nat) (d:TypeDesc) (hg:w.heap[g]? = some (.cells cs t fr))
  (hu:P.underlying ty=some d) (hd:(match d with | .struct _ | .array _ _=>true | _=>false)=true) (hi:(P.info? ty).map (·.size)=some cs.size)
  (h:wpList P ops Q rest (a.put o.dst (.agg cs)) w):wpList P ops Q (o :: rest) a w:=
 i0q hw fun _ hK=>wp_load_row ty x ho g hx t cs fr d hg hu hd hi (hK _ _ h)
theorem Rd.keep {α:Type} {w w':World} {S:Nat→Prop} {enc:α→List Value} {sz:Nat} {v:Value} {l:List α} (h:Rd w enc sz v l) (hk:Keep S w w') (hn:∀ k,v.ownBlock=some k→l≠[]→¬ S k):Rd w' enc sz v l:=by
 obtain ⟨ad,cap,rfl,h1,h2,h3⟩:=h;refine ⟨ad,cap,rfl,h1,h2,fun hne=>?_⟩;obtain ⟨b,off,rfl,hb',hc⟩:=h3 hne;refine ⟨b,off,rfl,Nat.lt_of_lt_of_le hb' hk.size,fun i hi j hj=>?_⟩;rw [World.cell?_of_block (w:=w) (w':=w') (hk.block b hb' (hn b rfl hne))]
 exact hc i hi j hj
theorem Own.keep {α:Type} {w w':World} {S:Nat→Prop} {B:Nat} {e:TypeId} {enc:α→List Value} {sz:Nat} {v:Value} {l:List α} (h:Own w B e enc sz v l) (hk:Keep S w w') (hn:∀ k,v.ownBlock=some k→¬ S k):Own w' B e enc sz v l:=by
 refine ⟨h.1,?_⟩
 rcases h.2 with h2 | ⟨g,cap,cur,rfl,hg,hhq,r⟩
 ·exact .inl h2
 ·exact .inr ⟨g,cap,cur,rfl,hg,by rw [hk.block g (a0b hhq) (hn g rfl)];exact hhq,r⟩
theorem Rd.sliced {α:Type} {w:World} {enc:α→List Value} {sz:Nat} {ad:Option Addr} {n cap:Nat} {l:List α} (h:Rd w enc sz (.slice ad n cap) l) (lo hi:Nat) (h1:lo≤hi) (h2:hi≤l.length) :
  Rd w enc sz (sliced ad lo hi cap sz) ((l.drop lo).take (hi - lo))∧∀ k,(sliced ad lo hi cap sz).ownBlock=some k→Value.ownBlock (.slice ad n cap)=some k:=by
 obtain ⟨ad',cap',he,c1,c2,c3⟩:=h
 cases he
 constructor
 ·refine ⟨if cap=lo then ad else ad.map (·.add (lo*sz)),cap - lo,?_,?_,?_,fun hne=>?_⟩
  ·simp only [Go.sliced,List.length_take,List.length_drop]
   congr 1;omega
  ·simp only [List.length_take,List.length_drop];omega
  ·omega
  ·have hl:lo < hi:=by
    rcases Nat.lt_or_ge lo hi with h | h
    ·exact h
    ·exfalso;apply hne;rw [show hi - lo=0 by omega];rfl
   obtain ⟨b,off,rfl,hb,hc⟩:=c3 (by intro e;subst e;simp at h2;omega);refine ⟨b,off+lo*sz,?_,hb,fun i hi' j hj=>?_⟩
   ·rw [if_neg (by omega),Option.map_some,Addr.add_mid]
   ·simp only [List.length_take,List.length_drop] at hi';have:=hc (lo+i) (by omega) j hj;rw [Nat.add_mul,← Nat.add_assoc] at this;rw [this]
    simp
 ·intro k hk
  cases ad with
  | none=>unfold Go.sliced at hk;by_cases e:cap=lo<;>simp [Value.ownBlock,e] at hk
  | some a=>
   have hb:∀ n,(a.add n).block=a.block:=fun n=>by unfold Addr.add;split<;>rfl
   have e2:(Go.sliced (some a) lo hi cap sz).ownBlock=some a.block:=by
    unfold Go.sliced
    by_cases e:cap=lo
    ·rw [if_pos e];rfl
    ·rw [if_neg e];exact congrArg some (hb _)
   rw [e2] at hk
   exact hk
theorem Rd.from {P:Program} {α:Type} {w:World} {enc:α→List Value} {sz:Nat} {t e:TypeId} (ht:P.underlying t=some (.slice e)) (hs:(P.info? e).map (·.size)=some sz) {v:Value} {l:List α} (h:Rd w enc sz v l) (k:Nat) (hk:k≤l.length) :
  ∃ v',(∀ w kl,(Instr.slice t v (some (.int kl (k:Int))) none none).run P w = .ok v' w)∧Rd w enc sz v' (l.drop k)∧∀ b,v'.ownBlock=some b→v.ownBlock=some b:=by
 obtain ⟨ad,cap,rfl,h1,h2⟩:=h.shape;have h3:=h.sliced k l.length hk (Nat.le_refl _);rw [List.take_of_length_le (by simp)] at h3;refine ⟨_,fun w kl=>?_,h3.1,h3.2⟩
 cases hq:P.info? e with
 | none=>simp [hq] at hs
 | some inf=>
  have h4:inf.size=sz:=by simpa [hq] using hs
  have h5:(0:Int)≤k:=by omega
  have h6:(k:Int)≤(l.length:Int):=by omega
  simp [Instr.slice,run_underlying ht,Instr.sliceBounds,run_sliceBound,Go.sliced,h5,h6,sizeOf,typeInfo,hq,h4]
theorem Rd.upto {P:Program} {α:Type} {w:World} {enc:α→List Value} {sz:Nat} {t e:TypeId} (ht:P.underlying t=some (.slice e)) (hs:(P.info? e).map (·.size)=some sz) {v:Value} {l:List α} (h:Rd w enc sz v l) (k:Nat) (hk:k≤l.length) :
  ∃ v',(∀ w kl,(Instr.slice t v none (some (.int kl (k:Int))) none).run P w = .ok v' w)∧Rd w enc sz v' (l.take k)∧∀ b,v'.ownBlock=some b→v.ownBlock=some b:=by
 obtain ⟨ad,cap,rfl,h1,h2⟩:=h.shape;have h3:=h.sliced 0 k (Nat.zero_le _) hk;rw [List.drop_zero,Nat.sub_zero] at h3;refine ⟨_,fun w kl=>?_,h3.1,h3.2⟩
 cases hq:P.info? e with
 | none=>simp [hq] at hs
 | some inf=>
  have h5:(0:Int)≤k:=by omega
  have h6:(k:Int)≤(cap:Int):=by omega
  simp [Instr.slice,run_underlying ht,Instr.sliceBounds,run_sliceBound,Go.sliced,h5,h6,sizeOf,typeInfo,hq]
theorem Rd.lt {α:Type} {w:World} {enc:α→List Value} {sz:Nat} {v:Value} {l:List α} (h:Rd w enc sz v l):∀ k,v.ownBlock=some k→l≠[]→k < w.heap.size:=by
 intro k hk hl;obtain ⟨ad,cap,rfl,_,_,h3⟩:=h;obtain ⟨x,y,rfl,hx,_⟩:=h3 hl;have:x=k:=by simpa [Value.ownBlock] using hk
 omega
end
end Go.Proofs.YtakkfabaeolbdaaGreat
