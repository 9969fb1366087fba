/- Maps that are only laid into, as walks meet them: the entries in the order in which their keys came. No condition. A loop over a function whose contract tells the body what holds of each thing at the world in which it is yielded. No condition. As RgF, where the iterator keeps its place in a map's iterator. No condition. The range over a map that is only laid into. No condition. The deferred calls  -/
import Derived.Test.YtakkfabaeolbdaaGreatCn2
import Derived.MapKept
import Derived.ChangeMaps5
import Derived.Maps.Keyed
import Derived.Maps.RangeRun
import Derived.RangeFuncNested
import Derived.Maps.RangeWalk
import Derived.Test.YtakkfabaeolbdaaGreatCnReg
namespace Go.Proofs.YtakkfabaeolbdaaGreat
section
open Go.RowKit Go.MapKept
open Go.Maps (Keyed)
open Go.ChangeMaps (setBlock)

theorem i0J (w:World) (g:Nat) (o:Obj):Keep (· = g) w { w with heap:=w.heap.setIfInBounds g o }:=
 ⟨rfl,rfl,rfl,by simp,fun k _ hk=>by simp [Ne.symm hk]⟩

section
variable {κ ν:Type} {kE:κ→Value} {vE:ν→Value}
def MapL (kE:κ→Value) (vE:ν→Value) (w:World) (g:Nat) (M:List (κ × ν)):Prop:=
 ∃ es:Array MapEntry,w.heap[g]? = some (.map es es.size)∧es.toList.map (fun e=>(e.key,e.val))=M.map (fun p=>(kE p.1,vE p.2))∧∀ i (h:i < es.size),es[i].born=i
theorem MapL.lt {w:World} {g:Nat} {M:List (κ × ν)} (h:MapL kE vE w g M):g < w.heap.size:=by
 obtain ⟨es,h,_⟩:=h
 exact a0b h
theorem MapL.keep {w w':World} {g:Nat} {M:List (κ × ν)} (h:MapL kE vE w g M) {S:Nat→Prop} (hk:Keep S w w') (hS:¬ S g):MapL kE vE w' g M:=by
 obtain ⟨es,hb,r⟩:=h
 exact ⟨es,hk.at hb hS,r⟩
theorem MapL.later {w w':World} {g:Nat} {M:List (κ × ν)} (h:MapL kE vE w g M) (hb:Below w.heap.size w w'):MapL kE vE w' g M:=h.keep (S:=fun _=>False) (Keep.of_below hb) id
theorem MapL.made (w:World):MapL kE vE (w.alloc (.map #[] 0)) w.heap.size ([]:List (κ × ν)):=⟨#[],(MapKept.heap_alloc w _).1,rfl,fun i h=>by simp at h⟩
theorem MapL.size {es:Array MapEntry} {M:List (κ × ν)} (h:es.toList.map (fun e=>(e.key,e.val))=M.map (fun p=>(kE p.1,vE p.2))):es.size=M.length:=by
 have:=congrArg List.length h
 simpa using this
theorem MapL.entry {es:Array MapEntry} {M:List (κ × ν)} (h:es.toList.map (fun e=>(e.key,e.val))=M.map (fun p=>(kE p.1,vE p.2))) (i:Nat) (hi:i < M.length) (he:i < es.size):es[i].key=kE M[i].1∧es[i].val=vE M[i].2:=by
 have h1:(es.toList.map (fun e=>(e.key,e.val)))[i]? = (M.map (fun p=>(kE p.1,vE p.2)))[i]?:=by rw [h]
 rw [List.getElem?_map,List.getElem?_map,List.getElem?_eq_getElem hi,List.getElem?_eq_getElem (by simpa using he)] at h1
 simpa using h1

structure KeyOk (P:Program) (kt:TypeId) (kE:κ→Value) (V:κ→Prop):Prop where
 keyed:Keyed P kt
 key:∀ k,V k→∃ l,keyOf P kt (kE k)=some l
 inj:∀ a b,kE a=kE b→a=b

section
variable {P:Program} {ops:Array Oper} {rest:List Oper} {o:Oper} {a:Act} {w:World} {Q:Exit→Act→World→Prop} {V:κ→Prop} {t kt et:TypeId} {g:Nat} {M:List (κ × ν)}
theorem j0c (K:KeyOk P kt kE V) {es:Array MapEntry} (he:es.toList.map (fun e=>(e.key,e.val))=M.map (fun p=>(kE p.1,vE p.2))) (hV:∀ p∈M,V p.1) (x:κ) (hx:V x) (w:World) :
  ((Instr.findKey kt (kE x) es.toList).run P w = .ok none w∧x ∉ M.map (·.1))∨∃ (j:Nat) (h:j < M.length),(Instr.findKey kt (kE x) es.toList).run P w = .ok (some (j,vE M[j].2)) w∧M[j].1=x:=by
 have hz:=MapL.size he;obtain ⟨lx,hlx⟩:=K.key x hx;have hall:∀ e∈es.toList,∃ l,keyOf P kt e.key=some l:=by
  intro e hm;obtain ⟨i,hi,rfl⟩:=List.mem_iff_getElem.1 hm;rw [Array.length_toList] at hi;rw [Array.getElem_toList,(MapL.entry he i (by omega) hi).1]
  exact K.key _ (hV _ (List.getElem_mem _))
 rcases K.keyed.find w hlx es.toList hall with ⟨h1,h2⟩ | ⟨j,e,h1,h2,h3⟩
 ·left
  refine ⟨h1,fun hm=>?_⟩;obtain ⟨p,hp,e⟩:=List.mem_map.1 hm;obtain ⟨i,hi,rfl⟩:=List.mem_iff_getElem.1 hp;have:=(MapL.entry he i hi (by omega)).1
  exact h2 (es[i]'(by omega)) (by rw [← Array.getElem_toList];exact List.getElem_mem _) (by rw [this,e])
 ·right
  obtain ⟨hj,he2⟩:=List.getElem?_eq_some_iff.1 h2;rw [Array.length_toList] at hj;have hj2:j < M.length:=by omega
  have h4:=MapL.entry he j hj2 hj;rw [← he2,Array.getElem_toList] at h1 h3;rw [h4.2] at h1;refine ⟨j,hj2,h1,K.inj _ _ ?_⟩;rw [← h4.1,h3]

theorem p0J (K:KeyOk P kt kE V) (ht:P.underlying t=some (.map kt et)) (h:MapL kE vE w g M) (hV:∀ p∈M,V p.1) (k:κ) (hk:V k) (v:ν) :
  ∃ (w':World) (M':List (κ × ν)),(Instr.mapUpdate t (.map (some g)) (kE k) (vE v)).run P w = .ok () w'∧MapL kE vE w' g M'∧((k ∉ M.map (·.1)∧M'=M ++ [(k,v)])∨(k∈M.map (·.1)∧M'.map (·.1)=M.map (·.1)))∧Keep (· = g) w w'∧w'.heap.size=w.heap.size:=by
 obtain ⟨es,hb,he,hn⟩:=h;have hz:=MapL.size he;obtain ⟨lx,hlx⟩:=K.key k hk
 unfold Instr.mapUpdate
 simp only [Sem.run_bind,run_underlying ht,Result.andThen_ok,MapKept.run_getObj_map hb,K.keyed.check w false hlx]
 rcases j0c K he hV k hk w with ⟨h1,h2⟩ | ⟨j,hj,h1,h2⟩
 ·simp only [h1,Result.andThen_ok,MapKept.run_setObj_map _ hb];refine ⟨_,M ++ [(k,v)],rfl,⟨es.push { key:=kE k,val:=vE v,born:=es.size },?_,?_,?_⟩,.inl ⟨h2,rfl⟩,i0J w _ _,by simp⟩
  ·rw [Array.size_push];exact (MapKept.heap_set hb).1
  ·rw [Array.toList_push,List.map_append,List.map_append,he];rfl
  ·intro i hi;rw [Array.size_push] at hi;rw [Array.getElem_push]
   split
   ·exact hn i _
   ·show es.size=i;omega
 ·have hje:j < es.size:=by omega
  have h4:=MapL.entry he j hj hje;have hold:((es[j]?).map (·.key)).getD (kE k)=kE k:=by rw [Array.getElem?_eq_getElem hje,Option.map_some,Option.getD_some,h4.1,h2]
  simp only [h1,Result.andThen_ok,Sem.run_bind,hold,K.keyed.stays w hlx,MapKept.run_setObj_map _ hb];refine ⟨_,M.set j (k,v),rfl,⟨es.modify j fun e=>{ e with key:=kE k,val:=vE v },?_,?_,?_⟩,.inr ⟨by rw [← h2];exact List.mem_map.2 ⟨_,List.getElem_mem hj,rfl⟩,?_⟩,i0J w _ _,by simp⟩
  ·rw [Array.size_modify];exact (MapKept.heap_set hb).1
  ·apply List.ext_getElem
   ·simp [hz]
   ·intro i h5 h6;simp only [List.length_map,Array.length_toList,Array.size_modify] at h5;have h7:=MapL.entry he i (by omega) h5;simp only [List.getElem_map,Array.getElem_toList,Array.getElem_modify,List.getElem_set]
    by_cases hij:j=i
    ·simp [hij]
    ·simp [hij,h7.1,h7.2]
  ·intro i hi;rw [Array.size_modify] at hi;rw [Array.getElem_modify]
   split
   ·exact hn i hi
   ·exact hn i hi
  ·rw [List.map_set]
   show (M.map (·.1)).set j k=M.map (·.1)
   refine List.ext_getElem (by simp) fun i h5 h6=>?_
   rw [List.getElem_set]
   split
   ·rename_i e;subst e;simp [h2]
   ·rfl
def LaidL (M:List (κ × ν)) (k:κ) (v:ν) (M':List (κ × ν)):Prop:=(k ∉ M.map (·.1)∧M'=M ++ [(k,v)])∨(k∈M.map (·.1)∧M'.map (·.1)=M.map (·.1))
theorem s0e (hgd:o.guard=none) (m x y:Operand) (ho:o.op = .mapUpdate t m x y) (K:KeyOk P kt kE V) (ht:P.underlying t=some (.map kt et)) (h:MapL kE vE w g M) (hV:∀ p∈M,V p.1) (k:κ) (hk:V k) (v:ν)
  (hm:a.eval m = .map (some g)) (hx:a.eval x=kE k) (hy:a.eval y=vE v)
  (hK:∀ w' M',MapL kE vE w' g M'→LaidL M k v M'→Keep (· = g) w w'→w'.heap.size=w.heap.size→wpList P ops Q rest (a.put o.dst undef) w'):wpList P ops Q (o :: rest) a w:=by
 refine wpList_plain hgd fun K' hK'=>?_
 obtain ⟨w',M',hr,h1,h2,h3,h4⟩:=p0J (w:=w) K ht h hV k hk v
 unfold Oper.wp
 simp only [execOp,ho,hm,hx,hy,Sem.run_bind,hr,Result.andThen_ok,Sem.run_pure]
 exact hK' _ _ (hK w' M' h1 h2 h3 h4)
theorem n0v (K:KeyOk P kt kE V) (ht:P.underlying t=some (.map kt et)) (h:MapL kE vE w g M) (hV:∀ p∈M,V p.1) (hN:(M.map (·.1)).Nodup) (j:Nat) (hj:j < M.length) :
  (Instr.lookup t (.map (some g)) (kE M[j].1) false).run P w = .ok (vE M[j].2) w:=by
 obtain ⟨es,hb,he,hn⟩:=h;have hx:=hV _ (List.getElem_mem hj);obtain ⟨lx,hlx⟩:=K.key _ hx
 unfold Instr.lookup
 simp only [Sem.run_bind,run_underlying ht,Result.andThen_ok,MapKept.run_getObj_map hb,Sem.run_pure,K.keyed.check w _ hlx]
 rcases j0c K he hV _ hx w with ⟨h1,h2⟩ | ⟨i,hi,h1,h2⟩
 ·exact absurd (List.mem_map.2 ⟨_,List.getElem_mem hj,rfl⟩) h2
 ·have hij:i=j:=by
   have e1:(M.map (·.1))[i]'(by simpa using hi)=(M.map (·.1))[j]'(by simpa using hj):=by rw [List.getElem_map,List.getElem_map];exact h2
   exact (List.getElem_inj hN).1 e1
  subst hij;simp only [h1,Result.andThen_ok,Sem.run_bind,Sem.run_pure]
  rfl
theorem q0S {ty:TypeId} (ht:P.underlying t=some (.map kt et)) (h:MapL kE vE w g M):(Builtin.len_ #[t] ty #[.map (some g)]).run P w = .ok (.int .i64 M.length) w:=by
 obtain ⟨es,hb,he,hn⟩:=h;rw [← MapL.size he]
 simp [Builtin.len_,run_underlying ht,MapKept.run_getObj_map hb]
 rfl
end
end
end
section
open Go.RowKit

def bookish (o:Obj):Bool:=match o with
 | .loop _=>true
 | .deferred _=>true
 | _=>false
structure Aside (B:Nat) (A A':World):Prop where
 os:A'.os=A.os
 tape:A'.tape=A.tape
 output:A'.output=A.output
 size:A.heap.size≤A'.heap.size
 keep:∀ (k:Nat) (o:Obj),A.heap[k]? = some o→(k < B∨bookish o=false)→A'.heap[k]? = some o
theorem Aside.refl (B:Nat) (A:World):Aside B A A:=⟨rfl,rfl,rfl,Nat.le_refl _,fun _ _ h _=>h⟩
theorem Aside.trans {B:Nat} {a b c:World} (h:Aside B a b) (k:Aside B b c):Aside B a c:=
 ⟨k.os.trans h.os,k.tape.trans h.tape,k.output.trans h.output,Nat.le_trans h.size k.size,fun i o hi ho=>k.keep i o (h.keep i o hi ho) ho⟩
theorem Aside.of_below {B:Nat} {A A':World} (h:Below A.heap.size A A'):Aside B A A':=
 ⟨h.os,h.tape,h.output,h.size,fun k _ hk _=>(h.block k (Array.getElem?_eq_some_iff.1 hk).1).trans hk⟩
theorem Aside.put {B k:Nat} {A:World} {o o':Obj} (hB:B≤k) (h:A.heap[k]? = some o) (ho:bookish o=true):Aside B A (A.putObj k o'):=by
 refine ⟨rfl,rfl,rfl,by simp,fun i x hi hx=>?_⟩;rw [World.putObj_heap_other]
 ·exact hi
 ·intro e;subst e;rw [h] at hi
  cases hi
  rcases hx with hx | hx
  ·omega
  ·rw [ho] at hx;cases hx
def Leaves (B:Nat) (A A':World):Prop:=A.heap.size≤A'.heap.size∧∀ (k:Nat) (o:Obj),B≤k→A.heap[k]? = some o→bookish o=true→A'.heap[k]? = some o
theorem Leaves.refl (B:Nat) (A:World):Leaves B A A:=⟨Nat.le_refl _,fun _ _ _ h _=>h⟩
theorem Leaves.trans {B:Nat} {a b c:World} (h:Leaves B a b) (k:Leaves B b c):Leaves B a c:=⟨Nat.le_trans h.1 k.1,fun i o hB hi ho=>k.2 i o hB (h.2 i o hB hi ho) ho⟩
theorem Leaves.of_below {B:Nat} {A A':World} (h:Below A.heap.size A A'):Leaves B A A':=⟨h.size,fun k _ _ hk _=>(h.block k (Array.getElem?_eq_some_iff.1 hk).1).trans hk⟩
theorem Leaves.of_keep {B:Nat} {S:Nat→Prop} {A A':World} (h:Keep S A A') (hS:∀ k,S k→∃ o,A.heap[k]? = some o∧bookish o=false):Leaves B A A':=
 ⟨h.size,fun k o _ hk ho=>h.at hk fun e=>by
  obtain ⟨o',hc,h2⟩:=hS k e;rw [hk] at hc;cases hc;rw [ho] at h2;cases h2⟩
def roundEnds {α:Type} (B:Nat) (Kp:World→World→Prop) (I:List α→World→Prop) (Ix:Code→List α→World→Prop) (xs:List α) (W:World):Exit→Act→World→Prop
 | .normal,_,W'=>Leaves B W W'∧Kp W W'∧I xs W'
 | .ret,_,W'=>Leaves B W W'∧Ix .ret xs W'
 | .exit id,_,W'=>Leaves B W W'∧Ix (.exit id) xs W'
 | .goto t,_,W'=>Leaves B W W'∧Ix (.goto t) xs W'
 | .panic _,_,_=>False
 | .outgrown,_,_=>False

section
variable {P:Program} {n:Nat}
end
end
section
open Go.RowKit

def iterM (o:Obj):Bool:=match o with
 | .mapIter _ _ _ _=>true
 | _=>false
structure AsideM (B:Nat) (A A':World):Prop where
 os:A'.os=A.os
 tape:A'.tape=A.tape
 output:A'.output=A.output
 size:A.heap.size≤A'.heap.size
 keep:∀ (k:Nat) (o:Obj),A.heap[k]? = some o→(k < B∨(bookish o=false∧iterM o=false))→A'.heap[k]? = some o
theorem Aside.toM {B:Nat} {A A':World} (h:Aside B A A'):AsideM B A A':=⟨h.os,h.tape,h.output,h.size,fun k o hk ho=>h.keep k o hk (ho.imp id And.left)⟩
theorem AsideM.of_below {B:Nat} {A A':World} (h:Below A.heap.size A A'):AsideM B A A':=(Aside.of_below h).toM
structure StepM (B:Nat) (A A':World):Prop where
 os:A'.os=A.os
 tape:A'.tape=A.tape
 output:A'.output=A.output
 size:A.heap.size≤A'.heap.size
 keep:∀ (k:Nat) (o:Obj),A.heap[k]? = some o→(k < B∨iterM o=false)→A'.heap[k]? = some o
theorem StepM.of_below {B:Nat} {A A':World} (h:Below A.heap.size A A'):StepM B A A':=
 ⟨h.os,h.tape,h.output,h.size,fun k _ hk _=>(h.block k (Array.getElem?_eq_some_iff.1 hk).1).trans hk⟩
theorem StepM.of_keep {B r:Nat} {A A':World} (h:Keep (· = r) A A') (hr:∃ o,A.heap[r]? = some o∧iterM o=true) (hB:B≤r):StepM B A A':=
 ⟨h.os,h.tape,h.output,h.size,fun k o hk ho=>h.at hk fun e=>by
  obtain ⟨o',h1,h2⟩:=hr;rw [e,h1] at hk;cases hk
  rcases ho with ho | ho
  ·omega
  ·rw [h2] at ho;cases ho⟩
theorem AsideM.of_step {B C:Nat} {A A':World} (h:StepM C A A') (hB:B≤C):AsideM B A A':=
 ⟨h.os,h.tape,h.output,h.size,fun k o hk ho=>h.keep k o hk (by
  rcases ho with ho | ho
  ·exact .inl (by omega)
  ·exact .inr ho.2)⟩
def SeqM {α:Type} (n:Nat) (P:Program) (g:Nat) (lb:Array Value) (encs:α→Array Value) (G:α→World→Prop) (Kp:World→World→Prop) (S Sp:List α→Prop) (N:Nat) (w:World):Prop:=
 ∀ (l:Nat) (J Jx:List α→World→Prop) (W:World),Below w.heap.size w W →
  (∀ pre A B,J pre A→StepM W.heap.size A B→J pre B)→(∀ pre A B,Jx pre A→StepM W.heap.size A B→Jx pre B) →
  (∀ pre x W1,J pre W1→G x W1→pre.length < N→YieldAt Fence.wide (n - 1) P l (encs x) W1 fun e W'=>
   (e = .returned (.bool true)∧J (pre ++ [x]) W'∧Kp W1 W')∨(e = .returned (.bool false)∧Jx (pre ++ [x]) W')) →
  J [] W →
  CallsIn Fence.wide n P g (#[.func (.yield l) #[] #[]] ++ lb) W fun e W'=>(∃ v,e = .returned v)∧((∃ xs,S xs∧J xs W')∨∃ pre,Sp pre∧Jx pre W')
section
variable {P:Program} {n:Nat}
theorem j0b {α:Type} {g:Operand} {ps:Array Tmp} {assign body:Code} {Q:Exit→Act→World→Prop} {a:Act} {w w0:World}
  (h1:1≤n) {gf:Nat} {lb:Array Value} (hg:a.eval g = .func (.func gf) #[] lb) (eg:∀ args w,(callFunc gf args).run P w = .ok (.enter gf args) w)
  {encs:α→Array Value} {G:α→World→Prop} {Kp:World→World→Prop} {S Sp:List α→Prop} {N:Nat} (hseq:SeqM (n - 1) P gf lb encs G Kp S Sp N w0) (hb0:Below w0.heap.size w0 w) (hps:∀ x,(encs x).size=ps.size)
  (hKt:∀ {A B C:World},Kp A B→Kp B C→Kp A C) (hKa:∀ {A B:World},Aside w.heap.size A B→Kp A B)
  (I:List α→World→Prop) (Ix:Code→List α→World→Prop) (hI:∀ pre A B,I pre A→AsideM w.heap.size A B→I pre B) (hIx:∀ c pre A B,Ix c pre A→AsideM w.heap.size A B→Ix c pre B) (h0:I [] w)
  (Ax:α→Act→World→Prop) (hAx:∀ x a' A B,Ax x a' A→AsideM w.heap.size A B→Ax x a' B)
  (hassign:∀ (l:Nat) (pre:List α) (x:α) (W:World) (K:Act→World→Prop),I pre W→G x W→pre.length < N→(∀ a' W',Below W.heap.size W W'→Ax x a' W'→K a' W') →
   assign.wpIn (Fence.wide.inRound l) (n - 1 - 1) P (Exit.then K (fun _ _ _=>False)) { tmps:=(ps.zip (encs x)).foldl (fun t (p,v)=>t.setIfInBounds p v) a.tmps,defers:=[] } W)
  (hbody:∀ (l:Nat) (pre:List α) (x:α) (a':Act) (W:World),w.heap.size≤l→I pre W→Ax x a' W→pre.length < N→body.wpIn (Fence.wide.inRound l) (n - 1 - 1) P (roundEnds w.heap.size Kp I Ix (pre ++ [x]) W) a' W)
  (hdone:∀ (D:Nat) (xs:List α) (W:World),w.heap.size≤D→S xs→I xs W→W.heap[D]? = some (.deferred (some []))→Q .normal { a with defers:={ target:=.collected D,args:=#[] } :: a.defers } W)
  (hstop:∀ (D:Nat) (c:Code) (pre:List α) (W:World),w.heap.size≤D→Sp pre→Ix c pre W→W.heap[D]? = some (.deferred (some []))→c.wpIn Fence.wide n P Q { a with defers:={ target:=.collected D,args:=#[] } :: a.defers } W) :
  (Code.rangeFunc g ps assign body).wpIn Fence.wide n P Q a w:=by
 refine wpIn_rangeFunc fun fn hfn=>?_
 -- the two blocks that the loop lays: the rounds' deferred calls, and its record
 obtain ⟨D,hD⟩:=nm (w.heap.size);obtain ⟨rec,hrec⟩:∃ rec:LoopState→Option Code→Loop,∀ st pe,rec st pe = { state:=st,pending:=pe,fn,tmps:=a.tmps,params:=ps,assign,body,defers:=D }:=⟨fun st pe=>{ state:=st,pending:=pe,fn,tmps:=a.tmps,params:=ps,assign,body,defers:=D },fun _ _=>rfl⟩;obtain ⟨w1,hw1⟩:=nm ((w.alloc (.deferred (some []))).alloc (.loop (rec .ready none)));have hb1:Below w.heap.size w w1:=by rw [hw1];exact ((Below.refl _ w).alloc (Nat.le_refl _) _).alloc (by simp) _
 have hd1:w1.heap[D]? = some (.deferred (some [])):=by rw [hw1,hD];exact (Below.heap_alloc _ _ _ (by simp)).trans (World.alloc_heap_new w _)
 have hl1:w1.heap[D+1]? = some (.loop (rec .ready none)):=by
  rw [hw1,hD];have:=World.alloc_heap_new (w.alloc (.deferred (some []))) (.loop (rec .ready none))
  rwa [World.size_alloc] at this
 have hi1:I [] w1:=hI _ _ _ h0 (AsideM.of_below hb1);rw [← hD] at hI hIx hAx hbody hdone hstop hKa;refine ⟨D+1,[{ target:=.collected D,args:=#[] }],w1,{ target:=.fn (.func gf) lb,args:=#[.func (.yield (D+1)) #[] #[]] },w1,gf,#[.func (.yield (D+1)) #[] #[]] ++ lb,w1,?_,?_,fun _ _=>trivial,?_,fun _=>h1,?_⟩
 ·rw [hw1,hD,hrec,hD]
  exact run_enterLoop_outer _ _ _ _ _
 ·simp only [resolve,hg]
  simp [go_sem]
 ·simp [invoke,go_sem,eg]
 -- what is kept beside the caller's invariant
 have two:∀ {A B:World} (st:Loop),A.heap[D+1]? = some (.loop st)→A.heap[D]? = some (.deferred (some []))→Below A.heap.size A B→B.heap[D+1]? = some (.loop st)∧B.heap[D]? = some (.deferred (some [])):=
  fun st p q h=>⟨(h.block _ (Array.getElem?_eq_some_iff.1 p).1).trans p,(h.block _ (Array.getElem?_eq_some_iff.1 q).1).trans q⟩
 have twos:∀ {C:Nat} {A B:World} (st:Loop),A.heap[D+1]? = some (.loop st)→A.heap[D]? = some (.deferred (some []))→StepM C A B→B.heap[D+1]? = some (.loop st)∧B.heap[D]? = some (.deferred (some [])):=
  fun st p q h=>⟨h.keep _ _ p (.inr rfl),h.keep _ _ q (.inr rfl)⟩
 have hD1:D≤w1.heap.size:=by have:=hb1.size;omega
 refine (hseq (D+1) (fun pre W=>I pre W∧W.heap[D+1]? = some (.loop (rec .ready none))∧W.heap[D]? = some (.deferred (some [])))
  (fun pre W=>∃ c,Ix c pre W∧W.heap[D+1]? = some (.loop (rec .done (some c)))∧W.heap[D]? = some (.deferred (some []))) w1 (hb0.trans (hb1.mono hb0.size))
  (fun pre A B h hb=>⟨hI _ _ _ h.1 (AsideM.of_step hb hD1),twos _ h.2.1 h.2.2 hb⟩)
  (fun pre A B h hb=>by obtain ⟨c,h3,h4⟩:=h;exact ⟨c,hIx _ _ _ _ h3 (AsideM.of_step hb hD1),twos _ h4.1 h4.2 hb⟩) ?_ ⟨hi1,hl1,hd1⟩).mono ?_
 ·-- a round
  rintro pre x W ⟨hi,hl,hd⟩ hgx hlen;have hy:=run_yield (P:=P) (args:=encs x) hl (by rw [hrec];exact hps x);rw [hrec] at hy;refine ⟨fn,_,assign,body,hy,roundIn_of_wpIn hfn (hassign _ pre x W _ hi hgx hlen fun a' V hV hax=>?_)⟩;obtain ⟨hlV,hdV⟩:=two _ hl hd hV;have hszV:=(Array.getElem?_eq_some_iff.1 hlV).1;obtain ⟨busy,hbusy⟩:∃ busy:Loop,busy = { rec .ready none with state:=.busy }:=⟨_,rfl⟩;refine ⟨V.putObj (D+1) (.loop busy),by rw [hbusy];exact run_beginRound hlV (by rw [hrec]),?_⟩;have asV:Aside D V (V.putObj (D+1) (.loop busy)):=Aside.put (by omega) hlV rfl;have hl2:(V.putObj (D+1) (.loop busy)).heap[D+1]? = some (.loop busy):=World.putObj_heap_same hszV;have hd2:(V.putObj (D+1) (.loop busy)).heap[D]? = some (.deferred (some [])):=(World.putObj_heap_other (by omega)).trans hdV;refine wpIn_mono (hbody (D+1) pre x a' _ (by omega) (hI _ _ _ (hI _ _ _ hi (AsideM.of_below hV)) asV.toM) (hAx _ _ _ _ hax asV.toM) hlen) ?_;have fin:∀ (jump:Option Code) (W3:World),Leaves D (V.putObj (D+1) (.loop busy)) W3 →
    ∃ W4,(Instr.endRound (D+1) jump).run P W3 = .ok (.bool jump.isNone) W4∧Aside D W3 W4∧W4.heap[D+1]? = some (.loop (rec (if jump.isNone then .ready else .done) jump))∧W4.heap[D]? = some (.deferred (some [])):=fun jump W3 h3=>by
   have p:=h3.2 _ _ (by omega) hl2 rfl;have q:=h3.2 _ _ (Nat.le_refl _) hd2 rfl;have hr:=run_endRound (P:=P) jump p;have e:({ busy with state:=if jump.isNone then .ready else .done,pending:=jump }:Loop)=rec (if jump.isNone then .ready else .done) jump:=by rw [hbusy,hrec,hrec]
   rw [e] at hr
   exact ⟨_,hr,Aside.put (by omega) p rfl,World.putObj_heap_same (Array.getElem?_eq_some_iff.1 p).1,(World.putObj_heap_other (by omega)).trans q⟩
  have stopped:∀ (c:Code) (W3:World),Leaves D (V.putObj (D+1) (.loop busy)) W3→Ix c (pre ++ [x]) W3 →
    ∃ v W4,(Instr.endRound (D+1) (some c)).run P W3 = .ok v W4∧((Ending.returned v = .returned (.bool true)∧(I (pre ++ [x]) W4∧W4.heap[D+1]? = some (.loop (rec .ready none))∧W4.heap[D]? = some (.deferred (some [])))∧Kp W W4) ∨
     (Ending.returned v = .returned (.bool false)∧∃ c,Ix c (pre ++ [x]) W4∧W4.heap[D+1]? = some (.loop (rec .done (some c)))∧W4.heap[D]? = some (.deferred (some [])))):=fun c W3 h3 h4=>by
   obtain ⟨W4,r1,r2,r3,r4⟩:=fin (some c) W3 h3
   exact ⟨_,W4,r1,.inr ⟨rfl,c,hIx _ _ _ _ h4 r2.toM,r3,r4⟩⟩
  rintro e a3 W3 hp
  cases e with
  | normal=>
   obtain ⟨h3,h4,h5⟩:=hp;obtain ⟨W4,r1,r2,r3,r4⟩:=fin none W3 h3
   exact ⟨_,W4,r1,.inl ⟨rfl,⟨hI _ _ _ h5 r2.toM,r3,r4⟩,hKt (hKa (Aside.of_below hV)) (hKt (hKa asV) (hKt h4 (hKa r2)))⟩⟩
  | ret=>exact stopped .ret W3 hp.1 hp.2
  | exit id=>exact stopped (.exit id) W3 hp.1 hp.2
  | goto t=>exact stopped (.goto t) W3 hp.1 hp.2
  | panic _=>exact hp.elim
  | outgrown=>exact hp.elim
 ·-- behind the iterator
  rintro e W2 ⟨⟨v,rfl⟩,⟨xs,hS,hi,hl,hd⟩ | ⟨pre,hSp,c,hi,hl,hd⟩⟩
  ·have hr:=run_endLoop (P:=P) hl (by rw [hrec];simp);rw [hrec] at hr
   exact ⟨none,_,hr,hdone _ xs _ (Nat.le_refl _) hS (hI _ _ _ hi (Aside.put (by omega) hl rfl).toM) ((World.putObj_heap_other (by omega)).trans hd)⟩
  ·have hr:=run_endLoop (P:=P) hl (by rw [hrec];simp);rw [hrec] at hr
   exact ⟨some c,_,hr,hstop _ c pre _ (Nat.le_refl _) hSp (hIx _ _ _ _ hi (Aside.put (by omega) hl rfl).toM) ((World.putObj_heap_other (by omega)).trans hd)⟩
end
end
section
open Go.RowKit Go.MapKept
open Go.ChangeMaps (setBlock)

theorem m0J {w w1:World} (h:w1=w∨w1=w.drew) (g:Nat) (o:Obj):Keep (· = g) w (setBlock w1 g o)∧(setBlock w1 g o).heap.size=w.heap.size:=by
 have hhq:w1.heap=w.heap∧w1.os=w.os∧w1.tape=w.tape∧w1.output=w.output:=by rcases h with rfl | rfl<;>exact ⟨rfl,rfl,rfl,rfl⟩
 obtain ⟨h1,h2,h3,h4⟩:=hhq
 exact ⟨⟨h2,h3,h4,by simp [setBlock,h1],fun k _ hk=>by simp [setBlock,h1,Ne.symm hk]⟩,by simp [setBlock,h1]⟩
theorem q0j {w w1:World} (h:w1=w∨w1=w.drew) {g:Nat} (hg:g < w.heap.size) (o:Obj):(setBlock w1 g o).heap[g]? = some o:=by
 have hhq:w1.heap=w.heap:=by rcases h with rfl | rfl<;>rfl
 simp [setBlock,hhq,hg]
section
variable {κ ν:Type} {kE:κ→Value} {vE:ν→Value}
variable {P:Program} {ops:Array Oper} {rest:List Oper} {o:Oper} {a:Act} {w:World} {Q:Exit→Act→World→Prop} {t kt et:TypeId} {g:Nat} {M:List (κ × ν)}
def IterL (w:World) (g r N:Nat) (seen:Array Nat):Prop:=w.heap[r]? = some (.mapIter (some g) N seen N)∧seen.toList.Nodup∧∀ i∈seen.toList,i < N
theorem o0n (hgd:o.guard=none) (x:Operand) (ho:o.op = .range t x) (ht:P.underlying t=some (.map kt et)) (h:MapL kE vE w g M) (hx:a.eval x = .map (some g))
  (hK:∀ w' r,r=w.heap.size→IterL w' g r M.length #[]→Below w.heap.size w w'→wpList P ops Q rest (a.put o.dst (.pointer (some ⟨r,0,none⟩))) w'):wpList P ops Q (o :: rest) a w:=by
 refine wpList_plain hgd fun K' hK'=>?_
 obtain ⟨es,hb,he,hn⟩:=h;have hr:=run_range_map (P:=P) w t kt et g es es.size ht hb;have hz:=MapL.size he;rw [hz] at hr
 unfold Oper.wp
 simp only [execOp,ho,hx,Sem.run_bind,hr,Result.andThen_ok,Sem.run_pure];refine hK' _ _ (hK _ _ rfl ⟨heap_alloc_new w _,by simp,by simp⟩ ((Below.refl _ _).alloc (Nat.le_refl _) _))
theorem q0L (hgd:o.guard=none) (it:Operand) (ho:o.op = .next it false) {r:Nat} {seen:Array Nat} (hit:a.eval it = .pointer (some ⟨r,0,none⟩)) (hI:IterL w g r M.length seen) (h:MapL kE vE w g M)
  (hDone:(∀ i,i < M.length→i∈seen.toList)→wpList P ops Q rest (a.put o.dst (.tuple #[.bool false])) w)
  (hMore:∀ (i:Nat) (hi:i < M.length) w',i ∉ seen.toList→IterL w' g r M.length (seen.push i)→MapL kE vE w' g M→Keep (· = r) w w'→w'.heap.size=w.heap.size →
   (Instr.entry (.pointer (some ⟨r,0,none⟩))).run P w' = .ok (.tuple #[kE M[i].1,vE M[i].2]) w'→wpList P ops Q rest (a.put o.dst (.tuple #[.bool true,kE M[i].1,vE M[i].2])) w'):wpList P ops Q (o :: rest) a w:=by
 refine wpList_plain hgd fun K' hK'=>?_
 have h0:=h;obtain ⟨es,hb,he,hn⟩:=h;obtain ⟨hr,hnd,hlt⟩:=hI;have hz:=MapL.size he;have hold:∀ x∈es.toList,x.born < M.length:=by
  intro x hx;obtain ⟨i,hi,rfl⟩:=List.mem_iff_getElem.1 hx;rw [Array.length_toList] at hi;rw [Array.getElem_toList,hn i hi];omega
 have hne:r≠g:=by
  intro e;subst e;rw [hb] at hr;cases hr
 have hrl:=a0b hr
 unfold Oper.wp
 rcases run_next_at (P:=P) w o.type r g M.length M.length seen es es.size hr hb hold (Nat.le_refl _) with ⟨h1,h2⟩ | ⟨e,h1,w1,h2,h3⟩
 ·simp only [execOp,ho,hit,Sem.run_bind,h2,Result.andThen_ok,Sem.run_pure];refine hK' _ _ (hDone fun i hi=>?_)
  by_cases hm:i∈seen.toList
  ·exact hm
  ·exfalso
   have:es[i]'(by omega)∈leftOf es seen:=by
    unfold leftOf
    rw [Array.mem_filter];refine ⟨Array.getElem_mem _,?_⟩;rw [hn i (by omega)]
    simpa using hm
   have h5:=Array.size_pos_of_mem this
   omega
 ·have h4:e∈es.toList∧e.born ∉ seen.toList:=by
   unfold leftOf at h1
   simpa using h1
  obtain ⟨hm,hns⟩:=h4;have hm0:=hm;obtain ⟨i,hi,he2⟩:=List.mem_iff_getElem.1 hm;rw [Array.length_toList] at hi;rw [Array.getElem_toList] at he2;have hbn:e.born=i:=by rw [← he2,hn i hi]
  have hi2:i < M.length:=by omega
  have hkv:=MapL.entry he i hi2 hi;rw [he2] at hkv;obtain ⟨hk1,hk2⟩:=m0J h2 r (.mapIter (some g) M.length (seen.push e.born) es.size);have hr2:=q0j h2 hrl (.mapIter (some g) M.length (seen.push e.born) es.size);rw [hbn] at hns;have hIter:IterL (setBlock w1 r (.mapIter (some g) M.length (seen.push e.born) es.size)) g r M.length (seen.push i):=by
   refine ⟨by rw [hr2,hbn,hz],?_,?_⟩
   ·rw [Array.toList_push,List.nodup_append]
    exact ⟨hnd,by simp,fun x hx y hy e=>by simp at hy;subst hy;subst e;exact hns hx⟩
   ·intro j hj;rw [Array.toList_push] at hj
    rcases List.mem_append.1 hj with hj | hj
    ·exact hlt j hj
    ·simp at hj;omega
  have hM2:=h0.keep hk1 (fun e=>hne e.symm);have hb2:(setBlock w1 r (.mapIter (some g) M.length (seen.push e.born) es.size)).heap[g]? = some (.map es es.size):=hk1.at hb (fun e=>hne e.symm);have hnd2:(es.toList.map (·.born)).Nodup:=by
   have:es.toList.map (·.born)=List.range es.size:=by
    apply List.ext_getElem (by simp)
    intro j h5 h6;simp only [List.length_map,Array.length_toList] at h5
    simp [hn j h5]
   rw [this];exact List.nodup_range
  have hen:=run_entry_at (P:=P) _ r g M.length seen es es.size e hr2 hb2 hm0 hnd2;simp only [execOp,ho,hit,Sem.run_bind,h3,Result.andThen_ok,Sem.run_pure];rw [hkv.1,hkv.2] at hen ⊢
  exact hK' _ _ (hMore i hi2 _ hns hIter hM2 hk1 hk2 hen)
end
end
section
open Go.RowKit

def Marks (B:Nat) (ds:List Deferred) (w:World):Prop:=ds.Pairwise (fun x y=>x.target≠y.target)∧∀ d∈ds,∃ D,d.target = .collected D∧B≤D∧w.heap[D]? = some (.deferred (some []))
structure CellsSame (B:Nat) (w w':World):Prop where
 os:w'.os=w.os
 tape:w'.tape=w.tape
 output:w'.output=w.output
 size:w'.heap.size=w.heap.size
 below:∀ k,k < B→w'.heap[k]? = w.heap[k]?
 cells:∀ (k:Nat) (cs:Array Value) (T:TypeId) (fr:Nat × Nat),w.heap[k]? = some (.cells cs T fr)→w'.heap[k]? = some (.cells cs T fr)
theorem CellsSame.refl (B:Nat) (w:World):CellsSame B w w:=⟨rfl,rfl,rfl,rfl,fun _ _=>rfl,fun _ _ _ _ h=>h⟩
theorem CellsSame.trans {B:Nat} {a b c:World} (h:CellsSame B a b) (k:CellsSame B b c):CellsSame B a c:=
 ⟨k.os.trans h.os,k.tape.trans h.tape,k.output.trans h.output,k.size.trans h.size,fun i hi=>(k.below i hi).trans (h.below i hi),fun i cs T fr hi=>k.cells i cs T fr (h.cells i cs T fr hi)⟩
theorem CellsSame.onto {B:Nat} {w a b:World} (k:CellsSame B a b) (h:Below B w a):Below B w b:=
 ⟨k.os.trans h.os,k.tape.trans h.tape,k.output.trans h.output,by rw [k.size];exact h.size,fun i hi=>(k.below i hi).trans (h.block i hi)⟩
theorem CellsSame.cell {B:Nat} {w w':World} (k:CellsSame B w w') {b o:Nat} {v:Value} (h:w.cell? ⟨b,o,none⟩=some v):w'.cell? ⟨b,o,none⟩=some v:=by
 have h2:=h
 unfold World.cell? at h2
 cases ho:w.heap[b]? with
 | none=>simp [ho] at h2
 | some x=>
  cases x with
  | cells cs T fr=>
   have:=k.cells b cs T fr ho;rw [Lib.cell_of_heap this,← h,Lib.cell_of_heap ho]
  | _=>simp [ho] at h2
theorem i0c {B D:Nat} {w:World} {o o':Obj} (hB:B≤D) (h:w.heap[D]? = some o) (ho:o.isCells=false):CellsSame B w (w.putObj D o'):=by
 refine ⟨rfl,rfl,rfl,by simp,fun k hk=>World.putObj_heap_other (by omega),fun k cs T fr hk=>?_⟩;rw [World.putObj_heap_other]
 ·exact hk
 ·intro e;subst e;rw [h] at hk
  cases hk
  cases ho
theorem d0B {P:Program} {F:Fence} {n:Nat} {fn:Func} {tmps:Array Value} {R:Ending→World→Prop} {B:Nat}:∀ (ds:List Deferred) (w:World),Marks B ds w→(∀ w',CellsSame B w w'→LeavesInM F n P fn tmps R [] .returning w')→LeavesInM F n P fn tmps R ds .returning w
 | [],w,_,h=>h w (CellsSame.refl _ _)
 | d :: ds,w,hm,h=>by
  obtain ⟨hp,hd⟩:=hm;obtain ⟨D,h1,h2,h3⟩:=hd d (by simp);have hs:CellsSame B w (w.putObj D (.deferred none)):=i0c h2 h3 rfl;refine ⟨by simp,.inl ⟨D,_,h1,run_takeDeferred h3,d0B ds _ ⟨(List.pairwise_cons.1 hp).2,fun d' hd'=>?_⟩ fun w' hw'=>h w' (hs.trans hw')⟩⟩;obtain ⟨D',k1,k2,k3⟩:=hd d' (by simp [hd']);refine ⟨D',k1,k2,?_⟩;rw [World.putObj_heap_other]
  ·exact k3
  ·intro e;subst e
   exact (List.pairwise_cons.1 hp).1 d' hd' (by rw [h1,k1])
theorem Marks.keep {B:Nat} {ds:List Deferred} {w w':World} {S:Nat→Prop} (h:Marks B ds w) (k:Keep S w w') (hS:∀ x,S x→∀ c,w.heap[x]?≠some (.deferred c)):Marks B ds w':=
 ⟨h.1,fun d hd=>by
  obtain ⟨D,k1,k2,k3⟩:=h.2 d hd
  exact ⟨D,k1,k2,k.at k3 (fun e=>hS D e _ k3)⟩⟩
theorem Marks.cons {B D:Nat} {ds:List Deferred} {w:World} (h:Marks B ds w) (hB:B≤D) (hD:w.heap[D]? = some (.deferred (some []))) (hn:∀ d∈ds,d.target≠.collected D):Marks B ({ target:=.collected D,args:=#[] } :: ds) w:=
 ⟨List.pairwise_cons.2 ⟨fun d hd e=>hn d hd e.symm,h.1⟩,fun d hd=>by
  rcases List.mem_cons.1 hd with rfl | hd
  ·exact ⟨D,rfl,hB,hD⟩
  ·exact h.2 d hd⟩
end
end Go.Proofs.YtakkfabaeolbdaaGreat
