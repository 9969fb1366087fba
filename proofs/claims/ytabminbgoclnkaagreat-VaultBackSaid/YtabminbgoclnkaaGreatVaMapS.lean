/- Maps of texts to texts, as walks meet them: no condition. -/
import Derived.Test.YtabminbgoclnkaaGreatVa3
import Derived.Test.YtabminbgoclnkaaGreatVa2
import Derived.MapKept
import Derived.ChangeMaps5
import Derived.Maps.OwnSet
namespace Go.Proofs.YtabminbgoclnkaaGreat
open Go.RowKit Go.MapKept

def MapIs (w:World) (g:Nat) (t:Tab):Prop:=
 ∃ es clock,w.heap[g]? = some (.map es clock)∧(∀ x∈es.toList,∃ k v,x.key = .string (bs k)∧x.val = .string (bs v)∧getP t k=some v)∧(es.toList.map (·.key)).Nodup ∧
  (∀ k v,getP t k=some v→∃ x∈es.toList,x.key = .string (bs k))∧es.size=t.length

theorem n0C {a b:Txt} (h:bs a=bs b):a=b:=by
 have:=congrArg (fun s:ByteArray=>s.data.toList) h
 simpa [bs] using this
theorem h0I {a b:Txt} (h:Value.string (bs a)=Value.string (bs b)):a=b:=n0C (Value.string.inj h)

theorem MapIs.keep {w w':World} {g:Nat} {t:Tab} (h:MapIs w g t) {S:Nat→Prop} (hk:Keep S w w') (hS:¬ S g):MapIs w' g t:=by
 obtain ⟨es,clock,hb,r⟩:=h
 exact ⟨es,clock,hk.at hb hS,r⟩
theorem MapIs.lt {w:World} {g:Nat} {t:Tab} (h:MapIs w g t):g < w.heap.size:=by
 obtain ⟨es,clock,hb,r⟩:=h
 exact a0e hb
theorem MapIs.made (w:World):MapIs (w.alloc (.map #[] 0)) w.heap.size []:=
 ⟨#[],0,(MapKept.heap_alloc w _).1,by simp,by simp,by simp [getP],rfl⟩

theorem c0r (k:Txt):IsKey .string (.string (bs k)):=by simp [IsKey]

theorem g0W {es:Array MapEntry} {t:Tab} (h1:∀ x∈es.toList,∃ k v,x.key = .string (bs k)∧x.val = .string (bs v)∧getP t k=some v) (h3:∀ k v,getP t k=some v→∃ x∈es.toList,x.key = .string (bs k)) (k:Txt) :
  (getP t k=none∧Instr.findNow .string (.string (bs k)) es.toList 0=some none)∨∃ i e v,getP t k=some v∧Instr.findNow .string (.string (bs k)) es.toList 0=some (some (i,.string (bs v)))∧es[i]? = some e∧e.key = .string (bs k):=by
 rcases findNow_spec (c0r k) es.toList 0 (fun x hx=>by obtain ⟨k',v,e,_⟩:=h1 x hx;rw [e];exact c0r k') with ⟨h,hn⟩ | ⟨j,e,h,he,hk⟩
 ·left
  refine ⟨?_,h⟩
  cases hg:getP t k with
  | none=>rfl
  | some v=>obtain ⟨x,hx,e⟩:=h3 k v hg;exact absurd e (hn x hx)
 ·right
  obtain ⟨k',v,e1,e2,e3⟩:=h1 e (List.mem_of_getElem? he);have:k'=k:=h0I (e1.symm.trans hk);subst this;rw [Nat.zero_add,e2] at h
  exact ⟨j,e,v,e3,h,by simpa using he,hk⟩

section
variable {P:Program} {ops:Array Oper} {rest:List Oper} {o:Oper} {a:Act} {w:World} {Q:Exit→Act→World→Prop}

theorem i0n {t kt et:TypeId} (ht:P.underlying t=some (.map kt et)) (hk:P.underlying kt=some .string) (hz:∀ w,(zeroValue et).run P w = .ok (.string (bs [])) w) {g:Nat} {T:Tab} (h:MapIs w g T) (k:Txt) (c:Bool) :
  (Instr.lookup t (.map (some g)) (.string (bs k)) c).run P w = .ok (if c then .tuple #[.string (bs ((getP T k).getD [])),.bool (getP T k).isSome] else .string (bs ((getP T k).getD []))) w:=by
 obtain ⟨es,clock,hb,h1,h2,h3,h4⟩:=h
 unfold Instr.lookup
 simp only [Sem.run_bind,run_underlying ht,Result.andThen_ok,MapKept.run_getObj_map hb,Sem.run_pure,run_checkKey hk (c0r k) _ 9999]
 rcases g0W h1 h3 k with ⟨hg,hf⟩ | ⟨i,e,v,hg,hf,_⟩
 ·simp only [run_findKey hk hf,Result.andThen_ok,Sem.run_bind,Sem.run_pure,hz w,hg]
  cases c<;>rfl
 ·simp only [run_findKey hk hf,Result.andThen_ok,Sem.run_bind,Sem.run_pure,hg]
  cases c<;>rfl

theorem a0I (hgd:o.guard=none) (t:TypeId) (m x:Operand) (ho:o.op = .lookup t m x true) {kt et:TypeId} (ht:P.underlying t=some (.map kt et)) (hk:P.underlying kt=some .string) (hz:∀ w,(zeroValue et).run P w = .ok (.string (bs [])) w)
  {g:Nat} {T:Tab} (h:MapIs w g T) (k:Txt) (hm:a.eval m = .map (some g)) (hx:a.eval x = .string (bs k))
  (hK:wpList P ops Q rest (a.put o.dst (.tuple #[.string (bs ((getP T k).getD [])),.bool (getP T k).isSome])) w):wpList P ops Q (o :: rest) a w:=by
 refine wpList_plain hgd fun K hK'=>?_
 unfold Oper.wp
 simp only [execOp,ho,hm,hx,Sem.run_bind,i0n ht hk hz h k true,Result.andThen_ok,Sem.run_pure]
 exact hK' _ _ hK
theorem h0p (hgd:o.guard=none) (t:TypeId) (m x:Operand) (ho:o.op = .lookup t m x false) {kt et:TypeId} (ht:P.underlying t=some (.map kt et)) (hk:P.underlying kt=some .string) (hz:∀ w,(zeroValue et).run P w = .ok (.string (bs [])) w)
  {g:Nat} {T:Tab} (h:MapIs w g T) (k:Txt) (hm:a.eval m = .map (some g)) (hx:a.eval x = .string (bs k))
  (hK:wpList P ops Q rest (a.put o.dst (.string (bs ((getP T k).getD [])))) w):wpList P ops Q (o :: rest) a w:=by
 refine wpList_plain hgd fun K hK'=>?_
 unfold Oper.wp
 simp only [execOp,ho,hm,hx,Sem.run_bind,i0n ht hk hz h k false,Result.andThen_ok,Sem.run_pure]
 exact hK' _ _ hK

theorem b0y (w:World) (g:Nat) (o:Obj):Keep (· = g) w { w with heap:=w.heap.setIfInBounds g o }:=
 ⟨rfl,rfl,rfl,by simp,fun k _ hk=>by simp [Ne.symm hk]⟩
theorem g0M (k:Txt):Instr.sameBits 10000 (.string (bs k)) (.string (bs k))=true:=by
 unfold Instr.sameBits;exact (bytes_beq _ _).2 rfl

theorem n0c {t kt et:TypeId} (ht:P.underlying t=some (.map kt et)) (hk:P.underlying kt=some .string) {g:Nat} {T:Tab} (hu:Up T) (h:MapIs w g T) (k v:Txt) :
  ∃ w',(Instr.mapUpdate t (.map (some g)) (.string (bs k)) (.string (bs v))).run P w = .ok () w'∧MapIs w' g (insP T k v)∧Keep (· = g) w w'∧w'.heap.size=w.heap.size:=by
 obtain ⟨es,clock,hb,h1,h2,h3,h4⟩:=h
 unfold Instr.mapUpdate
 simp only [Sem.run_bind,run_underlying ht,Result.andThen_ok,MapKept.run_getObj_map hb,run_checkKey hk (c0r k) _ 9999]
 rcases g0W h1 h3 k with ⟨hg,hf⟩ | ⟨i,e,v0,hg,hf,he,hek⟩
 ·simp only [run_findKey hk hf,Result.andThen_ok,MapKept.run_setObj_map _ hb];refine ⟨_,rfl,⟨_,_,(MapKept.heap_set hb).1,?_,?_,?_,?_⟩,b0y w _ _,by simp⟩
  ·intro x hx;rw [Array.toList_push] at hx
   rcases List.mem_append.1 hx with hx | hx
   ·obtain ⟨k',v',e1,e2,e3⟩:=h1 x hx;refine ⟨k',v',e1,e2,?_⟩;rw [c0n,if_neg (by rintro rfl;rw [hg] at e3;cases e3)];exact e3
   ·obtain rfl:=List.mem_singleton.1 hx
    exact ⟨k,v,rfl,rfl,by rw [c0n,if_pos rfl]⟩
  ·rw [Array.toList_push,List.map_append,List.nodup_append];refine ⟨h2,by simp,?_⟩;intro x hx y hy;obtain ⟨e,he,rfl⟩:=List.mem_map.1 hx;obtain rfl:=List.mem_singleton.1 hy;intro e0;obtain ⟨k',v',e1,e2,e3⟩:=h1 e he;have:=h0I (e1.symm.trans e0);subst this;rw [hg] at e3;cases e3
  ·intro k' v' h';rw [c0n] at h'
   by_cases hkk:k=k'
   ·subst hkk;exact ⟨_,by rw [Array.toList_push];exact List.mem_append_right _ (List.mem_singleton.2 rfl),rfl⟩
   ·rw [if_neg hkk] at h';obtain ⟨x,hx,e⟩:=h3 k' v' h'
    exact ⟨x,by rw [Array.toList_push];exact List.mem_append_left _ hx,e⟩
  ·rw [Array.size_push,f0q k v hu,if_pos hg,h4]
 ·have hold:((es[i]?).map (·.key)).getD (.string (bs k)) = .string (bs k):=by rw [he];exact hek
  simp only [run_findKey hk hf,Result.andThen_ok,Sem.run_bind,hold,Instr.keyThatStays,g0M,if_true,Sem.run_pure,MapKept.run_setObj_map _ hb];have hi:i < es.size:=(Array.getElem?_eq_some_iff.1 he).1;have hkeys:(es.modify i fun e=>{ e with key:=.string (bs k),val:=.string (bs v) }).toList.map (·.key)=es.toList.map (·.key):=modify_keys i _ (fun x hx=>by rw [he] at hx;cases hx;exact hek.symm);have hmem:∀ x∈(es.modify i fun e=>{ e with key:=.string (bs k),val:=.string (bs v) }).toList,(x.key = .string (bs k)∧x.val = .string (bs v))∨(x∈es.toList∧x.key≠.string (bs k)):=by
   intro x hx;obtain ⟨j,hj,rfl⟩:=List.mem_iff_getElem.1 hx;rw [Array.length_toList,Array.size_modify] at hj;rw [Array.getElem_toList,Array.getElem_modify]
   by_cases hij:i=j
   ·rw [if_pos hij];exact .inl ⟨rfl,rfl⟩
   ·rw [if_neg hij];refine .inr ⟨Array.getElem_mem_toList hj,fun e0=>hij ?_⟩;have ha:(es.toList.map (·.key))[i]'(by simpa using hi) = .string (bs k):=by rw [List.getElem_map,Array.getElem_toList];rw [Array.getElem?_eq_getElem hi] at he;rw [Option.some.inj he];exact hek
    have hb2:(es.toList.map (·.key))[j]'(by simpa using hj) = .string (bs k):=by rw [List.getElem_map,Array.getElem_toList];exact e0
    exact (List.getElem_inj h2).1 (ha.trans hb2.symm)
  refine ⟨_,rfl,⟨_,_,(MapKept.heap_set hb).1,?_,?_,?_,?_⟩,b0y w _ _,by simp⟩
  ·intro x hx
   rcases hmem x hx with ⟨e1,e2⟩ | ⟨hx,hne⟩
   ·exact ⟨k,v,e1,e2,by rw [c0n,if_pos rfl]⟩
   ·obtain ⟨k',v',e1,e2,e3⟩:=h1 x hx
    exact ⟨k',v',e1,e2,by rw [c0n,if_neg (by rintro rfl;exact hne e1)];exact e3⟩
  ·rw [hkeys];exact h2
  ·intro k' v' h';have:∃ x∈es.toList,x.key = .string (bs k'):=by
    rw [c0n] at h'
    by_cases hkk:k=k'
    ·subst hkk;exact h3 _ _ hg
    ·rw [if_neg hkk] at h';exact h3 _ _ h'
   obtain ⟨x,hx,e1⟩:=this;have h5:(Value.string (bs k'))∈es.toList.map (·.key):=List.mem_map.2 ⟨x,hx,e1⟩;rw [← hkeys] at h5;obtain ⟨y,hy,e2⟩:=List.mem_map.1 h5
   exact ⟨y,hy,e2⟩
  ·rw [Array.size_modify,f0q k v hu,if_neg (by rw [hg];simp),h4]

theorem f0n (hgd:o.guard=none) (t:TypeId) (m x y:Operand) (ho:o.op = .mapUpdate t m x y) {kt et:TypeId} (ht:P.underlying t=some (.map kt et)) (hk:P.underlying kt=some .string)
  {g:Nat} {T:Tab} (hu:Up T) (h:MapIs w g T) (k v:Txt) (hm:a.eval m = .map (some g)) (hx:a.eval x = .string (bs k)) (hy:a.eval y = .string (bs v))
  (hK:∀ w',MapIs w' g (insP T k v)→Keep (· = g) w w'→w'.heap.size=w.heap.size→wpList P ops Q rest (a.put o.dst undef) w'):wpList P ops Q (o :: rest) a w:=by
 refine wpList_plain hgd fun K hK'=>?_
 obtain ⟨w',hr,h1,h2,h3⟩:=n0c (w:=w) ht hk hu h k v
 unfold Oper.wp
 simp only [execOp,ho,hm,hx,hy,Sem.run_bind,hr,Result.andThen_ok,Sem.run_pure]
 exact hK' _ _ (hK w' h1 h2 h3)

theorem j0g {t:Tab} {k v:Txt} (hu:Up t) (h:getP t k=some v):(delP t k).length+1=t.length:=by
 induction t with
 | nil=>cases h
 | cons p t ih=>
  have hp:=List.pairwise_cons.1 hu
  by_cases e:p.1=k
  ·have h1:delP t k=t:=c0c (a0Y.2 fun q hq e2=>by have:=hp.1 q hq;rw [e,e2,a0r] at this;cases this)
   unfold delP at h1 ⊢
   rw [List.filter_cons_of_neg (by simp [e]),h1];rfl
  ·rw [a0S,if_neg e] at h;have:delP (p :: t) k=p :: delP t k:=by unfold delP;rw [List.filter_cons_of_pos (by simp [e])]
   rw [this,List.length_cons,ih hp.2 h,List.length_cons]

theorem m0j {t kt et:TypeId} (ty:TypeId) (ht:P.underlying t=some (.map kt et)) (hk:P.underlying kt=some .string) {g:Nat} {T:Tab} (hu:Up T) (h:MapIs w g T) (k:Txt) (u:TypeId) :
  ∃ w',(Builtin.delete_ #[t,u] ty #[.map (some g),.string (bs k)]).run P w = .ok (.tuple #[]) w'∧MapIs w' g (delP T k)∧Keep (· = g) w w'∧w'.heap.size=w.heap.size:=by
 obtain ⟨es,clock,hb,h1,h2,h3,h4⟩:=h
 unfold Builtin.delete_
 simp only [List.getElem?_toArray,List.getElem?_cons_zero,List.getElem?_cons_succ,Sem.run_bind,run_underlying ht,Result.andThen_ok,MapKept.run_getObj_map hb,run_checkKey hk (c0r k) _ 9999]
 rcases g0W h1 h3 k with ⟨hg,hf⟩ | ⟨i,e,v0,hg,hf,he,hek⟩
 ·simp only [run_findKey hk hf,Result.andThen_ok,Sem.run_bind,MapKept.run_setObj_map _ hb,Sem.run_pure]
  exact ⟨_,rfl,⟨_,_,(MapKept.heap_set hb).1,by rw [c0c hg];exact h1,h2,by rw [c0c hg];exact h3,by rw [c0c hg];exact h4⟩,b0y w _ _,by simp⟩
 ·simp only [run_findKey hk hf,Result.andThen_ok,Sem.run_bind,MapKept.run_setObj_map _ hb,Sem.run_pure];have hi:i < es.size:=(Array.getElem?_eq_some_iff.1 he).1;have hki:(es.toList.map (·.key))[i]'(by simpa using hi) = .string (bs k):=by rw [List.getElem_map,Array.getElem_toList];rw [Array.getElem?_eq_getElem hi] at he;rw [Option.some.inj he];exact hek
  have hl:(es.eraseIdxIfInBounds i).toList=es.toList.eraseIdx i:=by
   unfold Array.eraseIdxIfInBounds
   rw [dif_pos hi,Array.toList_eraseIdx]
  have hne:∀ x∈es.toList.eraseIdx i,x∈es.toList∧x.key≠.string (bs k):=by
   intro x hx;refine ⟨List.mem_of_mem_eraseIdx hx,fun e0=>?_⟩;obtain ⟨j,hj,hji,hx2⟩:=List.mem_eraseIdx_iff_getElem.1 hx;have hb2:(es.toList.map (·.key))[j]'(by simpa using hj) = .string (bs k):=by rw [List.getElem_map,hx2];exact e0
   exact hji ((List.getElem_inj h2).1 (hb2.trans hki.symm))
  refine ⟨_,rfl,⟨_,_,(MapKept.heap_set hb).1,?_,?_,?_,?_⟩,b0y w _ _,by simp⟩
  ·intro x hx;rw [hl] at hx;obtain ⟨hx1,hx2⟩:=hne x hx;obtain ⟨k',v',e1,e2,e3⟩:=h1 x hx1
   exact ⟨k',v',e1,e2,by rw [f0J,if_neg (by rintro rfl;exact hx2 e1)];exact e3⟩
  ·rw [hl];exact ((List.eraseIdx_sublist _ _).map _).nodup h2
  ·intro k' v' h';rw [f0J] at h'
   by_cases hkk:k=k'
   ·rw [if_pos hkk] at h';cases h'
   ·rw [if_neg hkk] at h';obtain ⟨x,hx,e1⟩:=h3 k' v' h';refine ⟨x,?_,e1⟩;rw [hl];obtain ⟨j,hj,hxj⟩:=List.mem_iff_getElem.1 hx;refine List.mem_eraseIdx_iff_getElem.2 ⟨j,hj,?_,hxj⟩;rintro rfl;have h6:x.key = .string (bs k):=by rw [← hxj,← hki,List.getElem_map]
    exact hkk (h0I (h6.symm.trans e1))
  ·have h5:=j0g hu hg;have:(es.eraseIdxIfInBounds i).size=es.size - 1:=by
    rw [← Array.length_toList,hl,List.length_eraseIdx,if_pos (by simpa using hi)];simp
   omega
theorem e0u (hgd:o.guard=none) (t u:TypeId) (m x:Operand) (ho:o.op = .call { callee:=.builtin .delete,args:=#[m,x],argTypes:=#[t,u] }) {kt et:TypeId} (ht:P.underlying t=some (.map kt et)) (hk:P.underlying kt=some .string)
  {g:Nat} {T:Tab} (hu:Up T) (h:MapIs w g T) (k:Txt) (hm:a.eval m = .map (some g)) (hx:a.eval x = .string (bs k))
  (hK:∀ w',MapIs w' g (delP T k)→Keep (· = g) w w'→w'.heap.size=w.heap.size→wpList P ops Q rest (a.put o.dst (.tuple #[])) w'):wpList P ops Q (o :: rest) a w:=by
 refine wpList_plain hgd fun K hK'=>?_
 obtain ⟨w',hr,h1,h2,h3⟩:=m0j (w:=w) o.type ht hk hu h k u
 unfold Oper.wp
 simp [execOp,ho,resolve,invoke,builtin,hm,hx,hr,Result.andThen]
 exact hK' _ _ (hK w' h1 h2 h3)
end
end Go.Proofs.YtabminbgoclnkaaGreat
