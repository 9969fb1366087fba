/- A sorted table of texts, plainly: no condition. A row of sorted keys that is cut into blocks, plainly: no condition. -/
import Derived.Test.YtakkfabaeolbdaaGreatCnBase
namespace Go.Proofs.YtakkfabaeolbdaaGreat
section

abbrev Txt:=List UInt8
abbrev Tab:=List (Txt × Txt)

def less (a b:Txt):Bool:=Op.bytesLess a b

theorem e0X (a:Txt):less a []=false:=by cases a<;>rfl
theorem b0J (a b:UInt8) (x y:Txt):less (a :: x) (b :: y)=(decide (a < b) || (a == b && less x y)):=rfl
theorem a0r:∀ a:Txt,less a a=false
 | []=>rfl
 | a :: x=>by rw [b0J,a0r x];simp
theorem j0o (a:UInt8):¬ a < a:=by rw [UInt8.lt_iff_toNat_lt];omega
theorem a0G:∀ {a b c:Txt},less a b=true→less b c=true→less a c=true
 | [],_,[],_,h=>by rw [e0X] at h;cases h
 | [],_,_ :: _,_,_=>rfl
 | _ :: _,[],_,h,_=>by rw [e0X] at h;cases h
 | _ :: _,_ :: _,[],_,h=>by rw [e0X] at h;cases h
 | a :: x,b :: y,c :: z,h1,h2=>by
  rw [b0J] at h1 h2 ⊢;simp only [Bool.or_eq_true,decide_eq_true_eq,Bool.and_eq_true,beq_iff_eq] at h1 h2 ⊢;rw [UInt8.lt_iff_toNat_lt] at h1 h2 ⊢
  rcases h1 with h1 | ⟨rfl,h1⟩
  ·rcases h2 with h2 | ⟨rfl,h2⟩
   ·left;omega
   ·left;exact h1
  ·rcases h2 with h2 | ⟨rfl,h2⟩
   ·left;exact h2
   ·right;exact ⟨rfl,a0G h1 h2⟩
theorem c0h:∀ (a b:Txt),less a b=true∨a=b∨less b a=true
 | [],[]=>.inr (.inl rfl)
 | [],_ :: _=>.inl rfl
 | _ :: _,[]=>.inr (.inr rfl)
 | a :: x,b :: y=>by
  rw [b0J,b0J];simp only [Bool.or_eq_true,decide_eq_true_eq,Bool.and_eq_true,beq_iff_eq];rw [UInt8.lt_iff_toNat_lt,UInt8.lt_iff_toNat_lt]
  by_cases h:a=b
  ·subst h
   rcases c0h x y with h | h | h
   ·exact .inl (.inr ⟨rfl,h⟩)
   ·exact .inr (.inl (by rw [h]))
   ·exact .inr (.inr (.inr ⟨rfl,h⟩))
  ·have hn:a.toNat≠b.toNat:=fun e=>h (UInt8.toNat_inj.1 e)
   rcases Nat.lt_or_ge a.toNat b.toNat with h1 | h1
   ·exact .inl (.inl h1)
   ·exact .inr (.inr (.inl (by omega)))
theorem e0w {a b:Txt} (h:less a b=true):less b a=false:=by
 cases hb:less b a with
 | false=>rfl
 | true=>have:=a0G h hb;rw [a0r] at this;cases this
theorem b0I {a b:Txt} (h:less a b=true):a≠b:=by
 rintro rfl;rw [a0r] at h;cases h
theorem d0M {a b:Txt} (h:less a b=false):a=b∨less b a=true:=by
 rcases c0h a b with h1 | h1
 ·rw [h] at h1;cases h1
 ·exact h1
theorem m0x {a b c:Txt} (h:less b a=false) (h2:less b c=true):less a c=true:=by
 rcases d0M h with rfl | h
 ·exact h2
 ·exact a0G h h2
theorem c0H:∀ {p k:Txt},p <+: k→less k p=false
 | [],k,_=>e0X k
 | a :: p,[],h=>by simp at h
 | a :: p,b :: k,h=>by
  rw [List.cons_prefix_cons] at h;obtain ⟨rfl,h⟩:=h;rw [b0J,c0H h]
  simp
theorem d0t:∀ {p a c:Txt},p <+: c→less a p=false→less a c=true→p <+: a
 | [],_,_,_,_,_=>List.nil_prefix
 | q :: p,[],c,_,h2,_=>by cases h2
 | q :: p,_ :: _,[],h,_,_=>by simp at h
 | q :: p,x :: a,y :: c,h,h2,h3=>by
  rw [List.cons_prefix_cons] at h ⊢;obtain ⟨rfl,h⟩:=h;rw [b0J] at h2 h3;simp only [Bool.or_eq_false_iff,decide_eq_false_iff_not,Bool.and_eq_false_imp,beq_iff_eq,Bool.or_eq_true,decide_eq_true_eq,Bool.and_eq_true] at h2 h3
  rcases h3 with h3 | ⟨rfl,h3⟩
  ·exact absurd h3 h2.1
  ·exact ⟨rfl,d0t h (h2.2 rfl) h3⟩

def Up (t:Tab):Prop:=t.Pairwise fun x y=>less x.1 y.1=true
def getP:Tab→Txt→Option Txt
 | [],_=>none
 | p :: t,k=>if p.1=k then some p.2 else getP t k
def insP:Tab→Txt→Txt→Tab
 | [],k,v=>[(k,v)]
 | p :: t,k,v=>if p.1=k then (k,v) :: t else if less p.1 k=true then p :: insP t k v else (k,v) :: p :: t
def delP (t:Tab) (k:Txt):Tab:=t.filter fun p=>p.1≠k
def underP (t:Tab) (b:Txt):Tab:=t.filter fun p=>b.isPrefixOf p.1
def layP (t:Tab) (k v:Txt) (there:Bool):Tab:=if there then insP t k v else delP t k

theorem a0T (p:Txt × Txt) (t:Tab) (k:Txt):getP (p :: t) k=if p.1=k then some p.2 else getP t k:=rfl
theorem d0Z {t:Tab} {k v:Txt} (h:getP t k=some v):(k,v)∈t:=by
 induction t with
 | nil=>cases h
 | cons p t ih=>
  unfold getP at h
  split at h
  ·rename_i e;subst e;cases h;exact List.mem_cons_self
  ·exact List.mem_cons_of_mem _ (ih h)
theorem b0f {t:Tab} {k:Txt}:getP t k=none↔∀ p∈t,p.1≠k:=by
 induction t with
 | nil=>simp [getP]
 | cons p t ih=>
  unfold getP
  split
  ·rename_i e;simp [e]
  ·rename_i e;rw [ih];simp [e]
theorem f0x {t:Tab} (hu:Up t) {k v:Txt} (h:(k,v)∈t):getP t k=some v:=by
 induction t with
 | nil=>cases h
 | cons p t ih=>
  unfold getP
  have hp:=List.pairwise_cons.1 hu
  rcases List.mem_cons.1 h with h | h
  ·subst h;rw [if_pos rfl]
  ·rw [if_neg (b0I (hp.1 _ h)),ih hp.2 h]
theorem c0o (t:Tab) (k v q:Txt):getP (insP t k v) q=if k=q then some v else getP t q:=by
 induction t with
 | nil=>rfl
 | cons p t ih=>
  unfold insP
  split
  ·rename_i e
   unfold getP
   by_cases hq:k=q
   ·rw [if_pos hq,if_pos hq]
   ·rw [if_neg hq,if_neg hq,if_neg (by rw [e];exact hq)]
  ·split
   ·rename_i e _
    unfold getP
    rw [ih]
    by_cases hq:p.1=q
    ·rw [if_pos hq,if_neg (by rintro rfl;exact e hq),if_pos hq]
    ·rw [if_neg hq,if_neg hq]
   ·rfl
theorem i0r (t:Tab) (k q:Txt):getP (delP t k) q=if k=q then none else getP t q:=by
 induction t with
 | nil=>simp [delP,getP]
 | cons p t ih=>
  by_cases hp:p.1=k
  ·have:delP (p :: t) k=delP t k:=by unfold delP;rw [List.filter_cons_of_neg (by simp [hp])]
   rw [this,ih]
   by_cases hq:k=q
   ·rw [if_pos hq,if_pos hq]
   ·rw [if_neg hq,if_neg hq,a0T,if_neg (by rw [hp];exact hq)]
  ·have:delP (p :: t) k=p :: delP t k:=by unfold delP;rw [List.filter_cons_of_pos (by simp [hp])]
   rw [this,a0T,a0T,ih]
   by_cases hq:p.1=q
   ·rw [if_pos hq,if_neg (by rintro rfl;exact hp hq),if_pos hq]
   ·rw [if_neg hq,if_neg hq]
theorem n0z {t:Tab} {k v:Txt} {p:Txt × Txt} (h:p∈insP t k v):p=(k,v)∨p∈t:=by
 induction t with
 | nil=>exact .inl (List.mem_singleton.1 h)
 | cons q t ih=>
  unfold insP at h
  split at h
  ·rcases List.mem_cons.1 h with h | h
   ·exact .inl h
   ·exact .inr (List.mem_cons_of_mem _ h)
  ·split at h
   ·rcases List.mem_cons.1 h with h | h
    ·exact .inr (h▸List.mem_cons_self)
    ·rcases ih h with h | h
     ·exact .inl h
     ·exact .inr (List.mem_cons_of_mem _ h)
   ·rcases List.mem_cons.1 h with h | h
    ·exact .inl h
    ·exact .inr h
theorem t0a {t:Tab} (hu:Up t) (k v:Txt):Up (insP t k v):=by
 induction t with
 | nil=>exact List.pairwise_singleton _ _
 | cons p t ih=>
  have hp:=List.pairwise_cons.1 hu
  unfold insP
  split
  ·rename_i e
   exact List.pairwise_cons.2 ⟨fun q hq=>by have:=hp.1 q hq;rw [e] at this;exact this,hp.2⟩
  ·rename_i e
   split
   ·rename_i hl
    refine List.pairwise_cons.2 ⟨fun q hq=>?_,ih hp.2⟩
    rcases n0z hq with rfl | hq
    ·exact hl
    ·exact hp.1 q hq
   ·rename_i hl
    have hk:less k p.1=true:=by
     rcases c0h p.1 k with h | h | h
     ·exact absurd h hl
     ·exact absurd h e
     ·exact h
    refine List.pairwise_cons.2 ⟨fun q hq=>?_,hu⟩
    rcases List.mem_cons.1 hq with rfl | hq
    ·exact hk
    ·exact a0G hk (hp.1 q hq)
theorem t0o {t:Tab} (hu:Up t) (k:Txt):Up (delP t k):=List.Pairwise.sublist List.filter_sublist hu
theorem b0L {t:Tab} (hu:Up t) (k v:Txt) (b:Bool):Up (layP t k v b):=by
 unfold layP;split
 ·exact t0a hu _ _
 ·exact t0o hu _
theorem f0d (t:Tab) (k v:Txt) (b:Bool) (q:Txt):getP (layP t k v b) q=if k=q then (if b then some v else none) else getP t q:=by
 unfold layP
 cases b
 ·exact i0r _ _ _
 ·exact c0o _ _ _ _
theorem n0q:∀ {t u:Tab},Up t→Up u→(∀ k,getP t k=getP u k)→t=u
 | [],[],_,_,_=>rfl
 | [],q :: u,_,_,h=>by have:=h q.1;unfold getP at this;rw [if_pos rfl] at this;cases this
 | p :: t,[],_,_,h=>by have:=h p.1;unfold getP at this;rw [if_pos rfl] at this;cases this
 | p :: t,q :: u,ht,hu,h=>by
  have hp:=List.pairwise_cons.1 ht;have hq:=List.pairwise_cons.1 hu;have hk:p.1=q.1:=by
   rcases c0h p.1 q.1 with h1 | h1 | h1
   ·have h2:=h p.1;rw [show getP (p :: t) p.1=some p.2 from if_pos rfl] at h2;have:=d0Z h2.symm
    rcases List.mem_cons.1 this with h3 | h3
    ·rw [← h3]
    ·have:=a0G h1 (hq.1 _ h3);rw [a0r] at this;cases this
   ·exact h1
   ·have h2:=h q.1;rw [show getP (q :: u) q.1=some q.2 from if_pos rfl] at h2;have:=d0Z h2
    rcases List.mem_cons.1 this with h3 | h3
    ·rw [← h3]
    ·have:=a0G h1 (hp.1 _ h3);rw [a0r] at this;cases this
  have hv:p.2=q.2:=by
   have h2:=h p.1;rw [show getP (p :: t) p.1=some p.2 from if_pos rfl,hk,show getP (q :: u) q.1=some q.2 from if_pos rfl] at h2
   exact Option.some.inj h2
  have hpq:p=q:=Prod.ext hk hv;rw [hpq,n0q hp.2 hq.2 fun k=>by
   by_cases e:p.1=k
   ·have h1:getP t k=none:=b0f.2 fun r hr e2=>by have:=hp.1 r hr;rw [e,e2,a0r] at this;cases this
    have h2:getP u k=none:=b0f.2 fun r hr e2=>by have:=hq.1 r hr;rw [← hk,e,e2,a0r] at this;cases this
    rw [h1,h2]
   ·have h2:=h k;rw [show getP (p :: t) k=getP t k from if_neg e,show getP (q :: u) k=getP u k from if_neg (by rw [← hk];exact e)] at h2
    exact h2]
theorem h0e {t:Tab} (k v:Txt) (hu:Up t):(insP t k v).length=if getP t k=none then t.length+1 else t.length:=by
 induction t with
 | nil=>rfl
 | cons p t ih=>
  have hp:=List.pairwise_cons.1 hu
  unfold insP getP
  by_cases e:p.1=k
  ·rw [if_pos e,if_pos e,if_neg (by simp)];rfl
  ·rw [if_neg e,if_neg e]
   split
   ·rw [List.length_cons,ih hp.2,List.length_cons];split<;>rfl
   ·rename_i hl
    have hk:less k p.1=true:=by
     rcases c0h p.1 k with h | h | h
     ·exact absurd h hl
     ·exact absurd h e
     ·exact h
    rw [if_pos (b0f.2 fun q hq e2=>by have:=a0G hk (hp.1 q hq);rw [e2,a0r] at this;cases this)]
    rfl
theorem h0H (t:Tab) (k v:Txt):(insP t k v).length≤t.length+1:=by
 induction t with
 | nil=>exact Nat.le_refl _
 | cons p t ih=>
  unfold insP
  split
  ·rw [List.length_cons,List.length_cons];omega
  ·split
   ·rw [List.length_cons,List.length_cons];omega
   ·simp
theorem i0f (t:Tab) (k:Txt):(delP t k).length≤t.length:=List.length_filter_le _ _
theorem e0a (t:Tab) (k v:Txt) (b:Bool):(layP t k v b).length≤t.length+1:=by
 unfold layP;split
 ·exact h0H _ _ _
 ·exact Nat.le_succ_of_le (i0f _ _)

def keysP (t:Tab):List Txt:=t.map (·.1)
theorem l0v:∀ {t:Tab} {xs ys:List Txt} (k v:Txt),keysP t=xs ++ ys→(∀ x∈xs,less x k=true)→(∀ y∈ys,less k y=true)→keysP (insP t k v)=xs ++ k :: ys
 | [],xs,ys,k,v,h,_,_=>by
  have:=List.append_eq_nil_iff.1 h.symm;rw [this.1,this.2];rfl
 | p :: t,[],ys,k,v,h,_,hy=>by
  unfold insP
  have h0:ys=p.1 :: keysP t:=h.symm;have h1:=hy p.1 (by rw [h0];exact List.mem_cons_self);rw [if_neg (fun e=>by rw [e,a0r] at h1;cases h1),if_neg (by rw [e0w h1];simp),h0];rfl
 | p :: t,x :: xs,ys,k,v,h,hx,hy=>by
  unfold insP
  have h0:p.1=x∧keysP t=xs ++ ys:=List.cons.inj h;have h1:=hx x List.mem_cons_self;rw [if_neg (by rw [h0.1];exact b0I h1),if_pos (by rw [h0.1];exact h1)]
  show p.1 :: keysP (insP t k v)=_
  rw [l0v k v h0.2 (fun y h=>hx y (List.mem_cons_of_mem _ h)) hy,h0.1];rfl
theorem g0H {t:Tab} {k:Txt} (v:Txt) (hu:Up t) (h:getP t k≠none):keysP (insP t k v)=keysP t:=by
 induction t with
 | nil=>exact absurd rfl h
 | cons p t ih=>
  have hp:=List.pairwise_cons.1 hu
  unfold insP
  by_cases e:p.1=k
  ·rw [if_pos e];show k :: keysP t=p.1 :: keysP t;rw [e]
  ·rw [if_neg e]
   unfold getP at h
   rw [if_neg e] at h;have hl:less p.1 k=true:=by
    cases hg:getP t k with
    | none=>exact absurd hg h
    | some b=>exact hp.1 _ (d0Z hg)
   rw [if_pos hl]
   show p.1 :: keysP (insP t k v)=p.1 :: keysP t
   rw [ih hp.2 h]
theorem k0W:∀ {t:Tab} {xs ys:List Txt} {k:Txt},Up t→keysP t=xs ++ k :: ys→keysP (delP t k)=xs ++ ys
 | [],xs,ys,k,_,h=>by cases xs<;>cases h
 | p :: t,[],ys,k,hu,h=>by
  have h0:p.1=k∧keysP t=ys:=List.cons.inj h;have hp:=List.pairwise_cons.1 hu;have h1:delP t k=t:=List.filter_eq_self.2 fun q hq=>by
   have:=b0I (hp.1 q hq);rw [h0.1] at this
   simpa using Ne.symm this
  unfold delP at h1 ⊢
  rw [List.filter_cons_of_neg (by simp [h0.1]),h1];exact h0.2
 | p :: t,x :: xs,ys,k,hu,h=>by
  have h0:p.1=x∧keysP t=xs ++ k :: ys:=List.cons.inj h;have hp:=List.pairwise_cons.1 hu;have hk:k∈keysP t:=by rw [h0.2];simp
  obtain ⟨q,hq,e⟩:=List.mem_map.1 hk;have h1:p.1≠k:=by rw [← e];exact b0I (hp.1 q hq)
  have:delP (p :: t) k=p :: delP t k:=by unfold delP;rw [List.filter_cons_of_pos (by simp [h1])]
  rw [this]
  show p.1 :: keysP (delP t k)=_
  rw [k0W hp.2 h0.2,h0.1];rfl
theorem c0q {t:Tab} {k:Txt} (h:getP t k=none):delP t k=t:=List.filter_eq_self.2 fun q hq=>by simpa using b0f.1 h q hq
theorem h0D {t:Tab} {k:Txt}:k∈keysP t↔getP t k≠none:=by
 constructor
 ·intro h;obtain ⟨q,hq,e⟩:=List.mem_map.1 h
  exact fun h=>b0f.1 h q hq e
 ·intro h
  cases hg:getP t k with
  | none=>exact absurd hg h
  | some b=>exact List.mem_map.2 ⟨_,d0Z hg,rfl⟩

abbrev WasP:=Txt × Txt × Bool
structure PS where
 t:Tab
 past:List WasP
def PS.new:PS:=⟨[],[]⟩
def PS.put (s:PS) (k v:Txt) (b:Bool):PS:=⟨layP s.t k v b,s.past ++ [(k,(getP s.t k).getD [],(getP s.t k).isSome)]⟩
def PS.set (s:PS) (k v:Txt):PS:=if k = []∨getP s.t k=some v then s else s.put k v true
def setE (k:Txt):Int:=if k = [] then 2 else 0
def PS.del (s:PS) (k:Txt):PS:=if getP s.t k=none then s else s.put k [] false
def PS.back (s:PS):PS:=match s.past.getLast? with
 | none=>s
 | some r=>⟨layP s.t r.1 r.2.1 r.2.2,s.past.dropLast⟩
def PS.backs:Nat→PS→PS
 | 0,s=>s
 | n+1,s=>PS.backs n s.back
def undoE (s:PS) (m:Int):Bool:=decide (0≤m∧m≤s.past.length)
def PS.undo (s:PS) (m:Int):PS:=if undoE s m then PS.backs (s.past.length - m.toNat) s else s
end
section

def UpK (ks:List Txt):Prop:=ks.Pairwise fun x y=>less x y=true
theorem e0f {t:Tab}:UpK (keysP t)↔Up t:=List.pairwise_map
theorem UpK.ne {ks:List Txt} (h:UpK ks) {i j:Nat} (hj:j < ks.length) (hij:i < j):less (ks[i]'(by omega)) ks[j]=true:=
 List.pairwise_iff_getElem.1 h i j (by omega) hj hij

structure At (ks:List Txt) (k:Txt) (i:Nat):Prop where
 le:i≤ks.length
 lo:∀ j (h:j < ks.length),j < i→less ks[j] k=true
 hi:∀ j (h:j < ks.length),i≤j→less ks[j] k=false

theorem At.take {ks:List Txt} {k:Txt} {i:Nat} (h:At ks k i):∀ x∈ks.take i,less x k=true:=by
 intro x hx;obtain ⟨j,hj,e⟩:=List.mem_iff_getElem.1 hx;rw [List.length_take] at hj;rw [List.getElem_take] at e;rw [← e];exact h.lo j (by omega) (by omega)
theorem At.drop {ks:List Txt} {k:Txt} {i:Nat} (h:At ks k i) (hk:k ∉ ks):∀ y∈ks.drop i,less k y=true:=by
 intro y hy;obtain ⟨j,hj,e⟩:=List.mem_iff_getElem.1 hy;rw [List.length_drop] at hj;rw [List.getElem_drop] at e;have h1:=h.hi (i+j) (by omega) (by omega);rw [e] at h1
 rcases d0M h1 with h2 | h2
 ·exact absurd (h2▸List.mem_of_mem_drop hy) hk
 ·exact h2
theorem At.there {ks:List Txt} {k:Txt} {i:Nat} (h:At ks k i) (hu:UpK ks) (hk:k∈ks):∃ hi:i < ks.length,ks[i]=k:=by
 obtain ⟨j,hj,e⟩:=List.mem_iff_getElem.1 hk;have h1:¬ j < i:=fun hji=>by have:=h.lo j hj hji;rw [e,a0r] at this;cases this
 have hi:i < ks.length:=by omega
 refine ⟨hi,?_⟩
 rcases Nat.lt_or_ge i j with h2 | h2
 ·have h3:=hu.ne hj h2;rw [e,h.hi i hi (Nat.le_refl _)] at h3;cases h3
 ·obtain rfl:i=j:=by omega
  exact e

structure Find (bl:List (List Txt)) (k:Txt) (i:Nat):Prop where
 lt:i < bl.length
 lo:∀ j (h:j < bl.length),j < i→∀ x∈bl[j].getLast?,less x k=true
 hi:i+1=bl.length∨∀ x∈(bl[i]'lt).getLast?,less x k=false

theorem h0t {bl:List (List Txt)} {i:Nat} (h:i < bl.length):bl.flatten=(bl.take i).flatten ++ (bl[i] ++ (bl.drop (i+1)).flatten):=by
 have h1:bl=bl.take i ++ bl[i] :: bl.drop (i+1):=by rw [List.getElem_cons_drop h,List.take_append_drop]
 conv=>lhs;rw [h1]
 rw [List.flatten_append,List.flatten_cons]
theorem s0b {b:List Txt} (hu:UpK b) {x l:Txt} (hx:x∈b) (hl:l∈b.getLast?):x=l∨less x l=true:=by
 rw [Option.mem_def,List.getLast?_eq_some_iff] at hl;obtain ⟨c,rfl⟩:=hl
 rcases List.mem_append.1 hx with h | h
 ·exact .inr ((List.pairwise_append.1 hu).2.2 x h l (List.mem_singleton.2 rfl))
 ·exact .inl (List.mem_singleton.1 h)
theorem g0a {bl:List (List Txt)} (hu:UpK bl.flatten) {b:List Txt} (hb:b∈bl):UpK b:=(List.pairwise_flatten.1 hu).1 b hb
theorem Find.before {bl:List (List Txt)} {k:Txt} {i:Nat} (h:Find bl k i) (hu:UpK bl.flatten) (hn:∀ b∈bl,b≠[]):∀ x∈(bl.take i).flatten,less x k=true:=by
 intro x hx;obtain ⟨b,hb,hxb⟩:=List.mem_flatten.1 hx;obtain ⟨j,hj,e⟩:=List.mem_iff_getElem.1 hb;rw [List.length_take] at hj;rw [List.getElem_take] at e;have hb2:b∈bl:=List.mem_of_mem_take hb;obtain ⟨l,hl⟩:∃ l,l∈b.getLast?:=by
  cases hg:b.getLast? with
  | none=>exact absurd (List.getLast?_eq_none_iff.1 hg) (hn b hb2)
  | some l=>exact ⟨l,rfl⟩
 have h1:=h.lo j (by omega) (by omega) l (by rw [e];exact hl)
 rcases s0b (g0a hu hb2) hxb hl with rfl | h2
 ·exact h1
 ·exact a0G h2 h1
theorem Find.behind {bl:List (List Txt)} {k:Txt} {i:Nat} (h:Find bl k i) (hu:UpK bl.flatten) (hn:∀ b∈bl,b≠[]):∀ y∈(bl.drop (i+1)).flatten,less k y=true:=by
 intro y hy
 rcases h.hi with h1 | h1
 ·rw [List.drop_of_length_le (by omega)] at hy;simp at hy
 ·have hb2:bl[i]'h.lt∈bl:=List.getElem_mem _;obtain ⟨l,hl⟩:∃ l,l∈(bl[i]'h.lt).getLast?:=by
   cases hg:(bl[i]'h.lt).getLast? with
   | none=>exact absurd (List.getLast?_eq_none_iff.1 hg) (hn _ hb2)
   | some l=>exact ⟨l,rfl⟩
  have h2:=h1 l hl;rw [h0t h.lt] at hu;have h3:=(List.pairwise_append.1 hu).2.1;have h4:=(List.pairwise_append.1 h3).2.2 l (List.mem_of_getLast? hl) y hy
  exact m0x h2 h4 |> fun h5=>h5

def scanP (b:Txt):Tab→Tab
 | []=>[]
 | p :: t=>if b.isPrefixOf p.1 then p :: scanP b t else if less b p.1 then [] else scanP b t
theorem e0o (b:Txt):∀ {t:Tab},Up t→scanP b t=underP t b
 | [],_=>rfl
 | p :: t,hu=>by
  have hp:=List.pairwise_cons.1 hu
  unfold scanP underP
  by_cases h:b.isPrefixOf p.1=true
  ·rw [if_pos h,List.filter_cons_of_pos (by exact h),e0o b hp.2];rfl
  ·rw [if_neg h,List.filter_cons_of_neg (by exact h)]
   split
   ·rename_i hl
    symm
    refine List.filter_eq_nil_iff.2 fun q hq hbq=>h ?_
    rw [List.isPrefixOf_iff_prefix] at hbq ⊢
    exact d0t hbq (e0w hl) (hp.1 q hq)
   ·exact e0o b hp.2
theorem m0F {t:Tab} {b:Txt} (h:∀ p∈t,less p.1 b=true):underP t b = []:=by
 refine List.filter_eq_nil_iff.2 fun q hq hbq=>?_
 rw [List.isPrefixOf_iff_prefix] at hbq;have:=c0H hbq;rw [h q hq] at this;cases this
theorem j0C (s t:Tab) (b:Txt):underP (s ++ t) b=underP s b ++ underP t b:=List.filter_append _ _
end
end Go.Proofs.YtakkfabaeolbdaaGreat
