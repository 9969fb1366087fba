/- A region that draws its order, with a condition on the world that holds till its last operation; and regions in a round of a range over a function. No condition. -/
import Derived.Test.YtakkfabaeolbdaaGreatCn2
import Derived.OrdersHeld
import Derived.Deep.RegionHeld3
import Derived.RangeFuncNested
import Derived.RangeFuncBound
import Derived.RangeFuncCalls
import Derived.RangeFuncLeaves
import Derived.OrdersIn
namespace Go.Proofs.YtakkfabaeolbdaaGreat
open Go.RowKit

section
variable {P:Program} {ops:Array Oper} {Q:Exit→Act→World→Prop} {md:Region.Mode} {S:World→Prop} {z:Nat}

def AnyTill (P:Program) (md:Region.Mode) (ops:Array Oper) (Q:Exit→Act→World→Prop) (S:World→Prop) (z:Nat):Nat→Array Bool→Act→World→Prop
 | 0,listed,a,w=>Region.ready md ops listed = []∧Q .normal a w
 | fuel+1,listed,a,w=>
  (Region.ready md ops listed = []→Q .normal a w) ∧
  ∀ i∈Region.ready md ops listed,wpOp P ops Q i (fun a' w'=>(i≠z→listed.getD z false=false→S w')∧AnyTill P md ops Q S z fuel (listed.setIfInBounds i true) a' w') a w

theorem AnyTill.any:∀ (fuel:Nat) (listed:Array Bool) (a:Act) (w:World),AnyTill P md ops Q S z fuel listed a w→wpAny P md ops Q fuel listed a w
 | 0,_,_,_,h=>h
 | fuel+1,_,_,_,h=>⟨h.1,fun i hi=>wpOp_mono (fun a' w' h'=>AnyTill.any fuel _ a' w' h'.2) (h.2 i hi)⟩

def waitsT (md:Region.Mode) (ops:Array Oper):Nat→Nat→Nat→Bool
 | 0,_,_=>false
 | f+1,z,i=>match ops[z]? with
  | none=>false
  | some o=>(o.after.any fun e=>Region.binds md e && e.on == i) || o.after.any fun e=>Region.binds md e && waitsT md ops f e.on i
def waitsFor (md:Region.Mode) (ops:Array Oper) (z i:Nat):Bool:=(ops[z]?).isNone || waitsT md ops 8 z i
def Closed (md:Region.Mode) (ops:Array Oper) (listed:Array Bool):Prop:=
 ∀ (j:Nat) (o:Oper),ops[j]? = some o→listed.getD j false=true→∀ e∈o.after,Region.binds md e=true→listed.getD e.on false=true
def closedB (md:Region.Mode) (ops:Array Oper) (listed:Array Bool):Bool:=
 (List.range ops.size).all fun j=>!listed.getD j false || match ops[j]? with
  | none=>true
  | some o=>o.after.all fun e=>!Region.binds md e || listed.getD e.on false
theorem e0J {listed:Array Bool} (h:closedB md ops listed=true):Closed md ops listed:=by
 intro j o ho hl e he hb;simp only [closedB,List.all_eq_true,List.mem_range] at h;have h1:=h j (Array.getElem?_eq_some_iff.1 ho).1;simp only [hl,Bool.not_true,Bool.false_or,ho,Array.all_eq_true_iff_forall_mem] at h1;have h2:=h1 e he
 simpa [hb] using h2
theorem Closed.set {listed:Array Bool} {j:Nat} (h:Closed md ops listed) (hj:j∈Region.ready md ops listed):Closed md ops (listed.setIfInBounds j true):=by
 intro k o ho hl e he hb
 by_cases hkj:j=k
 ·subst hkj;obtain ⟨_,o',ho',hall⟩:=mem_ready.1 hj;rw [ho] at ho';cases ho'
  exact getD_set_true (hall e he hb)
 ·rw [getD_set_ne false hkj] at hl
  exact getD_set_true (h k o ho hl e he hb)
theorem d0J {listed:Array Bool} (hc:Closed md ops listed) (i:Nat):∀ (f z:Nat),waitsT md ops f z i=true→(∀ o,ops[z]? = some o→∀ e∈o.after,Region.binds md e=true→listed.getD e.on false=true)→listed.getD i false=true
 | 0,_,h,_=>by simp [waitsT] at h
 | f+1,z,h,hall=>by
  cases ho:ops[z]? with
  | none=>simp [waitsT,ho] at h
  | some o=>
   simp only [waitsT,ho,Bool.or_eq_true] at h
   rcases h with h | h
   ·obtain ⟨e,he,hb⟩:=Array.any_eq_true'.1 h;simp only [Bool.and_eq_true,beq_iff_eq] at hb;have:=hall o ho e he hb.1
    rwa [hb.2] at this
   ·obtain ⟨e,he,hb⟩:=Array.any_eq_true'.1 h;simp only [Bool.and_eq_true] at hb;have hl:=hall o ho e he hb.1
    exact d0J hc i f e.on hb.2 fun o2 ho2=>hc e.on o2 ho2 hl
theorem b0Z {i:Nat} {listed:Array Bool} (hc:Closed md ops listed) (h:waitsFor md ops z i=true) (hz:z∈Region.ready md ops listed):listed.getD i false=true:=by
 obtain ⟨_,o,ho,hall⟩:=mem_ready.1 hz;simp only [waitsFor,ho,Option.isNone_some,Bool.false_or] at h
 exact d0J hc i 8 z h fun o' ho'=>by rw [ho] at ho';cases ho';exact hall

theorem d0F {listed:Array Bool} (hc:Closed md ops listed) {i:Nat} (h:waitsFor md ops i i=true) (hi:i∈Region.ready md ops listed):False:=by
 have h1:=b0Z hc h hi;have h2:=(mem_ready.1 hi).1
 rcases Nat.lt_or_ge i listed.size with h3 | h3
 ·simp [h3] at h1 h2;rw [h1] at h2;cases h2
 ·simp [Array.getElem?_eq_none h3] at h1
theorem AnyTill.first {i:Nat} {oi:Oper} {v:Value} (hi:ops[i]? = some oi) (hsel:∀ (j:Nat) (o:Oper) cs b,ops[j]? = some o→o.op≠.select cs b) (hw:waitsFor md ops z i=true)
  (hQ:∀ c a w,Q (.panic c) (a.put oi.dst v) w→Q (.panic c) a w) :
  ∀ (fuel:Nat) (listed:Array Bool) (a:Act) (w:World),Closed md ops listed→listed.getD z false=false →
   (∀ j oj,ops[j]? = some oj→j≠i→listed.getD j true=false→(∀ e∈oj.after,Region.binds md e=true→e.on≠i)→oi.apart ops oj=true) →
   i∈Region.ready md ops listed→YieldsIf P ops S oi v a→S w →
   AnyTill P md ops Q S z fuel (listed.setIfInBounds i true) (a.put oi.dst v) w→AnyTill P md ops Q S z (fuel+1) listed a w:=by
 intro fuel
 induction fuel with
 | zero=>
  intro listed a w _ _ _ hr hy hS H;refine ⟨fun h=>(by rw [h] at hr;cases hr),fun j hj=>?_⟩
  by_cases hji:j=i
  ·subst hji;exact hy.wpOp hi hS ⟨fun _ _=>hS,H⟩
  ·have:=ready_mono hj hji;rw [H.1] at this
   cases this
 | succ fuel ih=>
  intro listed a w hcl hzu hfree hr hy hS H;refine ⟨fun h=>(by rw [h] at hr;cases hr),fun j hj=>?_⟩
  by_cases hji:j=i
  ·subst hji;exact hy.wpOp hi hS ⟨fun _ _=>hS,H⟩
  ·have hun:listed.getD i true=false:=(mem_ready.1 hr).1;have hun2:listed.getD i false≠true:=by
    intro h2
    rcases Nat.lt_or_ge i listed.size with h3 | h3
    ·simp [h3] at hun h2;rw [hun] at h2;cases h2
    ·simp [Array.getElem?_eq_none h3] at h2
   have hjz:j≠z:=fun e=>hun2 (b0Z hcl hw (e▸hj))
   obtain ⟨hjun,oj,hoj,hall⟩:=mem_ready.1 hj;have hnot:∀ e∈oj.after,Region.binds md e=true→e.on≠i:=fun e he hb heq=>hun2 (heq▸hall e he hb)
   have h2:=wpOp_putIf hoj (hfree j oj hoj hji hjun hnot) (fun cs b=>hsel i oi cs b hi) (fun cs b=>hsel j oj cs b hoj) hQ hy (H.2 j (ready_mono hj hji));have hfree':∀ k ok,ops[k]? = some ok→k≠i→(listed.setIfInBounds j true).getD k true=false →
     (∀ e∈ok.after,Region.binds md e=true→e.on≠i)→oi.apart ops ok=true:=fun k ok hk hki hku hno=>by
    refine hfree k ok hk hki ?_ hno
    by_cases hjk:j=k
    ·subst hjk;exact hjun
    ·rw [getD_set_ne true hjk] at hku;exact hku
   have hzi:(listed.setIfInBounds i true).getD z false=false:=by
    rw [getD_set_ne false]
    ·exact hzu
    ·intro e;subst e;exact d0F hcl hw hr
   refine wpOp_mono (fun a' w' h3=>⟨fun _ _=>h3.2.1 hjz hzi,ih (listed.setIfInBounds j true) a' w' (hcl.set hj) (by rw [getD_set_ne false hjz];exact hzu) hfree' (ready_mono hr (Ne.symm hji)) h3.1 (h3.2.1 hjz hzi) ?_⟩) h2;rw [Array.setIfInBounds_comm _ _ hji]
   exact h3.2.2

theorem a0g (i:Nat) (d:Option Tmp) {oi:Oper} {v:Value} {fuel:Nat} {listed:Array Bool} {a:Act} {w:World} (hi:ops[i]? = some oi) (hd:oi.dst=d)
  (hs:Region.noSelect ops=true) (hf:Region.free md ops listed i=true) (hr:(Region.ready md ops listed).contains i=true) (hw:waitsFor md ops z i=true) (hcl:closedB md ops listed=true) (hzu:listed.getD z false=false)
  (hQ:∀ c a w,Q (.panic c) (a.put d v) w→Q (.panic c) a w) (hy:YieldsIf P ops S oi v a) (hS:S w)
  (h:AnyTill P md ops Q S z fuel (listed.setIfInBounds i true) (a.put d v) w):AnyTill P md ops Q S z (fuel+1) listed a w:=by
 subst hd
 exact AnyTill.first hi (Region.noSelect_spec hs) hw hQ fuel listed a w (e0J hcl) hzu (Region.free_spec hi hf) (by simpa using hr) hy hS h
theorem r0b (i:Nat) {oi:Oper} {fuel:Nat} {listed:Array Bool} {a:Act} {w:World} (hi:ops[i]? = some oi) (hr:Region.ready md ops listed = [i])
  (h:∀ K:Act→World→Prop,(∀ a w,(i≠z→listed.getD z false=false→S w)→AnyTill P md ops Q S z fuel (listed.setIfInBounds i true) a w→K a w)→if Region.wanted oi (yielded ops a.tmps)=true then Oper.wp P oi a w K Q else K (a.put oi.dst undef) w) :
  AnyTill P md ops Q S z (fuel+1) listed a w:=
 ⟨fun h0=>(by rw [hr] at h0;cases h0),by
  rw [hr];intro j hj;obtain rfl:j=i:=by simpa using hj
  exact wpOp_step hi (fun K hK=>h K (fun a w hS hA=>hK a w ⟨hS,hA⟩))⟩
theorem p0A {listed:Array Bool} {a:Act} {w:World} (hr:Region.ready md ops listed = []) (h:Q .normal a w):∀ fuel,AnyTill P md ops Q S z fuel listed a w
 | 0=>⟨hr,h⟩
 | _+1=>⟨fun _=>h,by rw [hr];simp⟩
theorem a0f (S:World→Prop) (z N:Nat) {id:Nat} {a:Act} {w:World} (hm:P.follows .mixedOrders=true) (hN:ops.size=N) (h:AnyTill P .any ops Q S z N (Array.replicate N false) a w.drew):(Code.region id ops true).wp P Q a w:=by
 subst hN
 exact wp_region_any hm (AnyTill.any _ _ _ _ h)

theorem h0P {n i:Nat} {o:Oper} {a:Act} {w:World} {K:Act→World→Prop} (ho:ops[i]? = some o)
  (h:if Region.wanted o (yielded ops a.tmps)=true then Oper.wpIn Fence.wide n P o a w K Q else K (a.put o.dst undef) w):wpOpIn Fence.wide n P ops Q i K a w:=by
 unfold wpOpIn
 simp only [ho]
 by_cases hw:Region.wanted o (yielded ops a.tmps)=true
 ·rw [if_pos hw] at h ⊢;exact h
 ·rw [if_neg hw] at h ⊢;exact ⟨fun _ _=>trivial,h⟩
theorem o0s {n l fn:Nat} {o:Oper} {tmps:Array Value} {assign body:Code} {a:Act} {w w1:World} {K:Act→World→Prop} {R:Ending→World→Prop} (hx:(execOp a.eval o).run P w = .ok (.round l fn tmps assign body) w1)
  (hR:RoundIn Fence.wide (n - 1) P l fn tmps assign body w1 R) (h:∀ e w',R e w'→match e with | .returned v=>K (a.put o.dst v) w' | .panicked chain=>Q (.panic chain) a w' | .outgrown=>LetsOut Q):o.wpIn Fence.wide n P a w K Q:=by
 refine ⟨fun _ _=>trivial,?_⟩;rw [show Fence.wide.round=none from rfl,Oper.semAt_none,hx,Oper.uponIn_round]
 exact ⟨fun hd=>by simp [Fence.wide] at hd,hR.mono fun e w' he=>(by have:=h e w' he;cases e<;>exact this)⟩
theorem h0j {n i:Nat} {o:Oper} {v:Value} {a:Act} (hi:ops[i]? = some o) (hy:YieldsIf P ops S o v a)
  {K:Act→World→Prop} {w:World} (hS:S w) (h:K (a.put o.dst v) w):wpOpIn Fence.wide n P ops Q i K a w:=by
 refine h0P hi ?_
 rcases hy with ⟨hw,hv⟩ | ⟨hw,rfl⟩
 ·rw [if_pos hw];refine ⟨fun _ _=>trivial,?_⟩;rw [show Fence.wide.round=none from rfl,Oper.semAt_none,hv w hS]
  exact h
 ·rw [if_neg (by simp [hw])];exact h
theorem n0V {n j:Nat} {oi oj:Oper} {v:Value} (hj:ops[j]? = some oj) (hap:oi.apart ops oj=true)
  (hsi:∀ cs b,oi.op≠.select cs b) (hsj:∀ cs b,oj.op≠.select cs b)
  (hQ:∀ c a w,Q (.panic c) (a.put oi.dst v) w→Q (.panic c) a w) {K:Act→World→Prop} {a:Act} {w:World}
  (hy:YieldsIf P ops S oi v a) (h:wpOpIn Fence.wide n P ops Q j K (a.put oi.dst v) w) :
  wpOpIn Fence.wide n P ops Q j (fun a' w'=>YieldsIf P ops S oi v a'∧K (a'.put oi.dst v) w') a w:=by
 obtain ⟨h1,h2,h3⟩:=Oper.apart_spec hap;have keep:∀ (a:Act),YieldsIf P ops S oi v a→∀ u,YieldsIf P ops S oi v (a.put oj.dst u):=fun a hy u=>
  hy.of_same (execOp_put oi hsi a oj.dst u h3) (wanted_put oi a oj.dst u h3)
 have keepD:∀ d,YieldsIf P ops S oi v { a with defers:=d :: a.defers }:=fun d=>hy.of_same rfl rfl
 unfold wpOpIn at h
 simp only [hj] at h;rw [wanted_put oj a oi.dst v h1] at h;refine h0P hj ?_
 by_cases hw:Region.wanted oj (yielded ops a.tmps)=true
 ·rw [if_pos hw] at h ⊢;refine ⟨fun _ _=>trivial,?_⟩;replace h:=h.2;rw [show Fence.wide.round=none from rfl,Oper.semAt_none] at h ⊢;rw [execOp_put oj hsj a oi.dst v h1] at h
  generalize (execOp a.eval oj).run P w=r at h ⊢
  cases r with
  | ok x w'=>
   cases x<;>simp only [Oper.uponIn] at h ⊢
   case value u=>exact ⟨keep a hy u,by rw [← Act.put_comm a v u h2];exact h⟩
   case skip=>exact ⟨keep a hy _,by rw [← Act.put_comm a v undef h2];exact h⟩
   case defer d=>
    refine ⟨keep _ (keepD d) _,?_⟩;rw [← Act.put_comm _ v undef h2,← Act.put_defers]
    exact h
   case enter f args=>
    refine ⟨h.1,CallsIn.mono h.2 fun e w'' he=>?_⟩
    cases e with
    | returned u=>exact ⟨keep a hy u,by rw [← Act.put_comm a v u h2];exact he⟩
    | panicked c=>exact hQ _ _ _ he
    | outgrown=>exact he
   case row row args=>exact ⟨h.1,RowsIn.mono h.2 fun u w'' he=>⟨keep a hy u,by rw [← Act.put_comm a v u h2];exact he⟩⟩
   case round l f tmps assign body=>
    refine ⟨h.1,RoundIn.mono h.2 fun e w'' he=>?_⟩
    cases e with
    | returned u=>exact ⟨keep a hy u,by rw [← Act.put_comm a v u h2];exact he⟩
    | panicked c=>exact hQ _ _ _ he
    | outgrown=>exact he
  | halt x w'=>
   cases x<;>simp only [Oper.uponIn] at h ⊢
   case panic u=>exact hQ _ _ _ h
 ·rw [if_neg hw] at h ⊢
  exact ⟨keep a hy _,by rw [← Act.put_comm a v undef h2];exact h.2⟩
def YldTill (n:Nat) (P:Program) (md:Region.Mode) (ops:Array Oper) (Q:Exit→Act→World→Prop) (S:World→Prop) (z:Nat):Nat→Array Bool→Act→World→Prop
 | 0,listed,a,w=>Region.ready md ops listed = []∧Q .normal a w
 | fuel+1,listed,a,w=>
  (Region.ready md ops listed = []→Q .normal a w) ∧
  ∀ i∈Region.ready md ops listed,wpOpIn Fence.wide n P ops Q i (fun a' w'=>(i≠z→listed.getD z false=false→S w')∧YldTill n P md ops Q S z fuel (listed.setIfInBounds i true) a' w') a w

theorem YldTill.any {n:Nat}:∀ (fuel:Nat) (listed:Array Bool) (a:Act) (w:World),YldTill n P md ops Q S z fuel listed a w→wpAnyIn Fence.wide n P md ops Q fuel listed a w
 | 0,_,_,_,h=>h
 | fuel+1,_,_,_,h=>⟨h.1,fun i hi=>wpOpIn_mono (fun a' w' h'=>YldTill.any fuel _ a' w' h'.2) (h.2 i hi)⟩

theorem YldTill.first {n:Nat} {i:Nat} {oi:Oper} {v:Value} (hi:ops[i]? = some oi) (hsel:∀ (j:Nat) (o:Oper) cs b,ops[j]? = some o→o.op≠.select cs b) (hw:waitsFor md ops z i=true)
  (hQ:∀ c a w,Q (.panic c) (a.put oi.dst v) w→Q (.panic c) a w) :
  ∀ (fuel:Nat) (listed:Array Bool) (a:Act) (w:World),Closed md ops listed→listed.getD z false=false →
   (∀ j oj,ops[j]? = some oj→j≠i→listed.getD j true=false→(∀ e∈oj.after,Region.binds md e=true→e.on≠i)→oi.apart ops oj=true) →
   i∈Region.ready md ops listed→YieldsIf P ops S oi v a→S w →
   YldTill n P md ops Q S z fuel (listed.setIfInBounds i true) (a.put oi.dst v) w→YldTill n P md ops Q S z (fuel+1) listed a w:=by
 intro fuel
 induction fuel with
 | zero=>
  intro listed a w _ _ _ hr hy hS H;refine ⟨fun h=>(by rw [h] at hr;cases hr),fun j hj=>?_⟩
  by_cases hji:j=i
  ·subst hji;exact h0j hi hy hS ⟨fun _ _=>hS,H⟩
  ·have:=ready_mono hj hji;rw [H.1] at this
   cases this
 | succ fuel ih=>
  intro listed a w hcl hzu hfree hr hy hS H;refine ⟨fun h=>(by rw [h] at hr;cases hr),fun j hj=>?_⟩
  by_cases hji:j=i
  ·subst hji;exact h0j hi hy hS ⟨fun _ _=>hS,H⟩
  ·have hun:listed.getD i true=false:=(mem_ready.1 hr).1;have hun2:listed.getD i false≠true:=by
    intro h2
    rcases Nat.lt_or_ge i listed.size with h3 | h3
    ·simp [h3] at hun h2;rw [hun] at h2;cases h2
    ·simp [Array.getElem?_eq_none h3] at h2
   have hjz:j≠z:=fun e=>hun2 (b0Z hcl hw (e▸hj))
   obtain ⟨hjun,oj,hoj,hall⟩:=mem_ready.1 hj;have hnot:∀ e∈oj.after,Region.binds md e=true→e.on≠i:=fun e he hb heq=>hun2 (heq▸hall e he hb)
   have h2:=n0V hoj (hfree j oj hoj hji hjun hnot) (fun cs b=>hsel i oi cs b hi) (fun cs b=>hsel j oj cs b hoj) hQ hy (H.2 j (ready_mono hj hji));have hfree':∀ k ok,ops[k]? = some ok→k≠i→(listed.setIfInBounds j true).getD k true=false →
     (∀ e∈ok.after,Region.binds md e=true→e.on≠i)→oi.apart ops ok=true:=fun k ok hk hki hku hno=>by
    refine hfree k ok hk hki ?_ hno
    by_cases hjk:j=k
    ·subst hjk;exact hjun
    ·rw [getD_set_ne true hjk] at hku;exact hku
   have hzi:(listed.setIfInBounds i true).getD z false=false:=by
    rw [getD_set_ne false]
    ·exact hzu
    ·intro e;subst e;exact d0F hcl hw hr
   refine wpOpIn_mono (fun a' w' h3=>⟨fun _ _=>h3.2.1 hjz hzi,ih (listed.setIfInBounds j true) a' w' (hcl.set hj) (by rw [getD_set_ne false hjz];exact hzu) hfree' (ready_mono hr (Ne.symm hji)) h3.1 (h3.2.1 hjz hzi) ?_⟩) h2;rw [Array.setIfInBounds_comm _ _ hji]
   exact h3.2.2

theorem a0U {n:Nat} (i:Nat) (d:Option Tmp) {oi:Oper} {v:Value} {fuel:Nat} {listed:Array Bool} {a:Act} {w:World} (hi:ops[i]? = some oi) (hd:oi.dst=d)
  (hs:Region.noSelect ops=true) (hf:Region.free md ops listed i=true) (hr:(Region.ready md ops listed).contains i=true) (hw:waitsFor md ops z i=true) (hcl:closedB md ops listed=true) (hzu:listed.getD z false=false)
  (hQ:∀ c a w,Q (.panic c) (a.put d v) w→Q (.panic c) a w) (hy:YieldsIf P ops S oi v a) (hS:S w)
  (h:YldTill n P md ops Q S z fuel (listed.setIfInBounds i true) (a.put d v) w):YldTill n P md ops Q S z (fuel+1) listed a w:=by
 subst hd
 exact YldTill.first hi (Region.noSelect_spec hs) hw hQ fuel listed a w (e0J hcl) hzu (Region.free_spec hi hf) (by simpa using hr) hy hS h
theorem f0C {n:Nat} (i:Nat) {oi:Oper} {fuel:Nat} {listed:Array Bool} {a:Act} {w:World} (hi:ops[i]? = some oi) (hr:Region.ready md ops listed = [i])
  (h:∀ K:Act→World→Prop,(∀ a w,(i≠z→listed.getD z false=false→S w)→YldTill n P md ops Q S z fuel (listed.setIfInBounds i true) a w→K a w)→if Region.wanted oi (yielded ops a.tmps)=true then Oper.wpIn Fence.wide n P oi a w K Q else K (a.put oi.dst undef) w) :
  YldTill n P md ops Q S z (fuel+1) listed a w:=
 ⟨fun h0=>(by rw [hr] at h0;cases h0),by
  rw [hr];intro j hj;obtain rfl:j=i:=by simpa using hj
  exact h0P hi (h _ (fun a w hS hA=>⟨hS,hA⟩))⟩
theorem h0q {n:Nat} {listed:Array Bool} {a:Act} {w:World} (hr:Region.ready md ops listed = []) (h:Q .normal a w):∀ fuel,YldTill n P md ops Q S z fuel listed a w
 | 0=>⟨hr,h⟩
 | _+1=>⟨fun _=>h,by rw [hr];simp⟩
theorem e0B (S:World→Prop) (z N:Nat) {n id:Nat} {a:Act} {w:World} (hm:P.follows .mixedOrders=true) (hN:ops.size=N) (h:YldTill n P .any ops Q S z N (Array.replicate N false) a w.drew):(Code.region id ops true).wpIn Fence.wide n P Q a w:=by
 subst hN
 exact wpIn_region_any hm (YldTill.any _ _ _ _ h)

theorem a0p {a:Act} {o:Oper} (hw:Region.wanted o (yielded ops a.tmps)=true) (ty:TypeId) (x:Operand) (ho:o.op = .load ty x) (pv:Value) (hx:a.eval x=pv) (v:Value)
  (hl:∀ w,S w→(Instr.loadAt ty pv).run P w = .ok v w):YieldsIf P ops S o v a:=by
 refine .inl ⟨hw,fun w hS=>?_⟩
 unfold execOp
 simp only [ho,hx,Sem.run_bind,Sem.run_pure,hl w hS,Result.andThen_ok]
def Only (Q:Act→World→Prop):Exit→Act→World→Prop
 | .normal,a,w=>Q a w
 | _,_,_=>False
theorem i0E (Q:Act→World→Prop):¬ LetsOut (Only Q):=fun ⟨_,_,h⟩=>h
def calm (ops:Array Oper):Bool:=ops.all fun o=>match o.op with | .defer _=>false | _=>true
theorem s0l (h:calm ops=true) {i:Nat} {o:Oper} (ho:ops[i]? = some o):∀ c,o.op≠.defer c:=by
 intro c hc;have:=Array.all_eq_true_iff_forall_mem.1 h o (Array.mem_of_getElem? ho)
 simp [hc] at this
theorem q0D (h:calm ops=true) {o:Oper} (ho:o∈ops.toList):∀ c,o.op≠.defer c:=by
 intro c hc;have:=Array.all_eq_true_iff_forall_mem.1 h o (Array.mem_toList_iff.1 ho)
 simp [hc] at this
theorem d0L {l n:Nat} {o:Oper} {a:Act} {w:World} {K:Act→World→Prop} {Q:Act→World→Prop} (hd:∀ c,o.op≠.defer c) (h:o.wp P a w K (Only Q)):o.wpIn (Fence.wide.inRound l) n P a w K (Only Q):=by
 refine ⟨fun _ _=>trivial,?_⟩;rw [Oper.semAt_eq _ _ _ hd]
 unfold Oper.wp at h
 generalize (execOp a.eval o).run P w=r at h ⊢
 cases r with
 | ok x w'=>
  cases x<;>simp only [Oper.upon,Oper.uponIn] at h ⊢
  case value v=>exact h
  case skip=>exact h
  case defer d=>exact h
  case enter f args=>exact ⟨fun hx=>by simp [Fence.inRound,Fence.wide] at hx,(callsIn_wide.2 h).inRound l⟩
  case row row args=>
   refine ⟨fun hx=>by simp [Fence.inRound,Fence.wide] at hx,fun c cs _=>?_⟩;obtain ⟨v,w',r,s⟩:=h c cs;refine ⟨v,w',r,?_⟩;rw [fenced_inRound]
   exact stepsIn_wide.2 s
 | halt x w'=>
  cases x<;>simp only [Oper.upon,Oper.uponIn] at h ⊢
  case panic v=>exact h
theorem k0o {l n i:Nat} {a:Act} {w:World} {K:Act→World→Prop} {Q:Act→World→Prop} (hc:calm ops=true) (h:wpOp P ops (Only Q) i K a w):wpOpIn (Fence.wide.inRound l) n P ops (Only Q) i K a w:=by
 unfold wpOp at h
 unfold wpOpIn
 cases ho:ops[i]? with
 | none=>simp only [ho] at h ⊢;exact h
 | some o=>
  simp only [ho] at h ⊢
  by_cases hw:Region.wanted o (yielded ops a.tmps)=true
  ·rw [if_pos hw] at h ⊢
   rcases h with h | h
   ·exact d0L (s0l hc ho) h
   ·exact absurd h.2 (i0E _)
  ·rw [if_neg hw] at h ⊢
   exact ⟨fun _ _=>trivial,h⟩
theorem e0L {l n:Nat} {Q:Act→World→Prop} (hc:calm ops=true):∀ (fuel:Nat) (listed:Array Bool) (a:Act) (w:World),wpAny P md ops (Only Q) fuel listed a w→wpAnyIn (Fence.wide.inRound l) n P md ops (Only Q) fuel listed a w
 | 0,_,_,_,h=>h
 | fuel+1,_,_,_,h=>⟨h.1,fun i hi=>wpOpIn_mono (fun a' w' h'=>e0L hc fuel _ a' w' h') (k0o hc (h.2 i hi))⟩
theorem c0A {l n:Nat} {Q:Act→World→Prop}:∀ (rest:List Oper) (a:Act) (w:World),(∀ o∈rest,∀ c,o.op≠.defer c)→wpList P ops (Only Q) rest a w→wpListIn (Fence.wide.inRound l) n P ops (Only Q) rest a w
 | [],_,_,_,h=>h
 | o :: rest,a,w,hc,h=>by
  unfold wpList at h
  unfold wpListIn
  by_cases hw:Region.wanted o (yielded ops a.tmps)=true
  ·rw [if_pos hw] at h ⊢
   rcases h with h | h
   ·exact Oper.wpIn_mono (fun a w h=>c0A rest a w (fun o ho=>hc o (by simp [ho])) h) (d0L (hc o (by simp)) h)
   ·exact absurd h.2 (i0E _)
  ·rw [if_neg hw] at h ⊢
   exact ⟨fun _ _=>trivial,c0A rest _ w (fun o ho=>hc o (by simp [ho])) h⟩
theorem l0s {Q:Exit→Act→World→Prop}:∀ e a w,Only (Q .normal) e a w→Q e a w:=fun e a w h=>by cases e<;>first | exact h | exact h.elim
theorem e0Q (S:World→Prop) (z N:Nat) {l n id:Nat} {a:Act} {w:World} (hm:P.follows .mixedOrders=true) (hc:calm ops=true) (hN:ops.size=N) (h:AnyTill P .any ops (Only (Q .normal)) S z N (Array.replicate N false) a w.drew) :
  (Code.region id ops true).wpIn (Fence.wide.inRound l) n P Q a w:=by
 subst hN
 exact
 wpIn_mono (wpIn_region_any hm (e0L hc _ _ _ _ (AnyTill.any _ _ _ _ h))) l0s
theorem b0q {l n id:Nat} {a:Act} {w:World} (hc:calm ops=true) (h:wpList P ops (Only (Q .normal)) ops.toList a w):(Code.region id ops false).wpIn (Fence.wide.inRound l) n P Q a w:=
 wpIn_mono (wpIn_region_list (c0A _ _ _ (fun _ ho=>q0D hc ho) h)) l0s
end
theorem a0B {P:Program} {md:Region.Mode} {ops:Array Oper} {Q:Exit→Act→World→Prop} {S:World→Prop} {z:Nat} (i j:Nat) {oi oj:Oper} {fuel:Nat} {listed:Array Bool} {a:Act} {w:World} (hi:ops[i]? = some oi) (hj:ops[j]? = some oj) (hr:Region.ready md ops listed = [i,j])
  (h1:∀ K:Act→World→Prop,(∀ a w,(i≠z→listed.getD z false=false→S w)→AnyTill P md ops Q S z fuel (listed.setIfInBounds i true) a w→K a w)→if Region.wanted oi (yielded ops a.tmps)=true then Oper.wp P oi a w K Q else K (a.put oi.dst undef) w)
  (h2:∀ K:Act→World→Prop,(∀ a w,(j≠z→listed.getD z false=false→S w)→AnyTill P md ops Q S z fuel (listed.setIfInBounds j true) a w→K a w)→if Region.wanted oj (yielded ops a.tmps)=true then Oper.wp P oj a w K Q else K (a.put oj.dst undef) w) :
  AnyTill P md ops Q S z (fuel+1) listed a w:=
 ⟨fun h0=>(by rw [hr] at h0;cases h0),by
  rw [hr];intro k hk
  rcases (by simpa using hk:k=i∨k=j) with rfl | rfl
  ·exact wpOp_step hi (fun K hK=>h1 K (fun a w hS hA=>hK a w ⟨hS,hA⟩))
  ·exact wpOp_step hj (fun K hK=>h2 K (fun a w hS hA=>hK a w ⟨hS,hA⟩))⟩

section
variable {P:Program} {md:Region.Mode} {ops:Array Oper} {Q:Exit→Act→World→Prop} {S:World→Prop} {z:Nat}
theorem tk (i:Nat) (d:Option Tmp) {oi:Oper} {v:Value} {fuel:Nat} {listed:Array Bool} {a:Act} {w:World} (hi:ops[i]? = some oi) (hd:oi.dst=d)
    (hy:YieldsIf P ops S oi v a) (hS:S w)
    (h:AnyTill P md ops Q S z fuel (listed.setIfInBounds i true) (a.put d v) w)
    (hs:Region.noSelect ops=true:=by kernel_rfl) (hf:Region.free md ops listed i=true:=by kernel_rfl) (hr:(Region.ready md ops listed).contains i=true:=by kernel_rfl) (hw:waitsFor md ops z i=true:=by kernel_rfl) (hcl:closedB md ops listed=true:=by kernel_rfl) (hzu:listed.getD z false=false:=by kernel_rfl)
    (hQ:∀ c a w,Q (.panic c) (a.put d v) w→Q (.panic c) a w:=by exact fun _ _ _ h=>h):AnyTill P md ops Q S z (fuel+1) listed a w:=
  a0g i d hi hd hs hf hr hw hcl hzu hQ hy hS h
theorem tp (i:Nat) (d:Option Tmp) {oi:Oper} {v:Value} {fuel:Nat} {listed:Array Bool} {a:Act} {w:World} (hS:S w)
    (h:AnyTill P md ops Q S z fuel (listed.setIfInBounds i true) (a.put d v) w) (hi:ops[i]? = some oi:=by rfl) (hd:oi.dst=d:=by rfl)
    (hy:YieldsIf P ops S oi v a:=by exact (.inl ⟨by rfl,fun w' _=>(by go_simp;rfl)⟩))
    (hs:Region.noSelect ops=true:=by kernel_rfl) (hf:Region.free md ops listed i=true:=by kernel_rfl) (hr:(Region.ready md ops listed).contains i=true:=by kernel_rfl) (hw:waitsFor md ops z i=true:=by kernel_rfl) (hcl:closedB md ops listed=true:=by kernel_rfl) (hzu:listed.getD z false=false:=by kernel_rfl)
    (hQ:∀ c a w,Q (.panic c) (a.put d v) w→Q (.panic c) a w:=by exact fun _ _ _ h=>h):AnyTill P md ops Q S z (fuel+1) listed a w:=
  a0g i d hi hd hs hf hr hw hcl hzu hQ hy hS h
end
theorem gA {α:Type} {l:List α} {i:Nat} (h:i < l.toArray.size):l.toArray[i]=l[i]'(by simpa using h):=List.getElem_toArray h
theorem jB {α:Type} {a:α} {l:List α} {i:Nat} (h:i+1 < (a :: l).length):(a :: l)[i+1]=l[i]'(by simpa using h):=List.getElem_cons_succ ..
theorem gC {α:Type} {a:α} {l:List α} (h:0 < (a :: l).length):(a :: l)[0]=a:=rfl
theorem mGe {w0 w w':World} {g:Nat} {cs:Array Value} {T:TypeId} (h:Hid (Made w g cs T w')) (hs:w0.heap.size≤w.heap.size):Hid (w0.heap.size≤g):=Lib.hid (by rw [h.out.eq];exact hs)
theorem mNe {w w':World} {g X:Nat} {cs:Array Value} {T:TypeId} {o:Obj} (h:Hid (Made w g cs T w')) (hx:Hid (w.heap[X]? = some o)):Hid (X≠g):=Lib.hid (by have:=h.out.eq;have:=a0b hx.out;omega)
theorem hh {p:Prop} (h:p):Hid p:=Lib.hid h
theorem nm {α:Sort _} (e:α):∃ q,q=e:=⟨e,rfl⟩
theorem dr (c:World):∃ w,w=c.drew∧Below c.heap.size c w:=⟨_,rfl,(Below.refl _ _).drew⟩
section
variable {P:Program} {ops:Array Oper} {rest:List Oper} {o:Oper} {a:Act} {w:World} {Q:Exit→Act→World→Prop}
theorem lR {ty:TypeId} {x:Operand} {g:Nat} {t:TypeId} {cs:Array Value} {fr:Nat × Nat} {d:TypeDesc} (hg:Hid (w.heap[g]? = some (.cells cs t fr))) (hu:P.underlying ty=some d) (hi:(P.info? ty).map (·.size)=some cs.size)
    (h:wpList P ops Q rest (a.put o.dst (.agg cs)) w) (hgd:o.guard=none:=by rfl) (ho:o.op = .load ty x:=by rfl) (hx:a.eval x = .pointer (some ⟨g,0,none⟩):=by rfl) (hd:(match d with | .struct _ | .array _ _=>true | _=>false)=true:=by rfl):wpList P ops Q (o :: rest) a w:=
  wpList_load_row hgd ty x ho g hx t cs fr d hg.out hu hd hi h
theorem sR (ty:TypeId) (cells:Array Value) {x y:Operand} {g:Nat} {t:TypeId} {old:Array Value} (hg:Hid (w.heap[g]? = some (.cells old t (0,0)))) (hi:(P.info? ty).map (·.size)=some cells.size)
    (h:∀ w',w'.heap[g]? = some (.cells cells t (0,0))→Keep (· = g) w w'→w'.heap.size=w.heap.size→wpList P ops Q rest (a.put o.dst undef) w')
    (hgd:o.guard=none:=by rfl) (ho:o.op = .store ty x y:=by rfl) (hx:a.eval x = .pointer (some ⟨g,0,none⟩):=by rfl) (hy:a.eval y = .agg cells:=by rfl) (hold:old.size=cells.size:=by rfl) (h1:cells.all (·.oneCell')=true:=by simp [Value.oneCell']):wpList P ops Q (o :: rest) a w:=
  a0a hgd ty x y ho g cells hx hy t old hg.out hi hold h1 h
theorem sA (ty:TypeId) {z:Value} {cs:Array Value} (hz:∀ w,(zeroValue ty).run P w = .ok z w)
    (h:∀ g w',Hid (Made w g cs ty w')→wpList P ops Q rest (a.put o.dst (.pointer (some ⟨g,0,none⟩))) w') (hgd:o.guard=none:=by rfl) (ho:o.op = .alloc ty:=by rfl) (hc:z.cells=cs:=by rfl):wpList P ops Q (o :: rest) a w:=
  a0t hgd ty ho z cs hz hc h
end
section
variable {P:Program} {md:Region.Mode} {ops:Array Oper} {Q:Exit→Act→World→Prop} {S:World→Prop} {z:Nat}
theorem rg (S:World→Prop) (z N:Nat) {id:Nat} {a:Act} {w wz:World} (hz:wz=w.drew) (_hS:S wz) (h:AnyTill P .any ops Q S z N (Array.replicate N false) a wz) (hm:P.follows .mixedOrders=true:=by kernel_rfl) (hN:ops.size=N:=by rfl):(Code.region id ops true).wp P Q a w:=by
  subst hz;exact a0f S z N hm hN h
theorem t1 (i:Nat) {oi:Oper} {fuel:Nat} {listed:Array Bool} {a:Act} {w:World} (h:∀ K:Act→World→Prop,(∀ a w,(i≠z→listed.getD z false=false→S w)→AnyTill P md ops Q S z fuel (listed.setIfInBounds i true) a w→K a w)→Oper.wp P oi a w K Q)
    (hi:ops[i]? = some oi:=by rfl) (hr:Region.ready md ops listed = [i]:=by kernel_rfl) (hw:Region.wanted oi (yielded ops a.tmps)=true:=by rfl):AnyTill P md ops Q S z (fuel+1) listed a w:=
  r0b i hi hr (fun K hK=>by rw [if_pos hw];exact h K hK)
theorem tl (i:Nat) (d:Option Tmp) {oi:Oper} {fuel:Nat} {listed:Array Bool} {a:Act} {w:World} {ty t:TypeId} {x:Operand} {g:Nat} {cs:Array Value} {fr:Nat × Nat} {d':TypeDesc} (hp:∀ w',S w'→w'.heap[g]? = some (.cells cs t fr)) (hu:P.underlying ty=some d') (hsz:(P.info? ty).map (·.size)=some cs.size) (hS:S w)
    (h:AnyTill P md ops Q S z fuel (listed.setIfInBounds i true) (a.put d (.agg cs)) w) (hi:ops[i]? = some oi:=by rfl) (hd:oi.dst=d:=by rfl)
    (hw2:Region.wanted oi (yielded ops a.tmps)=true:=by rfl) (ho:oi.op = .load ty x:=by rfl) (hx:a.eval x = .pointer (some ⟨g,0,none⟩):=by rfl) (hdm:(match d' with | .struct _ | .array _ _=>true | _=>false)=true:=by rfl)
    (hs:Region.noSelect ops=true:=by kernel_rfl) (hf:Region.free md ops listed i=true:=by kernel_rfl) (hr:(Region.ready md ops listed).contains i=true:=by kernel_rfl) (hw:waitsFor md ops z i=true:=by kernel_rfl) (hcl:closedB md ops listed=true:=by kernel_rfl) (hzu:listed.getD z false=false:=by kernel_rfl)
    (hQ:∀ c a w,Q (.panic c) (a.put d (.agg cs)) w→Q (.panic c) a w:=by exact fun _ _ _ h=>h):AnyTill P md ops Q S z (fuel+1) listed a w:=
  a0g i d hi hd hs hf hr hw hcl hzu hQ (a0p hw2 ty x ho _ hx _ (fun w' h'=>run_loadVar_row (P:=P) w' g t ty cs fr d' (hp w' h') hu hdm hsz)) hS h
end

theorem bT {w0 a b:World} (h:Hid (Below w0.heap.size w0 a)) (k:Below a.heap.size a b):Hid (Below w0.heap.size w0 b):=Lib.hid (h.out.trans (k.mono h.out.size))
theorem bS {w0 a b:World} {R:Nat} (h:Hid (Below w0.heap.size w0 a)) (k:Keep (· = R) a b) (hw:Hid (w0.heap.size≤R)):Hid (Below w0.heap.size w0 b):=Lib.hid (h.out.trans (k.below (B:=w0.heap.size) (fun y hy e=>by have:=hw.out;omega) h.out.size))
theorem ka1 {a b:World} {R X:Nat} {o:Obj} (k:Keep (· = R) a b) (h:Hid (a.heap[X]? = some o)) (n:Hid (X≠R)):Hid (b.heap[X]? = some o):=Lib.hid (k.at h.out n.out)
theorem kb1 {a b:World} {R X:Nat} {o:Obj} (k:Keep (· = R) a b) (h:Hid (a.heap[X]? = some o)) (n:Hid (R≠X)):Hid (b.heap[X]? = some o):=Lib.hid (k.at h.out fun e=>n.out e.symm)
theorem bA {a b:World} {k:Nat} {o:Obj} (h:Below a.heap.size a b) (ho:Hid (a.heap[k]? = some o)):Hid (b.heap[k]? = some o):=Lib.hid ((Keep.of_below (S:=fun _=>False) h).at ho.out id)
theorem bR {P:Program} {fn:Func} {R:Ending→World→Prop} {a:Act} {w:World} {p u:Tmp} {ty:TypeId} {g:Nat} {t:TypeId} {cs:Array Value} {fr:Nat × Nat} {d:TypeDesc} {v:Value} (h:fn.results=#[.cell p ty,.tmp u]) (hv:a.tmps.getD u undef=v) (hg:Hid (w.heap[g]? = some (.cells cs t fr))) (hu:P.underlying ty=some d) (hi:(P.info? ty).map (·.size)=some cs.size) (hR:R (.returned (.tuple #[.agg cs,v])) w)
    (hp:a.tmps.getD p undef = .pointer (some ⟨g,0,none⟩):=by rfl) (hd:(match d with | .struct _ | .array _ _=>true | _=>false)=true:=by rfl) (hdf:a.defers = []:=by rfl):bodyPost P fn R .ret a w:=
  bodyPost_ret (a0l h a.tmps w g t cs fr d hp hg.out hu hd hi v hv) hdf hR
section
variable {P:Program} {md:Region.Mode} {ops:Array Oper} {Q:Exit→Act→World→Prop} {S:World→Prop} {z:Nat}
theorem tD {listed:Array Bool} {a:Act} {w:World} {fuel:Nat} (h:Q .normal a w) (hr:Region.ready md ops listed = []:=by kernel_rfl):AnyTill P md ops Q S z fuel listed a w:=p0A hr h fuel
theorem tA1 (i:Nat) (d:Tmp) {oi:Oper} {v:Value} {fuel:Nat} {listed:Array Bool} {a:Act} {w:World} (hS:S w)
    (h:AnyTill P md ops Q S z fuel (listed.setIfInBounds i true) (a.put (some d) v) w) (hi:ops[i]? = some oi:=by rfl) (hd:oi.dst=some d:=by rfl)
    (hy:YieldsIf P ops S oi v a:=by exact (.inl ⟨by rfl,fun w' _=>(by go_simp;rfl)⟩))
    (hs:Region.noSelect ops=true:=by kernel_rfl) (hf:Region.free md ops listed i=true:=by kernel_rfl) (hr:(Region.ready md ops listed).contains i=true:=by kernel_rfl) (hw:waitsFor md ops z i=true:=by kernel_rfl) (hcl:closedB md ops listed=true:=by kernel_rfl) (hzu:listed.getD z false=false:=by kernel_rfl)
    (hQ:∀ c a w,Q (.panic c) (a.put (some d) v) w→Q (.panic c) a w:=by exact fun _ _ _ h=>h):AnyTill P md ops Q S z (fuel+1) listed a w:=
  a0g i (some d) hi hd hs hf hr hw hcl hzu hQ hy hS h
end
section
variable {P:Program} {ops:Array Oper} {Q:Exit→Act→World→Prop} {X Y Z U:Nat} {o p q r:Obj} {id:Nat} {a:Act} {w wz:World}
theorem rg1 (z N:Nat) (hz:wz=w.drew) (hX:Hid (wz.heap[X]? = some o)) (h:wz.heap[X]? = some o→AnyTill P .any ops Q (fun w=>w.heap[X]? = some o) z N (Array.replicate N false) a wz) (hm:P.follows .mixedOrders=true:=by kernel_rfl) (hN:ops.size=N:=by rfl):(Code.region id ops true).wp P Q a w:=by
  subst hz;exact a0f _ z N hm hN (h hX.out)
theorem rg2 (z N:Nat) (hz:wz=w.drew) (hX:Hid (wz.heap[X]? = some o)) (hY:Hid (wz.heap[Y]? = some p)) (h:wz.heap[X]? = some o∧wz.heap[Y]? = some p→AnyTill P .any ops Q (fun w=>w.heap[X]? = some o∧w.heap[Y]? = some p) z N (Array.replicate N false) a wz) (hm:P.follows .mixedOrders=true:=by kernel_rfl) (hN:ops.size=N:=by rfl):(Code.region id ops true).wp P Q a w:=by
  subst hz;exact a0f _ z N hm hN (h ⟨hX.out,hY.out⟩)
theorem rg3 (z N:Nat) (hz:wz=w.drew) (hX:Hid (wz.heap[X]? = some o)) (hY:Hid (wz.heap[Y]? = some p)) (hZ:Hid (wz.heap[Z]? = some q)) (h:wz.heap[X]? = some o∧wz.heap[Y]? = some p∧wz.heap[Z]? = some q→AnyTill P .any ops Q (fun w=>w.heap[X]? = some o∧w.heap[Y]? = some p∧w.heap[Z]? = some q) z N (Array.replicate N false) a wz) (hm:P.follows .mixedOrders=true:=by kernel_rfl) (hN:ops.size=N:=by rfl):(Code.region id ops true).wp P Q a w:=by
  subst hz;exact a0f _ z N hm hN (h ⟨hX.out,hY.out,hZ.out⟩)
theorem rg4 (z N:Nat) (hz:wz=w.drew) (hX:Hid (wz.heap[X]? = some o)) (hY:Hid (wz.heap[Y]? = some p)) (hZ:Hid (wz.heap[Z]? = some q)) (hU:Hid (wz.heap[U]? = some r)) (h:wz.heap[X]? = some o∧wz.heap[Y]? = some p∧wz.heap[Z]? = some q∧wz.heap[U]? = some r→AnyTill P .any ops Q (fun w=>w.heap[X]? = some o∧w.heap[Y]? = some p∧w.heap[Z]? = some q∧w.heap[U]? = some r) z N (Array.replicate N false) a wz) (hm:P.follows .mixedOrders=true:=by kernel_rfl) (hN:ops.size=N:=by rfl):(Code.region id ops true).wp P Q a w:=by
  subst hz;exact a0f _ z N hm hN (h ⟨hX.out,hY.out,hZ.out,hU.out⟩)
end
end Go.Proofs.YtakkfabaeolbdaaGreat
