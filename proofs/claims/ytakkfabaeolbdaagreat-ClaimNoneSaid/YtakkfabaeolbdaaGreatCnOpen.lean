/- From the frame's readings of arguments with depth to the walks' own: slices of whatever is read cell by cell. No condition. -/
import Derived.Test.YtakkfabaeolbdaaGreatCnRowsOf
import Derived.SizedLaws
import Derived.Deep.MidRow
namespace Go.Proofs.YtakkfabaeolbdaaGreat
open Go.RowKit

section
variable {H:Type} {enc:TypeId × Value→H} {P:Program} {w:World} {base:Nat} {spare:Nat→Bool} {held:Bool}

def Sized {H:Type} (P:Program) (t:TypeId) (d:DataW H):Prop:=∀ n∈d.weights P t,n≤140737488351232
theorem c0a {e:TypeId} {d:DataW H}:∀ {l:List (DataW H)},d∈l→∀ n∈d.weights P e,n∈DataW.weightsAll P e l
 | x :: l,h,n,hn=>by
  simp only [DataW.weightsAll,List.mem_append]
  rcases List.mem_cons.1 h with rfl | h
  ·exact .inl hn
  ·exact .inr (c0a h n hn)
theorem Sized.elem {t e:TypeId} (ht:P.underlying t=some (.slice e)) {es sp:List (DataW H)} (h:Sized P t (.slice es sp)) {d:DataW H} (hd:d∈es):Sized P e d:=fun n hn=>h n (by
 unfold DataW.weights
 rw [ht]
 exact List.mem_cons_of_mem _ (List.mem_append_left _ (c0a hd n hn)))
theorem Sized.room {t e:TypeId} (ht:P.underlying t=some (.slice e)) {es sp:List (DataW H)} (h:Sized P t (.slice es sp)):es.length*P.bytesOf e≤140737488351232:=by
 have:=h ((es.length+sp.length)*P.bytesOf e) (by unfold DataW.weights;rw [ht];exact List.mem_cons_self)
 exact Nat.le_trans (Nat.mul_le_mul_right _ (by omega)) this
theorem f0P {ts:List TypeId} {ds:List (DataW H)} {i:Nat} {t:TypeId} {d:DataW H} (ht:ts[i]? = some t) (hd:ds[i]? = some d):∀ n∈d.weights P t,n∈DataW.weightsEach P ts ds:=DataW.weights_mem_each ht hd
theorem Sized.field {t:TypeId} {fs:Array Field} (ht:P.underlying t=some (.struct fs)) {ds:List (DataW H)} (h:Sized P t (.agg ds)) {i:Nat} {f:Field} {d:DataW H} (hf:fs[i]? = some f) (hd:ds[i]? = some d):Sized P f.type d:=fun n hn=>h n (by
 unfold DataW.weights
 rw [ht]
 exact f0P (i:=i) (by simp [hf]) hd n hn)
theorem Sized.item {t e:TypeId} {k:Nat} (ht:P.underlying t=some (.array k e)) {ds:List (DataW H)} (h:Sized P t (.agg ds)) {d:DataW H} (hd:d∈ds):Sized P e d:=fun n hn=>h n (by
 unfold DataW.weights
 rw [ht]
 exact c0a hd n hn)

theorem n0K {β:Type} {p:Nat→β→Prop}:∀ (n:Nat),(∀ i,i < n→∃ y,p i y)→∃ l:List β,l.length=n∧∀ i (h:i < l.length),p i l[i]
 | 0,_=>⟨[],rfl,fun i h=>absurd h (by simp)⟩
 | n+1,h=>by
  obtain ⟨l,h1,h2⟩:=n0K n (fun i hi=>h i (by omega));obtain ⟨y,hy⟩:=h n (by omega);refine ⟨l ++ [y],by simp [h1],fun i hi=>?_⟩
  rcases Nat.lt_or_ge i l.length with hl | hl
  ·rw [List.getElem_append_left hl];exact h2 i hl
  ·have:i=n:=by simp at hi;omega
   subst this;rw [List.getElem_append_right hl]
   simpa [h1] using hy

theorem open_slice_of {β:Type} {R:List Value→β→Prop} {t e:TypeId} (ht:P.underlying t=some (.slice e)) {sz:Nat} (hsz:P.cellsOf e=sz) (hpos:0 < sz) (hlen:∀ cs y,R cs y→cs.length=sz)
  (hR:∀ fuel cs (x:DataW H × List MemPlace),DataW.trod enc P w base spare held fuel e cs=some x→Sized P e x.1→∃ y,R cs y)
  {fuel:Nat} {cs:List Value} {x:DataW H × List MemPlace} (h:DataW.trod enc P w base spare held fuel t cs=some x) (hw:Sized P t x.1) :
  ∃ ad cap,∃ l:List β,cs = [.slice ad l.length cap]∧l.length≤cap∧cap≤maxLen∧l.length*P.bytesOf e≤140737488351232 ∧
   (l≠[]→∃ b off,ad=some ⟨b,off,none⟩∧b < w.heap.size∧∀ i (hi:i < l.length),∃ ecs,R ecs l[i]∧∀ j,j < sz→w.cell? ⟨b,off+i*sz+j,none⟩=ecs[j]?):=by
 rcases DataW.trod_slice ht h with ⟨rfl,rfl⟩ | ⟨a,len,cap,elems,rest,n,rfl,rfl,rfl,hb,hl,hm,hel,hi,_⟩
 ·exact ⟨none,0,[],rfl,by simp,by simp,by simp,fun h=>absurd rfl h⟩
 ·have each:∀ i,i < len→∃ y:β,∃ ecs,R ecs y∧w.cells? base (a.add (i*P.cellsOf e)) (P.cellsOf e)=some ecs:=fun i hil=>by
   have h1:=hi i hil;rw [List.getElem?_eq_getElem (by omega)] at h1;obtain ⟨ecs,h2,h3⟩:=Option.bind_eq_some_iff.1 h1;obtain ⟨y,hy⟩:=hR n ecs _ h3 (hw.elem ht (List.mem_map.2 ⟨_,List.getElem_mem (by omega),rfl⟩))
   exact ⟨y,ecs,hy,h2⟩
  obtain ⟨l,l1,l2⟩:=n0K len each;have hroom:=hw.room ht;rw [List.length_map,hel] at hroom;refine ⟨some a,cap,l,by rw [l1],by omega,hm,by rw [l1];exact hroom,fun hne=>?_⟩;have hpl:0 < l.length:=by cases l with | nil=>exact absurd rfl hne | cons _ _=>simp
  obtain ⟨ecs0,r0,c0⟩:=l2 0 hpl;obtain ⟨hbb,hln,hcell⟩:=World.cells?_some c0;have k0:=hlen _ _ r0;have c00:=hcell 0 (by rw [hsz];exact hpos);rw [List.getElem?_eq_getElem (by omega)] at c00;have hs:=o0w c00;obtain ⟨b,off,sp⟩:=a;have hsp:sp=none:=by
   cases sp with
   | none=>rfl
   | some _=>simp [Addr.add] at hs
  subst hsp;refine ⟨b,off,rfl,?_,fun i hi'=>?_⟩
  ·have:=block_lt_of_cell c00
   simpa [Addr.add] using this
  ·obtain ⟨ecs,r1,c1⟩:=l2 i hi';obtain ⟨_,hln1,hcell1⟩:=World.cells?_some c1;refine ⟨ecs,r1,fun j hj=>?_⟩;have:=hcell1 j (by rw [hsz];exact hj);rw [← this,hsz,Addr.add_mid,Addr.add_mid]
theorem open_slice_rd {α:Type} (en:α→List Value) (Good:α→Prop) {t e:TypeId} (ht:P.underlying t=some (.slice e)) {sz:Nat} (hsz:P.cellsOf e=sz) (hpos:0 < sz) (hlen:∀ y,(en y).length=sz)
  (hR:∀ fuel cs (x:DataW H × List MemPlace),DataW.trod enc P w base spare held fuel e cs=some x→Sized P e x.1→∃ y,cs=en y∧Good y)
  {fuel:Nat} {cs:List Value} {x:DataW H × List MemPlace} (h:DataW.trod enc P w base spare held fuel t cs=some x) (hw:Sized P t x.1) :
  ∃ v,∃ l:List α,cs = [v]∧Rd w en sz v l∧l.length*P.bytesOf e≤140737488351232∧∀ y∈l,Good y:=by
 have h0:=open_slice_of (R:=fun cs (y:{ y:α // Good y })=>cs=en y.1) ht hsz hpos (fun cs y h=>by rw [h];exact hlen _) (fun fuel cs x h1 h2=>by obtain ⟨y,h3,h4⟩:=hR fuel cs x h1 h2;exact ⟨⟨y,h4⟩,h3⟩) h hw;obtain ⟨ad,cap,l,rfl,h1,h2,h3,h4⟩:=h0;refine ⟨_,l.map (·.1),rfl,⟨ad,cap,by simp,by simpa using h1,h2,fun hne=>?_⟩,by simpa using h3,fun y hy=>?_⟩
 ·obtain ⟨b,off,r1,r2,r3⟩:=h4 (by intro e;subst e;simp at hne);refine ⟨b,off,r1,r2,fun i hi j hj=>?_⟩;obtain ⟨ecs,r4,r5⟩:=r3 i (by simpa using hi);rw [r5 j hj,r4]
  simp
 ·obtain ⟨z,_,rfl⟩:=List.mem_map.1 hy
  exact z.2
theorem open_u8 {e:TypeId} (he:P.underlying e=some (.int .u8)) {fuel:Nat} {cs:List Value} {x:DataW H × List MemPlace} (h:DataW.trod enc P w base spare held fuel e cs=some x):∃ y:UInt8,cs=u8E y∧True:=by
 obtain ⟨n,rfl,_,hw⟩:=DataW.trod_int he h;refine ⟨UInt8.ofNat n.toNat,?_,trivial⟩;have:=wf_u8 hw
 simp [u8E,byteV_of n this.1 this.2]
theorem open_i64 {e:TypeId} (he:P.underlying e=some (.int .i64)) {fuel:Nat} {cs:List Value} {x:DataW H × List MemPlace} (h:DataW.trod enc P w base spare held fuel e cs=some x):∃ y:Int,cs=intE y∧(-9223372036854775808≤y∧y < 9223372036854775808):=by
 obtain ⟨n,rfl,_,hw⟩:=DataW.trod_int he h
 exact ⟨n,rfl,wf_i64 hw⟩
theorem open_bytes {t e:TypeId} (ht:P.underlying t=some (.slice e)) (he:P.underlying e=some (.int .u8)) (hc:P.cellsOf e=1) (hb:P.bytesOf e=1) {fuel:Nat} {cs:List Value} {x:DataW H × List MemPlace} (h:DataW.trod enc P w base spare held fuel t cs=some x) (hw:Sized P t x.1) :
  ∃ v,∃ l:List UInt8,cs = [v]∧Rd w u8E 1 v l∧l.length≤140737488351232:=by
 obtain ⟨v,l,h1,h2,h3,_⟩:=open_slice_rd u8E (fun _=>True) ht hc (by omega) (fun _=>rfl) (fun fuel cs x h1 _=>open_u8 he h1) h hw
 exact ⟨v,l,h1,h2,by rw [hb] at h3;omega⟩
theorem open_arr_u8 {t e:TypeId} {n:Nat} (ht:P.underlying t=some (.array n e)) (he:P.underlying e=some (.int .u8)) (hce:P.cellsOf e=1) (hct:P.cellsOf t=n) {fuel:Nat} {cs:List Value} {x:DataW H × List MemPlace} (h:DataW.trod enc P w base spare held fuel t cs=some x) :
  ∃ l:List UInt8,cs=l.map byteV∧l.length=n:=by
 obtain ⟨l,hl,hn,hw⟩:=open_arr_ints ht he hce hct h;refine ⟨l.map fun z=>UInt8.ofNat z.toNat,?_,by simpa using hn⟩;rw [hl,List.map_map];refine List.map_congr_left fun z hz=>?_
 exact (byteV_of z (wf_u8 (hw z hz)).1 (wf_u8 (hw z hz)).2).symm
theorem open_arr_arr_u8 {t a e:TypeId} {m n:Nat} (ht:P.underlying t=some (.array m a)) (ha:P.underlying a=some (.array n e)) (he:P.underlying e=some (.int .u8)) (hce:P.cellsOf e=1) (hca:P.cellsOf a=n) (hct:P.cellsOf t=m*n) {fuel:Nat} {cs:List Value} {x:DataW H × List MemPlace} (h:DataW.trod enc P w base spare held fuel t cs=some x) :
  ∃ l:List UInt8,cs=l.map byteV∧l.length=m*n:=by
 obtain ⟨xs,q,rfl,_,hl,hx,hi⟩:=DataW.trod_array ht h;rw [hct] at hl;have key:∀ k,k≤m→∃ l:List UInt8,cs.take (k*n)=l.map byteV∧l.length=k*n:=by
  intro k
  induction k with
  | zero=>intro _;exact ⟨[],by simp,by simp⟩
  | succ k ih=>
   intro hk;obtain ⟨l,h1,h2⟩:=ih (by omega);have h3:=hi k (by omega);rw [hca,List.getElem?_eq_getElem (by omega)] at h3;obtain ⟨l2,h4,h5⟩:=open_arr_u8 ha he hce hca h3;refine ⟨l ++ l2,?_,by rw [List.length_append,h2,h5,Nat.add_mul];omega⟩;rw [Nat.add_mul,Nat.one_mul,List.take_add,h1,h4,List.map_append]
 obtain ⟨l,h1,h2⟩:=key m (Nat.le_refl _);rw [List.take_of_length_le (by omega)] at h1
 exact ⟨l,h1,h2⟩
end
end Go.Proofs.YtakkfabaeolbdaaGreat
