/- From the frame's readings of the arguments to the walks' own: no condition. -/
import Derived.Test.YtakkfabaeolbdaaGreatCnBase
import Derived.ProofKit
namespace Go.Proofs.YtakkfabaeolbdaaGreat
open Go.RowKit

theorem o0w {w:World} {x:Addr} {v:Value} (h:w.cell? x=some v):x.spot=none:=by
 unfold World.cell? at h
 split at h
 ·cases hs:x.spot with
  | none=>rfl
  | some _=>simp [hs] at h
 ·cases h

theorem c0W {α:Type} {k:IntKind} {w:World} {a:Option Addr} {len cap:Nat} {zs:List Int} (f:Int→α) (enc:α→List Value) (hf:∀ n,(Lit.int k n).wf=true→enc (f n) = [.int k n])
  (h:(a=none∧len=0∧cap=0∧zs = [])∨∃ x,a=some x∧len≤cap∧cap≤maxLen∧zs.length=cap∧(∀ i,i < zs.length→w.cell? (x.add i)=some (.int k (zs.getD i 0)))∧∀ n∈zs,(Lit.int k n).wf=true) :
  Rd w enc 1 (.slice a len cap) ((zs.take len).map f)∧((zs.take len).map f).length=len:=by
 rcases h with ⟨rfl,rfl,rfl,rfl⟩ | ⟨x,rfl,h1,h2,h3,h4,h5⟩
 ·exact ⟨Rd.nil _ _ _,rfl⟩
 ·have hl:((zs.take len).map f).length=len:=by simp;omega
  refine ⟨⟨some x,cap,by rw [hl],by rw [hl];exact h1,h2,fun hne=>?_⟩,hl⟩;have hpos:0 < len:=by
   rcases Nat.eq_zero_or_pos len with h0 | h0
   ·subst h0;simp at hne
   ·exact h0
  have c0:=h4 0 (by omega);rw [show x.add 0=x by simp [Addr.add]] at c0;have hs:=o0w c0;obtain ⟨b,off,sp⟩:=x
  simp at hs;subst hs
  refine ⟨b,off,rfl,block_lt_of_cell c0,fun i hi j hj=>?_⟩;obtain rfl:j=0:=by omega
  rw [hl] at hi;have hi2:i < zs.length:=by omega
  have c:=h4 i hi2;have e:(⟨b,off,none⟩:Addr).add i=⟨b,off+i*1+0,none⟩:=by unfold Addr.add;split<;>simp_all
  rw [e] at c;rw [c]
  simp [List.getElem_take,List.getElem?_eq_getElem hi2,hf _ (h5 _ (List.getElem_mem hi2))]

theorem rd_ints {w:World} {a:Option Addr} {len cap:Nat} {zs:List Int}
  (h:(a=none∧len=0∧cap=0∧zs = [])∨∃ x,a=some x∧len≤cap∧cap≤maxLen∧zs.length=cap∧(∀ i,i < zs.length→w.cell? (x.add i)=some (.int .i64 (zs.getD i 0)))∧∀ n∈zs,(Lit.int .i64 n).wf=true) :
  ∃ l,Rd w intE 1 (.slice a len cap) l∧l.length=len∧I64s l:=by
 have h2:=c0W id intE (fun n _=>rfl) h;rw [List.map_id] at h2;refine ⟨_,h2.1,h2.2,?_⟩
 rcases h with ⟨rfl,rfl,rfl,rfl⟩ | ⟨x,rfl,h1,_,h3,h4,h5⟩
 ·exact fun _ h=>by cases h
 ·intro n hn;have:=h5 n (List.mem_of_mem_take hn)
  simp [Lit.wf,IntKind.min,IntKind.max,IntKind.bits,IntKind.signed] at this
  omega

theorem rd_u8s {w:World} {a:Option Addr} {len cap:Nat} {zs:List Int}
  (h:(a=none∧len=0∧cap=0∧zs = [])∨∃ x,a=some x∧len≤cap∧cap≤maxLen∧zs.length=cap∧(∀ i,i < zs.length→w.cell? (x.add i)=some (.int .u8 (zs.getD i 0)))∧∀ n∈zs,(Lit.int .u8 n).wf=true) :
  ∃ l,Rd w u8E 1 (.slice a len cap) l∧l.length=len:=by
 refine ⟨_,c0W (fun n=>UInt8.ofNat n.toNat) u8E (fun n hn=>?_) h⟩;have:0≤n∧n < 256:=by
  simp [Lit.wf,IntKind.min,IntKind.max,IntKind.bits,IntKind.signed] at hn
  omega
 simp [u8E,byteV_of n this.1 this.2]

theorem wf_i64 {n:Int} (h:(Lit.int .i64 n).wf=true):-9223372036854775808≤n∧n < 9223372036854775808:=by
 simp [Lit.wf,IntKind.min,IntKind.max,IntKind.bits,IntKind.signed] at h
 omega
theorem wf_u8 {n:Int} (h:(Lit.int .u8 n).wf=true):0≤n∧n < 256:=by
 simp [Lit.wf,IntKind.min,IntKind.max,IntKind.bits,IntKind.signed] at h
 omega
theorem wf_u64 {n:Int} (h:(Lit.int .u64 n).wf=true):0≤n∧n < 18446744073709551616:=by
 simp [Lit.wf,IntKind.min,IntKind.max,IntKind.bits,IntKind.signed] at h
 omega

section
variable {H:Type} {enc:TypeId × Value→H} {P:Program} {w:World} {base:Nat} {spare:Nat→Bool} {held:Bool}

theorem open_arr_ints {t e:TypeId} {k:IntKind} {n fuel:Nat} {cs:List Value} {x:DataW H × List MemPlace} (ht:P.underlying t=some (.array n e)) (he:P.underlying e=some (.int k)) (hce:P.cellsOf e=1) (hct:P.cellsOf t=n)
  (h:DataW.trod enc P w base spare held fuel t cs=some x):∃ l:List Int,cs=l.map (Value.int k)∧l.length=n∧∀ z∈l,(Lit.int k z).wf=true:=by
 obtain ⟨xs,m,rfl,_,hl,hx,hi⟩:=DataW.trod_array ht h;rw [hct] at hl;have key:∀ i (hin:i < n),∃ z,cs[i]? = some (.int k z)∧(Lit.int k z).wf=true:=by
  intro i hin;have h1:=hi i hin;rw [hce,Nat.mul_one,List.getElem?_eq_getElem (by omega)] at h1;have h2:(cs.drop i).take 1 = [cs[i]'(by omega)]:=by
   rw [List.drop_eq_getElem_cons (by omega)];rfl
  rw [h2] at h1;obtain ⟨z,e1,_,e2⟩:=DataW.trod_int he h1
  simp at e1
  exact ⟨z,by rw [List.getElem?_eq_getElem (by omega),e1],e2⟩
 refine ⟨(List.range n).map (fun i=>match (cs[i]?:Option Value) with | some (Value.int _ z)=>z | _=>0),?_,by simp,?_⟩
 ·apply List.ext_getElem?
  intro i
  by_cases hin:i < n
  ·obtain ⟨z,h1,_⟩:=key i hin
   simp [h1,hin]
  ·rw [List.getElem?_eq_none (by omega),List.getElem?_eq_none (by simp;omega)]
 ·intro z hz;simp only [List.mem_map,List.mem_range] at hz;obtain ⟨i,hin,rfl⟩:=hz;obtain ⟨z,h1,h2⟩:=key i hin
  simpa [h1] using h2

theorem open_arr_strs {t e:TypeId} {n fuel:Nat} {cs:List Value} {x:DataW H × List MemPlace} (ht:P.underlying t=some (.array n e)) (he:P.underlying e=some .string) (hce:P.cellsOf e=1) (hct:P.cellsOf t=n)
  (h:DataW.trod enc P w base spare held fuel t cs=some x):∃ l:List ByteArray,cs=l.map Value.string∧l.length=n∧∀ z∈l,z.size≤9223372036854775807:=by
 obtain ⟨xs,m,rfl,_,hl,hx,hi⟩:=DataW.trod_array ht h;rw [hct] at hl;have key:∀ i (hin:i < n),∃ z,cs[i]? = some (.string z)∧z.size≤9223372036854775807:=by
  intro i hin;have h1:=hi i hin;rw [hce,Nat.mul_one,List.getElem?_eq_getElem (by omega)] at h1;have h2:(cs.drop i).take 1 = [cs[i]'(by omega)]:=by
   rw [List.drop_eq_getElem_cons (by omega)];rfl
  rw [h2] at h1;obtain ⟨z,e1,_,e2⟩:=DataW.trod_string he h1
  simp at e1
  unfold maxLen at e2
  exact ⟨z,by rw [List.getElem?_eq_getElem (by omega),e1],e2⟩
 refine ⟨(List.range n).map (fun i=>match (cs[i]?:Option Value) with | some (Value.string z)=>z | _=>ByteArray.empty),?_,by simp,?_⟩
 ·apply List.ext_getElem?
  intro i
  by_cases hin:i < n
  ·obtain ⟨z,h1,_⟩:=key i hin
   simp [h1,hin]
  ·rw [List.getElem?_eq_none (by omega),List.getElem?_eq_none (by simp;omega)]
 ·intro z hz;simp only [List.mem_map,List.mem_range] at hz;obtain ⟨i,hin,rfl⟩:=hz;obtain ⟨z,h1,h2⟩:=key i hin
  simpa [h1] using h2

theorem okWide_agg {r:Reach} {b0:Nat} {t e:TypeId} {n:Nat} {v:Value} (ht:P.underlying t=some (.array n e)) (hv:Value.okWide P w r b0 t v):∃ cs,v = .agg cs:=by
 unfold Value.okWide at hv
 rw [ht] at hv;obtain ⟨cs,rfl,_⟩:=hv
 exact ⟨cs,rfl⟩
end
end Go.Proofs.YtakkfabaeolbdaaGreat
