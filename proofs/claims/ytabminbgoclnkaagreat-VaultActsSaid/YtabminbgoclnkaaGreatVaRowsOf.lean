/- From the frame's readings of the arguments to the walks' own: no condition. -/
import Derived.Test.YtabminbgoclnkaaGreatVaBase
import Derived.ProofKit
namespace Go.Proofs.YtabminbgoclnkaaGreat
open Go.RowKit

theorem j0T {w:World} {x:Addr} {v:Value} (h:w.cell? x=some v):x.spot=none:=by
 unfold World.cell? at h
 split at h
 ·cases hs:x.spot with
  | none=>rfl
  | some _=>simp [hs] at h
 ·cases h

theorem wf_i64 {n:Int} (h:(Lit.int .i64 n).wf=true):-9223372036854775808≤n∧n < 9223372036854775808:=by
 simp [Lit.wf,IntKind.min,IntKind.max,IntKind.bits,IntKind.signed] at h
 omega
theorem wf_u8 {n:Int} (h:(Lit.int .u8 n).wf=true):0≤n∧n < 256:=by
 simp [Lit.wf,IntKind.min,IntKind.max,IntKind.bits,IntKind.signed] at h
 omega
theorem wf_u64 {n:Int} (h:(Lit.int .u64 n).wf=true):0≤n∧n < 18446744073709551616:=by
 simp [Lit.wf,IntKind.min,IntKind.max,IntKind.bits,IntKind.signed] at h
 omega

section
variable {H:Type} {enc:TypeId × Value→H} {P:Program} {w:World} {base:Nat} {spare:Nat→Bool} {held:Bool}

theorem open_arr_ints {t e:TypeId} {k:IntKind} {n fuel:Nat} {cs:List Value} {x:DataW H × List MemPlace} (ht:P.underlying t=some (.array n e)) (he:P.underlying e=some (.int k)) (hce:P.cellsOf e=1) (hct:P.cellsOf t=n)
  (h:DataW.trod enc P w base spare held fuel t cs=some x):∃ l:List Int,cs=l.map (Value.int k)∧l.length=n∧∀ z∈l,(Lit.int k z).wf=true:=by
 obtain ⟨xs,m,rfl,_,hl,hx,hi⟩:=DataW.trod_array ht h;rw [hct] at hl;have key:∀ i (hin:i < n),∃ z,cs[i]? = some (.int k z)∧(Lit.int k z).wf=true:=by
  intro i hin;have h1:=hi i hin;rw [hce,Nat.mul_one,List.getElem?_eq_getElem (by omega)] at h1;have h2:(cs.drop i).take 1 = [cs[i]'(by omega)]:=by
   rw [List.drop_eq_getElem_cons (by omega)];rfl
  rw [h2] at h1;obtain ⟨z,e1,_,e2⟩:=DataW.trod_int he h1
  simp at e1
  exact ⟨z,by rw [List.getElem?_eq_getElem (by omega),e1],e2⟩
 refine ⟨(List.range n).map (fun i=>match (cs[i]?:Option Value) with | some (Value.int _ z)=>z | _=>0),?_,by simp,?_⟩
 ·apply List.ext_getElem?
  intro i
  by_cases hin:i < n
  ·obtain ⟨z,h1,_⟩:=key i hin
   simp [h1,hin]
  ·rw [List.getElem?_eq_none (by omega),List.getElem?_eq_none (by simp;omega)]
 ·intro z hz;simp only [List.mem_map,List.mem_range] at hz;obtain ⟨i,hin,rfl⟩:=hz;obtain ⟨z,h1,h2⟩:=key i hin
  simpa [h1] using h2

end
end Go.Proofs.YtabminbgoclnkaaGreat
