/- The law PoolNone returns true for every input, and each argument reads afterwards as it read before: no condition. -/
import Derived.Test.YthnjakomkdlglaaGreatRows
import Derived.Test.YthnjakomkdlglaaGreatPolE
import Derived.Test.YthnjakomkdlglaaGreatOpenP31
import Derived.Test.YthnjakomkdlglaaGreatOpen
import Derived.Test.YthnjakomkdlglaaGreatRowsOf
import Derived.WalkKit
import Derived.ProofKit
import Derived.OpenShut
import Derived.ShutString
import Derived.ChangeOld
import Derived.Below
import Derived.Test.YthnjakomkdlglaaGreatOpen
import Derived.SizedLaws
namespace Go.Proofs.YthnjakomkdlglaaGreat.poolNone
open Go.ChangeShapes Go.WideShapes Go.ChangeAt Go.RowKit
open Go.ChangeMaps (open_string shut_string)

theorem own : ownKnob Tryz.prog.godebug = none := by kernel_rfl
theorem laidOut : laidOutB Tryz.prog = true := by kernel_rfl

set_option maxRecDepth 100000 in
theorem lifted (os : Os) (started : os.Started) (H : Type) (enc : TypeId × Value → H) :
    ReturnsInHanded {} Tryz.checked os 5 .any (Rows.poolNoneSpec.pre6 enc Tryz.prog Tryz.f5 Rows.poolNoneRow.domain false) (Rows.poolNoneSpec.post enc Tryz.prog Tryz.f5 false true false false) := by
  refine returnsInHanded_of_change_sized (C := Tryz.checked) own started (by kernel_rfl) Tryz.func5
    (ChangeSpec.witness6 (enc := enc) (C := Tryz.checked) false ⟨#[], #[.agg #[.bool false, .int .i64 0, .int .i64 0, .int .u64 0, .int .u64 0, .int .u64 0, .int .u64 0]], []⟩ 8 (by kernel_rfl) (by kernel_rfl) (by kernel_rfl) (by kernel_rfl)) ?_
  intro W base args ds gs before hval0 hW hcnd hsz _
  have hval : ∀ (j : Nat) t v, Tryz.f5.params[j]? = some t → args[j]? = some v → Value.okWide Tryz.prog W .any base t v := hval0
  have hW' := hW
  obtain ⟨p, q, hA0, hV, rfl, hfz, hnd⟩ := hW
  have hA : DataW.TrodAll enc Tryz.prog W 0 (fun _ => true) true Tryz.f5.params.toList args.toList ds p := hA0
  rw [Tryz.params5] at hA hval hsz
  obtain ⟨v0, vs0, d0, ds0, p0, q0, hargs, rfl, rfl, h0, r0⟩ := trodAll_cons hA
  obtain ⟨rfl, rfl, rfl⟩ := trodAll_nil r0
  obtain rfl : args = #[v0] := by cases args; simp_all
  obtain ⟨rfl, rfl⟩ := trodVars_none hV
  have lt0 : ∀ x ∈ p0, x.block < W.heap.size := by obtain ⟨m, hm⟩ := h0; exact DataW.trod_lt m _ _ _ hm
  have o0 := hval 0 60 v0 rfl rfl
  have sz0 : Sized Tryz.prog 60 d0 := fun n hn => (by have := List.all_eq_true.1 hsz n (DataW.weights_mem_each (j := 0) rfl rfl n hn); exact of_decide_eq_true this)
  have hcall : Calls Tryz.prog 5 #[v0] W (Ret W (.bool true)) := by
    clear hA0 hval0 hW' hsz
    obtain ⟨cs0, e0⟩ : ∃ cs, v0 = .agg cs := by
      obtain ⟨cs, hv, _⟩ := okWide_struct Tryz.underlying60 o0
      exact ⟨cs, hv⟩
    subst e0
    obtain ⟨a0, e0, g0⟩ : ∃ a, cs0 = (act31E a).toArray ∧ Good31 W a := by
      obtain ⟨fuel, hf⟩ := h0
      obtain ⟨a, hl, hg⟩ := open_act31 hf sz0
      refine ⟨a, ?_, hg⟩
      rw [← Array.toArray_toList (xs := cs0)]
      exact congrArg List.toArray hl
    subst e0
    exact none31_any a0 g0
  clear hA0 hval0
  refine hcall.mono fun e W' ⟨he, bel⟩ => ?_
  subst he
  exact ⟨_, rfl, _, _, _, [], _, [], hW', trodAll_mk1 (shut_bool Tryz.underlying4 _), (trodAll_cons_mk (Below.trod laidOut (by kernel_rfl) (of_decide_eq_true (by kernel_rfl)) h0 bel lt0) trodAll_mk0), rfl, bel.frame _, fun h => by cases h⟩

theorem over : Rows.poolNoneRow.holds Tryz.pinned (OpenSpec.ofChange Rows.poolNoneSpec) :=
  OpenClaim.holds_of_wide 5 Tryz.f5 rfl rfl rfl rfl rfl rfl rfl ⟨rfl, rfl, rfl, rfl, rfl⟩ rfl rfl rfl rfl rfl (by kernel_rfl) Tryz.func5 (by kernel_rfl)
    (of_decide_eq_true (by kernel_rfl)) (by unfold Func.isWrapper; first | (rw [if_pos (by decide +kernel)]; kernel_rfl) | (rw [if_neg (by decide +kernel)]; exact ⟨rfl, rfl⟩))
    (fun os started H enc _ => lifted os started H enc)

theorem proved : Rows.PoolNoneSaid := over
end Go.Proofs.YthnjakomkdlglaaGreat.poolNone
