/- The law SplitNone returns true for every input, and each argument reads afterwards as it read before: no condition. -/
import Derived.Test.YthnjakomkdlglaaRows
import Derived.Test.YthnjakomkdlglaaSplN
import Derived.Test.YthnjakomkdlglaaOpenN34
import Derived.Test.YthnjakomkdlglaaOpen
import Derived.Test.YthnjakomkdlglaaRowsOf
import Derived.WalkKit
import Derived.ProofKit
import Derived.OpenShut
import Derived.ShutString
import Derived.ChangeOld
import Derived.Below
import Derived.Test.YthnjakomkdlglaaOpen
import Derived.SizedLaws
namespace Go.Proofs.Ythnjakomkdlglaa.splitNone
open Go.ChangeShapes Go.WideShapes Go.ChangeAt Go.RowKit
open Go.ChangeMaps (open_string shut_string)

theorem own : ownKnob Try.prog.godebug = none := by kernel_rfl
theorem laidOut : laidOutB Try.prog = true := by kernel_rfl

set_option maxRecDepth 100000 in
theorem lifted (os : Os) (started : os.Started) (H : Type) (enc : TypeId × Value → H) :
    ReturnsInHanded {} Try.checked os 6 .any (Rows.splitNoneSpec.pre6 enc Try.prog Try.f6 Rows.splitNoneRow.domain false) (Rows.splitNoneSpec.post enc Try.prog Try.f6 false true false false) := by
  refine returnsInHanded_of_change_sized (C := Try.checked) own started (by kernel_rfl) Try.func6
    (ChangeSpec.witness6 (enc := enc) (C := Try.checked) false ⟨#[], #[.agg #[.int .i64 0, .int .i64 0, .int .i64 0, .int .i64 0, .int .i64 0]], []⟩ 8 (by kernel_rfl) (by kernel_rfl) (by kernel_rfl) (by kernel_rfl)) ?_
  intro W base args ds gs before hval0 hW hcnd hsz _
  have hval : ∀ (j : Nat) t v, Try.f6.params[j]? = some t → args[j]? = some v → Value.okWide Try.prog W .any base t v := hval0
  have hW' := hW
  obtain ⟨p, q, hA0, hV, rfl, hfz, hnd⟩ := hW
  have hA : DataW.TrodAll enc Try.prog W 0 (fun _ => true) true Try.f6.params.toList args.toList ds p := hA0
  rw [Try.params6] at hA hval hsz
  obtain ⟨v0, vs0, d0, ds0, p0, q0, hargs, rfl, rfl, h0, r0⟩ := trodAll_cons hA
  obtain ⟨rfl, rfl, rfl⟩ := trodAll_nil r0
  obtain rfl : args = #[v0] := by cases args; simp_all
  obtain ⟨rfl, rfl⟩ := trodVars_none hV
  have lt0 : ∀ x ∈ p0, x.block < W.heap.size := by obtain ⟨m, hm⟩ := h0; exact DataW.trod_lt m _ _ _ hm
  have o0 := hval 0 58 v0 rfl rfl
  have sz0 : Sized Try.prog 58 d0 := fun n hn => (by have := List.all_eq_true.1 hsz n (DataW.weights_mem_each (j := 0) rfl rfl n hn); exact of_decide_eq_true this)
  have hcall : Calls Try.prog 6 #[v0] W (Ret W (.bool true)) := by
    clear hA0 hval0 hW' hsz
    obtain ⟨cs0, e0⟩ : ∃ cs, v0 = .agg cs := by
      obtain ⟨cs, hv, _⟩ := okWide_struct Try.underlying58 o0
      exact ⟨cs, hv⟩
    subst e0
    obtain ⟨a0, e0, g0⟩ : ∃ a, cs0 = (act34E a).toArray ∧ Good34 W a := by
      obtain ⟨fuel, hf⟩ := h0
      obtain ⟨a, hl, hg⟩ := open_act34 hf sz0
      refine ⟨a, ?_, hg⟩
      rw [← Array.toArray_toList (xs := cs0)]
      exact congrArg List.toArray hl
    subst e0
    exact none34_any a0 g0
  clear hA0 hval0
  refine hcall.mono fun e W' ⟨he, bel⟩ => ?_
  subst he
  exact ⟨_, rfl, _, _, _, [], _, [], hW', trodAll_mk1 (shut_bool Try.underlying4 _), (trodAll_cons_mk (Below.trod laidOut (by kernel_rfl) (of_decide_eq_true (by kernel_rfl)) h0 bel lt0) trodAll_mk0), rfl, bel.frame _, fun h => by cases h⟩

theorem over : Rows.splitNoneRow.holds Try.pinned (OpenSpec.ofChange Rows.splitNoneSpec) :=
  OpenClaim.holds_of_wide 6 Try.f6 rfl rfl rfl rfl rfl rfl rfl ⟨rfl, rfl, rfl, rfl, rfl⟩ rfl rfl rfl rfl rfl (by kernel_rfl) Try.func6 (by kernel_rfl)
    (of_decide_eq_true (by kernel_rfl)) (by unfold Func.isWrapper; first | (rw [if_pos (by decide +kernel)]; kernel_rfl) | (rw [if_neg (by decide +kernel)]; exact ⟨rfl, rfl⟩))
    (fun os started H enc _ => lifted os started H enc)

theorem proved : Rows.SplitNoneSaid := over
end Go.Proofs.Ythnjakomkdlglaa.splitNone
