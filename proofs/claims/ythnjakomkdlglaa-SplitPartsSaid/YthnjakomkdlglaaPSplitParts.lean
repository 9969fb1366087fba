/- The law SplitParts returns true for every input, and each argument reads afterwards as it read before: no condition. -/
import Derived.Test.YthnjakomkdlglaaRows
import Derived.Test.YthnjakomkdlglaaSplC
import Derived.Test.YthnjakomkdlglaaOpenU
import Derived.Test.YthnjakomkdlglaaOpen
import Derived.Test.YthnjakomkdlglaaRowsOf
import Derived.WalkKit
import Derived.ProofKit
import Derived.OpenShut
import Derived.ShutString
import Derived.ChangeOld
import Derived.Below
import Derived.Test.YthnjakomkdlglaaOpen
import Derived.SizedLaws
namespace Go.Proofs.Ythnjakomkdlglaa.splitParts
open Go.ChangeShapes Go.WideShapes Go.ChangeAt Go.RowKit
open Go.ChangeMaps (open_string shut_string)

theorem own : ownKnob Try.prog.godebug = none := by kernel_rfl
theorem laidOut : laidOutB Try.prog = true := by kernel_rfl

set_option maxRecDepth 100000 in
theorem lifted (os : Os) (started : os.Started) (H : Type) (enc : TypeId × Value → H) :
    ReturnsInHanded {} Try.checked os 3 .any (Rows.splitPartsSpec.pre6 enc Try.prog Try.f3 Rows.splitPartsRow.domain false) (Rows.splitPartsSpec.post enc Try.prog Try.f3 false true false false) := by
  refine returnsInHanded_of_change_sized (C := Try.checked) own started (by kernel_rfl) Try.func3
    (ChangeSpec.witness6 (enc := enc) (C := Try.checked) false ⟨#[], #[.int .i64 0, .agg #[.int .u64 0, .int .u64 0, .int .u64 0, .int .u64 0]], []⟩ 8 (by kernel_rfl) (by kernel_rfl) (by kernel_rfl) (by kernel_rfl)) ?_
  intro W base args ds gs before hval0 hW hcnd hsz _
  have hval : ∀ (j : Nat) t v, Try.f3.params[j]? = some t → args[j]? = some v → Value.okWide Try.prog W .any base t v := hval0
  have hW' := hW
  obtain ⟨p, q, hA0, hV, rfl, hfz, hnd⟩ := hW
  have hA : DataW.TrodAll enc Try.prog W 0 (fun _ => true) true Try.f3.params.toList args.toList ds p := hA0
  rw [Try.params3] at hA hval hsz
  obtain ⟨v0, vs0, d0, ds0, p0, q0, hargs, rfl, rfl, h0, r0⟩ := trodAll_cons hA
  obtain ⟨v1, vs1, d1, ds1, p1, q1, rfl, rfl, rfl, h1, r1⟩ := trodAll_cons r0
  obtain ⟨rfl, rfl, rfl⟩ := trodAll_nil r1
  obtain rfl : args = #[v0, v1] := by cases args; simp_all
  obtain ⟨rfl, rfl⟩ := trodVars_none hV
  have lt0 : ∀ x ∈ p0, x.block < W.heap.size := by obtain ⟨m, hm⟩ := h0; exact DataW.trod_lt m _ _ _ hm
  have o0 := hval 0 3 v0 rfl rfl
  have sz0 : Sized Try.prog 3 d0 := fun n hn => (by have := List.all_eq_true.1 hsz n (DataW.weights_mem_each (j := 0) rfl rfl n hn); exact of_decide_eq_true this)
  have lt1 : ∀ x ∈ p1, x.block < W.heap.size := by obtain ⟨m, hm⟩ := h1; exact DataW.trod_lt m _ _ _ hm
  have o1 := hval 1 24 v1 rfl rfl
  have sz1 : Sized Try.prog 24 d1 := fun n hn => (by have := List.all_eq_true.1 hsz n (DataW.weights_mem_each (j := 1) rfl rfl n hn); exact of_decide_eq_true this)
  have hcall : Calls Try.prog 3 #[v0, v1] W (Ret W (.bool true)) := by
    clear hA0 hval0 hW' hsz
    obtain ⟨a0, e0, _, _, w0⟩ := open_int Try.underlying3 o0 h0
    subst e0
    obtain ⟨cs1, e1⟩ := okWide_agg Try.underlying24 o1
    subst e1
    obtain ⟨u1, e1, ub1⟩ : ∃ n : Nat, cs1 = #[.int .u64 (uw0 n), .int .u64 (uw1 n), .int .u64 (uw2 n), .int .u64 (uw3 n)] ∧ n < uMax := by
      obtain ⟨fuel, hf⟩ := h1
      obtain ⟨n, hl, hn⟩ := open_u Try.underlying24 Try.underlying22 (by kernel_rfl) (by kernel_rfl) hf
      refine ⟨n, ?_, hn⟩
      rw [← Array.toArray_toList (xs := cs1)]
      exact congrArg List.toArray hl
    subst e1
    exact parts34_any ub1 _
  clear hA0 hval0
  refine hcall.mono fun e W' ⟨he, bel⟩ => ?_
  subst he
  exact ⟨_, rfl, _, _, _, [], _, [], hW', trodAll_mk1 (shut_bool Try.underlying4 _), (trodAll_cons_mk (Below.trod laidOut (by kernel_rfl) (of_decide_eq_true (by kernel_rfl)) h0 bel lt0) (trodAll_cons_mk (Below.trod laidOut (by kernel_rfl) (of_decide_eq_true (by kernel_rfl)) h1 bel lt1) trodAll_mk0)), rfl, bel.frame _, fun h => by cases h⟩

theorem over : Rows.splitPartsRow.holds Try.pinned (OpenSpec.ofChange Rows.splitPartsSpec) :=
  OpenClaim.holds_of_wide 3 Try.f3 rfl rfl rfl rfl rfl rfl rfl ⟨rfl, rfl, rfl, rfl, rfl⟩ rfl rfl rfl rfl rfl (by kernel_rfl) Try.func3 (by kernel_rfl)
    (of_decide_eq_true (by kernel_rfl)) (by unfold Func.isWrapper; first | (rw [if_pos (by decide +kernel)]; kernel_rfl) | (rw [if_neg (by decide +kernel)]; exact ⟨rfl, rfl⟩))
    (fun os started H enc _ => lifted os started H enc)

theorem proved : Rows.SplitPartsSaid := over
end Go.Proofs.Ythnjakomkdlglaa.splitParts
