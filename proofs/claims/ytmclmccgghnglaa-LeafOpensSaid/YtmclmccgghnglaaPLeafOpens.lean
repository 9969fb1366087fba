/- The law LeafOpens returns true for every input, and each argument reads afterwards as it read before: no condition. -/
import Derived.Test.YtmclmccgghnglaaRows
import Derived.Test.YtmclmccgghnglaaLeaT
import Derived.Test.YtmclmccgghnglaaLcK18
import Derived.Test.YtmclmccgghnglaaOpen
import Derived.Test.YtmclmccgghnglaaRowsOf
import Derived.WalkKit
import Derived.ProofKit
import Derived.OpenShut
import Derived.ShutString
import Derived.ChangeOld
import Derived.Below
import Derived.Test.YtmclmccgghnglaaOpen
import Derived.SizedLaws
namespace Go.Proofs.Ytmclmccgghnglaa.leafOpens
open Go.ChangeShapes Go.WideShapes Go.ChangeAt Go.RowKit
open Go.ChangeMaps (open_string shut_string)

theorem own : ownKnob Try.prog.godebug = none := by kernel_rfl
theorem laidOut : laidOutB Try.prog = true := by kernel_rfl

set_option maxRecDepth 100000 in
theorem lifted (os : Os) (started : os.Started) (H : Type) (enc : TypeId × Value → H) :
    ReturnsInHanded {} Try.checked os 3 .any (Rows.leafOpensSpec.pre6 enc Try.prog Try.f3 Rows.leafOpensRow.domain false) (Rows.leafOpensSpec.post enc Try.prog Try.f3 false true false false) := by
  refine returnsInHanded_of_change_sized (C := Try.checked) own started (by kernel_rfl) Try.func3
    (ChangeSpec.witness6 (enc := enc) (C := Try.checked) false ⟨#[], #[.agg #[.int .i64 0, .int .i64 0, .int .i64 0, .int .u8 0, .int .u8 0, .int .u8 0, .int .u8 0, .int .u8 0, .int .u8 0, .int .u8 0, .int .u8 0, .int .u8 0, .int .u8 0, .int .u8 0, .int .u8 0, .int .u8 0, .int .u8 0, .int .u8 0, .int .u8 0, .int .u8 0, .int .u8 0, .int .u8 0, .int .u8 0, .int .u8 0, .int .u8 0, .int .u8 0, .int .u8 0, .int .u8 0, .int .u8 0, .int .u8 0, .int .u8 0, .int .u8 0, .int .u8 0, .int .u8 0, .int .u8 0, .slice none 0 0, .slice none 0 0, .int .i64 0], .agg #[.int .u8 0, .int .u8 0, .int .u8 0, .int .u8 0, .int .u8 0, .int .u8 0, .int .u8 0, .int .u8 0, .int .u8 0, .int .u8 0, .int .u8 0, .int .u8 0, .int .u8 0, .int .u8 0, .int .u8 0, .int .u8 0, .int .u8 0, .int .u8 0, .int .u8 0, .int .u8 0, .int .u8 0, .int .u8 0, .int .u8 0, .int .u8 0, .int .u8 0, .int .u8 0, .int .u8 0, .int .u8 0, .int .u8 0, .int .u8 0, .int .u8 0, .int .u8 0]], []⟩ 8 (by kernel_rfl) (by kernel_rfl) (by kernel_rfl) (by kernel_rfl)) ?_
  intro W base args ds gs before hval0 hW hcnd hsz _
  have hval : ∀ (j : Nat) t v, Try.f3.params[j]? = some t → args[j]? = some v → Value.okWide Try.prog W .any base t v := hval0
  have hW' := hW
  obtain ⟨p, q, hA0, hV, rfl, hfz, hnd⟩ := hW
  have hA : DataW.TrodAll enc Try.prog W 0 (fun _ => true) true Try.f3.params.toList args.toList ds p := hA0
  rw [Try.params3] at hA hval hsz
  obtain ⟨v0, vs0, d0, ds0, p0, q0, hargs, rfl, rfl, h0, r0⟩ := trodAll_cons hA
  obtain ⟨v1, vs1, d1, ds1, p1, q1, rfl, rfl, rfl, h1, r1⟩ := trodAll_cons r0
  obtain ⟨rfl, rfl, rfl⟩ := trodAll_nil r1
  obtain rfl : args = #[v0, v1] := by cases args; simp_all
  obtain ⟨rfl, rfl⟩ := trodVars_none hV
  have lt0 : ∀ x ∈ p0, x.block < W.heap.size := by obtain ⟨m, hm⟩ := h0; exact DataW.trod_lt m _ _ _ hm
  have o0 := hval 0 27 v0 rfl rfl
  have sz0 : Sized Try.prog 27 d0 := fun n hn => (by have := List.all_eq_true.1 hsz n (DataW.weights_mem_each (j := 0) rfl rfl n hn); exact of_decide_eq_true this)
  have lt1 : ∀ x ∈ p1, x.block < W.heap.size := by obtain ⟨m, hm⟩ := h1; exact DataW.trod_lt m _ _ _ hm
  have o1 := hval 1 23 v1 rfl rfl
  have sz1 : Sized Try.prog 23 d1 := fun n hn => (by have := List.all_eq_true.1 hsz n (DataW.weights_mem_each (j := 1) rfl rfl n hn); exact of_decide_eq_true this)
  have hcall : Calls Try.prog 3 #[v0, v1] W (Ret W (.bool true)) := by
    clear hA0 hval0 hW' hsz
    obtain ⟨cs0, e0⟩ : ∃ cs, v0 = .agg cs := by
      obtain ⟨cs, hv, _⟩ := okWide_struct Try.underlying27 o0
      exact ⟨cs, hv⟩
    subst e0
    obtain ⟨c0, hc0, ok0⟩ : ∃ c : CCl, ClAt W (.agg cs0) c ∧ COk c := by
      obtain ⟨fuel, hf⟩ := h0
      obtain ⟨c, h1, h2⟩ := open_claim hf sz0
      exact ⟨c, by simpa [Value.cells] using h1, h2⟩
    obtain ⟨cs1, e1⟩ := okWide_agg Try.underlying23 o1
    subst e1
    obtain ⟨l1, e1, n1⟩ : ∃ l : List UInt8, cs1 = c8 l ∧ l.length = 32 := by
      obtain ⟨fuel, hf⟩ := h1
      obtain ⟨l, hl, hn, hw⟩ := open_arr_ints Try.underlying23 Try.underlying5 (by kernel_rfl) (by kernel_rfl) hf
      refine ⟨l.map fun n => UInt8.ofNat n.toNat, ?_, by simpa using hn⟩
      rw [← Array.toArray_toList (xs := cs1), show cs1.toList = l.map (Value.int .u8) from hl, c8, List.map_map]
      refine congrArg List.toArray (List.map_congr_left fun n hn => ?_)
      exact (byteV_of n (wf_u8 (hw n hn)).1 (wf_u8 (hw n hn)).2).symm
    subst e1
    exact lopens_any W _ c0 l1 hc0 ok0 n1
  clear hA0 hval0
  refine hcall.mono fun e W' ⟨he, bel⟩ => ?_
  subst he
  exact ⟨_, rfl, _, _, _, [], _, [], hW', trodAll_mk1 (shut_bool Try.underlying4 _), (trodAll_cons_mk (Below.trod laidOut (by kernel_rfl) (of_decide_eq_true (by kernel_rfl)) h0 bel lt0) (trodAll_cons_mk (Below.trod laidOut (by kernel_rfl) (of_decide_eq_true (by kernel_rfl)) h1 bel lt1) trodAll_mk0)), rfl, bel.frame _, fun h => by cases h⟩

theorem over : Rows.leafOpensRow.holds Try.pinned (OpenSpec.ofChange Rows.leafOpensSpec) :=
  OpenClaim.holds_of_wide 3 Try.f3 rfl rfl rfl rfl rfl rfl rfl ⟨rfl, rfl, rfl, rfl, rfl⟩ rfl rfl rfl rfl rfl (by kernel_rfl) Try.func3 (by kernel_rfl)
    (of_decide_eq_true (by kernel_rfl)) (by unfold Func.isWrapper; first | (rw [if_pos (by decide +kernel)]; kernel_rfl) | (rw [if_neg (by decide +kernel)]; exact ⟨rfl, rfl⟩))
    (fun os started H enc _ => lifted os started H enc)

theorem proved : Rows.LeafOpensSaid := over
end Go.Proofs.Ytmclmccgghnglaa.leafOpens
