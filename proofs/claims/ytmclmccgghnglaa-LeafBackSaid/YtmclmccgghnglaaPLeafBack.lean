/- The law LeafBack returns true for every input, and each argument reads afterwards as it read before: no condition. -/
import Derived.Test.YtmclmccgghnglaaRows
import Derived.Test.YtmclmccgghnglaaLeaR
import Derived.Test.YtmclmccgghnglaaOpenL
import Derived.Test.YtmclmccgghnglaaOpen
import Derived.Test.YtmclmccgghnglaaRowsOf
import Derived.WalkKit
import Derived.ProofKit
import Derived.OpenShut
import Derived.ShutString
import Derived.ChangeOld
import Derived.Below
import Derived.Test.YtmclmccgghnglaaOpen
import Derived.SizedLaws
namespace Go.Proofs.Ytmclmccgghnglaa.leafBack
open Go.ChangeShapes Go.WideShapes Go.ChangeAt Go.RowKit
open Go.ChangeMaps (open_string shut_string)

theorem own : ownKnob Try.prog.godebug = none := by kernel_rfl
theorem laidOut : laidOutB Try.prog = true := by kernel_rfl

set_option maxRecDepth 100000 in
theorem lifted (os : Os) (started : os.Started) (H : Type) (enc : TypeId × Value → H) :
    ReturnsInHanded {} Try.checked os 4 .any (Rows.leafBackSpec.pre6 enc Try.prog Try.f4 Rows.leafBackRow.domain false) (Rows.leafBackSpec.post enc Try.prog Try.f4 false true false false) := by
  refine returnsInHanded_of_change_sized (C := Try.checked) own started (by kernel_rfl) Try.func4
    (ChangeSpec.witness6 (enc := enc) (C := Try.checked) false ⟨#[], #[.slice none 0 0, .int .u64 0], []⟩ 8 (by kernel_rfl) (by kernel_rfl) (by kernel_rfl) (by kernel_rfl)) ?_
  intro W base args ds gs before hval0 hW hcnd hsz _
  have hval : ∀ (j : Nat) t v, Try.f4.params[j]? = some t → args[j]? = some v → Value.okWide Try.prog W .any base t v := hval0
  have hW' := hW
  obtain ⟨p, q, hA0, hV, rfl, hfz, hnd⟩ := hW
  have hA : DataW.TrodAll enc Try.prog W 0 (fun _ => true) true Try.f4.params.toList args.toList ds p := hA0
  rw [Try.params4] at hA hval hsz
  obtain ⟨v0, vs0, d0, ds0, p0, q0, hargs, rfl, rfl, h0, r0⟩ := trodAll_cons hA
  obtain ⟨v1, vs1, d1, ds1, p1, q1, rfl, rfl, rfl, h1, r1⟩ := trodAll_cons r0
  obtain ⟨rfl, rfl, rfl⟩ := trodAll_nil r1
  obtain rfl : args = #[v0, v1] := by cases args; simp_all
  obtain ⟨rfl, rfl⟩ := trodVars_none hV
  have lt0 : ∀ x ∈ p0, x.block < W.heap.size := by obtain ⟨m, hm⟩ := h0; exact DataW.trod_lt m _ _ _ hm
  have o0 := hval 0 42 v0 rfl rfl
  have sz0 : Sized Try.prog 42 d0 := fun n hn => (by have := List.all_eq_true.1 hsz n (DataW.weights_mem_each (j := 0) rfl rfl n hn); exact of_decide_eq_true this)
  have lt1 : ∀ x ∈ p1, x.block < W.heap.size := by obtain ⟨m, hm⟩ := h1; exact DataW.trod_lt m _ _ _ hm
  have o1 := hval 1 43 v1 rfl rfl
  have sz1 : Sized Try.prog 43 d1 := fun n hn => (by have := List.all_eq_true.1 hsz n (DataW.weights_mem_each (j := 1) rfl rfl n hn); exact of_decide_eq_true this)
  have hcall : Calls Try.prog 4 #[v0, v1] W (Ret W (.bool true)) := by
    clear hA0 hval0 hW' hsz
    obtain ⟨l0, rd0⟩ : ∃ l, Rd W rowE 6 v0 l ∧ (∀ r ∈ l, ROk r) ∧ l.length ≤ 140737488351232 := by
      obtain ⟨ad, len, cap, e⟩ := okWide_slice Try.underlying42 o0
      subst e
      obtain ⟨fuel, hf⟩ := h0
      obtain ⟨v, l, e, r⟩ := open_lrows hf sz0
      have e2 : v = .slice ad len cap := by simpa [Value.cells] using e.symm
      subst e2
      exact ⟨l, r⟩
    obtain ⟨a1, e1, _, _, w1⟩ := open_int Try.underlying43 o1 h1
    subst e1
    exact lback_any W v0 l0 a1 rd0.1 rd0.2.1 (wf_u64 w1).1 (wf_u64 w1).2 rd0.2.2
  clear hA0 hval0
  refine hcall.mono fun e W' ⟨he, bel⟩ => ?_
  subst he
  exact ⟨_, rfl, _, _, _, [], _, [], hW', trodAll_mk1 (shut_bool Try.underlying4 _), (trodAll_cons_mk (Below.trod laidOut (by kernel_rfl) (of_decide_eq_true (by kernel_rfl)) h0 bel lt0) (trodAll_cons_mk (Below.trod laidOut (by kernel_rfl) (of_decide_eq_true (by kernel_rfl)) h1 bel lt1) trodAll_mk0)), rfl, bel.frame _, fun h => by cases h⟩

theorem over : Rows.leafBackRow.holds Try.pinned (OpenSpec.ofChange Rows.leafBackSpec) :=
  OpenClaim.holds_of_wide 4 Try.f4 rfl rfl rfl rfl rfl rfl rfl ⟨rfl, rfl, rfl, rfl, rfl⟩ rfl rfl rfl rfl rfl (by kernel_rfl) Try.func4 (by kernel_rfl)
    (of_decide_eq_true (by kernel_rfl)) (by unfold Func.isWrapper; first | (rw [if_pos (by decide +kernel)]; kernel_rfl) | (rw [if_neg (by decide +kernel)]; exact ⟨rfl, rfl⟩))
    (fun os started H enc _ => lifted os started H enc)

theorem proved : Rows.LeafBackSaid := over
end Go.Proofs.Ytmclmccgghnglaa.leafBack
