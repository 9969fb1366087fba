/- The law ProofChecks returns true for every input, and each argument reads afterwards as it read before: no condition. -/
import Derived.Test.YtbfdjjaonjepnaaRows
import Derived.Test.YtbfdjjaonjepnaaPrfK
import Derived.Test.YtbfdjjaonjepnaaRowsOf
import Derived.WalkKit
import Derived.ProofKit
import Derived.OpenShut
import Derived.ShutString
import Derived.ChangeOld
import Derived.Below
import Derived.Test.YtbfdjjaonjepnaaOpen
import Derived.SizedLaws
namespace Go.Proofs.Ytbfdjjaonjepnaa.proofChecks
open Go.ChangeShapes Go.WideShapes Go.ChangeAt Go.RowKit
open Go.ChangeMaps (open_string shut_string)

theorem own : ownKnob Try.prog.godebug = none := by kernel_rfl
theorem laidOut : laidOutB Try.prog = true := by kernel_rfl

set_option maxRecDepth 100000 in
theorem lifted (os : Os) (started : os.Started) (H : Type) (enc : TypeId × Value → H) :
    ReturnsInHanded {} Try.checked os 15 .any (Rows.proofChecksSpec.pre6 enc Try.prog Try.f15 Rows.proofChecksRow.domain false) (Rows.proofChecksSpec.post enc Try.prog Try.f15 false true false false) := by
  refine returnsInHanded_of_change_sized (C := Try.checked) own started (by kernel_rfl) Try.func15
    (ChangeSpec.witness6 (enc := enc) (C := Try.checked) false ⟨#[], #[.agg #[.int .i64 0, .int .u8 0, .int .u8 0, .int .u8 0, .int .u8 0, .int .u8 0, .int .u8 0, .int .u8 0, .int .u8 0, .int .u8 0, .int .u8 0, .int .u8 0, .int .u8 0, .int .u8 0, .int .u8 0, .int .u8 0, .int .u8 0, .int .u8 0, .int .u8 0, .int .u8 0, .int .u8 0, .int .u8 0, .int .u8 0, .int .u8 0, .int .u8 0, .int .u8 0, .int .u8 0, .int .u8 0, .int .u8 0, .int .u8 0, .int .u8 0, .int .u8 0, .int .u8 0, .slice none 0 0, .int .i64 0, .slice none 0 0]], []⟩ 8 (by kernel_rfl) (by kernel_rfl) (by kernel_rfl) (by kernel_rfl)) ?_
  intro W base args ds gs before hval0 hW hcnd hsz _
  have hval : ∀ (j : Nat) t v, Try.f15.params[j]? = some t → args[j]? = some v → Value.okWide Try.prog W .any base t v := hval0
  have hW' := hW
  obtain ⟨p, q, hA0, hV, rfl, hfz, hnd⟩ := hW
  have hA : DataW.TrodAll enc Try.prog W 0 (fun _ => true) true Try.f15.params.toList args.toList ds p := hA0
  rw [Try.params15] at hA hval hsz
  obtain ⟨v0, vs0, d0, ds0, p0, q0, hargs, rfl, rfl, h0, r0⟩ := trodAll_cons hA
  obtain ⟨rfl, rfl, rfl⟩ := trodAll_nil r0
  obtain rfl : args = #[v0] := by cases args; simp_all
  obtain ⟨rfl, rfl⟩ := trodVars_none hV
  have lt0 : ∀ x ∈ p0, x.block < W.heap.size := by obtain ⟨m, hm⟩ := h0; exact DataW.trod_lt m _ _ _ hm
  have o0 := hval 0 95 v0 rfl rfl
  have sz0 : Sized Try.prog 95 d0 := fun n hn => (by have := List.all_eq_true.1 hsz n (DataW.weights_mem_each (j := 0) rfl rfl n hn); exact of_decide_eq_true this)
  have hcall : Calls Try.prog 15 #[v0] W (Ret W (.bool true)) := by
    clear hA0 hval0 hW' hsz
    obtain ⟨cs0, e0⟩ : ∃ cs, v0 = .agg cs := by
      obtain ⟨cs, hv, _⟩ := okWide_struct Try.underlying95 o0
      exact ⟨cs, hv⟩
    subst e0
    obtain ⟨k0, i0, root0, leaf0, pp0, vb0, vp0, e0, hr0, hi0, hb0, hbz0, hp0, hpz0, ha0⟩ : ∃ (k i : Int) (root leaf : List UInt8) (p : List (List UInt8)) (vb vp : Value), cs0 = (askL k root vb i vp).toArray ∧ root.length = 32 ∧ (-9223372036854775808 ≤ i ∧ i < 9223372036854775808) ∧ Rd W u8E 1 vb leaf ∧ leaf.length ≤ 140737488351232 ∧ Rd W hE 32 vp p ∧ p.length ≤ 4398046510976 ∧ All32 p := by
      obtain ⟨fuel, hf⟩ := h0
      obtain ⟨k, i, root, leaf, p, vb, vp, hl, h1, h2, h3, h4, h5, h6, h7⟩ := open_asked Try.underlying95 ⟨rfl, rfl⟩ ⟨rfl, rfl⟩ ⟨rfl, rfl⟩ ⟨rfl, rfl⟩ ⟨rfl, rfl⟩ Try.underlying3 Try.underlying48 Try.underlying43 Try.underlying87 Try.underlying5 (by kernel_rfl) (by kernel_rfl) (by kernel_rfl) (by kernel_rfl) (by kernel_rfl) (by kernel_rfl) (by kernel_rfl) (by kernel_rfl) hf sz0
      refine ⟨k, i, root, leaf, p, vb, vp, ?_, h1, h2, h3, h4, h5, h6, h7⟩
      rw [← Array.toArray_toList (xs := cs0)]
      exact congrArg List.toArray hl
    subst e0
    exact law_checks k0 i0 root0 leaf0 pp0 vb0 vp0 W hr0 hi0.2 hb0 hp0 ha0
  clear hA0 hval0
  refine hcall.mono fun e W' ⟨he, bel⟩ => ?_
  subst he
  exact ⟨_, rfl, _, _, _, [], _, [], hW', trodAll_mk1 (shut_bool Try.underlying4 _), (trodAll_cons_mk (Below.trod laidOut (by kernel_rfl) (of_decide_eq_true (by kernel_rfl)) h0 bel lt0) trodAll_mk0), rfl, bel.frame _, fun h => by cases h⟩

theorem over : Rows.proofChecksRow.holds Try.pinned (OpenSpec.ofChange Rows.proofChecksSpec) :=
  OpenClaim.holds_of_wide 15 Try.f15 rfl rfl rfl rfl rfl rfl rfl ⟨rfl, rfl, rfl, rfl, rfl⟩ rfl rfl rfl rfl rfl (by kernel_rfl) Try.func15 (by kernel_rfl)
    (of_decide_eq_true (by kernel_rfl)) (by unfold Func.isWrapper; first | (rw [if_pos (by decide +kernel)]; kernel_rfl) | (rw [if_neg (by decide +kernel)]; exact ⟨rfl, rfl⟩))
    (fun os started H enc _ => lifted os started H enc)

theorem proved : Rows.ProofChecksSaid := over
end Go.Proofs.Ytbfdjjaonjepnaa.proofChecks
