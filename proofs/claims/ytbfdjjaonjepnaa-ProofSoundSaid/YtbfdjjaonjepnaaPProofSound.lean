/- The law ProofSound returns true for every input, and each argument reads afterwards as it read before: no condition. -/
import Derived.Test.YtbfdjjaonjepnaaRows
import Derived.Test.YtbfdjjaonjepnaaPrfT
import Derived.Test.YtbfdjjaonjepnaaRowsOf
import Derived.WalkKit
import Derived.ProofKit
import Derived.OpenShut
import Derived.ShutString
import Derived.ChangeOld
import Derived.Below
import Derived.Test.YtbfdjjaonjepnaaOpen
import Derived.SizedLaws
namespace Go.Proofs.Ytbfdjjaonjepnaa.proofSound
open Go.ChangeShapes Go.WideShapes Go.ChangeAt Go.RowKit
open Go.ChangeMaps (open_string shut_string)

theorem own : ownKnob Try.prog.godebug = none := by kernel_rfl
theorem laidOut : laidOutB Try.prog = true := by kernel_rfl

set_option maxRecDepth 100000 in
theorem lifted (os : Os) (started : os.Started) (H : Type) (enc : TypeId × Value → H) :
    ReturnsInHanded {} Try.checked os 17 .any (Rows.proofSoundSpec.pre6 enc Try.prog Try.f17 Rows.proofSoundRow.domain false) (Rows.proofSoundSpec.post enc Try.prog Try.f17 false true false false) := by
  refine returnsInHanded_of_change_sized (C := Try.checked) own started (by kernel_rfl) Try.func17
    (ChangeSpec.witness6 (enc := enc) (C := Try.checked) false ⟨#[], #[.int .u8 0, .slice none 0 0, .agg #[.int .i64 0, .int .u8 0, .int .u8 0, .int .u8 0, .int .u8 0, .int .u8 0, .int .u8 0, .int .u8 0, .int .u8 0, .int .u8 0, .int .u8 0, .int .u8 0, .int .u8 0, .int .u8 0, .int .u8 0, .int .u8 0, .int .u8 0, .int .u8 0, .int .u8 0, .int .u8 0, .int .u8 0, .int .u8 0, .int .u8 0, .int .u8 0, .int .u8 0, .int .u8 0, .int .u8 0, .int .u8 0, .int .u8 0, .int .u8 0, .int .u8 0, .int .u8 0, .int .u8 0, .slice none 0 0, .int .i64 0, .slice none 0 0]], []⟩ 8 (by kernel_rfl) (by kernel_rfl) (by kernel_rfl) (by kernel_rfl)) ?_
  intro W base args ds gs before hval0 hW hcnd hsz _
  have hval : ∀ (j : Nat) t v, Try.f17.params[j]? = some t → args[j]? = some v → Value.okWide Try.prog W .any base t v := hval0
  have hW' := hW
  obtain ⟨p, q, hA0, hV, rfl, hfz, hnd⟩ := hW
  have hA : DataW.TrodAll enc Try.prog W 0 (fun _ => true) true Try.f17.params.toList args.toList ds p := hA0
  rw [Try.params17] at hA hval hsz
  obtain ⟨v0, vs0, d0, ds0, p0, q0, hargs, rfl, rfl, h0, r0⟩ := trodAll_cons hA
  obtain ⟨v1, vs1, d1, ds1, p1, q1, rfl, rfl, rfl, h1, r1⟩ := trodAll_cons r0
  obtain ⟨v2, vs2, d2, ds2, p2, q2, rfl, rfl, rfl, h2, r2⟩ := trodAll_cons r1
  obtain ⟨rfl, rfl, rfl⟩ := trodAll_nil r2
  obtain rfl : args = #[v0, v1, v2] := by cases args; simp_all
  obtain ⟨rfl, rfl⟩ := trodVars_none hV
  have lt0 : ∀ x ∈ p0, x.block < W.heap.size := by obtain ⟨m, hm⟩ := h0; exact DataW.trod_lt m _ _ _ hm
  have o0 := hval 0 5 v0 rfl rfl
  have sz0 : Sized Try.prog 5 d0 := fun n hn => (by have := List.all_eq_true.1 hsz n (DataW.weights_mem_each (j := 0) rfl rfl n hn); exact of_decide_eq_true this)
  have lt1 : ∀ x ∈ p1, x.block < W.heap.size := by obtain ⟨m, hm⟩ := h1; exact DataW.trod_lt m _ _ _ hm
  have o1 := hval 1 66 v1 rfl rfl
  have sz1 : Sized Try.prog 66 d1 := fun n hn => (by have := List.all_eq_true.1 hsz n (DataW.weights_mem_each (j := 1) rfl rfl n hn); exact of_decide_eq_true this)
  have lt2 : ∀ x ∈ p2, x.block < W.heap.size := by obtain ⟨m, hm⟩ := h2; exact DataW.trod_lt m _ _ _ hm
  have o2 := hval 2 95 v2 rfl rfl
  have sz2 : Sized Try.prog 95 d2 := fun n hn => (by have := List.all_eq_true.1 hsz n (DataW.weights_mem_each (j := 2) rfl rfl n hn); exact of_decide_eq_true this)
  have hcall : Calls Try.prog 17 #[v0, v1, v2] W (Ret W (.bool true)) := by
    clear hA0 hval0 hW' hsz
    obtain ⟨a0, e0, _, _, w0⟩ := open_int Try.underlying5 o0 h0
    subst e0
    obtain ⟨l1, rd1, z1⟩ : ∃ l, Texts W v1 l ∧ ∀ b ∈ l, b.length ≤ 140737488355328 := by
      obtain ⟨ad, len, cap, e⟩ := okWide_slice Try.underlying66 o1
      subst e
      obtain ⟨fuel, hf⟩ := h1
      obtain ⟨v, l, e, r, z⟩ := open_texts Try.underlying66 Try.underlying43 Try.underlying5 (by kernel_rfl) (by kernel_rfl) (by kernel_rfl) hf sz1
      have e2 : v = .slice ad len cap := by simpa [Value.cells] using e.symm
      subst e2
      exact ⟨l, r, z⟩
    obtain ⟨cs2, e2⟩ : ∃ cs, v2 = .agg cs := by
      obtain ⟨cs, hv, _⟩ := okWide_struct Try.underlying95 o2
      exact ⟨cs, hv⟩
    subst e2
    obtain ⟨k2, i2, root2, leaf2, pp2, vb2, vp2, e2, hr2, hi2, hb2, hbz2, hp2, hpz2, ha2⟩ : ∃ (k i : Int) (root leaf : List UInt8) (p : List (List UInt8)) (vb vp : Value), cs2 = (askL k root vb i vp).toArray ∧ root.length = 32 ∧ (-9223372036854775808 ≤ i ∧ i < 9223372036854775808) ∧ Rd W u8E 1 vb leaf ∧ leaf.length ≤ 140737488351232 ∧ Rd W hE 32 vp p ∧ p.length ≤ 4398046510976 ∧ All32 p := by
      obtain ⟨fuel, hf⟩ := h2
      obtain ⟨k, i, root, leaf, p, vb, vp, hl, h1, h2, h3, h4, h5, h6, h7⟩ := open_asked Try.underlying95 ⟨rfl, rfl⟩ ⟨rfl, rfl⟩ ⟨rfl, rfl⟩ ⟨rfl, rfl⟩ ⟨rfl, rfl⟩ Try.underlying3 Try.underlying48 Try.underlying43 Try.underlying87 Try.underlying5 (by kernel_rfl) (by kernel_rfl) (by kernel_rfl) (by kernel_rfl) (by kernel_rfl) (by kernel_rfl) (by kernel_rfl) (by kernel_rfl) hf sz2
      refine ⟨k, i, root, leaf, p, vb, vp, ?_, h1, h2, h3, h4, h5, h6, h7⟩
      rw [← Array.toArray_toList (xs := cs2)]
      exact congrArg List.toArray hl
    subst e2
    exact law_sound a0 k2 i2 l1 root2 leaf2 pp2 v1 vb2 vp2 W rd1 (fun b hb => Nat.le_trans (z1 b hb) (by decide)) (wf_u8 w0).1 hr2 hi2.2 hb2 hp2 ha2
  clear hA0 hval0
  refine hcall.mono fun e W' ⟨he, bel⟩ => ?_
  subst he
  exact ⟨_, rfl, _, _, _, [], _, [], hW', trodAll_mk1 (shut_bool Try.underlying4 _), (trodAll_cons_mk (Below.trod laidOut (by kernel_rfl) (of_decide_eq_true (by kernel_rfl)) h0 bel lt0) (trodAll_cons_mk (Below.trod laidOut (by kernel_rfl) (of_decide_eq_true (by kernel_rfl)) h1 bel lt1) (trodAll_cons_mk (Below.trod laidOut (by kernel_rfl) (of_decide_eq_true (by kernel_rfl)) h2 bel lt2) trodAll_mk0))), rfl, bel.frame _, fun h => by cases h⟩

theorem over : Rows.proofSoundRow.holds Try.pinned (OpenSpec.ofChange Rows.proofSoundSpec) :=
  OpenClaim.holds_of_wide 17 Try.f17 rfl rfl rfl rfl rfl rfl rfl ⟨rfl, rfl, rfl, rfl, rfl⟩ rfl rfl rfl rfl rfl (by kernel_rfl) Try.func17 (by kernel_rfl)
    (of_decide_eq_true (by kernel_rfl)) (by unfold Func.isWrapper; first | (rw [if_pos (by decide +kernel)]; kernel_rfl) | (rw [if_neg (by decide +kernel)]; exact ⟨rfl, rfl⟩))
    (fun os started H enc _ => lifted os started H enc)

theorem proved : Rows.ProofSoundSaid := over
end Go.Proofs.Ytbfdjjaonjepnaa.proofSound
