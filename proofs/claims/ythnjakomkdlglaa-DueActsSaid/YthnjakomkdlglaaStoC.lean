/- slices.Clone and maps.Clone as a store calls them: no condition. -/
import Derived.Test.YthnjakomkdlglaaStoD
import Derived.Shelf.SlMaps.Clone
namespace Go.Proofs.Ythnjakomkdlglaa
open Go.RowKit

theorem run_eql_nil_slice' {P : Program} (w : World) (t e : TypeId) (a : Option Addr) (n c : Nat) (h : P.underlying t = some (.slice e)) : (binOp .eql t (.slice a n c) (.slice none 0 0)).run P w = .ok (.bool a.isNone) w := by
  have := Lib.run_eql_slice_nil (P := P) w t e a n c 0 0 h
  simpa using this
theorem tE_ones (l : List Txt) : ∀ x ∈ l, ∀ u ∈ tE x, u.oneCell' = true := fun x _ u hu => by rw [List.mem_singleton.1 hu]; rfl
theorem wasE_ones (l : List WasP) : ∀ x ∈ l, ∀ u ∈ wasE x, u.oneCell' = true := fun x _ u hu => by
  simp only [wasE, List.mem_cons, List.not_mem_nil, or_false] at hu
  rcases hu with rfl | rfl | rfl <;> rfl
theorem pairE_ones (l : List (Txt × Txt)) : ∀ x ∈ l, ∀ u ∈ pairE x, u.oneCell' = true := fun x _ u hu => by
  simp only [pairE, List.mem_cons, List.not_mem_nil, or_false] at hu
  rcases hu with rfl | rfl <;> rfl
/-- What slices.Clone comes to: a row of the call's own. -/
def CloneRet {α : Type} (w : World) (e : TypeId) (enc : α → List Value) (sz : Nat) (l : List α) (x : Ending) (w' : World) : Prop := ∃ v', x = .returned v' ∧ LO w' e enc sz v' l ∧ Below w.heap.size w w' ∧ ∀ k, v'.ownBlock = some k → w.heap.size ≤ k

theorem Try.infoCS : (Try.prog.info? 9).map (fun i => (i.zero, i.size, i.bytes)) = some (some (.string ⟨#[]⟩), 1, 16) := by kernel_rfl
set_option maxHeartbeats 4000000 in
set_option maxRecDepth 100000 in
/-- slices.Clone. -/
theorem clone_keys (w : World) (v : Value) (l : List Txt) (hr : Rd w tE 1 v l) (hlen : l.length < 1099511627776) :
    Calls Try.prog 128 #[v] w (CloneRet w 9 tE 1 l) := by
  obtain ⟨ad, cap, rfl, h1, h2⟩ := hr.shape
  have heq := fun a n c w => run_eql_nil_slice' (P := Try.prog) w 154 9 a n c Try.underlying154
  cases ad with
  | none =>
    have hl : l = [] := by
      by_cases hl : l = []
      · exact hl
      · obtain ⟨ad', cap', e, c1, c2, c3⟩ := hr
        cases e
        obtain ⟨b, off, e, _⟩ := c3 hl
        cases e
    subst hl
    go_enter Try.func128, Try.ntmps128
    go_wp2_with fail
    go_ret
    exact ⟨_, rfl, LO.nil _ _ _ _, Below.refl _ _, fun k e => by cases e⟩
  | some a =>
    have HR := Lib.hid hr
    have hm : ([] : List Txt).length + l.length ≤ maxLen := by unfold maxLen; simp; omega
    have hb : (([] : List Txt).length + l.length) * 16 ≤ 140737488355328 := by simp; omega
    have HM := Lib.hid hm; have HB := Lib.hid hb
    clear hr hm hb
    go_enter Try.func128, Try.ntmps128
    go_wp2_with (at_builtin; refine lo_apps (l2 := l) (enc := tE) rfl _ _ 154 154 rfl Try.underlying154 Try.underlying154 Try.infoCS rfl (by decide) tE_len (tE_ones l) (LO.made (enc := tE) (sz := 1) w #[] 0 0 rfl (Nat.le_refl _) (Nat.zero_le _) (by simp) (by simp)) rfl _ rfl (HR.out.alloc _) HM.out HB.out ?_)
    intro v' w' r1 r2 r3
    have hb1 : Below w.heap.size w (w.alloc (.cells #[] 9)) := (Below.refl _ _).alloc (Nat.le_refl _) _
    have hb2 : Below w.heap.size w w' := hb1.trans (r2.below (B := w.heap.size) (fun q hq e => by have h3 : w.heap.size = q := Option.some.inj e; omega) (by simp))
    have hk : ∀ k, v'.ownBlock = some k → w.heap.size ≤ k := by
      intro k e
      rcases r3 with r3 | ⟨g, e2, hg⟩
      · rw [r3] at e; cases e; exact Nat.le_refl _
      · rw [e] at e2; cases e2; simp at hg; omega
    have R1 := Lib.hid r1; have HB2 := Lib.hid hb2; have HK := Lib.hid hk
    clear r1 r2 r3 hb1 hb2 hk
    go_wp2_with fail
    go_ret
    exact ⟨_, rfl, R1.out, HB2.out, HK.out⟩

theorem Try.infoCW : (Try.prog.info? 142).map (fun i => (i.zero, i.size, i.bytes)) = some (some (.agg #[.string ⟨#[]⟩, .string ⟨#[]⟩, .bool false]), 3, 40) := by kernel_rfl
end Go.Proofs.Ythnjakomkdlglaa
