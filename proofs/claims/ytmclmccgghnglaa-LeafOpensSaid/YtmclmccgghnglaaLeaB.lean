/- Keys of rows: as keys of a map, and the order that they are sorted by (code). No condition. -/
import Derived.Test.YtmclmccgghnglaaLcK4
import Derived.Test.YtmclmccgghnglaaSrt
import Derived.Test.YtmclmccgghnglaaOwn
import Derived.Test.YtmclmccgghnglaaReg
import Derived.DeepKeys5
namespace Go.Proofs.Ytmclmccgghnglaa
open Go.RowKit Go.Sort Go.Shelf
open Go.Maps (Keyed)

def kE (k : Int × Int) : List Value := [.int .i64 k.1, .int .i64 k.2]
def kV (k : Int × Int) : Value := .agg #[.int .i64 k.1, .int .i64 k.2]
def I64k (k : Int × Int) : Prop := (-9223372036854775808 ≤ k.1 ∧ k.1 < 9223372036854775808) ∧ (-9223372036854775808 ≤ k.2 ∧ k.2 < 9223372036854775808)
theorem kE_len (k : Int × Int) : (kE k).length = 2 := rfl
theorem kE_one (k : Int × Int) : ∀ u ∈ kE k, u.oneCell' = true := by
  intro u hu
  simp only [kE, List.mem_cons, List.not_mem_nil, or_false] at hu
  rcases hu with rfl | rfl <;> rfl
theorem kV_inj (a b : Int × Int) (h : kV a = kV b) : a = b := by
  obtain ⟨a1, a2⟩ := a; obtain ⟨b1, b2⟩ := b
  simpa [kV] using h
theorem Try.keyLaid : laidOutB Try.prog = true := by kernel_rfl
theorem Try.keyKeyed : Keyed Try.prog 61 :=
  Keyed.of_law (deep_law_gate Try.keyLaid (of_decide_eq_true (by kernel_rfl)) (of_decide_eq_true (by kernel_rfl)) (by kernel_rfl) (by kernel_rfl))
theorem wf_i64l {n : Int} (h : -9223372036854775808 ≤ n ∧ n < 9223372036854775808) : (Lit.int .i64 n).wf = true := by
  simp [Lit.wf, IntKind.min, IntKind.signed, IntKind.bits]
  omega
theorem Try.keyLit {k : Int × Int} (hk : I64k k) : Try.prog.keyLits (Try.prog.types.size + 1) 61 (kV k).cells.toList = some [.int .i64 k.1, .int .i64 k.2] := by
  have h1 := wf_i64l hk.1; have h2 := wf_i64l hk.2
  obtain ⟨d, hd⟩ : ∃ d, Try.prog.types.size = d + 1 := ⟨Try.prog.types.size - 1, by kernel_rfl⟩
  have hc : Try.prog.cellsOf 61 = 2 := by kernel_rfl
  have hi : Try.prog.cellsOf 3 = 1 := by kernel_rfl
  rw [hd]
  unfold Program.keyLits
  rw [Try.underlying61]
  simp only [kV, Value.cells]
  rw [hc]
  simp [Program.keyLits, Try.underlying3, hi, h1, h2]
theorem Try.keyOk : KeyOk Try.prog 61 kV I64k where
  keyed := Try.keyKeyed
  key k hk := by
    unfold keyOf
    rw [Try.underlying61]
    have hc : Try.prog.cellsOf 61 = 2 := by kernel_rfl
    have hf : (Try.prog.keyType 61 && (kV k).formed Try.prog 61) = true := by
      rw [show Try.prog.keyType 61 = true by kernel_rfl]
      simp only [kV, Value.formed, Try.underlying61, hc]
      rfl
    simp only [hf, if_true, Try.keyLit hk]
    exact ⟨_, rfl⟩
  inj := kV_inj
end Go.Proofs.Ytmclmccgghnglaa
