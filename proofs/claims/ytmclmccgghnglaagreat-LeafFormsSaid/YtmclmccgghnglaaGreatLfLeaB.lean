/- Keys of rows: as keys of a map, and the order that they are sorted by (code). No condition. -/
import Derived.Test.YtmclmccgghnglaaGreatLf4
import Derived.Test.YtmclmccgghnglaaGreatLfSrt
import Derived.Test.YtmclmccgghnglaaGreatLfOwn
import Derived.Test.YtmclmccgghnglaaGreatLfReg
import Derived.DeepKeys5
namespace Go.Proofs.YtmclmccgghnglaaGreat
open Go.RowKit Go.Sort Go.Shelf
open Go.Maps (Keyed)

def kE (k : Int × Int) : List Value := [.int .i64 k.1, .int .i64 k.2]
def kV (k : Int × Int) : Value := .agg #[.int .i64 k.1, .int .i64 k.2]
def I64k (k : Int × Int) : Prop := (-9223372036854775808 ≤ k.1 ∧ k.1 < 9223372036854775808) ∧ (-9223372036854775808 ≤ k.2 ∧ k.2 < 9223372036854775808)
theorem kE_len (k : Int × Int) : (kE k).length = 2 := rfl
theorem kE_one (k : Int × Int) : ∀ u ∈ kE k, u.oneCell' = true := by
  intro u hu
  simp only [kE, List.mem_cons, List.not_mem_nil, or_false] at hu
  rcases hu with rfl | rfl <;> rfl
theorem kV_inj (a b : Int × Int) (h : kV a = kV b) : a = b := by
  obtain ⟨a1, a2⟩ := a; obtain ⟨b1, b2⟩ := b
  simpa [kV] using h
theorem Tryz.keyLaid : laidOutB Tryz.prog = true := by kernel_rfl
theorem Tryz.keyKeyed : Keyed Tryz.prog 136 :=
  Keyed.of_law (deep_law_gate Tryz.keyLaid (of_decide_eq_true (by kernel_rfl)) (of_decide_eq_true (by kernel_rfl)) (by kernel_rfl) (by kernel_rfl))
theorem wf_i64l {n : Int} (h : -9223372036854775808 ≤ n ∧ n < 9223372036854775808) : (Lit.int .i64 n).wf = true := by
  simp [Lit.wf, IntKind.min, IntKind.signed, IntKind.bits]
  omega
theorem Tryz.keyLit {k : Int × Int} (hk : I64k k) : Tryz.prog.keyLits (Tryz.prog.types.size + 1) 136 (kV k).cells.toList = some [.int .i64 k.1, .int .i64 k.2] := by
  have h1 := wf_i64l hk.1; have h2 := wf_i64l hk.2
  obtain ⟨d, hd⟩ : ∃ d, Tryz.prog.types.size = d + 1 := ⟨Tryz.prog.types.size - 1, by kernel_rfl⟩
  have hc : Tryz.prog.cellsOf 136 = 2 := by kernel_rfl
  have hi : Tryz.prog.cellsOf 3 = 1 := by kernel_rfl
  rw [hd]
  unfold Program.keyLits
  rw [Tryz.underlying136]
  simp only [kV, Value.cells]
  rw [hc]
  simp [Program.keyLits, Tryz.underlying3, hi, h1, h2]
theorem Tryz.keyOk : KeyOk Tryz.prog 136 kV I64k where
  keyed := Tryz.keyKeyed
  key k hk := by
    unfold keyOf
    rw [Tryz.underlying136]
    have hc : Tryz.prog.cellsOf 136 = 2 := by kernel_rfl
    have hf : (Tryz.prog.keyType 136 && (kV k).formed Tryz.prog 136) = true := by
      rw [show Tryz.prog.keyType 136 = true by kernel_rfl]
      simp only [kV, Value.formed, Tryz.underlying136, hc]
      rfl
    simp only [hf, if_true, Tryz.keyLit hk]
    exact ⟨_, rfl⟩
  inj := kV_inj
end Go.Proofs.YtmclmccgghnglaaGreat
