/-
  No cell of these rows narrows 'for every input' (looked for: loops, veiled, ifaces, maps, wideKeys, modest, calm, conditions, laid).
  DERIVED. THE GIVEN ROWS OF THIS SEAT. 6 by the template 'for every input the law returns true; each argument reads behind the call as it read before'; 0 by the template 'total and deterministic' (their statements: YthnjakomkdlglaaGreatTotals.lean).
  GIVEN WITH THE SEED: the statements are not yours to turn. If you find one false, say at which input.
  Laid BY PROGRAM, IN A SANDBOX (cutbox-rows.mjs): the forced cells as the released guide's own fill.sh prints them over the translation c683d4cbe79bf29f… (all of the seat's roots in one cut). By AI agents, Wed Nov 11 2026. No macro, syntax, notation, axiom, sorry.
-/
import Derived.Test.YthnjakomkdlglaaGreatChecked
import GoSem.Claim
import GoSem.ClaimJoined
import GoSem.ClaimMapViews
import Derived.JoinedTies
import Derived.KernelRfl
namespace Go.Proofs.YthnjakomkdlglaaGreat
/- THE CELL 'sum', in the pinned program and in every row, IS THE sha256 OF THE DUMP (.gsa) THAT YthnjakomkdlglaaGreatProg.lean LOADS. Nothing in Lean hashes anything: it is a label: what it is worth is what the hold of that sum in a sandbox is worth. -/
noncomputable def Tryz.pinned : Pinned := { name := "ythnjakomkdlglaagreat", sum := "c683d4cbe79bf29f949d6918c3da4a856bf7cd79a3fe5f6141fe84363a1b63bf", checked := Tryz.checked }
namespace Rows
def none {H : Type} : Left H := { results := [], args := [] }

/-- 'tallagelaw17.BankActs': WHATEVER THE INPUT: true; the input reads as it did. -/
def bankActsSpec : ChangeSpec := { name := "bankActs", fn := fun _ => fun
  | [d] => { results := [.lit (.bool true)], args := [d] }
  | _ => none }
def bankActsRow : OpenClaim := { program := "ythnjakomkdlglaagreat", sum := "c683d4cbe79bf29f949d6918c3da4a856bf7cd79a3fe5f6141fe84363a1b63bf", func := "tallage/tallagelaw17.BankActs", spec := "bankActs", inPlace := ["internal/abi.NoEscape", "internal/bytealg.abigen_runtime_cmpstring", "slices.overlaps[string]", "slices.overlaps[tallage/store.block]"], unfollowed := true, recurses := true, apart := false }
def BankActsSaid : Prop := bankActsRow.holds Tryz.pinned (OpenSpec.ofChange bankActsSpec)

/-- ITS FALSE NEIGHBOUR: 'it returns false'. Refute it at one input. -/
def bankActsWrong : ChangeSpec := { name := "bankActs", fn := fun _ => fun
  | [d] => { results := [.lit (.bool false)], args := [d] }
  | _ => none }
def BankActsWrongFalsely : Prop := bankActsRow.holds Tryz.pinned (OpenSpec.ofChange bankActsWrong)

/-- 'tallagelaw22.MagnActs': WHATEVER THE INPUT: true; the input reads as it did. -/
def magnActsSpec : ChangeSpec := { name := "magnActs", fn := fun _ => fun
  | [d1, d2] => { results := [.lit (.bool true)], args := [d1, d2] }
  | _ => none }
def magnActsRow : OpenClaim := { program := "ythnjakomkdlglaagreat", sum := "c683d4cbe79bf29f949d6918c3da4a856bf7cd79a3fe5f6141fe84363a1b63bf", func := "tallage/tallagelaw22.MagnActs", spec := "magnActs", inPlace := ["internal/abi.NoEscape", "internal/bytealg.abigen_runtime_cmpstring", "slices.overlaps[string]", "slices.overlaps[tallage/store.block]"], unfollowed := true, recurses := true, apart := false }
def MagnActsSaid : Prop := magnActsRow.holds Tryz.pinned (OpenSpec.ofChange magnActsSpec)

/-- ITS FALSE NEIGHBOUR: 'it returns false'. Refute it at one input. -/
def magnActsWrong : ChangeSpec := { name := "magnActs", fn := fun _ => fun
  | [d1, d2] => { results := [.lit (.bool false)], args := [d1, d2] }
  | _ => none }
def MagnActsWrongFalsely : Prop := magnActsRow.holds Tryz.pinned (OpenSpec.ofChange magnActsWrong)

/-- 'tallagelaw31.PoolNone': WHATEVER THE INPUT: true; the input reads as it did. -/
def poolNoneSpec : ChangeSpec := { name := "poolNone", fn := fun _ => fun
  | [d] => { results := [.lit (.bool true)], args := [d] }
  | _ => none }
def poolNoneRow : OpenClaim := { program := "ythnjakomkdlglaagreat", sum := "c683d4cbe79bf29f949d6918c3da4a856bf7cd79a3fe5f6141fe84363a1b63bf", func := "tallage/tallagelaw31.PoolNone", spec := "poolNone", inPlace := ["internal/abi.NoEscape", "internal/bytealg.abigen_runtime_cmpstring", "slices.overlaps[string]", "slices.overlaps[tallage/store.block]"], unfollowed := true, recurses := true, apart := false }
def PoolNoneSaid : Prop := poolNoneRow.holds Tryz.pinned (OpenSpec.ofChange poolNoneSpec)

/-- ITS FALSE NEIGHBOUR: 'it returns false'. Refute it at one input. -/
def poolNoneWrong : ChangeSpec := { name := "poolNone", fn := fun _ => fun
  | [d] => { results := [.lit (.bool false)], args := [d] }
  | _ => none }
def PoolNoneWrongFalsely : Prop := poolNoneRow.holds Tryz.pinned (OpenSpec.ofChange poolNoneWrong)

/-- 'tallagelaw31.PoolActs': WHATEVER THE INPUT: true; the input reads as it did. -/
def poolActsSpec : ChangeSpec := { name := "poolActs", fn := fun _ => fun
  | [d] => { results := [.lit (.bool true)], args := [d] }
  | _ => none }
def poolActsRow : OpenClaim := { program := "ythnjakomkdlglaagreat", sum := "c683d4cbe79bf29f949d6918c3da4a856bf7cd79a3fe5f6141fe84363a1b63bf", func := "tallage/tallagelaw31.PoolActs", spec := "poolActs", inPlace := ["internal/abi.NoEscape", "internal/bytealg.abigen_runtime_cmpstring", "slices.overlaps[string]", "slices.overlaps[tallage/store.block]"], unfollowed := true, recurses := true, apart := false }
def PoolActsSaid : Prop := poolActsRow.holds Tryz.pinned (OpenSpec.ofChange poolActsSpec)

/-- ITS FALSE NEIGHBOUR: 'it returns false'. Refute it at one input. -/
def poolActsWrong : ChangeSpec := { name := "poolActs", fn := fun _ => fun
  | [d] => { results := [.lit (.bool false)], args := [d] }
  | _ => none }
def PoolActsWrongFalsely : Prop := poolActsRow.holds Tryz.pinned (OpenSpec.ofChange poolActsWrong)

/-- 'tallagelaw31.PoolAdds': WHATEVER THE INPUT: true; the input reads as it did. -/
def poolAddsSpec : ChangeSpec := { name := "poolAdds", fn := fun _ => fun
  | [d] => { results := [.lit (.bool true)], args := [d] }
  | _ => none }
def poolAddsRow : OpenClaim := { program := "ythnjakomkdlglaagreat", sum := "c683d4cbe79bf29f949d6918c3da4a856bf7cd79a3fe5f6141fe84363a1b63bf", func := "tallage/tallagelaw31.PoolAdds", spec := "poolAdds", inPlace := ["internal/abi.NoEscape", "internal/bytealg.abigen_runtime_cmpstring", "slices.overlaps[string]", "slices.overlaps[tallage/store.block]"], unfollowed := true, recurses := true, apart := false }
def PoolAddsSaid : Prop := poolAddsRow.holds Tryz.pinned (OpenSpec.ofChange poolAddsSpec)

/-- ITS FALSE NEIGHBOUR: 'it returns false'. Refute it at one input. -/
def poolAddsWrong : ChangeSpec := { name := "poolAdds", fn := fun _ => fun
  | [d] => { results := [.lit (.bool false)], args := [d] }
  | _ => none }
def PoolAddsWrongFalsely : Prop := poolAddsRow.holds Tryz.pinned (OpenSpec.ofChange poolAddsWrong)

/-- 'tallagelaw34.SplitActs': WHATEVER THE INPUT: true; the input reads as it did. -/
def splitActsSpec : ChangeSpec := { name := "splitActs", fn := fun _ => fun
  | [d1, d2] => { results := [.lit (.bool true)], args := [d1, d2] }
  | _ => none }
def splitActsRow : OpenClaim := { program := "ythnjakomkdlglaagreat", sum := "c683d4cbe79bf29f949d6918c3da4a856bf7cd79a3fe5f6141fe84363a1b63bf", func := "tallage/tallagelaw34.SplitActs", spec := "splitActs", inPlace := ["internal/abi.NoEscape", "internal/bytealg.abigen_runtime_cmpstring", "slices.overlaps[string]", "slices.overlaps[tallage/store.block]"], unfollowed := true, recurses := true, apart := false }
def SplitActsSaid : Prop := splitActsRow.holds Tryz.pinned (OpenSpec.ofChange splitActsSpec)

/-- ITS FALSE NEIGHBOUR: 'it returns false'. Refute it at one input. -/
def splitActsWrong : ChangeSpec := { name := "splitActs", fn := fun _ => fun
  | [d1, d2] => { results := [.lit (.bool false)], args := [d1, d2] }
  | _ => none }
def SplitActsWrongFalsely : Prop := splitActsRow.holds Tryz.pinned (OpenSpec.ofChange splitActsWrong)

/- THE SECOND FORM. 'bulk': how many values and letters a reading holds, each counted each time it is reached (what is shared counts as often as it is met; a slice's spare places count too). A statement '..UptoSaid' is the law's where the arguments, and the package variables that the reading takes, are together of bulk at most 1048576: NARROWER than '..Said'. Prove '..Said' where nothing that the law and all that it calls make is longer than what came in: it says more and counts as full. Else prove '..UptoSaid'. A law counts once. -/
mutual
def uptoBulk {H : Type} : DataW H → Nat
  | .lit (.string bytes) => bytes.length + 1
  | .lit _ => 1
  | .nil => 1
  | .ptr d => uptoBulk d + 1
  | .slice elems spare => uptoBulkAll elems + uptoBulkAll spare + 1
  | .agg parts => uptoBulkAll parts + 1
  | .iface _ d => uptoBulk d + 1
  | .map entries => uptoBulkEntries entries + 1
  | .held _ => 1
def uptoBulkAll {H : Type} : List (DataW H) → Nat
  | [] => 0
  | d :: r => uptoBulk d + uptoBulkAll r
def uptoBulkEntries {H : Type} : List (Lit × DataW H) → Nat
  | [] => 0
  | x :: r => uptoBulkEntry x + uptoBulkEntries r
def uptoBulkEntry {H : Type} : Lit × DataW H → Nat
  | (.string bytes, d) => bytes.length + uptoBulk d + 1
  | (_, d) => uptoBulk d + 1
 end
def uptoSmall : (H : Type) → List (DataW H) → Bool := fun _ ds => decide (uptoBulkAll ds ≤ 1048576)
def OpenSpec.upto (s : _root_.Go.ChangeSpec) : _root_.Go.OpenSpec := { _root_.Go.OpenSpec.ofChange s with cond := some uptoSmall }

/-- 'tallagelaw17.BankActs', WHERE WHAT IT READS IS OF BULK AT MOST 1048576: true; the input reads as it did. -/
def bankActsUptoRow : OpenClaim := { program := "ythnjakomkdlglaagreat", sum := "c683d4cbe79bf29f949d6918c3da4a856bf7cd79a3fe5f6141fe84363a1b63bf", func := "tallage/tallagelaw17.BankActs", spec := "bankActs", inPlace := ["internal/abi.NoEscape", "internal/bytealg.abigen_runtime_cmpstring", "slices.overlaps[string]", "slices.overlaps[tallage/store.block]"], unfollowed := true, recurses := true, apart := false, narrowed := true }
def BankActsUptoSaid : Prop := bankActsUptoRow.holds Tryz.pinned (OpenSpec.upto bankActsSpec)

/-- 'tallagelaw22.MagnActs', WHERE WHAT IT READS IS OF BULK AT MOST 1048576: true; the input reads as it did. -/
def magnActsUptoRow : OpenClaim := { program := "ythnjakomkdlglaagreat", sum := "c683d4cbe79bf29f949d6918c3da4a856bf7cd79a3fe5f6141fe84363a1b63bf", func := "tallage/tallagelaw22.MagnActs", spec := "magnActs", inPlace := ["internal/abi.NoEscape", "internal/bytealg.abigen_runtime_cmpstring", "slices.overlaps[string]", "slices.overlaps[tallage/store.block]"], unfollowed := true, recurses := true, apart := false, narrowed := true }
def MagnActsUptoSaid : Prop := magnActsUptoRow.holds Tryz.pinned (OpenSpec.upto magnActsSpec)

/-- 'tallagelaw31.PoolNone', WHERE WHAT IT READS IS OF BULK AT MOST 1048576: true; the input reads as it did. -/
def poolNoneUptoRow : OpenClaim := { program := "ythnjakomkdlglaagreat", sum := "c683d4cbe79bf29f949d6918c3da4a856bf7cd79a3fe5f6141fe84363a1b63bf", func := "tallage/tallagelaw31.PoolNone", spec := "poolNone", inPlace := ["internal/abi.NoEscape", "internal/bytealg.abigen_runtime_cmpstring", "slices.overlaps[string]", "slices.overlaps[tallage/store.block]"], unfollowed := true, recurses := true, apart := false, narrowed := true }
def PoolNoneUptoSaid : Prop := poolNoneUptoRow.holds Tryz.pinned (OpenSpec.upto poolNoneSpec)

/-- 'tallagelaw31.PoolActs', WHERE WHAT IT READS IS OF BULK AT MOST 1048576: true; the input reads as it did. -/
def poolActsUptoRow : OpenClaim := { program := "ythnjakomkdlglaagreat", sum := "c683d4cbe79bf29f949d6918c3da4a856bf7cd79a3fe5f6141fe84363a1b63bf", func := "tallage/tallagelaw31.PoolActs", spec := "poolActs", inPlace := ["internal/abi.NoEscape", "internal/bytealg.abigen_runtime_cmpstring", "slices.overlaps[string]", "slices.overlaps[tallage/store.block]"], unfollowed := true, recurses := true, apart := false, narrowed := true }
def PoolActsUptoSaid : Prop := poolActsUptoRow.holds Tryz.pinned (OpenSpec.upto poolActsSpec)

/-- 'tallagelaw31.PoolAdds', WHERE WHAT IT READS IS OF BULK AT MOST 1048576: true; the input reads as it did. -/
def poolAddsUptoRow : OpenClaim := { program := "ythnjakomkdlglaagreat", sum := "c683d4cbe79bf29f949d6918c3da4a856bf7cd79a3fe5f6141fe84363a1b63bf", func := "tallage/tallagelaw31.PoolAdds", spec := "poolAdds", inPlace := ["internal/abi.NoEscape", "internal/bytealg.abigen_runtime_cmpstring", "slices.overlaps[string]", "slices.overlaps[tallage/store.block]"], unfollowed := true, recurses := true, apart := false, narrowed := true }
def PoolAddsUptoSaid : Prop := poolAddsUptoRow.holds Tryz.pinned (OpenSpec.upto poolAddsSpec)

/-- 'tallagelaw34.SplitActs', WHERE WHAT IT READS IS OF BULK AT MOST 1048576: true; the input reads as it did. -/
def splitActsUptoRow : OpenClaim := { program := "ythnjakomkdlglaagreat", sum := "c683d4cbe79bf29f949d6918c3da4a856bf7cd79a3fe5f6141fe84363a1b63bf", func := "tallage/tallagelaw34.SplitActs", spec := "splitActs", inPlace := ["internal/abi.NoEscape", "internal/bytealg.abigen_runtime_cmpstring", "slices.overlaps[string]", "slices.overlaps[tallage/store.block]"], unfollowed := true, recurses := true, apart := false, narrowed := true }
def SplitActsUptoSaid : Prop := splitActsUptoRow.holds Tryz.pinned (OpenSpec.upto splitActsSpec)

end Rows
end Go.Proofs.YthnjakomkdlglaaGreat
