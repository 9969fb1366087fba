/-
  No cell of these rows narrows 'for every input' (looked for: loops, veiled, ifaces, maps, wideKeys, modest, calm, conditions, laid).
  DERIVED. THE GIVEN ROWS OF THIS SEAT. 4 by the template 'for every input the law returns true; each argument reads behind the call as it read before'; 0 by the template 'total and deterministic' (their statements: YthnjakomkdlglaaTotals.lean).
  GIVEN WITH THE SEED: the statements are not yours to turn. If you find one false, say at which input.
  Laid BY PROGRAM, IN A SANDBOX (cutbox-rows.mjs): the forced cells as the released guide's own fill.sh prints them over the translation e9e46ffc664c9ca2… (all of the seat's roots in one cut). By AI agents, Wed Nov 11 2026. No macro, syntax, notation, axiom, sorry.
-/
import Derived.Test.YthnjakomkdlglaaChecked
import GoSem.Claim
import GoSem.ClaimJoined
import GoSem.ClaimMapViews
import Derived.JoinedTies
import Derived.KernelRfl
namespace Go.Proofs.Ythnjakomkdlglaa
/- THE CELL 'sum', in the pinned program and in every row, IS THE sha256 OF THE DUMP (.gsa) THAT YthnjakomkdlglaaProg.lean LOADS. Nothing in Lean hashes anything: it is a label: what it is worth is what the hold of that sum in a sandbox is worth. -/
noncomputable def Try.pinned : Pinned := { name := "ythnjakomkdlglaa", sum := "e9e46ffc664c9ca210593ce472e00f11dd813a1f67df985e0e4de2d8d567d89d", checked := Try.checked }
namespace Rows
def none {H : Type} : Left H := { results := [], args := [] }

/-- 'tallagelaw34.SplitParts': WHATEVER THE INPUT: true; the input reads as it did. -/
def splitPartsSpec : ChangeSpec := { name := "splitParts", fn := fun _ => fun
  | [d1, d2] => { results := [.lit (.bool true)], args := [d1, d2] }
  | _ => none }
def splitPartsRow : OpenClaim := { program := "ythnjakomkdlglaa", sum := "e9e46ffc664c9ca210593ce472e00f11dd813a1f67df985e0e4de2d8d567d89d", func := "tallage/tallagelaw34.SplitParts", spec := "splitParts", unfollowed := true, recurses := true, apart := false }
def SplitPartsSaid : Prop := splitPartsRow.holds Try.pinned (OpenSpec.ofChange splitPartsSpec)

/-- ITS FALSE NEIGHBOUR: 'it returns false'. Refute it at one input. -/
def splitPartsWrong : ChangeSpec := { name := "splitParts", fn := fun _ => fun
  | [d1, d2] => { results := [.lit (.bool false)], args := [d1, d2] }
  | _ => none }
def SplitPartsWrongFalsely : Prop := splitPartsRow.holds Try.pinned (OpenSpec.ofChange splitPartsWrong)

/-- 'tallagelaw13.DueOnce': WHATEVER THE INPUT: true; the input reads as it did. -/
def dueOnceSpec : ChangeSpec := { name := "dueOnce", fn := fun _ => fun
  | [d1, d2] => { results := [.lit (.bool true)], args := [d1, d2] }
  | _ => none }
def dueOnceRow : OpenClaim := { program := "ythnjakomkdlglaa", sum := "e9e46ffc664c9ca210593ce472e00f11dd813a1f67df985e0e4de2d8d567d89d", func := "tallage/tallagelaw13.DueOnce", spec := "dueOnce", inPlace := ["internal/abi.NoEscape", "internal/bytealg.abigen_runtime_cmpstring", "slices.overlaps[string]", "slices.overlaps[tallage/store.block]"], unfollowed := true, recurses := true, apart := false }
def DueOnceSaid : Prop := dueOnceRow.holds Try.pinned (OpenSpec.ofChange dueOnceSpec)

/-- ITS FALSE NEIGHBOUR: 'it returns false'. Refute it at one input. -/
def dueOnceWrong : ChangeSpec := { name := "dueOnce", fn := fun _ => fun
  | [d1, d2] => { results := [.lit (.bool false)], args := [d1, d2] }
  | _ => none }
def DueOnceWrongFalsely : Prop := dueOnceRow.holds Try.pinned (OpenSpec.ofChange dueOnceWrong)

/-- 'tallagelaw13.DueActs': WHATEVER THE INPUT: true; the input reads as it did. -/
def dueActsSpec : ChangeSpec := { name := "dueActs", fn := fun _ => fun
  | [d] => { results := [.lit (.bool true)], args := [d] }
  | _ => none }
def dueActsRow : OpenClaim := { program := "ythnjakomkdlglaa", sum := "e9e46ffc664c9ca210593ce472e00f11dd813a1f67df985e0e4de2d8d567d89d", func := "tallage/tallagelaw13.DueActs", spec := "dueActs", inPlace := ["internal/abi.NoEscape", "internal/bytealg.abigen_runtime_cmpstring", "slices.overlaps[string]", "slices.overlaps[tallage/store.block]"], unfollowed := true, recurses := true, apart := false }
def DueActsSaid : Prop := dueActsRow.holds Try.pinned (OpenSpec.ofChange dueActsSpec)

/-- ITS FALSE NEIGHBOUR: 'it returns false'. Refute it at one input. -/
def dueActsWrong : ChangeSpec := { name := "dueActs", fn := fun _ => fun
  | [d] => { results := [.lit (.bool false)], args := [d] }
  | _ => none }
def DueActsWrongFalsely : Prop := dueActsRow.holds Try.pinned (OpenSpec.ofChange dueActsWrong)

/-- 'tallagelaw34.SplitNone': WHATEVER THE INPUT: true; the input reads as it did. -/
def splitNoneSpec : ChangeSpec := { name := "splitNone", fn := fun _ => fun
  | [d] => { results := [.lit (.bool true)], args := [d] }
  | _ => none }
def splitNoneRow : OpenClaim := { program := "ythnjakomkdlglaa", sum := "e9e46ffc664c9ca210593ce472e00f11dd813a1f67df985e0e4de2d8d567d89d", func := "tallage/tallagelaw34.SplitNone", spec := "splitNone", inPlace := ["internal/abi.NoEscape", "internal/bytealg.abigen_runtime_cmpstring", "slices.overlaps[string]", "slices.overlaps[tallage/store.block]"], unfollowed := true, recurses := true, apart := false }
def SplitNoneSaid : Prop := splitNoneRow.holds Try.pinned (OpenSpec.ofChange splitNoneSpec)

/-- ITS FALSE NEIGHBOUR: 'it returns false'. Refute it at one input. -/
def splitNoneWrong : ChangeSpec := { name := "splitNone", fn := fun _ => fun
  | [d] => { results := [.lit (.bool false)], args := [d] }
  | _ => none }
def SplitNoneWrongFalsely : Prop := splitNoneRow.holds Try.pinned (OpenSpec.ofChange splitNoneWrong)

/- THE SECOND FORM. 'bulk': how many values and letters a reading holds, each counted each time it is reached (what is shared counts as often as it is met; a slice's spare places count too). A statement '..UptoSaid' is the law's where the arguments, and the package variables that the reading takes, are together of bulk at most 1048576: NARROWER than '..Said'. Prove '..Said' where nothing that the law and all that it calls make is longer than what came in: it says more and counts as full. Else prove '..UptoSaid'. A law counts once. -/
mutual
def uptoBulk {H : Type} : DataW H → Nat
  | .lit (.string bytes) => bytes.length + 1
  | .lit _ => 1
  | .nil => 1
  | .ptr d => uptoBulk d + 1
  | .slice elems spare => uptoBulkAll elems + uptoBulkAll spare + 1
  | .agg parts => uptoBulkAll parts + 1
  | .iface _ d => uptoBulk d + 1
  | .map entries => uptoBulkEntries entries + 1
  | .held _ => 1
def uptoBulkAll {H : Type} : List (DataW H) → Nat
  | [] => 0
  | d :: r => uptoBulk d + uptoBulkAll r
def uptoBulkEntries {H : Type} : List (Lit × DataW H) → Nat
  | [] => 0
  | x :: r => uptoBulkEntry x + uptoBulkEntries r
def uptoBulkEntry {H : Type} : Lit × DataW H → Nat
  | (.string bytes, d) => bytes.length + uptoBulk d + 1
  | (_, d) => uptoBulk d + 1
 end
def uptoSmall : (H : Type) → List (DataW H) → Bool := fun _ ds => decide (uptoBulkAll ds ≤ 1048576)
def OpenSpec.upto (s : _root_.Go.ChangeSpec) : _root_.Go.OpenSpec := { _root_.Go.OpenSpec.ofChange s with cond := some uptoSmall }

/-- 'tallagelaw34.SplitParts', WHERE WHAT IT READS IS OF BULK AT MOST 1048576: true; the input reads as it did. -/
def splitPartsUptoRow : OpenClaim := { program := "ythnjakomkdlglaa", sum := "e9e46ffc664c9ca210593ce472e00f11dd813a1f67df985e0e4de2d8d567d89d", func := "tallage/tallagelaw34.SplitParts", spec := "splitParts", unfollowed := true, recurses := true, apart := false, narrowed := true }
def SplitPartsUptoSaid : Prop := splitPartsUptoRow.holds Try.pinned (OpenSpec.upto splitPartsSpec)

/-- 'tallagelaw13.DueOnce', WHERE WHAT IT READS IS OF BULK AT MOST 1048576: true; the input reads as it did. -/
def dueOnceUptoRow : OpenClaim := { program := "ythnjakomkdlglaa", sum := "e9e46ffc664c9ca210593ce472e00f11dd813a1f67df985e0e4de2d8d567d89d", func := "tallage/tallagelaw13.DueOnce", spec := "dueOnce", inPlace := ["internal/abi.NoEscape", "internal/bytealg.abigen_runtime_cmpstring", "slices.overlaps[string]", "slices.overlaps[tallage/store.block]"], unfollowed := true, recurses := true, apart := false, narrowed := true }
def DueOnceUptoSaid : Prop := dueOnceUptoRow.holds Try.pinned (OpenSpec.upto dueOnceSpec)

/-- 'tallagelaw13.DueActs', WHERE WHAT IT READS IS OF BULK AT MOST 1048576: true; the input reads as it did. -/
def dueActsUptoRow : OpenClaim := { program := "ythnjakomkdlglaa", sum := "e9e46ffc664c9ca210593ce472e00f11dd813a1f67df985e0e4de2d8d567d89d", func := "tallage/tallagelaw13.DueActs", spec := "dueActs", inPlace := ["internal/abi.NoEscape", "internal/bytealg.abigen_runtime_cmpstring", "slices.overlaps[string]", "slices.overlaps[tallage/store.block]"], unfollowed := true, recurses := true, apart := false, narrowed := true }
def DueActsUptoSaid : Prop := dueActsUptoRow.holds Try.pinned (OpenSpec.upto dueActsSpec)

/-- 'tallagelaw34.SplitNone', WHERE WHAT IT READS IS OF BULK AT MOST 1048576: true; the input reads as it did. -/
def splitNoneUptoRow : OpenClaim := { program := "ythnjakomkdlglaa", sum := "e9e46ffc664c9ca210593ce472e00f11dd813a1f67df985e0e4de2d8d567d89d", func := "tallage/tallagelaw34.SplitNone", spec := "splitNone", inPlace := ["internal/abi.NoEscape", "internal/bytealg.abigen_runtime_cmpstring", "slices.overlaps[string]", "slices.overlaps[tallage/store.block]"], unfollowed := true, recurses := true, apart := false, narrowed := true }
def SplitNoneUptoSaid : Prop := splitNoneUptoRow.holds Try.pinned (OpenSpec.upto splitNoneSpec)

end Rows
end Go.Proofs.Ythnjakomkdlglaa
