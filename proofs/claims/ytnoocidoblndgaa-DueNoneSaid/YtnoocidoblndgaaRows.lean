/-
  No cell of these rows narrows 'for every input' (looked for: loops, veiled, ifaces, maps, wideKeys, modest, calm, conditions, laid).
  DERIVED. THE GIVEN ROWS OF THIS SEAT. 7 by the template 'for every input the law returns true; each argument reads behind the call as it read before'; 0 by the template 'total and deterministic' (their statements: YtnoocidoblndgaaTotals.lean).
  GIVEN WITH THE SEED: the statements are not yours to turn. If you find one false, say at which input.
  Laid BY PROGRAM, IN A SANDBOX (cutbox-rows.mjs): the forced cells as the released guide's own fill.sh prints them over the translation ca9370f79a9ecb4b… (all of the seat's roots in one cut). By AI agents, Wed Nov 11 2026. No macro, syntax, notation, axiom, sorry.
-/
import Derived.Test.YtnoocidoblndgaaChecked
import GoSem.Claim
import GoSem.ClaimJoined
import GoSem.ClaimMapViews
import Derived.JoinedTies
import Derived.KernelRfl
namespace Go.Proofs.Ytnoocidoblndgaa
/- THE CELL 'sum', in the pinned program and in every row, IS THE sha256 OF THE DUMP (.gsa) THAT YtnoocidoblndgaaProg.lean LOADS. Nothing in Lean hashes anything: it is a label: what it is worth is what the hold of that sum in a sandbox is worth. -/
noncomputable def Try.pinned : Pinned := { name := "ytnoocidoblndgaa", sum := "ca9370f79a9ecb4bbef987d3dae41927b574276df7d94b0a88362f559e84eaac", checked := Try.checked }
namespace Rows
def none {H : Type} : Left H := { results := [], args := [] }

/-- 'tallagelaw10.CellMoves': WHATEVER THE INPUT: true; the input reads as it did. -/
def cellMovesSpec : ChangeSpec := { name := "cellMoves", fn := fun _ => fun
  | [d1, d2] => { results := [.lit (.bool true)], args := [d1, d2] }
  | _ => none }
def cellMovesRow : OpenClaim := { program := "ytnoocidoblndgaa", sum := "ca9370f79a9ecb4bbef987d3dae41927b574276df7d94b0a88362f559e84eaac", func := "tallage/tallagelaw10.CellMoves", spec := "cellMoves", inPlace := ["internal/bytealg.abigen_runtime_cmpstring", "slices.overlaps[string]", "slices.overlaps[tallage/store.block]", "internal/abi.NoEscape"], unfollowed := true, recurses := true, apart := false }
def CellMovesSaid : Prop := cellMovesRow.holds Try.pinned (OpenSpec.ofChange cellMovesSpec)

/-- ITS FALSE NEIGHBOUR: 'it returns false'. Refute it at one input. -/
def cellMovesWrong : ChangeSpec := { name := "cellMoves", fn := fun _ => fun
  | [d1, d2] => { results := [.lit (.bool false)], args := [d1, d2] }
  | _ => none }
def CellMovesWrongFalsely : Prop := cellMovesRow.holds Try.pinned (OpenSpec.ofChange cellMovesWrong)

/-- 'tallagelaw10.CellBack': WHATEVER THE INPUT: true; the input reads as it did. -/
def cellBackSpec : ChangeSpec := { name := "cellBack", fn := fun _ => fun
  | [d1, d2, d3] => { results := [.lit (.bool true)], args := [d1, d2, d3] }
  | _ => none }
def cellBackRow : OpenClaim := { program := "ytnoocidoblndgaa", sum := "ca9370f79a9ecb4bbef987d3dae41927b574276df7d94b0a88362f559e84eaac", func := "tallage/tallagelaw10.CellBack", spec := "cellBack", inPlace := ["internal/bytealg.abigen_runtime_cmpstring", "slices.overlaps[string]", "slices.overlaps[tallage/store.block]", "internal/abi.NoEscape"], unfollowed := true, recurses := true, apart := false }
def CellBackSaid : Prop := cellBackRow.holds Try.pinned (OpenSpec.ofChange cellBackSpec)

/-- ITS FALSE NEIGHBOUR: 'it returns false'. Refute it at one input. -/
def cellBackWrong : ChangeSpec := { name := "cellBack", fn := fun _ => fun
  | [d1, d2, d3] => { results := [.lit (.bool false)], args := [d1, d2, d3] }
  | _ => none }
def CellBackWrongFalsely : Prop := cellBackRow.holds Try.pinned (OpenSpec.ofChange cellBackWrong)

/-- 'tallagelaw13.DueOnce': WHATEVER THE INPUT: true; the input reads as it did. -/
def dueOnceSpec : ChangeSpec := { name := "dueOnce", fn := fun _ => fun
  | [d1, d2] => { results := [.lit (.bool true)], args := [d1, d2] }
  | _ => none }
def dueOnceRow : OpenClaim := { program := "ytnoocidoblndgaa", sum := "ca9370f79a9ecb4bbef987d3dae41927b574276df7d94b0a88362f559e84eaac", func := "tallage/tallagelaw13.DueOnce", spec := "dueOnce", inPlace := ["internal/abi.NoEscape", "internal/bytealg.abigen_runtime_cmpstring", "slices.overlaps[string]", "slices.overlaps[tallage/store.block]"], unfollowed := true, recurses := true, apart := false }
def DueOnceSaid : Prop := dueOnceRow.holds Try.pinned (OpenSpec.ofChange dueOnceSpec)

/-- ITS FALSE NEIGHBOUR: 'it returns false'. Refute it at one input. -/
def dueOnceWrong : ChangeSpec := { name := "dueOnce", fn := fun _ => fun
  | [d1, d2] => { results := [.lit (.bool false)], args := [d1, d2] }
  | _ => none }
def DueOnceWrongFalsely : Prop := dueOnceRow.holds Try.pinned (OpenSpec.ofChange dueOnceWrong)

/-- 'tallagelaw13.DueNone': WHATEVER THE INPUT: true; the input reads as it did. -/
def dueNoneSpec : ChangeSpec := { name := "dueNone", fn := fun _ => fun
  | [d] => { results := [.lit (.bool true)], args := [d] }
  | _ => none }
def dueNoneRow : OpenClaim := { program := "ytnoocidoblndgaa", sum := "ca9370f79a9ecb4bbef987d3dae41927b574276df7d94b0a88362f559e84eaac", func := "tallage/tallagelaw13.DueNone", spec := "dueNone", inPlace := ["internal/abi.NoEscape", "internal/bytealg.abigen_runtime_cmpstring", "slices.overlaps[string]", "slices.overlaps[tallage/store.block]"], unfollowed := true, recurses := true, apart := false }
def DueNoneSaid : Prop := dueNoneRow.holds Try.pinned (OpenSpec.ofChange dueNoneSpec)

/-- ITS FALSE NEIGHBOUR: 'it returns false'. Refute it at one input. -/
def dueNoneWrong : ChangeSpec := { name := "dueNone", fn := fun _ => fun
  | [d] => { results := [.lit (.bool false)], args := [d] }
  | _ => none }
def DueNoneWrongFalsely : Prop := dueNoneRow.holds Try.pinned (OpenSpec.ofChange dueNoneWrong)

/-- 'tallagelaw13.DueActs': WHATEVER THE INPUT: true; the input reads as it did. -/
def dueActsSpec : ChangeSpec := { name := "dueActs", fn := fun _ => fun
  | [d] => { results := [.lit (.bool true)], args := [d] }
  | _ => none }
def dueActsRow : OpenClaim := { program := "ytnoocidoblndgaa", sum := "ca9370f79a9ecb4bbef987d3dae41927b574276df7d94b0a88362f559e84eaac", func := "tallage/tallagelaw13.DueActs", spec := "dueActs", inPlace := ["internal/abi.NoEscape", "internal/bytealg.abigen_runtime_cmpstring", "slices.overlaps[string]", "slices.overlaps[tallage/store.block]"], unfollowed := true, recurses := true, apart := false }
def DueActsSaid : Prop := dueActsRow.holds Try.pinned (OpenSpec.ofChange dueActsSpec)

/-- ITS FALSE NEIGHBOUR: 'it returns false'. Refute it at one input. -/
def dueActsWrong : ChangeSpec := { name := "dueActs", fn := fun _ => fun
  | [d] => { results := [.lit (.bool false)], args := [d] }
  | _ => none }
def DueActsWrongFalsely : Prop := dueActsRow.holds Try.pinned (OpenSpec.ofChange dueActsWrong)

/-- 'tallagelaw22.MagnFalls': WHATEVER THE INPUT: true; the input reads as it did. -/
def magnFallsSpec : ChangeSpec := { name := "magnFalls", fn := fun _ => fun
  | [d1, d2] => { results := [.lit (.bool true)], args := [d1, d2] }
  | _ => none }
def magnFallsRow : OpenClaim := { program := "ytnoocidoblndgaa", sum := "ca9370f79a9ecb4bbef987d3dae41927b574276df7d94b0a88362f559e84eaac", func := "tallage/tallagelaw22.MagnFalls", spec := "magnFalls", inPlace := ["internal/abi.NoEscape", "internal/bytealg.abigen_runtime_cmpstring", "slices.overlaps[string]", "slices.overlaps[tallage/store.block]"], unfollowed := true, recurses := true, apart := false }
def MagnFallsSaid : Prop := magnFallsRow.holds Try.pinned (OpenSpec.ofChange magnFallsSpec)

/-- ITS FALSE NEIGHBOUR: 'it returns false'. Refute it at one input. -/
def magnFallsWrong : ChangeSpec := { name := "magnFalls", fn := fun _ => fun
  | [d1, d2] => { results := [.lit (.bool false)], args := [d1, d2] }
  | _ => none }
def MagnFallsWrongFalsely : Prop := magnFallsRow.holds Try.pinned (OpenSpec.ofChange magnFallsWrong)

/-- 'tallagelaw22.MagnNone': WHATEVER THE INPUT: true; the input reads as it did. -/
def magnNoneSpec : ChangeSpec := { name := "magnNone", fn := fun _ => fun
  | [d] => { results := [.lit (.bool true)], args := [d] }
  | _ => none }
def magnNoneRow : OpenClaim := { program := "ytnoocidoblndgaa", sum := "ca9370f79a9ecb4bbef987d3dae41927b574276df7d94b0a88362f559e84eaac", func := "tallage/tallagelaw22.MagnNone", spec := "magnNone", inPlace := ["internal/abi.NoEscape", "internal/bytealg.abigen_runtime_cmpstring", "slices.overlaps[string]", "slices.overlaps[tallage/store.block]"], unfollowed := true, recurses := true, apart := false }
def MagnNoneSaid : Prop := magnNoneRow.holds Try.pinned (OpenSpec.ofChange magnNoneSpec)

/-- ITS FALSE NEIGHBOUR: 'it returns false'. Refute it at one input. -/
def magnNoneWrong : ChangeSpec := { name := "magnNone", fn := fun _ => fun
  | [d] => { results := [.lit (.bool false)], args := [d] }
  | _ => none }
def MagnNoneWrongFalsely : Prop := magnNoneRow.holds Try.pinned (OpenSpec.ofChange magnNoneWrong)

/- THE SECOND FORM. 'bulk': how many values and letters a reading holds, each counted each time it is reached (what is shared counts as often as it is met; a slice's spare places count too). A statement '..UptoSaid' is the law's where the arguments, and the package variables that the reading takes, are together of bulk at most 1048576: NARROWER than '..Said'. Prove '..Said' where nothing that the law and all that it calls make is longer than what came in: it says more and counts as full. Else prove '..UptoSaid'. A law counts once. -/
mutual
def uptoBulk {H : Type} : DataW H → Nat
  | .lit (.string bytes) => bytes.length + 1
  | .lit _ => 1
  | .nil => 1
  | .ptr d => uptoBulk d + 1
  | .slice elems spare => uptoBulkAll elems + uptoBulkAll spare + 1
  | .agg parts => uptoBulkAll parts + 1
  | .iface _ d => uptoBulk d + 1
  | .map entries => uptoBulkEntries entries + 1
  | .held _ => 1
def uptoBulkAll {H : Type} : List (DataW H) → Nat
  | [] => 0
  | d :: r => uptoBulk d + uptoBulkAll r
def uptoBulkEntries {H : Type} : List (Lit × DataW H) → Nat
  | [] => 0
  | x :: r => uptoBulkEntry x + uptoBulkEntries r
def uptoBulkEntry {H : Type} : Lit × DataW H → Nat
  | (.string bytes, d) => bytes.length + uptoBulk d + 1
  | (_, d) => uptoBulk d + 1
 end
def uptoSmall : (H : Type) → List (DataW H) → Bool := fun _ ds => decide (uptoBulkAll ds ≤ 1048576)
def OpenSpec.upto (s : _root_.Go.ChangeSpec) : _root_.Go.OpenSpec := { _root_.Go.OpenSpec.ofChange s with cond := some uptoSmall }

/-- 'tallagelaw10.CellMoves', WHERE WHAT IT READS IS OF BULK AT MOST 1048576: true; the input reads as it did. -/
def cellMovesUptoRow : OpenClaim := { program := "ytnoocidoblndgaa", sum := "ca9370f79a9ecb4bbef987d3dae41927b574276df7d94b0a88362f559e84eaac", func := "tallage/tallagelaw10.CellMoves", spec := "cellMoves", inPlace := ["internal/bytealg.abigen_runtime_cmpstring", "slices.overlaps[string]", "slices.overlaps[tallage/store.block]", "internal/abi.NoEscape"], unfollowed := true, recurses := true, apart := false, narrowed := true }
def CellMovesUptoSaid : Prop := cellMovesUptoRow.holds Try.pinned (OpenSpec.upto cellMovesSpec)

/-- 'tallagelaw10.CellBack', WHERE WHAT IT READS IS OF BULK AT MOST 1048576: true; the input reads as it did. -/
def cellBackUptoRow : OpenClaim := { program := "ytnoocidoblndgaa", sum := "ca9370f79a9ecb4bbef987d3dae41927b574276df7d94b0a88362f559e84eaac", func := "tallage/tallagelaw10.CellBack", spec := "cellBack", inPlace := ["internal/bytealg.abigen_runtime_cmpstring", "slices.overlaps[string]", "slices.overlaps[tallage/store.block]", "internal/abi.NoEscape"], unfollowed := true, recurses := true, apart := false, narrowed := true }
def CellBackUptoSaid : Prop := cellBackUptoRow.holds Try.pinned (OpenSpec.upto cellBackSpec)

/-- 'tallagelaw13.DueOnce', WHERE WHAT IT READS IS OF BULK AT MOST 1048576: true; the input reads as it did. -/
def dueOnceUptoRow : OpenClaim := { program := "ytnoocidoblndgaa", sum := "ca9370f79a9ecb4bbef987d3dae41927b574276df7d94b0a88362f559e84eaac", func := "tallage/tallagelaw13.DueOnce", spec := "dueOnce", inPlace := ["internal/abi.NoEscape", "internal/bytealg.abigen_runtime_cmpstring", "slices.overlaps[string]", "slices.overlaps[tallage/store.block]"], unfollowed := true, recurses := true, apart := false, narrowed := true }
def DueOnceUptoSaid : Prop := dueOnceUptoRow.holds Try.pinned (OpenSpec.upto dueOnceSpec)

/-- 'tallagelaw13.DueNone', WHERE WHAT IT READS IS OF BULK AT MOST 1048576: true; the input reads as it did. -/
def dueNoneUptoRow : OpenClaim := { program := "ytnoocidoblndgaa", sum := "ca9370f79a9ecb4bbef987d3dae41927b574276df7d94b0a88362f559e84eaac", func := "tallage/tallagelaw13.DueNone", spec := "dueNone", inPlace := ["internal/abi.NoEscape", "internal/bytealg.abigen_runtime_cmpstring", "slices.overlaps[string]", "slices.overlaps[tallage/store.block]"], unfollowed := true, recurses := true, apart := false, narrowed := true }
def DueNoneUptoSaid : Prop := dueNoneUptoRow.holds Try.pinned (OpenSpec.upto dueNoneSpec)

/-- 'tallagelaw13.DueActs', WHERE WHAT IT READS IS OF BULK AT MOST 1048576: true; the input reads as it did. -/
def dueActsUptoRow : OpenClaim := { program := "ytnoocidoblndgaa", sum := "ca9370f79a9ecb4bbef987d3dae41927b574276df7d94b0a88362f559e84eaac", func := "tallage/tallagelaw13.DueActs", spec := "dueActs", inPlace := ["internal/abi.NoEscape", "internal/bytealg.abigen_runtime_cmpstring", "slices.overlaps[string]", "slices.overlaps[tallage/store.block]"], unfollowed := true, recurses := true, apart := false, narrowed := true }
def DueActsUptoSaid : Prop := dueActsUptoRow.holds Try.pinned (OpenSpec.upto dueActsSpec)

/-- 'tallagelaw22.MagnFalls', WHERE WHAT IT READS IS OF BULK AT MOST 1048576: true; the input reads as it did. -/
def magnFallsUptoRow : OpenClaim := { program := "ytnoocidoblndgaa", sum := "ca9370f79a9ecb4bbef987d3dae41927b574276df7d94b0a88362f559e84eaac", func := "tallage/tallagelaw22.MagnFalls", spec := "magnFalls", inPlace := ["internal/abi.NoEscape", "internal/bytealg.abigen_runtime_cmpstring", "slices.overlaps[string]", "slices.overlaps[tallage/store.block]"], unfollowed := true, recurses := true, apart := false, narrowed := true }
def MagnFallsUptoSaid : Prop := magnFallsUptoRow.holds Try.pinned (OpenSpec.upto magnFallsSpec)

/-- 'tallagelaw22.MagnNone', WHERE WHAT IT READS IS OF BULK AT MOST 1048576: true; the input reads as it did. -/
def magnNoneUptoRow : OpenClaim := { program := "ytnoocidoblndgaa", sum := "ca9370f79a9ecb4bbef987d3dae41927b574276df7d94b0a88362f559e84eaac", func := "tallage/tallagelaw22.MagnNone", spec := "magnNone", inPlace := ["internal/abi.NoEscape", "internal/bytealg.abigen_runtime_cmpstring", "slices.overlaps[string]", "slices.overlaps[tallage/store.block]"], unfollowed := true, recurses := true, apart := false, narrowed := true }
def MagnNoneUptoSaid : Prop := magnNoneUptoRow.holds Try.pinned (OpenSpec.upto magnNoneSpec)

end Rows
end Go.Proofs.Ytnoocidoblndgaa
