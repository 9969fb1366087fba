/-
  No cell of these rows narrows 'for every input' (looked for: loops, veiled, ifaces, maps, wideKeys, modest, calm, conditions, laid).
  DERIVED. THE GIVEN ROWS OF THIS SEAT. 12 by the template 'for every input the law returns true; each argument reads behind the call as it read before'; 0 by the template 'total and deterministic' (their statements: YtggcmaegmkjedaaTotals.lean).
  GIVEN WITH THE SEED: the statements are not yours to turn. If you find one false, say at which input.
  Laid BY PROGRAM, IN A SANDBOX (cutbox-rows.mjs): the forced cells as the released guide's own fill.sh prints them over the translation 360718a9b0a1e2a2… (all of the seat's roots in one cut). By AI agents, Wed Nov 11 2026. No macro, syntax, notation, axiom, sorry.
-/
import Derived.Test.YtggcmaegmkjedaaChecked
import GoSem.Claim
import GoSem.ClaimJoined
import GoSem.ClaimMapViews
import Derived.JoinedTies
import Derived.KernelRfl
namespace Go.Proofs.Ytggcmaegmkjedaa
/- THE CELL 'sum', in the pinned program and in every row, IS THE sha256 OF THE DUMP (.gsa) THAT YtggcmaegmkjedaaProg.lean LOADS. Nothing in Lean hashes anything: it is a label: what it is worth is what the hold of that sum in a sandbox is worth. -/
noncomputable def Try.pinned : Pinned := { name := "ytggcmaegmkjedaa", sum := "360718a9b0a1e2a2dda7d838e4770be6a1419d12a91c39269d65d18380ba9ffb", checked := Try.checked }
namespace Rows
def none {H : Type} : Left H := { results := [], args := [] }

/-- 'tallagelaw34.SplitParts': WHATEVER THE INPUT: true; the input reads as it did. -/
def splitPartsSpec : ChangeSpec := { name := "splitParts", fn := fun _ => fun
  | [d1, d2] => { results := [.lit (.bool true)], args := [d1, d2] }
  | _ => none }
def splitPartsRow : OpenClaim := { program := "ytggcmaegmkjedaa", sum := "360718a9b0a1e2a2dda7d838e4770be6a1419d12a91c39269d65d18380ba9ffb", func := "tallage/tallagelaw34.SplitParts", spec := "splitParts", unfollowed := true, recurses := true, apart := false }
def SplitPartsSaid : Prop := splitPartsRow.holds Try.pinned (OpenSpec.ofChange splitPartsSpec)

/-- ITS FALSE NEIGHBOUR: 'it returns false'. Refute it at one input. -/
def splitPartsWrong : ChangeSpec := { name := "splitParts", fn := fun _ => fun
  | [d1, d2] => { results := [.lit (.bool false)], args := [d1, d2] }
  | _ => none }
def SplitPartsWrongFalsely : Prop := splitPartsRow.holds Try.pinned (OpenSpec.ofChange splitPartsWrong)

/-- 'tallagelaw34.SplitAdds': WHATEVER THE INPUT: true; the input reads as it did. -/
def splitAddsSpec : ChangeSpec := { name := "splitAdds", fn := fun _ => fun
  | [d1, d2] => { results := [.lit (.bool true)], args := [d1, d2] }
  | _ => none }
def splitAddsRow : OpenClaim := { program := "ytggcmaegmkjedaa", sum := "360718a9b0a1e2a2dda7d838e4770be6a1419d12a91c39269d65d18380ba9ffb", func := "tallage/tallagelaw34.SplitAdds", spec := "splitAdds", unfollowed := true, recurses := true, apart := false }
def SplitAddsSaid : Prop := splitAddsRow.holds Try.pinned (OpenSpec.ofChange splitAddsSpec)

/-- ITS FALSE NEIGHBOUR: 'it returns false'. Refute it at one input. -/
def splitAddsWrong : ChangeSpec := { name := "splitAdds", fn := fun _ => fun
  | [d1, d2] => { results := [.lit (.bool false)], args := [d1, d2] }
  | _ => none }
def SplitAddsWrongFalsely : Prop := splitAddsRow.holds Try.pinned (OpenSpec.ofChange splitAddsWrong)

/-- 'tallagelaw08.StoreLast': WHATEVER THE INPUT: true; the input reads as it did. -/
def storeLastSpec : ChangeSpec := { name := "storeLast", fn := fun _ => fun
  | [d1, d2, d3] => { results := [.lit (.bool true)], args := [d1, d2, d3] }
  | _ => none }
def storeLastRow : OpenClaim := { program := "ytggcmaegmkjedaa", sum := "360718a9b0a1e2a2dda7d838e4770be6a1419d12a91c39269d65d18380ba9ffb", func := "tallage/tallagelaw08.StoreLast", spec := "storeLast", inPlace := ["internal/bytealg.abigen_runtime_cmpstring", "slices.overlaps[string]", "slices.overlaps[tallage/store.block]"], unfollowed := true, recurses := true, apart := false }
def StoreLastSaid : Prop := storeLastRow.holds Try.pinned (OpenSpec.ofChange storeLastSpec)

/-- ITS FALSE NEIGHBOUR: 'it returns false'. Refute it at one input. -/
def storeLastWrong : ChangeSpec := { name := "storeLast", fn := fun _ => fun
  | [d1, d2, d3] => { results := [.lit (.bool false)], args := [d1, d2, d3] }
  | _ => none }
def StoreLastWrongFalsely : Prop := storeLastRow.holds Try.pinned (OpenSpec.ofChange storeLastWrong)

/-- 'tallagelaw08.StoreUndone': WHATEVER THE INPUT: true; the input reads as it did. -/
def storeUndoneSpec : ChangeSpec := { name := "storeUndone", fn := fun _ => fun
  | [d1, d2] => { results := [.lit (.bool true)], args := [d1, d2] }
  | _ => none }
def storeUndoneRow : OpenClaim := { program := "ytggcmaegmkjedaa", sum := "360718a9b0a1e2a2dda7d838e4770be6a1419d12a91c39269d65d18380ba9ffb", func := "tallage/tallagelaw08.StoreUndone", spec := "storeUndone", inPlace := ["internal/bytealg.abigen_runtime_cmpstring", "slices.overlaps[string]", "slices.overlaps[tallage/store.block]"], unfollowed := true, recurses := true, apart := false }
def StoreUndoneSaid : Prop := storeUndoneRow.holds Try.pinned (OpenSpec.ofChange storeUndoneSpec)

/-- ITS FALSE NEIGHBOUR: 'it returns false'. Refute it at one input. -/
def storeUndoneWrong : ChangeSpec := { name := "storeUndone", fn := fun _ => fun
  | [d1, d2] => { results := [.lit (.bool false)], args := [d1, d2] }
  | _ => none }
def StoreUndoneWrongFalsely : Prop := storeUndoneRow.holds Try.pinned (OpenSpec.ofChange storeUndoneWrong)

/-- 'tallagelaw08.StoreActs': WHATEVER THE INPUT: true; the input reads as it did. -/
def storeActsSpec : ChangeSpec := { name := "storeActs", fn := fun _ => fun
  | [d1, d2] => { results := [.lit (.bool true)], args := [d1, d2] }
  | _ => none }
def storeActsRow : OpenClaim := { program := "ytggcmaegmkjedaa", sum := "360718a9b0a1e2a2dda7d838e4770be6a1419d12a91c39269d65d18380ba9ffb", func := "tallage/tallagelaw08.StoreActs", spec := "storeActs", inPlace := ["internal/bytealg.abigen_runtime_cmpstring", "slices.overlaps[string]", "slices.overlaps[tallage/store.block]", "maps.clone"], unfollowed := true, recurses := true, apart := false }
def StoreActsSaid : Prop := storeActsRow.holds Try.pinned (OpenSpec.ofChange storeActsSpec)

/-- ITS FALSE NEIGHBOUR: 'it returns false'. Refute it at one input. -/
def storeActsWrong : ChangeSpec := { name := "storeActs", fn := fun _ => fun
  | [d1, d2] => { results := [.lit (.bool false)], args := [d1, d2] }
  | _ => none }
def StoreActsWrongFalsely : Prop := storeActsRow.holds Try.pinned (OpenSpec.ofChange storeActsWrong)

/-- 'tallagelaw08.StoreNone': WHATEVER THE INPUT: true; the input reads as it did. -/
def storeNoneSpec : ChangeSpec := { name := "storeNone", fn := fun _ => fun
  | [d] => { results := [.lit (.bool true)], args := [d] }
  | _ => none }
def storeNoneRow : OpenClaim := { program := "ytggcmaegmkjedaa", sum := "360718a9b0a1e2a2dda7d838e4770be6a1419d12a91c39269d65d18380ba9ffb", func := "tallage/tallagelaw08.StoreNone", spec := "storeNone", inPlace := ["internal/bytealg.abigen_runtime_cmpstring", "slices.overlaps[string]", "slices.overlaps[tallage/store.block]", "maps.clone"], unfollowed := true, recurses := true, apart := false }
def StoreNoneSaid : Prop := storeNoneRow.holds Try.pinned (OpenSpec.ofChange storeNoneSpec)

/-- ITS FALSE NEIGHBOUR: 'it returns false'. Refute it at one input. -/
def storeNoneWrong : ChangeSpec := { name := "storeNone", fn := fun _ => fun
  | [d] => { results := [.lit (.bool false)], args := [d] }
  | _ => none }
def StoreNoneWrongFalsely : Prop := storeNoneRow.holds Try.pinned (OpenSpec.ofChange storeNoneWrong)

/-- 'tallagelaw28.DelayWaits': WHATEVER THE INPUT: true; the input reads as it did. -/
def delayWaitsSpec : ChangeSpec := { name := "delayWaits", fn := fun _ => fun
  | [d1, d2, d3] => { results := [.lit (.bool true)], args := [d1, d2, d3] }
  | _ => none }
def delayWaitsRow : OpenClaim := { program := "ytggcmaegmkjedaa", sum := "360718a9b0a1e2a2dda7d838e4770be6a1419d12a91c39269d65d18380ba9ffb", func := "tallage/tallagelaw28.DelayWaits", spec := "delayWaits", inPlace := ["internal/abi.NoEscape", "internal/bytealg.abigen_runtime_cmpstring", "slices.overlaps[string]", "slices.overlaps[tallage/store.block]"], unfollowed := true, recurses := true, apart := false }
def DelayWaitsSaid : Prop := delayWaitsRow.holds Try.pinned (OpenSpec.ofChange delayWaitsSpec)

/-- ITS FALSE NEIGHBOUR: 'it returns false'. Refute it at one input. -/
def delayWaitsWrong : ChangeSpec := { name := "delayWaits", fn := fun _ => fun
  | [d1, d2, d3] => { results := [.lit (.bool false)], args := [d1, d2, d3] }
  | _ => none }
def DelayWaitsWrongFalsely : Prop := delayWaitsRow.holds Try.pinned (OpenSpec.ofChange delayWaitsWrong)

/-- 'tallagelaw28.DelayNone': WHATEVER THE INPUT: true; the input reads as it did. -/
def delayNoneSpec : ChangeSpec := { name := "delayNone", fn := fun _ => fun
  | [d] => { results := [.lit (.bool true)], args := [d] }
  | _ => none }
def delayNoneRow : OpenClaim := { program := "ytggcmaegmkjedaa", sum := "360718a9b0a1e2a2dda7d838e4770be6a1419d12a91c39269d65d18380ba9ffb", func := "tallage/tallagelaw28.DelayNone", spec := "delayNone", inPlace := ["internal/abi.NoEscape", "internal/bytealg.abigen_runtime_cmpstring", "slices.overlaps[string]", "slices.overlaps[tallage/store.block]"], unfollowed := true, recurses := true, apart := false }
def DelayNoneSaid : Prop := delayNoneRow.holds Try.pinned (OpenSpec.ofChange delayNoneSpec)

/-- ITS FALSE NEIGHBOUR: 'it returns false'. Refute it at one input. -/
def delayNoneWrong : ChangeSpec := { name := "delayNone", fn := fun _ => fun
  | [d] => { results := [.lit (.bool false)], args := [d] }
  | _ => none }
def DelayNoneWrongFalsely : Prop := delayNoneRow.holds Try.pinned (OpenSpec.ofChange delayNoneWrong)

/-- 'tallagelaw28.DelayActs': WHATEVER THE INPUT: true; the input reads as it did. -/
def delayActsSpec : ChangeSpec := { name := "delayActs", fn := fun _ => fun
  | [d1, d2, d3] => { results := [.lit (.bool true)], args := [d1, d2, d3] }
  | _ => none }
def delayActsRow : OpenClaim := { program := "ytggcmaegmkjedaa", sum := "360718a9b0a1e2a2dda7d838e4770be6a1419d12a91c39269d65d18380ba9ffb", func := "tallage/tallagelaw28.DelayActs", spec := "delayActs", inPlace := ["internal/abi.NoEscape", "internal/bytealg.abigen_runtime_cmpstring", "slices.overlaps[string]", "slices.overlaps[tallage/store.block]"], unfollowed := true, recurses := true, apart := false }
def DelayActsSaid : Prop := delayActsRow.holds Try.pinned (OpenSpec.ofChange delayActsSpec)

/-- ITS FALSE NEIGHBOUR: 'it returns false'. Refute it at one input. -/
def delayActsWrong : ChangeSpec := { name := "delayActs", fn := fun _ => fun
  | [d1, d2, d3] => { results := [.lit (.bool false)], args := [d1, d2, d3] }
  | _ => none }
def DelayActsWrongFalsely : Prop := delayActsRow.holds Try.pinned (OpenSpec.ofChange delayActsWrong)

/-- 'tallagelaw10.CellMoves': WHATEVER THE INPUT: true; the input reads as it did. -/
def cellMovesSpec : ChangeSpec := { name := "cellMoves", fn := fun _ => fun
  | [d1, d2] => { results := [.lit (.bool true)], args := [d1, d2] }
  | _ => none }
def cellMovesRow : OpenClaim := { program := "ytggcmaegmkjedaa", sum := "360718a9b0a1e2a2dda7d838e4770be6a1419d12a91c39269d65d18380ba9ffb", func := "tallage/tallagelaw10.CellMoves", spec := "cellMoves", inPlace := ["internal/bytealg.abigen_runtime_cmpstring", "slices.overlaps[string]", "slices.overlaps[tallage/store.block]", "internal/abi.NoEscape"], unfollowed := true, recurses := true, apart := false }
def CellMovesSaid : Prop := cellMovesRow.holds Try.pinned (OpenSpec.ofChange cellMovesSpec)

/-- ITS FALSE NEIGHBOUR: 'it returns false'. Refute it at one input. -/
def cellMovesWrong : ChangeSpec := { name := "cellMoves", fn := fun _ => fun
  | [d1, d2] => { results := [.lit (.bool false)], args := [d1, d2] }
  | _ => none }
def CellMovesWrongFalsely : Prop := cellMovesRow.holds Try.pinned (OpenSpec.ofChange cellMovesWrong)

/-- 'tallagelaw10.CellBack': WHATEVER THE INPUT: true; the input reads as it did. -/
def cellBackSpec : ChangeSpec := { name := "cellBack", fn := fun _ => fun
  | [d1, d2, d3] => { results := [.lit (.bool true)], args := [d1, d2, d3] }
  | _ => none }
def cellBackRow : OpenClaim := { program := "ytggcmaegmkjedaa", sum := "360718a9b0a1e2a2dda7d838e4770be6a1419d12a91c39269d65d18380ba9ffb", func := "tallage/tallagelaw10.CellBack", spec := "cellBack", inPlace := ["internal/bytealg.abigen_runtime_cmpstring", "slices.overlaps[string]", "slices.overlaps[tallage/store.block]", "internal/abi.NoEscape"], unfollowed := true, recurses := true, apart := false }
def CellBackSaid : Prop := cellBackRow.holds Try.pinned (OpenSpec.ofChange cellBackSpec)

/-- ITS FALSE NEIGHBOUR: 'it returns false'. Refute it at one input. -/
def cellBackWrong : ChangeSpec := { name := "cellBack", fn := fun _ => fun
  | [d1, d2, d3] => { results := [.lit (.bool false)], args := [d1, d2, d3] }
  | _ => none }
def CellBackWrongFalsely : Prop := cellBackRow.holds Try.pinned (OpenSpec.ofChange cellBackWrong)

/-- 'tallagelaw34.SplitNone': WHATEVER THE INPUT: true; the input reads as it did. -/
def splitNoneSpec : ChangeSpec := { name := "splitNone", fn := fun _ => fun
  | [d] => { results := [.lit (.bool true)], args := [d] }
  | _ => none }
def splitNoneRow : OpenClaim := { program := "ytggcmaegmkjedaa", sum := "360718a9b0a1e2a2dda7d838e4770be6a1419d12a91c39269d65d18380ba9ffb", func := "tallage/tallagelaw34.SplitNone", spec := "splitNone", inPlace := ["internal/abi.NoEscape", "internal/bytealg.abigen_runtime_cmpstring", "slices.overlaps[string]", "slices.overlaps[tallage/store.block]"], unfollowed := true, recurses := true, apart := false }
def SplitNoneSaid : Prop := splitNoneRow.holds Try.pinned (OpenSpec.ofChange splitNoneSpec)

/-- ITS FALSE NEIGHBOUR: 'it returns false'. Refute it at one input. -/
def splitNoneWrong : ChangeSpec := { name := "splitNone", fn := fun _ => fun
  | [d] => { results := [.lit (.bool false)], args := [d] }
  | _ => none }
def SplitNoneWrongFalsely : Prop := splitNoneRow.holds Try.pinned (OpenSpec.ofChange splitNoneWrong)

/- THE SECOND FORM. 'bulk': how many values and letters a reading holds, each counted each time it is reached (what is shared counts as often as it is met; a slice's spare places count too). A statement '..UptoSaid' is the law's where the arguments, and the package variables that the reading takes, are together of bulk at most 1048576: NARROWER than '..Said'. Prove '..Said' where nothing that the law and all that it calls make is longer than what came in: it says more and counts as full. Else prove '..UptoSaid'. A law counts once. -/
mutual
def uptoBulk {H : Type} : DataW H → Nat
  | .lit (.string bytes) => bytes.length + 1
  | .lit _ => 1
  | .nil => 1
  | .ptr d => uptoBulk d + 1
  | .slice elems spare => uptoBulkAll elems + uptoBulkAll spare + 1
  | .agg parts => uptoBulkAll parts + 1
  | .iface _ d => uptoBulk d + 1
  | .map entries => uptoBulkEntries entries + 1
  | .held _ => 1
def uptoBulkAll {H : Type} : List (DataW H) → Nat
  | [] => 0
  | d :: r => uptoBulk d + uptoBulkAll r
def uptoBulkEntries {H : Type} : List (Lit × DataW H) → Nat
  | [] => 0
  | x :: r => uptoBulkEntry x + uptoBulkEntries r
def uptoBulkEntry {H : Type} : Lit × DataW H → Nat
  | (.string bytes, d) => bytes.length + uptoBulk d + 1
  | (_, d) => uptoBulk d + 1
 end
def uptoSmall : (H : Type) → List (DataW H) → Bool := fun _ ds => decide (uptoBulkAll ds ≤ 1048576)
def OpenSpec.upto (s : _root_.Go.ChangeSpec) : _root_.Go.OpenSpec := { _root_.Go.OpenSpec.ofChange s with cond := some uptoSmall }

/-- 'tallagelaw34.SplitParts', WHERE WHAT IT READS IS OF BULK AT MOST 1048576: true; the input reads as it did. -/
def splitPartsUptoRow : OpenClaim := { program := "ytggcmaegmkjedaa", sum := "360718a9b0a1e2a2dda7d838e4770be6a1419d12a91c39269d65d18380ba9ffb", func := "tallage/tallagelaw34.SplitParts", spec := "splitParts", unfollowed := true, recurses := true, apart := false, narrowed := true }
def SplitPartsUptoSaid : Prop := splitPartsUptoRow.holds Try.pinned (OpenSpec.upto splitPartsSpec)

/-- 'tallagelaw34.SplitAdds', WHERE WHAT IT READS IS OF BULK AT MOST 1048576: true; the input reads as it did. -/
def splitAddsUptoRow : OpenClaim := { program := "ytggcmaegmkjedaa", sum := "360718a9b0a1e2a2dda7d838e4770be6a1419d12a91c39269d65d18380ba9ffb", func := "tallage/tallagelaw34.SplitAdds", spec := "splitAdds", unfollowed := true, recurses := true, apart := false, narrowed := true }
def SplitAddsUptoSaid : Prop := splitAddsUptoRow.holds Try.pinned (OpenSpec.upto splitAddsSpec)

/-- 'tallagelaw08.StoreLast', WHERE WHAT IT READS IS OF BULK AT MOST 1048576: true; the input reads as it did. -/
def storeLastUptoRow : OpenClaim := { program := "ytggcmaegmkjedaa", sum := "360718a9b0a1e2a2dda7d838e4770be6a1419d12a91c39269d65d18380ba9ffb", func := "tallage/tallagelaw08.StoreLast", spec := "storeLast", inPlace := ["internal/bytealg.abigen_runtime_cmpstring", "slices.overlaps[string]", "slices.overlaps[tallage/store.block]"], unfollowed := true, recurses := true, apart := false, narrowed := true }
def StoreLastUptoSaid : Prop := storeLastUptoRow.holds Try.pinned (OpenSpec.upto storeLastSpec)

/-- 'tallagelaw08.StoreUndone', WHERE WHAT IT READS IS OF BULK AT MOST 1048576: true; the input reads as it did. -/
def storeUndoneUptoRow : OpenClaim := { program := "ytggcmaegmkjedaa", sum := "360718a9b0a1e2a2dda7d838e4770be6a1419d12a91c39269d65d18380ba9ffb", func := "tallage/tallagelaw08.StoreUndone", spec := "storeUndone", inPlace := ["internal/bytealg.abigen_runtime_cmpstring", "slices.overlaps[string]", "slices.overlaps[tallage/store.block]"], unfollowed := true, recurses := true, apart := false, narrowed := true }
def StoreUndoneUptoSaid : Prop := storeUndoneUptoRow.holds Try.pinned (OpenSpec.upto storeUndoneSpec)

/-- 'tallagelaw08.StoreActs', WHERE WHAT IT READS IS OF BULK AT MOST 1048576: true; the input reads as it did. -/
def storeActsUptoRow : OpenClaim := { program := "ytggcmaegmkjedaa", sum := "360718a9b0a1e2a2dda7d838e4770be6a1419d12a91c39269d65d18380ba9ffb", func := "tallage/tallagelaw08.StoreActs", spec := "storeActs", inPlace := ["internal/bytealg.abigen_runtime_cmpstring", "slices.overlaps[string]", "slices.overlaps[tallage/store.block]", "maps.clone"], unfollowed := true, recurses := true, apart := false, narrowed := true }
def StoreActsUptoSaid : Prop := storeActsUptoRow.holds Try.pinned (OpenSpec.upto storeActsSpec)

/-- 'tallagelaw08.StoreNone', WHERE WHAT IT READS IS OF BULK AT MOST 1048576: true; the input reads as it did. -/
def storeNoneUptoRow : OpenClaim := { program := "ytggcmaegmkjedaa", sum := "360718a9b0a1e2a2dda7d838e4770be6a1419d12a91c39269d65d18380ba9ffb", func := "tallage/tallagelaw08.StoreNone", spec := "storeNone", inPlace := ["internal/bytealg.abigen_runtime_cmpstring", "slices.overlaps[string]", "slices.overlaps[tallage/store.block]", "maps.clone"], unfollowed := true, recurses := true, apart := false, narrowed := true }
def StoreNoneUptoSaid : Prop := storeNoneUptoRow.holds Try.pinned (OpenSpec.upto storeNoneSpec)

/-- 'tallagelaw28.DelayWaits', WHERE WHAT IT READS IS OF BULK AT MOST 1048576: true; the input reads as it did. -/
def delayWaitsUptoRow : OpenClaim := { program := "ytggcmaegmkjedaa", sum := "360718a9b0a1e2a2dda7d838e4770be6a1419d12a91c39269d65d18380ba9ffb", func := "tallage/tallagelaw28.DelayWaits", spec := "delayWaits", inPlace := ["internal/abi.NoEscape", "internal/bytealg.abigen_runtime_cmpstring", "slices.overlaps[string]", "slices.overlaps[tallage/store.block]"], unfollowed := true, recurses := true, apart := false, narrowed := true }
def DelayWaitsUptoSaid : Prop := delayWaitsUptoRow.holds Try.pinned (OpenSpec.upto delayWaitsSpec)

/-- 'tallagelaw28.DelayNone', WHERE WHAT IT READS IS OF BULK AT MOST 1048576: true; the input reads as it did. -/
def delayNoneUptoRow : OpenClaim := { program := "ytggcmaegmkjedaa", sum := "360718a9b0a1e2a2dda7d838e4770be6a1419d12a91c39269d65d18380ba9ffb", func := "tallage/tallagelaw28.DelayNone", spec := "delayNone", inPlace := ["internal/abi.NoEscape", "internal/bytealg.abigen_runtime_cmpstring", "slices.overlaps[string]", "slices.overlaps[tallage/store.block]"], unfollowed := true, recurses := true, apart := false, narrowed := true }
def DelayNoneUptoSaid : Prop := delayNoneUptoRow.holds Try.pinned (OpenSpec.upto delayNoneSpec)

/-- 'tallagelaw28.DelayActs', WHERE WHAT IT READS IS OF BULK AT MOST 1048576: true; the input reads as it did. -/
def delayActsUptoRow : OpenClaim := { program := "ytggcmaegmkjedaa", sum := "360718a9b0a1e2a2dda7d838e4770be6a1419d12a91c39269d65d18380ba9ffb", func := "tallage/tallagelaw28.DelayActs", spec := "delayActs", inPlace := ["internal/abi.NoEscape", "internal/bytealg.abigen_runtime_cmpstring", "slices.overlaps[string]", "slices.overlaps[tallage/store.block]"], unfollowed := true, recurses := true, apart := false, narrowed := true }
def DelayActsUptoSaid : Prop := delayActsUptoRow.holds Try.pinned (OpenSpec.upto delayActsSpec)

/-- 'tallagelaw10.CellMoves', WHERE WHAT IT READS IS OF BULK AT MOST 1048576: true; the input reads as it did. -/
def cellMovesUptoRow : OpenClaim := { program := "ytggcmaegmkjedaa", sum := "360718a9b0a1e2a2dda7d838e4770be6a1419d12a91c39269d65d18380ba9ffb", func := "tallage/tallagelaw10.CellMoves", spec := "cellMoves", inPlace := ["internal/bytealg.abigen_runtime_cmpstring", "slices.overlaps[string]", "slices.overlaps[tallage/store.block]", "internal/abi.NoEscape"], unfollowed := true, recurses := true, apart := false, narrowed := true }
def CellMovesUptoSaid : Prop := cellMovesUptoRow.holds Try.pinned (OpenSpec.upto cellMovesSpec)

/-- 'tallagelaw10.CellBack', WHERE WHAT IT READS IS OF BULK AT MOST 1048576: true; the input reads as it did. -/
def cellBackUptoRow : OpenClaim := { program := "ytggcmaegmkjedaa", sum := "360718a9b0a1e2a2dda7d838e4770be6a1419d12a91c39269d65d18380ba9ffb", func := "tallage/tallagelaw10.CellBack", spec := "cellBack", inPlace := ["internal/bytealg.abigen_runtime_cmpstring", "slices.overlaps[string]", "slices.overlaps[tallage/store.block]", "internal/abi.NoEscape"], unfollowed := true, recurses := true, apart := false, narrowed := true }
def CellBackUptoSaid : Prop := cellBackUptoRow.holds Try.pinned (OpenSpec.upto cellBackSpec)

/-- 'tallagelaw34.SplitNone', WHERE WHAT IT READS IS OF BULK AT MOST 1048576: true; the input reads as it did. -/
def splitNoneUptoRow : OpenClaim := { program := "ytggcmaegmkjedaa", sum := "360718a9b0a1e2a2dda7d838e4770be6a1419d12a91c39269d65d18380ba9ffb", func := "tallage/tallagelaw34.SplitNone", spec := "splitNone", inPlace := ["internal/abi.NoEscape", "internal/bytealg.abigen_runtime_cmpstring", "slices.overlaps[string]", "slices.overlaps[tallage/store.block]"], unfollowed := true, recurses := true, apart := false, narrowed := true }
def SplitNoneUptoSaid : Prop := splitNoneUptoRow.holds Try.pinned (OpenSpec.upto splitNoneSpec)

end Rows
end Go.Proofs.Ytggcmaegmkjedaa
