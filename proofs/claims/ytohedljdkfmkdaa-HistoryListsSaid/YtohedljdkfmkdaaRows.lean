/-
  No cell of these rows narrows 'for every input' (looked for: loops, veiled, ifaces, maps, wideKeys, modest, calm, conditions, laid).
  DERIVED. THE GIVEN ROWS OF THIS SEAT. 11 by the template 'for every input the law returns true; each argument reads behind the call as it read before'; 0 by the template 'total and deterministic' (their statements: YtohedljdkfmkdaaTotals.lean).
  GIVEN WITH THE SEED: the statements are not yours to turn. If you find one false, say at which input.
  Laid BY PROGRAM, IN A SANDBOX (cutbox-rows.mjs): the forced cells as the released guide's own fill.sh prints them over the translation 1c6e6f13cc028b2b… (all of the seat's roots in one cut). By AI agents, Wed Nov 11 2026. No macro, syntax, notation, axiom, sorry.
-/
import Derived.Test.YtohedljdkfmkdaaChecked
import GoSem.Claim
import GoSem.ClaimJoined
import GoSem.ClaimMapViews
import Derived.JoinedTies
import Derived.KernelRfl
namespace Go.Proofs.Ytohedljdkfmkdaa
/- THE CELL 'sum', in the pinned program and in every row, IS THE sha256 OF THE DUMP (.gsa) THAT YtohedljdkfmkdaaProg.lean LOADS. Nothing in Lean hashes anything: it is a label: what it is worth is what the hold of that sum in a sandbox is worth. -/
noncomputable def Try.pinned : Pinned := { name := "ytohedljdkfmkdaa", sum := "1c6e6f13cc028b2bf8812285d5ccc81d6848794f3a97489ae7b98dbf911552da", checked := Try.checked }
namespace Rows
def none {H : Type} : Left H := { results := [], args := [] }

/-- 'tallagelaw08.StoreActs': WHATEVER THE INPUT: true; the input reads as it did. -/
def storeActsSpec : ChangeSpec := { name := "storeActs", fn := fun _ => fun
  | [d1, d2] => { results := [.lit (.bool true)], args := [d1, d2] }
  | _ => none }
def storeActsRow : OpenClaim := { program := "ytohedljdkfmkdaa", sum := "1c6e6f13cc028b2bf8812285d5ccc81d6848794f3a97489ae7b98dbf911552da", func := "tallage/tallagelaw08.StoreActs", spec := "storeActs", inPlace := ["internal/bytealg.abigen_runtime_cmpstring", "slices.overlaps[string]", "slices.overlaps[tallage/store.block]", "maps.clone"], unfollowed := true, recurses := true, apart := false }
def StoreActsSaid : Prop := storeActsRow.holds Try.pinned (OpenSpec.ofChange storeActsSpec)

/-- ITS FALSE NEIGHBOUR: 'it returns false'. Refute it at one input. -/
def storeActsWrong : ChangeSpec := { name := "storeActs", fn := fun _ => fun
  | [d1, d2] => { results := [.lit (.bool false)], args := [d1, d2] }
  | _ => none }
def StoreActsWrongFalsely : Prop := storeActsRow.holds Try.pinned (OpenSpec.ofChange storeActsWrong)

/-- 'tallagelaw28.DelayWaits': WHATEVER THE INPUT: true; the input reads as it did. -/
def delayWaitsSpec : ChangeSpec := { name := "delayWaits", fn := fun _ => fun
  | [d1, d2, d3] => { results := [.lit (.bool true)], args := [d1, d2, d3] }
  | _ => none }
def delayWaitsRow : OpenClaim := { program := "ytohedljdkfmkdaa", sum := "1c6e6f13cc028b2bf8812285d5ccc81d6848794f3a97489ae7b98dbf911552da", func := "tallage/tallagelaw28.DelayWaits", spec := "delayWaits", inPlace := ["internal/abi.NoEscape", "internal/bytealg.abigen_runtime_cmpstring", "slices.overlaps[string]", "slices.overlaps[tallage/store.block]"], unfollowed := true, recurses := true, apart := false }
def DelayWaitsSaid : Prop := delayWaitsRow.holds Try.pinned (OpenSpec.ofChange delayWaitsSpec)

/-- ITS FALSE NEIGHBOUR: 'it returns false'. Refute it at one input. -/
def delayWaitsWrong : ChangeSpec := { name := "delayWaits", fn := fun _ => fun
  | [d1, d2, d3] => { results := [.lit (.bool false)], args := [d1, d2, d3] }
  | _ => none }
def DelayWaitsWrongFalsely : Prop := delayWaitsRow.holds Try.pinned (OpenSpec.ofChange delayWaitsWrong)

/-- 'tallagelaw28.DelayNone': WHATEVER THE INPUT: true; the input reads as it did. -/
def delayNoneSpec : ChangeSpec := { name := "delayNone", fn := fun _ => fun
  | [d] => { results := [.lit (.bool true)], args := [d] }
  | _ => none }
def delayNoneRow : OpenClaim := { program := "ytohedljdkfmkdaa", sum := "1c6e6f13cc028b2bf8812285d5ccc81d6848794f3a97489ae7b98dbf911552da", func := "tallage/tallagelaw28.DelayNone", spec := "delayNone", inPlace := ["internal/abi.NoEscape", "internal/bytealg.abigen_runtime_cmpstring", "slices.overlaps[string]", "slices.overlaps[tallage/store.block]"], unfollowed := true, recurses := true, apart := false }
def DelayNoneSaid : Prop := delayNoneRow.holds Try.pinned (OpenSpec.ofChange delayNoneSpec)

/-- ITS FALSE NEIGHBOUR: 'it returns false'. Refute it at one input. -/
def delayNoneWrong : ChangeSpec := { name := "delayNone", fn := fun _ => fun
  | [d] => { results := [.lit (.bool false)], args := [d] }
  | _ => none }
def DelayNoneWrongFalsely : Prop := delayNoneRow.holds Try.pinned (OpenSpec.ofChange delayNoneWrong)

/-- 'tallagelaw28.DelayActs': WHATEVER THE INPUT: true; the input reads as it did. -/
def delayActsSpec : ChangeSpec := { name := "delayActs", fn := fun _ => fun
  | [d1, d2, d3] => { results := [.lit (.bool true)], args := [d1, d2, d3] }
  | _ => none }
def delayActsRow : OpenClaim := { program := "ytohedljdkfmkdaa", sum := "1c6e6f13cc028b2bf8812285d5ccc81d6848794f3a97489ae7b98dbf911552da", func := "tallage/tallagelaw28.DelayActs", spec := "delayActs", inPlace := ["internal/abi.NoEscape", "internal/bytealg.abigen_runtime_cmpstring", "slices.overlaps[string]", "slices.overlaps[tallage/store.block]"], unfollowed := true, recurses := true, apart := false }
def DelayActsSaid : Prop := delayActsRow.holds Try.pinned (OpenSpec.ofChange delayActsSpec)

/-- ITS FALSE NEIGHBOUR: 'it returns false'. Refute it at one input. -/
def delayActsWrong : ChangeSpec := { name := "delayActs", fn := fun _ => fun
  | [d1, d2, d3] => { results := [.lit (.bool false)], args := [d1, d2, d3] }
  | _ => none }
def DelayActsWrongFalsely : Prop := delayActsRow.holds Try.pinned (OpenSpec.ofChange delayActsWrong)

/-- 'tallagelaw12.FifoNone': WHATEVER THE INPUT: true; the input reads as it did. -/
def fifoNoneSpec : ChangeSpec := { name := "fifoNone", fn := fun _ => fun
  | [d] => { results := [.lit (.bool true)], args := [d] }
  | _ => none }
def fifoNoneRow : OpenClaim := { program := "ytohedljdkfmkdaa", sum := "1c6e6f13cc028b2bf8812285d5ccc81d6848794f3a97489ae7b98dbf911552da", func := "tallage/tallagelaw12.FifoNone", spec := "fifoNone", inPlace := ["internal/abi.NoEscape", "internal/bytealg.abigen_runtime_cmpstring", "slices.overlaps[string]", "slices.overlaps[tallage/store.block]"], unfollowed := true, recurses := true, apart := false }
def FifoNoneSaid : Prop := fifoNoneRow.holds Try.pinned (OpenSpec.ofChange fifoNoneSpec)

/-- ITS FALSE NEIGHBOUR: 'it returns false'. Refute it at one input. -/
def fifoNoneWrong : ChangeSpec := { name := "fifoNone", fn := fun _ => fun
  | [d] => { results := [.lit (.bool false)], args := [d] }
  | _ => none }
def FifoNoneWrongFalsely : Prop := fifoNoneRow.holds Try.pinned (OpenSpec.ofChange fifoNoneWrong)

/-- 'tallagelaw32.RootsStay': WHATEVER THE INPUT: true; the input reads as it did. -/
def rootsStaySpec : ChangeSpec := { name := "rootsStay", fn := fun _ => fun
  | [d1, d2, d3] => { results := [.lit (.bool true)], args := [d1, d2, d3] }
  | _ => none }
def rootsStayRow : OpenClaim := { program := "ytohedljdkfmkdaa", sum := "1c6e6f13cc028b2bf8812285d5ccc81d6848794f3a97489ae7b98dbf911552da", func := "tallage/tallagelaw32.RootsStay", spec := "rootsStay", inPlace := ["internal/abi.NoEscape", "internal/bytealg.abigen_runtime_cmpstring", "slices.overlaps[string]", "slices.overlaps[tallage/store.block]"], unfollowed := true, recurses := true, apart := false }
def RootsStaySaid : Prop := rootsStayRow.holds Try.pinned (OpenSpec.ofChange rootsStaySpec)

/-- ITS FALSE NEIGHBOUR: 'it returns false'. Refute it at one input. -/
def rootsStayWrong : ChangeSpec := { name := "rootsStay", fn := fun _ => fun
  | [d1, d2, d3] => { results := [.lit (.bool false)], args := [d1, d2, d3] }
  | _ => none }
def RootsStayWrongFalsely : Prop := rootsStayRow.holds Try.pinned (OpenSpec.ofChange rootsStayWrong)

/-- 'tallagelaw32.RootsNone': WHATEVER THE INPUT: true; the input reads as it did. -/
def rootsNoneSpec : ChangeSpec := { name := "rootsNone", fn := fun _ => fun
  | [d] => { results := [.lit (.bool true)], args := [d] }
  | _ => none }
def rootsNoneRow : OpenClaim := { program := "ytohedljdkfmkdaa", sum := "1c6e6f13cc028b2bf8812285d5ccc81d6848794f3a97489ae7b98dbf911552da", func := "tallage/tallagelaw32.RootsNone", spec := "rootsNone", inPlace := ["internal/abi.NoEscape", "internal/bytealg.abigen_runtime_cmpstring", "slices.overlaps[string]", "slices.overlaps[tallage/store.block]"], unfollowed := true, recurses := true, apart := false }
def RootsNoneSaid : Prop := rootsNoneRow.holds Try.pinned (OpenSpec.ofChange rootsNoneSpec)

/-- ITS FALSE NEIGHBOUR: 'it returns false'. Refute it at one input. -/
def rootsNoneWrong : ChangeSpec := { name := "rootsNone", fn := fun _ => fun
  | [d] => { results := [.lit (.bool false)], args := [d] }
  | _ => none }
def RootsNoneWrongFalsely : Prop := rootsNoneRow.holds Try.pinned (OpenSpec.ofChange rootsNoneWrong)

/-- 'tallagelaw12.FifoOrder': WHATEVER THE INPUT: true; the input reads as it did. -/
def fifoOrderSpec : ChangeSpec := { name := "fifoOrder", fn := fun _ => fun
  | [d1, d2] => { results := [.lit (.bool true)], args := [d1, d2] }
  | _ => none }
def fifoOrderRow : OpenClaim := { program := "ytohedljdkfmkdaa", sum := "1c6e6f13cc028b2bf8812285d5ccc81d6848794f3a97489ae7b98dbf911552da", func := "tallage/tallagelaw12.FifoOrder", spec := "fifoOrder", inPlace := ["internal/abi.NoEscape", "internal/bytealg.abigen_runtime_cmpstring", "slices.overlaps[string]", "slices.overlaps[tallage/store.block]"], unfollowed := true, recurses := true, apart := false }
def FifoOrderSaid : Prop := fifoOrderRow.holds Try.pinned (OpenSpec.ofChange fifoOrderSpec)

/-- ITS FALSE NEIGHBOUR: 'it returns false'. Refute it at one input. -/
def fifoOrderWrong : ChangeSpec := { name := "fifoOrder", fn := fun _ => fun
  | [d1, d2] => { results := [.lit (.bool false)], args := [d1, d2] }
  | _ => none }
def FifoOrderWrongFalsely : Prop := fifoOrderRow.holds Try.pinned (OpenSpec.ofChange fifoOrderWrong)

/-- 'tallagelaw11.HistoryTells': WHATEVER THE INPUT: true; the input reads as it did. -/
def historyTellsSpec : ChangeSpec := { name := "historyTells", fn := fun _ => fun
  | [d1, d2] => { results := [.lit (.bool true)], args := [d1, d2] }
  | _ => none }
def historyTellsRow : OpenClaim := { program := "ytohedljdkfmkdaa", sum := "1c6e6f13cc028b2bf8812285d5ccc81d6848794f3a97489ae7b98dbf911552da", func := "tallage/tallagelaw11.HistoryTells", spec := "historyTells", inPlace := ["internal/abi.NoEscape", "internal/bytealg.abigen_runtime_cmpstring", "slices.overlaps[string]", "slices.overlaps[tallage/store.block]"], unfollowed := true, recurses := true, apart := false }
def HistoryTellsSaid : Prop := historyTellsRow.holds Try.pinned (OpenSpec.ofChange historyTellsSpec)

/-- ITS FALSE NEIGHBOUR: 'it returns false'. Refute it at one input. -/
def historyTellsWrong : ChangeSpec := { name := "historyTells", fn := fun _ => fun
  | [d1, d2] => { results := [.lit (.bool false)], args := [d1, d2] }
  | _ => none }
def HistoryTellsWrongFalsely : Prop := historyTellsRow.holds Try.pinned (OpenSpec.ofChange historyTellsWrong)

/-- 'tallagelaw11.HistoryLists': WHATEVER THE INPUT: true; the input reads as it did. -/
def historyListsSpec : ChangeSpec := { name := "historyLists", fn := fun _ => fun
  | [d] => { results := [.lit (.bool true)], args := [d] }
  | _ => none }
def historyListsRow : OpenClaim := { program := "ytohedljdkfmkdaa", sum := "1c6e6f13cc028b2bf8812285d5ccc81d6848794f3a97489ae7b98dbf911552da", func := "tallage/tallagelaw11.HistoryLists", spec := "historyLists", inPlace := ["internal/abi.NoEscape", "internal/bytealg.abigen_runtime_cmpstring", "slices.overlaps[string]", "slices.overlaps[tallage/store.block]"], unfollowed := true, recurses := true, apart := false }
def HistoryListsSaid : Prop := historyListsRow.holds Try.pinned (OpenSpec.ofChange historyListsSpec)

/-- ITS FALSE NEIGHBOUR: 'it returns false'. Refute it at one input. -/
def historyListsWrong : ChangeSpec := { name := "historyLists", fn := fun _ => fun
  | [d] => { results := [.lit (.bool false)], args := [d] }
  | _ => none }
def HistoryListsWrongFalsely : Prop := historyListsRow.holds Try.pinned (OpenSpec.ofChange historyListsWrong)

/-- 'tallagelaw32.RootsActs': WHATEVER THE INPUT: true; the input reads as it did. -/
def rootsActsSpec : ChangeSpec := { name := "rootsActs", fn := fun _ => fun
  | [d1, d2] => { results := [.lit (.bool true)], args := [d1, d2] }
  | _ => none }
def rootsActsRow : OpenClaim := { program := "ytohedljdkfmkdaa", sum := "1c6e6f13cc028b2bf8812285d5ccc81d6848794f3a97489ae7b98dbf911552da", func := "tallage/tallagelaw32.RootsActs", spec := "rootsActs", inPlace := ["internal/abi.NoEscape", "internal/bytealg.abigen_runtime_cmpstring", "slices.overlaps[string]", "slices.overlaps[tallage/store.block]"], unfollowed := true, recurses := true, apart := false }
def RootsActsSaid : Prop := rootsActsRow.holds Try.pinned (OpenSpec.ofChange rootsActsSpec)

/-- ITS FALSE NEIGHBOUR: 'it returns false'. Refute it at one input. -/
def rootsActsWrong : ChangeSpec := { name := "rootsActs", fn := fun _ => fun
  | [d1, d2] => { results := [.lit (.bool false)], args := [d1, d2] }
  | _ => none }
def RootsActsWrongFalsely : Prop := rootsActsRow.holds Try.pinned (OpenSpec.ofChange rootsActsWrong)

/- THE SECOND FORM. 'bulk': how many values and letters a reading holds, each counted each time it is reached (what is shared counts as often as it is met; a slice's spare places count too). A statement '..UptoSaid' is the law's where the arguments, and the package variables that the reading takes, are together of bulk at most 1048576: NARROWER than '..Said'. Prove '..Said' where nothing that the law and all that it calls make is longer than what came in: it says more and counts as full. Else prove '..UptoSaid'. A law counts once. -/
mutual
def uptoBulk {H : Type} : DataW H → Nat
  | .lit (.string bytes) => bytes.length + 1
  | .lit _ => 1
  | .nil => 1
  | .ptr d => uptoBulk d + 1
  | .slice elems spare => uptoBulkAll elems + uptoBulkAll spare + 1
  | .agg parts => uptoBulkAll parts + 1
  | .iface _ d => uptoBulk d + 1
  | .map entries => uptoBulkEntries entries + 1
  | .held _ => 1
def uptoBulkAll {H : Type} : List (DataW H) → Nat
  | [] => 0
  | d :: r => uptoBulk d + uptoBulkAll r
def uptoBulkEntries {H : Type} : List (Lit × DataW H) → Nat
  | [] => 0
  | x :: r => uptoBulkEntry x + uptoBulkEntries r
def uptoBulkEntry {H : Type} : Lit × DataW H → Nat
  | (.string bytes, d) => bytes.length + uptoBulk d + 1
  | (_, d) => uptoBulk d + 1
 end
def uptoSmall : (H : Type) → List (DataW H) → Bool := fun _ ds => decide (uptoBulkAll ds ≤ 1048576)
def OpenSpec.upto (s : _root_.Go.ChangeSpec) : _root_.Go.OpenSpec := { _root_.Go.OpenSpec.ofChange s with cond := some uptoSmall }

/-- 'tallagelaw08.StoreActs', WHERE WHAT IT READS IS OF BULK AT MOST 1048576: true; the input reads as it did. -/
def storeActsUptoRow : OpenClaim := { program := "ytohedljdkfmkdaa", sum := "1c6e6f13cc028b2bf8812285d5ccc81d6848794f3a97489ae7b98dbf911552da", func := "tallage/tallagelaw08.StoreActs", spec := "storeActs", inPlace := ["internal/bytealg.abigen_runtime_cmpstring", "slices.overlaps[string]", "slices.overlaps[tallage/store.block]", "maps.clone"], unfollowed := true, recurses := true, apart := false, narrowed := true }
def StoreActsUptoSaid : Prop := storeActsUptoRow.holds Try.pinned (OpenSpec.upto storeActsSpec)

/-- 'tallagelaw28.DelayWaits', WHERE WHAT IT READS IS OF BULK AT MOST 1048576: true; the input reads as it did. -/
def delayWaitsUptoRow : OpenClaim := { program := "ytohedljdkfmkdaa", sum := "1c6e6f13cc028b2bf8812285d5ccc81d6848794f3a97489ae7b98dbf911552da", func := "tallage/tallagelaw28.DelayWaits", spec := "delayWaits", inPlace := ["internal/abi.NoEscape", "internal/bytealg.abigen_runtime_cmpstring", "slices.overlaps[string]", "slices.overlaps[tallage/store.block]"], unfollowed := true, recurses := true, apart := false, narrowed := true }
def DelayWaitsUptoSaid : Prop := delayWaitsUptoRow.holds Try.pinned (OpenSpec.upto delayWaitsSpec)

/-- 'tallagelaw28.DelayNone', WHERE WHAT IT READS IS OF BULK AT MOST 1048576: true; the input reads as it did. -/
def delayNoneUptoRow : OpenClaim := { program := "ytohedljdkfmkdaa", sum := "1c6e6f13cc028b2bf8812285d5ccc81d6848794f3a97489ae7b98dbf911552da", func := "tallage/tallagelaw28.DelayNone", spec := "delayNone", inPlace := ["internal/abi.NoEscape", "internal/bytealg.abigen_runtime_cmpstring", "slices.overlaps[string]", "slices.overlaps[tallage/store.block]"], unfollowed := true, recurses := true, apart := false, narrowed := true }
def DelayNoneUptoSaid : Prop := delayNoneUptoRow.holds Try.pinned (OpenSpec.upto delayNoneSpec)

/-- 'tallagelaw28.DelayActs', WHERE WHAT IT READS IS OF BULK AT MOST 1048576: true; the input reads as it did. -/
def delayActsUptoRow : OpenClaim := { program := "ytohedljdkfmkdaa", sum := "1c6e6f13cc028b2bf8812285d5ccc81d6848794f3a97489ae7b98dbf911552da", func := "tallage/tallagelaw28.DelayActs", spec := "delayActs", inPlace := ["internal/abi.NoEscape", "internal/bytealg.abigen_runtime_cmpstring", "slices.overlaps[string]", "slices.overlaps[tallage/store.block]"], unfollowed := true, recurses := true, apart := false, narrowed := true }
def DelayActsUptoSaid : Prop := delayActsUptoRow.holds Try.pinned (OpenSpec.upto delayActsSpec)

/-- 'tallagelaw12.FifoNone', WHERE WHAT IT READS IS OF BULK AT MOST 1048576: true; the input reads as it did. -/
def fifoNoneUptoRow : OpenClaim := { program := "ytohedljdkfmkdaa", sum := "1c6e6f13cc028b2bf8812285d5ccc81d6848794f3a97489ae7b98dbf911552da", func := "tallage/tallagelaw12.FifoNone", spec := "fifoNone", inPlace := ["internal/abi.NoEscape", "internal/bytealg.abigen_runtime_cmpstring", "slices.overlaps[string]", "slices.overlaps[tallage/store.block]"], unfollowed := true, recurses := true, apart := false, narrowed := true }
def FifoNoneUptoSaid : Prop := fifoNoneUptoRow.holds Try.pinned (OpenSpec.upto fifoNoneSpec)

/-- 'tallagelaw32.RootsStay', WHERE WHAT IT READS IS OF BULK AT MOST 1048576: true; the input reads as it did. -/
def rootsStayUptoRow : OpenClaim := { program := "ytohedljdkfmkdaa", sum := "1c6e6f13cc028b2bf8812285d5ccc81d6848794f3a97489ae7b98dbf911552da", func := "tallage/tallagelaw32.RootsStay", spec := "rootsStay", inPlace := ["internal/abi.NoEscape", "internal/bytealg.abigen_runtime_cmpstring", "slices.overlaps[string]", "slices.overlaps[tallage/store.block]"], unfollowed := true, recurses := true, apart := false, narrowed := true }
def RootsStayUptoSaid : Prop := rootsStayUptoRow.holds Try.pinned (OpenSpec.upto rootsStaySpec)

/-- 'tallagelaw32.RootsNone', WHERE WHAT IT READS IS OF BULK AT MOST 1048576: true; the input reads as it did. -/
def rootsNoneUptoRow : OpenClaim := { program := "ytohedljdkfmkdaa", sum := "1c6e6f13cc028b2bf8812285d5ccc81d6848794f3a97489ae7b98dbf911552da", func := "tallage/tallagelaw32.RootsNone", spec := "rootsNone", inPlace := ["internal/abi.NoEscape", "internal/bytealg.abigen_runtime_cmpstring", "slices.overlaps[string]", "slices.overlaps[tallage/store.block]"], unfollowed := true, recurses := true, apart := false, narrowed := true }
def RootsNoneUptoSaid : Prop := rootsNoneUptoRow.holds Try.pinned (OpenSpec.upto rootsNoneSpec)

/-- 'tallagelaw12.FifoOrder', WHERE WHAT IT READS IS OF BULK AT MOST 1048576: true; the input reads as it did. -/
def fifoOrderUptoRow : OpenClaim := { program := "ytohedljdkfmkdaa", sum := "1c6e6f13cc028b2bf8812285d5ccc81d6848794f3a97489ae7b98dbf911552da", func := "tallage/tallagelaw12.FifoOrder", spec := "fifoOrder", inPlace := ["internal/abi.NoEscape", "internal/bytealg.abigen_runtime_cmpstring", "slices.overlaps[string]", "slices.overlaps[tallage/store.block]"], unfollowed := true, recurses := true, apart := false, narrowed := true }
def FifoOrderUptoSaid : Prop := fifoOrderUptoRow.holds Try.pinned (OpenSpec.upto fifoOrderSpec)

/-- 'tallagelaw11.HistoryTells', WHERE WHAT IT READS IS OF BULK AT MOST 1048576: true; the input reads as it did. -/
def historyTellsUptoRow : OpenClaim := { program := "ytohedljdkfmkdaa", sum := "1c6e6f13cc028b2bf8812285d5ccc81d6848794f3a97489ae7b98dbf911552da", func := "tallage/tallagelaw11.HistoryTells", spec := "historyTells", inPlace := ["internal/abi.NoEscape", "internal/bytealg.abigen_runtime_cmpstring", "slices.overlaps[string]", "slices.overlaps[tallage/store.block]"], unfollowed := true, recurses := true, apart := false, narrowed := true }
def HistoryTellsUptoSaid : Prop := historyTellsUptoRow.holds Try.pinned (OpenSpec.upto historyTellsSpec)

/-- 'tallagelaw11.HistoryLists', WHERE WHAT IT READS IS OF BULK AT MOST 1048576: true; the input reads as it did. -/
def historyListsUptoRow : OpenClaim := { program := "ytohedljdkfmkdaa", sum := "1c6e6f13cc028b2bf8812285d5ccc81d6848794f3a97489ae7b98dbf911552da", func := "tallage/tallagelaw11.HistoryLists", spec := "historyLists", inPlace := ["internal/abi.NoEscape", "internal/bytealg.abigen_runtime_cmpstring", "slices.overlaps[string]", "slices.overlaps[tallage/store.block]"], unfollowed := true, recurses := true, apart := false, narrowed := true }
def HistoryListsUptoSaid : Prop := historyListsUptoRow.holds Try.pinned (OpenSpec.upto historyListsSpec)

/-- 'tallagelaw32.RootsActs', WHERE WHAT IT READS IS OF BULK AT MOST 1048576: true; the input reads as it did. -/
def rootsActsUptoRow : OpenClaim := { program := "ytohedljdkfmkdaa", sum := "1c6e6f13cc028b2bf8812285d5ccc81d6848794f3a97489ae7b98dbf911552da", func := "tallage/tallagelaw32.RootsActs", spec := "rootsActs", inPlace := ["internal/abi.NoEscape", "internal/bytealg.abigen_runtime_cmpstring", "slices.overlaps[string]", "slices.overlaps[tallage/store.block]"], unfollowed := true, recurses := true, apart := false, narrowed := true }
def RootsActsUptoSaid : Prop := rootsActsUptoRow.holds Try.pinned (OpenSpec.upto rootsActsSpec)

end Rows
end Go.Proofs.Ytohedljdkfmkdaa
