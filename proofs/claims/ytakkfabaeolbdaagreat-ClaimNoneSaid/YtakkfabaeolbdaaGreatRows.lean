/-
  No cell of these rows narrows 'for every input' (looked for: loops, veiled, ifaces, maps, wideKeys, modest, calm, conditions, laid).
  DERIVED. THE GIVEN ROWS OF THIS SEAT. 4 by the template 'for every input the law returns true; each argument reads behind the call as it read before'; 0 by the template 'total and deterministic' (their statements: YtakkfabaeolbdaaGreatTotals.lean).
  GIVEN WITH THE SEED: the statements are not yours to turn. If you find one false, say at which input.
  Laid BY PROGRAM, IN A SANDBOX (cutbox-rows.mjs): the forced cells as the released guide's own fill.sh prints them over the translation c90a77c783dea8f2… (all of the seat's roots in one cut). By AI agents, Wed Nov 11 2026. No macro, syntax, notation, axiom, sorry.
-/
import Derived.Test.YtakkfabaeolbdaaGreatChecked
import GoSem.Claim
import GoSem.ClaimJoined
import GoSem.ClaimMapViews
import Derived.JoinedTies
import Derived.KernelRfl
namespace Go.Proofs.YtakkfabaeolbdaaGreat
/- THE CELL 'sum', in the pinned program and in every row, IS THE sha256 OF THE DUMP (.gsa) THAT YtakkfabaeolbdaaGreatProg.lean LOADS. Nothing in Lean hashes anything: it is a label: what it is worth is what the hold of that sum in a sandbox is worth. -/
noncomputable def Tryz.pinned : Pinned := { name := "ytakkfabaeolbdaagreat", sum := "c90a77c783dea8f2dd9d49da9ab7309d20176d2623c4762621ef84bcccfee1bd", checked := Tryz.checked }
namespace Rows
def none {H : Type} : Left H := { results := [], args := [] }

/-- 'tallagelaw33.ClaimNone': WHATEVER THE INPUT: true; the input reads as it did. -/
def claimNoneSpec : ChangeSpec := { name := "claimNone", fn := fun _ => fun
  | [d] => { results := [.lit (.bool true)], args := [d] }
  | _ => none }
def claimNoneRow : OpenClaim := { program := "ytakkfabaeolbdaagreat", sum := "c90a77c783dea8f2dd9d49da9ab7309d20176d2623c4762621ef84bcccfee1bd", func := "tallage/tallagelaw33.ClaimNone", spec := "claimNone", inPlace := ["internal/abi.NoEscape", "internal/bytealg.abigen_runtime_cmpstring", "slices.overlaps[string]", "slices.overlaps[tallage/store.block]"], unfollowed := true, recurses := true, plainKeys := false, apart := false }
def ClaimNoneSaid : Prop := claimNoneRow.holds Tryz.pinned (OpenSpec.ofChange claimNoneSpec)

/-- ITS FALSE NEIGHBOUR: 'it returns false'. Refute it at one input. -/
def claimNoneWrong : ChangeSpec := { name := "claimNone", fn := fun _ => fun
  | [d] => { results := [.lit (.bool false)], args := [d] }
  | _ => none }
def ClaimNoneWrongFalsely : Prop := claimNoneRow.holds Tryz.pinned (OpenSpec.ofChange claimNoneWrong)

/-- 'tallagelaw33.ClaimTables': WHATEVER THE INPUT: true; the input reads as it did. -/
def claimTablesSpec : ChangeSpec := { name := "claimTables", fn := fun _ => fun
  | [d1, d2] => { results := [.lit (.bool true)], args := [d1, d2] }
  | _ => none }
def claimTablesRow : OpenClaim := { program := "ytakkfabaeolbdaagreat", sum := "c90a77c783dea8f2dd9d49da9ab7309d20176d2623c4762621ef84bcccfee1bd", func := "tallage/tallagelaw33.ClaimTables", spec := "claimTables", inPlace := ["internal/abi.NoEscape", "internal/bytealg.abigen_runtime_cmpstring", "slices.overlaps[string]", "slices.overlaps[tallage/store.block]"], unfollowed := true, recurses := true, plainKeys := false, apart := false }
def ClaimTablesSaid : Prop := claimTablesRow.holds Tryz.pinned (OpenSpec.ofChange claimTablesSpec)

/-- ITS FALSE NEIGHBOUR: 'it returns false'. Refute it at one input. -/
def claimTablesWrong : ChangeSpec := { name := "claimTables", fn := fun _ => fun
  | [d1, d2] => { results := [.lit (.bool false)], args := [d1, d2] }
  | _ => none }
def ClaimTablesWrongFalsely : Prop := claimTablesRow.holds Tryz.pinned (OpenSpec.ofChange claimTablesWrong)

/-- 'tallagelaw33.ClaimPays': WHATEVER THE INPUT: true; the input reads as it did. -/
def claimPaysSpec : ChangeSpec := { name := "claimPays", fn := fun _ => fun
  | [d1, d2] => { results := [.lit (.bool true)], args := [d1, d2] }
  | _ => none }
def claimPaysRow : OpenClaim := { program := "ytakkfabaeolbdaagreat", sum := "c90a77c783dea8f2dd9d49da9ab7309d20176d2623c4762621ef84bcccfee1bd", func := "tallage/tallagelaw33.ClaimPays", spec := "claimPays", inPlace := ["internal/abi.NoEscape", "internal/bytealg.abigen_runtime_cmpstring", "slices.overlaps[string]", "slices.overlaps[tallage/store.block]"], unfollowed := true, recurses := true, plainKeys := false, apart := false }
def ClaimPaysSaid : Prop := claimPaysRow.holds Tryz.pinned (OpenSpec.ofChange claimPaysSpec)

/-- ITS FALSE NEIGHBOUR: 'it returns false'. Refute it at one input. -/
def claimPaysWrong : ChangeSpec := { name := "claimPays", fn := fun _ => fun
  | [d1, d2] => { results := [.lit (.bool false)], args := [d1, d2] }
  | _ => none }
def ClaimPaysWrongFalsely : Prop := claimPaysRow.holds Tryz.pinned (OpenSpec.ofChange claimPaysWrong)

/-- 'tallagelaw33.ClaimActs': WHATEVER THE INPUT: true; the input reads as it did. -/
def claimActsSpec : ChangeSpec := { name := "claimActs", fn := fun _ => fun
  | [d1, d2] => { results := [.lit (.bool true)], args := [d1, d2] }
  | _ => none }
def claimActsRow : OpenClaim := { program := "ytakkfabaeolbdaagreat", sum := "c90a77c783dea8f2dd9d49da9ab7309d20176d2623c4762621ef84bcccfee1bd", func := "tallage/tallagelaw33.ClaimActs", spec := "claimActs", inPlace := ["internal/abi.NoEscape", "internal/bytealg.abigen_runtime_cmpstring", "slices.overlaps[string]", "slices.overlaps[tallage/store.block]"], unfollowed := true, recurses := true, plainKeys := false, apart := false }
def ClaimActsSaid : Prop := claimActsRow.holds Tryz.pinned (OpenSpec.ofChange claimActsSpec)

/-- ITS FALSE NEIGHBOUR: 'it returns false'. Refute it at one input. -/
def claimActsWrong : ChangeSpec := { name := "claimActs", fn := fun _ => fun
  | [d1, d2] => { results := [.lit (.bool false)], args := [d1, d2] }
  | _ => none }
def ClaimActsWrongFalsely : Prop := claimActsRow.holds Tryz.pinned (OpenSpec.ofChange claimActsWrong)

/- THE SECOND FORM. 'bulk': how many values and letters a reading holds, each counted each time it is reached (what is shared counts as often as it is met; a slice's spare places count too). A statement '..UptoSaid' is the law's where the arguments, and the package variables that the reading takes, are together of bulk at most 1048576: NARROWER than '..Said'. Prove '..Said' where nothing that the law and all that it calls make is longer than what came in: it says more and counts as full. Else prove '..UptoSaid'. A law counts once. -/
mutual
def uptoBulk {H : Type} : DataW H → Nat
  | .lit (.string bytes) => bytes.length + 1
  | .lit _ => 1
  | .nil => 1
  | .ptr d => uptoBulk d + 1
  | .slice elems spare => uptoBulkAll elems + uptoBulkAll spare + 1
  | .agg parts => uptoBulkAll parts + 1
  | .iface _ d => uptoBulk d + 1
  | .map entries => uptoBulkEntries entries + 1
  | .held _ => 1
def uptoBulkAll {H : Type} : List (DataW H) → Nat
  | [] => 0
  | d :: r => uptoBulk d + uptoBulkAll r
def uptoBulkEntries {H : Type} : List (Lit × DataW H) → Nat
  | [] => 0
  | x :: r => uptoBulkEntry x + uptoBulkEntries r
def uptoBulkEntry {H : Type} : Lit × DataW H → Nat
  | (.string bytes, d) => bytes.length + uptoBulk d + 1
  | (_, d) => uptoBulk d + 1
 end
def uptoSmall : (H : Type) → List (DataW H) → Bool := fun _ ds => decide (uptoBulkAll ds ≤ 1048576)
def OpenSpec.upto (s : _root_.Go.ChangeSpec) : _root_.Go.OpenSpec := { _root_.Go.OpenSpec.ofChange s with cond := some uptoSmall }

/-- 'tallagelaw33.ClaimNone', WHERE WHAT IT READS IS OF BULK AT MOST 1048576: true; the input reads as it did. -/
def claimNoneUptoRow : OpenClaim := { program := "ytakkfabaeolbdaagreat", sum := "c90a77c783dea8f2dd9d49da9ab7309d20176d2623c4762621ef84bcccfee1bd", func := "tallage/tallagelaw33.ClaimNone", spec := "claimNone", inPlace := ["internal/abi.NoEscape", "internal/bytealg.abigen_runtime_cmpstring", "slices.overlaps[string]", "slices.overlaps[tallage/store.block]"], unfollowed := true, recurses := true, plainKeys := false, apart := false, narrowed := true }
def ClaimNoneUptoSaid : Prop := claimNoneUptoRow.holds Tryz.pinned (OpenSpec.upto claimNoneSpec)

/-- 'tallagelaw33.ClaimTables', WHERE WHAT IT READS IS OF BULK AT MOST 1048576: true; the input reads as it did. -/
def claimTablesUptoRow : OpenClaim := { program := "ytakkfabaeolbdaagreat", sum := "c90a77c783dea8f2dd9d49da9ab7309d20176d2623c4762621ef84bcccfee1bd", func := "tallage/tallagelaw33.ClaimTables", spec := "claimTables", inPlace := ["internal/abi.NoEscape", "internal/bytealg.abigen_runtime_cmpstring", "slices.overlaps[string]", "slices.overlaps[tallage/store.block]"], unfollowed := true, recurses := true, plainKeys := false, apart := false, narrowed := true }
def ClaimTablesUptoSaid : Prop := claimTablesUptoRow.holds Tryz.pinned (OpenSpec.upto claimTablesSpec)

/-- 'tallagelaw33.ClaimPays', WHERE WHAT IT READS IS OF BULK AT MOST 1048576: true; the input reads as it did. -/
def claimPaysUptoRow : OpenClaim := { program := "ytakkfabaeolbdaagreat", sum := "c90a77c783dea8f2dd9d49da9ab7309d20176d2623c4762621ef84bcccfee1bd", func := "tallage/tallagelaw33.ClaimPays", spec := "claimPays", inPlace := ["internal/abi.NoEscape", "internal/bytealg.abigen_runtime_cmpstring", "slices.overlaps[string]", "slices.overlaps[tallage/store.block]"], unfollowed := true, recurses := true, plainKeys := false, apart := false, narrowed := true }
def ClaimPaysUptoSaid : Prop := claimPaysUptoRow.holds Tryz.pinned (OpenSpec.upto claimPaysSpec)

/-- 'tallagelaw33.ClaimActs', WHERE WHAT IT READS IS OF BULK AT MOST 1048576: true; the input reads as it did. -/
def claimActsUptoRow : OpenClaim := { program := "ytakkfabaeolbdaagreat", sum := "c90a77c783dea8f2dd9d49da9ab7309d20176d2623c4762621ef84bcccfee1bd", func := "tallage/tallagelaw33.ClaimActs", spec := "claimActs", inPlace := ["internal/abi.NoEscape", "internal/bytealg.abigen_runtime_cmpstring", "slices.overlaps[string]", "slices.overlaps[tallage/store.block]"], unfollowed := true, recurses := true, plainKeys := false, apart := false, narrowed := true }
def ClaimActsUptoSaid : Prop := claimActsUptoRow.holds Tryz.pinned (OpenSpec.upto claimActsSpec)

end Rows
end Go.Proofs.YtakkfabaeolbdaaGreat
