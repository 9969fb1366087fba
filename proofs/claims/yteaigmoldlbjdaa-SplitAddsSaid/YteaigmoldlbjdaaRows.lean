/-
  No cell of these rows narrows 'for every input' (looked for: loops, veiled, ifaces, maps, wideKeys, modest, calm, conditions, laid).
  DERIVED. THE GIVEN ROWS OF THIS SEAT. 6 by the template 'for every input the law returns true; each argument reads behind the call as it read before'; 0 by the template 'total and deterministic' (their statements: YteaigmoldlbjdaaTotals.lean).
  GIVEN WITH THE SEED: the statements are not yours to turn. If you find one false, say at which input.
  Laid BY PROGRAM, IN A SANDBOX (cutbox-rows.mjs): the forced cells as the released guide's own fill.sh prints them over the translation 3f598642eccec285… (all of the seat's roots in one cut). By AI agents, Wed Nov 11 2026. No macro, syntax, notation, axiom, sorry.
-/
import Derived.Test.YteaigmoldlbjdaaChecked
import GoSem.Claim
import GoSem.ClaimJoined
import GoSem.ClaimMapViews
import Derived.JoinedTies
import Derived.KernelRfl
namespace Go.Proofs.Yteaigmoldlbjdaa
/- THE CELL 'sum', in the pinned program and in every row, IS THE sha256 OF THE DUMP (.gsa) THAT YteaigmoldlbjdaaProg.lean LOADS. Nothing in Lean hashes anything: it is a label: what it is worth is what the hold of that sum in a sandbox is worth. -/
noncomputable def Try.pinned : Pinned := { name := "yteaigmoldlbjdaa", sum := "3f598642eccec2855dead8b8be921ae90951df6a2f1a8dc98c62e012189f9952", checked := Try.checked }
namespace Rows
def none {H : Type} : Left H := { results := [], args := [] }

/-- 'tallagelaw34.SplitParts': WHATEVER THE INPUT: true; the input reads as it did. -/
def splitPartsSpec : ChangeSpec := { name := "splitParts", fn := fun _ => fun
  | [d1, d2] => { results := [.lit (.bool true)], args := [d1, d2] }
  | _ => none }
def splitPartsRow : OpenClaim := { program := "yteaigmoldlbjdaa", sum := "3f598642eccec2855dead8b8be921ae90951df6a2f1a8dc98c62e012189f9952", func := "tallage/tallagelaw34.SplitParts", spec := "splitParts", unfollowed := true, recurses := true, apart := false }
def SplitPartsSaid : Prop := splitPartsRow.holds Try.pinned (OpenSpec.ofChange splitPartsSpec)

/-- ITS FALSE NEIGHBOUR: 'it returns false'. Refute it at one input. -/
def splitPartsWrong : ChangeSpec := { name := "splitParts", fn := fun _ => fun
  | [d1, d2] => { results := [.lit (.bool false)], args := [d1, d2] }
  | _ => none }
def SplitPartsWrongFalsely : Prop := splitPartsRow.holds Try.pinned (OpenSpec.ofChange splitPartsWrong)

/-- 'tallagelaw34.SplitAdds': WHATEVER THE INPUT: true; the input reads as it did. -/
def splitAddsSpec : ChangeSpec := { name := "splitAdds", fn := fun _ => fun
  | [d1, d2] => { results := [.lit (.bool true)], args := [d1, d2] }
  | _ => none }
def splitAddsRow : OpenClaim := { program := "yteaigmoldlbjdaa", sum := "3f598642eccec2855dead8b8be921ae90951df6a2f1a8dc98c62e012189f9952", func := "tallage/tallagelaw34.SplitAdds", spec := "splitAdds", unfollowed := true, recurses := true, apart := false }
def SplitAddsSaid : Prop := splitAddsRow.holds Try.pinned (OpenSpec.ofChange splitAddsSpec)

/-- ITS FALSE NEIGHBOUR: 'it returns false'. Refute it at one input. -/
def splitAddsWrong : ChangeSpec := { name := "splitAdds", fn := fun _ => fun
  | [d1, d2] => { results := [.lit (.bool false)], args := [d1, d2] }
  | _ => none }
def SplitAddsWrongFalsely : Prop := splitAddsRow.holds Try.pinned (OpenSpec.ofChange splitAddsWrong)

/-- 'tallagelaw17.BankKeeps': WHATEVER THE INPUT: true; the input reads as it did. -/
def bankKeepsSpec : ChangeSpec := { name := "bankKeeps", fn := fun _ => fun
  | [d] => { results := [.lit (.bool true)], args := [d] }
  | _ => none }
def bankKeepsRow : OpenClaim := { program := "yteaigmoldlbjdaa", sum := "3f598642eccec2855dead8b8be921ae90951df6a2f1a8dc98c62e012189f9952", func := "tallage/tallagelaw17.BankKeeps", spec := "bankKeeps", inPlace := ["internal/abi.NoEscape", "internal/bytealg.abigen_runtime_cmpstring", "slices.overlaps[string]", "slices.overlaps[tallage/store.block]"], unfollowed := true, recurses := true, apart := false }
def BankKeepsSaid : Prop := bankKeepsRow.holds Try.pinned (OpenSpec.ofChange bankKeepsSpec)

/-- ITS FALSE NEIGHBOUR: 'it returns false'. Refute it at one input. -/
def bankKeepsWrong : ChangeSpec := { name := "bankKeeps", fn := fun _ => fun
  | [d] => { results := [.lit (.bool false)], args := [d] }
  | _ => none }
def BankKeepsWrongFalsely : Prop := bankKeepsRow.holds Try.pinned (OpenSpec.ofChange bankKeepsWrong)

/-- 'tallagelaw17.BankKeys': WHATEVER THE INPUT: true; the input reads as it did. -/
def bankKeysSpec : ChangeSpec := { name := "bankKeys", fn := fun _ => fun
  | [d1, d2] => { results := [.lit (.bool true)], args := [d1, d2] }
  | _ => none }
def bankKeysRow : OpenClaim := { program := "yteaigmoldlbjdaa", sum := "3f598642eccec2855dead8b8be921ae90951df6a2f1a8dc98c62e012189f9952", func := "tallage/tallagelaw17.BankKeys", spec := "bankKeys", inPlace := ["internal/abi.NoEscape", "internal/bytealg.abigen_runtime_cmpstring", "slices.overlaps[string]", "slices.overlaps[tallage/store.block]"], unfollowed := true, recurses := true, apart := false }
def BankKeysSaid : Prop := bankKeysRow.holds Try.pinned (OpenSpec.ofChange bankKeysSpec)

/-- ITS FALSE NEIGHBOUR: 'it returns false'. Refute it at one input. -/
def bankKeysWrong : ChangeSpec := { name := "bankKeys", fn := fun _ => fun
  | [d1, d2] => { results := [.lit (.bool false)], args := [d1, d2] }
  | _ => none }
def BankKeysWrongFalsely : Prop := bankKeysRow.holds Try.pinned (OpenSpec.ofChange bankKeysWrong)

/-- 'tallagelaw17.BankNone': WHATEVER THE INPUT: true; the input reads as it did. -/
def bankNoneSpec : ChangeSpec := { name := "bankNone", fn := fun _ => fun
  | [d] => { results := [.lit (.bool true)], args := [d] }
  | _ => none }
def bankNoneRow : OpenClaim := { program := "yteaigmoldlbjdaa", sum := "3f598642eccec2855dead8b8be921ae90951df6a2f1a8dc98c62e012189f9952", func := "tallage/tallagelaw17.BankNone", spec := "bankNone", inPlace := ["internal/abi.NoEscape", "internal/bytealg.abigen_runtime_cmpstring", "slices.overlaps[string]", "slices.overlaps[tallage/store.block]"], unfollowed := true, recurses := true, apart := false }
def BankNoneSaid : Prop := bankNoneRow.holds Try.pinned (OpenSpec.ofChange bankNoneSpec)

/-- ITS FALSE NEIGHBOUR: 'it returns false'. Refute it at one input. -/
def bankNoneWrong : ChangeSpec := { name := "bankNone", fn := fun _ => fun
  | [d] => { results := [.lit (.bool false)], args := [d] }
  | _ => none }
def BankNoneWrongFalsely : Prop := bankNoneRow.holds Try.pinned (OpenSpec.ofChange bankNoneWrong)

/-- 'tallagelaw34.SplitNone': WHATEVER THE INPUT: true; the input reads as it did. -/
def splitNoneSpec : ChangeSpec := { name := "splitNone", fn := fun _ => fun
  | [d] => { results := [.lit (.bool true)], args := [d] }
  | _ => none }
def splitNoneRow : OpenClaim := { program := "yteaigmoldlbjdaa", sum := "3f598642eccec2855dead8b8be921ae90951df6a2f1a8dc98c62e012189f9952", func := "tallage/tallagelaw34.SplitNone", spec := "splitNone", inPlace := ["internal/abi.NoEscape", "internal/bytealg.abigen_runtime_cmpstring", "slices.overlaps[string]", "slices.overlaps[tallage/store.block]"], unfollowed := true, recurses := true, apart := false }
def SplitNoneSaid : Prop := splitNoneRow.holds Try.pinned (OpenSpec.ofChange splitNoneSpec)

/-- ITS FALSE NEIGHBOUR: 'it returns false'. Refute it at one input. -/
def splitNoneWrong : ChangeSpec := { name := "splitNone", fn := fun _ => fun
  | [d] => { results := [.lit (.bool false)], args := [d] }
  | _ => none }
def SplitNoneWrongFalsely : Prop := splitNoneRow.holds Try.pinned (OpenSpec.ofChange splitNoneWrong)

/- THE SECOND FORM. 'bulk': how many values and letters a reading holds, each counted each time it is reached (what is shared counts as often as it is met; a slice's spare places count too). A statement '..UptoSaid' is the law's where the arguments, and the package variables that the reading takes, are together of bulk at most 1048576: NARROWER than '..Said'. Prove '..Said' where nothing that the law and all that it calls make is longer than what came in: it says more and counts as full. Else prove '..UptoSaid'. A law counts once. -/
mutual
def uptoBulk {H : Type} : DataW H → Nat
  | .lit (.string bytes) => bytes.length + 1
  | .lit _ => 1
  | .nil => 1
  | .ptr d => uptoBulk d + 1
  | .slice elems spare => uptoBulkAll elems + uptoBulkAll spare + 1
  | .agg parts => uptoBulkAll parts + 1
  | .iface _ d => uptoBulk d + 1
  | .map entries => uptoBulkEntries entries + 1
  | .held _ => 1
def uptoBulkAll {H : Type} : List (DataW H) → Nat
  | [] => 0
  | d :: r => uptoBulk d + uptoBulkAll r
def uptoBulkEntries {H : Type} : List (Lit × DataW H) → Nat
  | [] => 0
  | x :: r => uptoBulkEntry x + uptoBulkEntries r
def uptoBulkEntry {H : Type} : Lit × DataW H → Nat
  | (.string bytes, d) => bytes.length + uptoBulk d + 1
  | (_, d) => uptoBulk d + 1
 end
def uptoSmall : (H : Type) → List (DataW H) → Bool := fun _ ds => decide (uptoBulkAll ds ≤ 1048576)
def OpenSpec.upto (s : _root_.Go.ChangeSpec) : _root_.Go.OpenSpec := { _root_.Go.OpenSpec.ofChange s with cond := some uptoSmall }

/-- 'tallagelaw34.SplitParts', WHERE WHAT IT READS IS OF BULK AT MOST 1048576: true; the input reads as it did. -/
def splitPartsUptoRow : OpenClaim := { program := "yteaigmoldlbjdaa", sum := "3f598642eccec2855dead8b8be921ae90951df6a2f1a8dc98c62e012189f9952", func := "tallage/tallagelaw34.SplitParts", spec := "splitParts", unfollowed := true, recurses := true, apart := false, narrowed := true }
def SplitPartsUptoSaid : Prop := splitPartsUptoRow.holds Try.pinned (OpenSpec.upto splitPartsSpec)

/-- 'tallagelaw34.SplitAdds', WHERE WHAT IT READS IS OF BULK AT MOST 1048576: true; the input reads as it did. -/
def splitAddsUptoRow : OpenClaim := { program := "yteaigmoldlbjdaa", sum := "3f598642eccec2855dead8b8be921ae90951df6a2f1a8dc98c62e012189f9952", func := "tallage/tallagelaw34.SplitAdds", spec := "splitAdds", unfollowed := true, recurses := true, apart := false, narrowed := true }
def SplitAddsUptoSaid : Prop := splitAddsUptoRow.holds Try.pinned (OpenSpec.upto splitAddsSpec)

/-- 'tallagelaw17.BankKeeps', WHERE WHAT IT READS IS OF BULK AT MOST 1048576: true; the input reads as it did. -/
def bankKeepsUptoRow : OpenClaim := { program := "yteaigmoldlbjdaa", sum := "3f598642eccec2855dead8b8be921ae90951df6a2f1a8dc98c62e012189f9952", func := "tallage/tallagelaw17.BankKeeps", spec := "bankKeeps", inPlace := ["internal/abi.NoEscape", "internal/bytealg.abigen_runtime_cmpstring", "slices.overlaps[string]", "slices.overlaps[tallage/store.block]"], unfollowed := true, recurses := true, apart := false, narrowed := true }
def BankKeepsUptoSaid : Prop := bankKeepsUptoRow.holds Try.pinned (OpenSpec.upto bankKeepsSpec)

/-- 'tallagelaw17.BankKeys', WHERE WHAT IT READS IS OF BULK AT MOST 1048576: true; the input reads as it did. -/
def bankKeysUptoRow : OpenClaim := { program := "yteaigmoldlbjdaa", sum := "3f598642eccec2855dead8b8be921ae90951df6a2f1a8dc98c62e012189f9952", func := "tallage/tallagelaw17.BankKeys", spec := "bankKeys", inPlace := ["internal/abi.NoEscape", "internal/bytealg.abigen_runtime_cmpstring", "slices.overlaps[string]", "slices.overlaps[tallage/store.block]"], unfollowed := true, recurses := true, apart := false, narrowed := true }
def BankKeysUptoSaid : Prop := bankKeysUptoRow.holds Try.pinned (OpenSpec.upto bankKeysSpec)

/-- 'tallagelaw17.BankNone', WHERE WHAT IT READS IS OF BULK AT MOST 1048576: true; the input reads as it did. -/
def bankNoneUptoRow : OpenClaim := { program := "yteaigmoldlbjdaa", sum := "3f598642eccec2855dead8b8be921ae90951df6a2f1a8dc98c62e012189f9952", func := "tallage/tallagelaw17.BankNone", spec := "bankNone", inPlace := ["internal/abi.NoEscape", "internal/bytealg.abigen_runtime_cmpstring", "slices.overlaps[string]", "slices.overlaps[tallage/store.block]"], unfollowed := true, recurses := true, apart := false, narrowed := true }
def BankNoneUptoSaid : Prop := bankNoneUptoRow.holds Try.pinned (OpenSpec.upto bankNoneSpec)

/-- 'tallagelaw34.SplitNone', WHERE WHAT IT READS IS OF BULK AT MOST 1048576: true; the input reads as it did. -/
def splitNoneUptoRow : OpenClaim := { program := "yteaigmoldlbjdaa", sum := "3f598642eccec2855dead8b8be921ae90951df6a2f1a8dc98c62e012189f9952", func := "tallage/tallagelaw34.SplitNone", spec := "splitNone", inPlace := ["internal/abi.NoEscape", "internal/bytealg.abigen_runtime_cmpstring", "slices.overlaps[string]", "slices.overlaps[tallage/store.block]"], unfollowed := true, recurses := true, apart := false, narrowed := true }
def SplitNoneUptoSaid : Prop := splitNoneUptoRow.holds Try.pinned (OpenSpec.upto splitNoneSpec)

end Rows
end Go.Proofs.Yteaigmoldlbjdaa
