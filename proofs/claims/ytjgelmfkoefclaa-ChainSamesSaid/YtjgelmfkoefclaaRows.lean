/-
  No cell of these rows narrows 'for every input' (looked for: loops, veiled, ifaces, maps, wideKeys, modest, calm, conditions, laid).
  DERIVED. THE GIVEN ROWS OF THIS SEAT. 7 by the template 'for every input the law returns true; each argument reads behind the call as it read before'; 0 by the template 'total and deterministic' (their statements: YtjgelmfkoefclaaTotals.lean).
  GIVEN WITH THE SEED: the statements are not yours to turn. If you find one false, say at which input.
  Laid BY PROGRAM, IN A SANDBOX (cutbox-rows.mjs): the forced cells as the released guide's own fill.sh prints them over the translation 8a8d6e6c6cc10b8a… (all of the seat's roots in one cut). By AI agents, Wed Nov 11 2026. No macro, syntax, notation, axiom, sorry.
-/
import Derived.Test.YtjgelmfkoefclaaChecked
import GoSem.Claim
import GoSem.ClaimJoined
import GoSem.ClaimMapViews
import Derived.JoinedTies
import Derived.KernelRfl
namespace Go.Proofs.Ytjgelmfkoefclaa
/- THE CELL 'sum', in the pinned program and in every row, IS THE sha256 OF THE DUMP (.gsa) THAT YtjgelmfkoefclaaProg.lean LOADS. Nothing in Lean hashes anything: it is a label: what it is worth is what the hold of that sum in a sandbox is worth. -/
noncomputable def Try.pinned : Pinned := { name := "ytjgelmfkoefclaa", sum := "8a8d6e6c6cc10b8aa49c56abe53c7d1a7fb10d2e3932e57b93281d5209cd12c6", checked := Try.checked }
namespace Rows
def none {H : Type} : Left H := { results := [], args := [] }

/-- 'barquelaw07.ChainComposes': WHATEVER THE INPUT: true; the input reads as it did. -/
def chainComposesSpec : ChangeSpec := { name := "chainComposes", fn := fun _ => fun
  | [d1, d2] => { results := [.lit (.bool true)], args := [d1, d2] }
  | _ => none }
def chainComposesRow : OpenClaim := { program := "ytjgelmfkoefclaa", sum := "8a8d6e6c6cc10b8aa49c56abe53c7d1a7fb10d2e3932e57b93281d5209cd12c6", func := "barque/barquelaw07.ChainComposes", spec := "chainComposes", unfollowed := true, recurses := true, apart := false }
def ChainComposesSaid : Prop := chainComposesRow.holds Try.pinned (OpenSpec.ofChange chainComposesSpec)

/-- ITS FALSE NEIGHBOUR: 'it returns false'. Refute it at one input. -/
def chainComposesWrong : ChangeSpec := { name := "chainComposes", fn := fun _ => fun
  | [d1, d2] => { results := [.lit (.bool false)], args := [d1, d2] }
  | _ => none }
def ChainComposesWrongFalsely : Prop := chainComposesRow.holds Try.pinned (OpenSpec.ofChange chainComposesWrong)

/-- 'barquelaw07.ChainFolds': WHATEVER THE INPUT: true; the input reads as it did. -/
def chainFoldsSpec : ChangeSpec := { name := "chainFolds", fn := fun _ => fun
  | [d] => { results := [.lit (.bool true)], args := [d] }
  | _ => none }
def chainFoldsRow : OpenClaim := { program := "ytjgelmfkoefclaa", sum := "8a8d6e6c6cc10b8aa49c56abe53c7d1a7fb10d2e3932e57b93281d5209cd12c6", func := "barque/barquelaw07.ChainFolds", spec := "chainFolds", unfollowed := true, recurses := true, apart := false }
def ChainFoldsSaid : Prop := chainFoldsRow.holds Try.pinned (OpenSpec.ofChange chainFoldsSpec)

/-- ITS FALSE NEIGHBOUR: 'it returns false'. Refute it at one input. -/
def chainFoldsWrong : ChangeSpec := { name := "chainFolds", fn := fun _ => fun
  | [d] => { results := [.lit (.bool false)], args := [d] }
  | _ => none }
def ChainFoldsWrongFalsely : Prop := chainFoldsRow.holds Try.pinned (OpenSpec.ofChange chainFoldsWrong)

/-- 'barquelaw07.ChainKept': WHATEVER THE INPUT: true; the input reads as it did. -/
def chainKeptSpec : ChangeSpec := { name := "chainKept", fn := fun _ => fun
  | [d1, d2] => { results := [.lit (.bool true)], args := [d1, d2] }
  | _ => none }
def chainKeptRow : OpenClaim := { program := "ytjgelmfkoefclaa", sum := "8a8d6e6c6cc10b8aa49c56abe53c7d1a7fb10d2e3932e57b93281d5209cd12c6", func := "barque/barquelaw07.ChainKept", spec := "chainKept", unfollowed := true, recurses := true, apart := false }
def ChainKeptSaid : Prop := chainKeptRow.holds Try.pinned (OpenSpec.ofChange chainKeptSpec)

/-- ITS FALSE NEIGHBOUR: 'it returns false'. Refute it at one input. -/
def chainKeptWrong : ChangeSpec := { name := "chainKept", fn := fun _ => fun
  | [d1, d2] => { results := [.lit (.bool false)], args := [d1, d2] }
  | _ => none }
def ChainKeptWrongFalsely : Prop := chainKeptRow.holds Try.pinned (OpenSpec.ofChange chainKeptWrong)

/-- 'barquelaw07.ChainStops': WHATEVER THE INPUT: true; the input reads as it did. -/
def chainStopsSpec : ChangeSpec := { name := "chainStops", fn := fun _ => fun
  | [d1, d2, d3] => { results := [.lit (.bool true)], args := [d1, d2, d3] }
  | _ => none }
def chainStopsRow : OpenClaim := { program := "ytjgelmfkoefclaa", sum := "8a8d6e6c6cc10b8aa49c56abe53c7d1a7fb10d2e3932e57b93281d5209cd12c6", func := "barque/barquelaw07.ChainStops", spec := "chainStops", inPlace := ["internal/abi.NoEscape"], unfollowed := true, recurses := true, apart := false }
def ChainStopsSaid : Prop := chainStopsRow.holds Try.pinned (OpenSpec.ofChange chainStopsSpec)

/-- ITS FALSE NEIGHBOUR: 'it returns false'. Refute it at one input. -/
def chainStopsWrong : ChangeSpec := { name := "chainStops", fn := fun _ => fun
  | [d1, d2, d3] => { results := [.lit (.bool false)], args := [d1, d2, d3] }
  | _ => none }
def ChainStopsWrongFalsely : Prop := chainStopsRow.holds Try.pinned (OpenSpec.ofChange chainStopsWrong)

/-- 'barquelaw07.ChainGroups': WHATEVER THE INPUT: true; the input reads as it did. -/
def chainGroupsSpec : ChangeSpec := { name := "chainGroups", fn := fun _ => fun
  | [d1, d2] => { results := [.lit (.bool true)], args := [d1, d2] }
  | _ => none }
def chainGroupsRow : OpenClaim := { program := "ytjgelmfkoefclaa", sum := "8a8d6e6c6cc10b8aa49c56abe53c7d1a7fb10d2e3932e57b93281d5209cd12c6", func := "barque/barquelaw07.ChainGroups", spec := "chainGroups", unfollowed := true, recurses := true, apart := false }
def ChainGroupsSaid : Prop := chainGroupsRow.holds Try.pinned (OpenSpec.ofChange chainGroupsSpec)

/-- ITS FALSE NEIGHBOUR: 'it returns false'. Refute it at one input. -/
def chainGroupsWrong : ChangeSpec := { name := "chainGroups", fn := fun _ => fun
  | [d1, d2] => { results := [.lit (.bool false)], args := [d1, d2] }
  | _ => none }
def ChainGroupsWrongFalsely : Prop := chainGroupsRow.holds Try.pinned (OpenSpec.ofChange chainGroupsWrong)

/-- 'barquelaw07.ChainSames': WHATEVER THE INPUT: true; the input reads as it did. -/
def chainSamesSpec : ChangeSpec := { name := "chainSames", fn := fun _ => fun
  | [d1, d2, d3, d4, d5] => { results := [.lit (.bool true)], args := [d1, d2, d3, d4, d5] }
  | _ => none }
def chainSamesRow : OpenClaim := { program := "ytjgelmfkoefclaa", sum := "8a8d6e6c6cc10b8aa49c56abe53c7d1a7fb10d2e3932e57b93281d5209cd12c6", func := "barque/barquelaw07.ChainSames", spec := "chainSames", unfollowed := true, recurses := true, apart := false }
def ChainSamesSaid : Prop := chainSamesRow.holds Try.pinned (OpenSpec.ofChange chainSamesSpec)

/-- ITS FALSE NEIGHBOUR: 'it returns false'. Refute it at one input. -/
def chainSamesWrong : ChangeSpec := { name := "chainSames", fn := fun _ => fun
  | [d1, d2, d3, d4, d5] => { results := [.lit (.bool false)], args := [d1, d2, d3, d4, d5] }
  | _ => none }
def ChainSamesWrongFalsely : Prop := chainSamesRow.holds Try.pinned (OpenSpec.ofChange chainSamesWrong)

/-- 'barquelaw07.ChainRows': WHATEVER THE INPUT: true; the input reads as it did. -/
def chainRowsSpec : ChangeSpec := { name := "chainRows", fn := fun _ => fun
  | [d1, d2] => { results := [.lit (.bool true)], args := [d1, d2] }
  | _ => none }
def chainRowsRow : OpenClaim := { program := "ytjgelmfkoefclaa", sum := "8a8d6e6c6cc10b8aa49c56abe53c7d1a7fb10d2e3932e57b93281d5209cd12c6", func := "barque/barquelaw07.ChainRows", spec := "chainRows", inPlace := ["internal/abi.NoEscape"], unfollowed := true, recurses := true, apart := false }
def ChainRowsSaid : Prop := chainRowsRow.holds Try.pinned (OpenSpec.ofChange chainRowsSpec)

/-- ITS FALSE NEIGHBOUR: 'it returns false'. Refute it at one input. -/
def chainRowsWrong : ChangeSpec := { name := "chainRows", fn := fun _ => fun
  | [d1, d2] => { results := [.lit (.bool false)], args := [d1, d2] }
  | _ => none }
def ChainRowsWrongFalsely : Prop := chainRowsRow.holds Try.pinned (OpenSpec.ofChange chainRowsWrong)

/- THE SECOND FORM. 'bulk': how many values and letters a reading holds, each counted each time it is reached (what is shared counts as often as it is met; a slice's spare places count too). A statement '..UptoSaid' is the law's where the arguments, and the package variables that the reading takes, are together of bulk at most 1048576: NARROWER than '..Said'. Prove '..Said' where nothing that the law and all that it calls make is longer than what came in: it says more and counts as full. Else prove '..UptoSaid'. A law counts once. -/
mutual
def uptoBulk {H : Type} : DataW H → Nat
  | .lit (.string bytes) => bytes.length + 1
  | .lit _ => 1
  | .nil => 1
  | .ptr d => uptoBulk d + 1
  | .slice elems spare => uptoBulkAll elems + uptoBulkAll spare + 1
  | .agg parts => uptoBulkAll parts + 1
  | .iface _ d => uptoBulk d + 1
  | .map entries => uptoBulkEntries entries + 1
  | .held _ => 1
def uptoBulkAll {H : Type} : List (DataW H) → Nat
  | [] => 0
  | d :: r => uptoBulk d + uptoBulkAll r
def uptoBulkEntries {H : Type} : List (Lit × DataW H) → Nat
  | [] => 0
  | x :: r => uptoBulkEntry x + uptoBulkEntries r
def uptoBulkEntry {H : Type} : Lit × DataW H → Nat
  | (.string bytes, d) => bytes.length + uptoBulk d + 1
  | (_, d) => uptoBulk d + 1
 end
def uptoSmall : (H : Type) → List (DataW H) → Bool := fun _ ds => decide (uptoBulkAll ds ≤ 1048576)
def OpenSpec.upto (s : _root_.Go.ChangeSpec) : _root_.Go.OpenSpec := { _root_.Go.OpenSpec.ofChange s with cond := some uptoSmall }

/-- 'barquelaw07.ChainComposes', WHERE WHAT IT READS IS OF BULK AT MOST 1048576: true; the input reads as it did. -/
def chainComposesUptoRow : OpenClaim := { program := "ytjgelmfkoefclaa", sum := "8a8d6e6c6cc10b8aa49c56abe53c7d1a7fb10d2e3932e57b93281d5209cd12c6", func := "barque/barquelaw07.ChainComposes", spec := "chainComposes", unfollowed := true, recurses := true, apart := false, narrowed := true }
def ChainComposesUptoSaid : Prop := chainComposesUptoRow.holds Try.pinned (OpenSpec.upto chainComposesSpec)

/-- 'barquelaw07.ChainFolds', WHERE WHAT IT READS IS OF BULK AT MOST 1048576: true; the input reads as it did. -/
def chainFoldsUptoRow : OpenClaim := { program := "ytjgelmfkoefclaa", sum := "8a8d6e6c6cc10b8aa49c56abe53c7d1a7fb10d2e3932e57b93281d5209cd12c6", func := "barque/barquelaw07.ChainFolds", spec := "chainFolds", unfollowed := true, recurses := true, apart := false, narrowed := true }
def ChainFoldsUptoSaid : Prop := chainFoldsUptoRow.holds Try.pinned (OpenSpec.upto chainFoldsSpec)

/-- 'barquelaw07.ChainKept', WHERE WHAT IT READS IS OF BULK AT MOST 1048576: true; the input reads as it did. -/
def chainKeptUptoRow : OpenClaim := { program := "ytjgelmfkoefclaa", sum := "8a8d6e6c6cc10b8aa49c56abe53c7d1a7fb10d2e3932e57b93281d5209cd12c6", func := "barque/barquelaw07.ChainKept", spec := "chainKept", unfollowed := true, recurses := true, apart := false, narrowed := true }
def ChainKeptUptoSaid : Prop := chainKeptUptoRow.holds Try.pinned (OpenSpec.upto chainKeptSpec)

/-- 'barquelaw07.ChainStops', WHERE WHAT IT READS IS OF BULK AT MOST 1048576: true; the input reads as it did. -/
def chainStopsUptoRow : OpenClaim := { program := "ytjgelmfkoefclaa", sum := "8a8d6e6c6cc10b8aa49c56abe53c7d1a7fb10d2e3932e57b93281d5209cd12c6", func := "barque/barquelaw07.ChainStops", spec := "chainStops", inPlace := ["internal/abi.NoEscape"], unfollowed := true, recurses := true, apart := false, narrowed := true }
def ChainStopsUptoSaid : Prop := chainStopsUptoRow.holds Try.pinned (OpenSpec.upto chainStopsSpec)

/-- 'barquelaw07.ChainGroups', WHERE WHAT IT READS IS OF BULK AT MOST 1048576: true; the input reads as it did. -/
def chainGroupsUptoRow : OpenClaim := { program := "ytjgelmfkoefclaa", sum := "8a8d6e6c6cc10b8aa49c56abe53c7d1a7fb10d2e3932e57b93281d5209cd12c6", func := "barque/barquelaw07.ChainGroups", spec := "chainGroups", unfollowed := true, recurses := true, apart := false, narrowed := true }
def ChainGroupsUptoSaid : Prop := chainGroupsUptoRow.holds Try.pinned (OpenSpec.upto chainGroupsSpec)

/-- 'barquelaw07.ChainSames', WHERE WHAT IT READS IS OF BULK AT MOST 1048576: true; the input reads as it did. -/
def chainSamesUptoRow : OpenClaim := { program := "ytjgelmfkoefclaa", sum := "8a8d6e6c6cc10b8aa49c56abe53c7d1a7fb10d2e3932e57b93281d5209cd12c6", func := "barque/barquelaw07.ChainSames", spec := "chainSames", unfollowed := true, recurses := true, apart := false, narrowed := true }
def ChainSamesUptoSaid : Prop := chainSamesUptoRow.holds Try.pinned (OpenSpec.upto chainSamesSpec)

/-- 'barquelaw07.ChainRows', WHERE WHAT IT READS IS OF BULK AT MOST 1048576: true; the input reads as it did. -/
def chainRowsUptoRow : OpenClaim := { program := "ytjgelmfkoefclaa", sum := "8a8d6e6c6cc10b8aa49c56abe53c7d1a7fb10d2e3932e57b93281d5209cd12c6", func := "barque/barquelaw07.ChainRows", spec := "chainRows", inPlace := ["internal/abi.NoEscape"], unfollowed := true, recurses := true, apart := false, narrowed := true }
def ChainRowsUptoSaid : Prop := chainRowsUptoRow.holds Try.pinned (OpenSpec.upto chainRowsSpec)

end Rows
end Go.Proofs.Ytjgelmfkoefclaa
