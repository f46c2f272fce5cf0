/-
  No cell of these rows narrows 'for every input' (looked for: loops, veiled, ifaces, maps, wideKeys, modest, calm, conditions, laid).
  DERIVED. THE GIVEN ROWS OF THIS SEAT. 11 by the template 'for every input the law returns true; each argument reads behind the call as it read before'; 0 by the template 'total and deterministic' (their statements: YteamoejgpcognaaTotals.lean).
  GIVEN WITH THE SEED: the statements are not yours to turn. If you find one false, say at which input.
  Laid BY PROGRAM, IN A SANDBOX (cutbox-rows.mjs): the forced cells as the released guide's own fill.sh prints them over the translation a3178ba821d68d82… (all of the seat's roots in one cut). By AI agents, Wed Nov 11 2026. No macro, syntax, notation, axiom, sorry.
-/
import Derived.Test.YteamoejgpcognaaChecked
import GoSem.Claim
import GoSem.ClaimJoined
import GoSem.ClaimMapViews
import Derived.JoinedTies
import Derived.KernelRfl
namespace Go.Proofs.Yteamoejgpcognaa
/- THE CELL 'sum', in the pinned program and in every row, IS THE sha256 OF THE DUMP (.gsa) THAT YteamoejgpcognaaProg.lean LOADS. Nothing in Lean hashes anything: it is a label: what it is worth is what the hold of that sum in a sandbox is worth. -/
noncomputable def Try.pinned : Pinned := { name := "yteamoejgpcognaa", sum := "a3178ba821d68d82945ee7aa930abf3376f10e2936ba0633834e0e802af1e5f8", checked := Try.checked }
namespace Rows
def none {H : Type} : Left H := { results := [], args := [] }

/-- 'barquelaw07.ChainTidies': WHATEVER THE INPUT: true; the input reads as it did. -/
def chainTidiesSpec : ChangeSpec := { name := "chainTidies", fn := fun _ => fun
  | [d] => { results := [.lit (.bool true)], args := [d] }
  | _ => none }
def chainTidiesRow : OpenClaim := { program := "yteamoejgpcognaa", sum := "a3178ba821d68d82945ee7aa930abf3376f10e2936ba0633834e0e802af1e5f8", func := "barque/barquelaw07.ChainTidies", spec := "chainTidies", unfollowed := true, recurses := true, apart := false }
def ChainTidiesSaid : Prop := chainTidiesRow.holds Try.pinned (OpenSpec.ofChange chainTidiesSpec)

/-- ITS FALSE NEIGHBOUR: 'it returns false'. Refute it at one input. -/
def chainTidiesWrong : ChangeSpec := { name := "chainTidies", fn := fun _ => fun
  | [d] => { results := [.lit (.bool false)], args := [d] }
  | _ => none }
def ChainTidiesWrongFalsely : Prop := chainTidiesRow.holds Try.pinned (OpenSpec.ofChange chainTidiesWrong)

/-- 'barquelaw12.KeepNeeds': WHATEVER THE INPUT: true; the input reads as it did. -/
def keepNeedsSpec : ChangeSpec := { name := "keepNeeds", fn := fun _ => fun
  | [d1, d2] => { results := [.lit (.bool true)], args := [d1, d2] }
  | _ => none }
def keepNeedsRow : OpenClaim := { program := "yteamoejgpcognaa", sum := "a3178ba821d68d82945ee7aa930abf3376f10e2936ba0633834e0e802af1e5f8", func := "barque/barquelaw12.KeepNeeds", spec := "keepNeeds", unfollowed := true, recurses := true, apart := false }
def KeepNeedsSaid : Prop := keepNeedsRow.holds Try.pinned (OpenSpec.ofChange keepNeedsSpec)

/-- ITS FALSE NEIGHBOUR: 'it returns false'. Refute it at one input. -/
def keepNeedsWrong : ChangeSpec := { name := "keepNeeds", fn := fun _ => fun
  | [d1, d2] => { results := [.lit (.bool false)], args := [d1, d2] }
  | _ => none }
def KeepNeedsWrongFalsely : Prop := keepNeedsRow.holds Try.pinned (OpenSpec.ofChange keepNeedsWrong)

/-- 'barquelaw12.KeepPolicies': WHATEVER THE INPUT: true; the input reads as it did. -/
def keepPoliciesSpec : ChangeSpec := { name := "keepPolicies", fn := fun _ => fun
  | [d1, d2, d3] => { results := [.lit (.bool true)], args := [d1, d2, d3] }
  | _ => none }
def keepPoliciesRow : OpenClaim := { program := "yteamoejgpcognaa", sum := "a3178ba821d68d82945ee7aa930abf3376f10e2936ba0633834e0e802af1e5f8", func := "barque/barquelaw12.KeepPolicies", spec := "keepPolicies", unfollowed := true, recurses := true, apart := false }
def KeepPoliciesSaid : Prop := keepPoliciesRow.holds Try.pinned (OpenSpec.ofChange keepPoliciesSpec)

/-- ITS FALSE NEIGHBOUR: 'it returns false'. Refute it at one input. -/
def keepPoliciesWrong : ChangeSpec := { name := "keepPolicies", fn := fun _ => fun
  | [d1, d2, d3] => { results := [.lit (.bool false)], args := [d1, d2, d3] }
  | _ => none }
def KeepPoliciesWrongFalsely : Prop := keepPoliciesRow.holds Try.pinned (OpenSpec.ofChange keepPoliciesWrong)

/-- 'barquelaw12.KeepFloors': WHATEVER THE INPUT: true; the input reads as it did. -/
def keepFloorsSpec : ChangeSpec := { name := "keepFloors", fn := fun _ => fun
  | [d1, d2, d3] => { results := [.lit (.bool true)], args := [d1, d2, d3] }
  | _ => none }
def keepFloorsRow : OpenClaim := { program := "yteamoejgpcognaa", sum := "a3178ba821d68d82945ee7aa930abf3376f10e2936ba0633834e0e802af1e5f8", func := "barque/barquelaw12.KeepFloors", spec := "keepFloors", unfollowed := true, recurses := true, apart := false }
def KeepFloorsSaid : Prop := keepFloorsRow.holds Try.pinned (OpenSpec.ofChange keepFloorsSpec)

/-- ITS FALSE NEIGHBOUR: 'it returns false'. Refute it at one input. -/
def keepFloorsWrong : ChangeSpec := { name := "keepFloors", fn := fun _ => fun
  | [d1, d2, d3] => { results := [.lit (.bool false)], args := [d1, d2, d3] }
  | _ => none }
def KeepFloorsWrongFalsely : Prop := keepFloorsRow.holds Try.pinned (OpenSpec.ofChange keepFloorsWrong)

/-- 'barquelaw12.KeepRoads': WHATEVER THE INPUT: true; the input reads as it did. -/
def keepRoadsSpec : ChangeSpec := { name := "keepRoads", fn := fun _ => fun
  | [d1, d2] => { results := [.lit (.bool true)], args := [d1, d2] }
  | _ => none }
def keepRoadsRow : OpenClaim := { program := "yteamoejgpcognaa", sum := "a3178ba821d68d82945ee7aa930abf3376f10e2936ba0633834e0e802af1e5f8", func := "barque/barquelaw12.KeepRoads", spec := "keepRoads", unfollowed := true, recurses := true, apart := false }
def KeepRoadsSaid : Prop := keepRoadsRow.holds Try.pinned (OpenSpec.ofChange keepRoadsSpec)

/-- ITS FALSE NEIGHBOUR: 'it returns false'. Refute it at one input. -/
def keepRoadsWrong : ChangeSpec := { name := "keepRoads", fn := fun _ => fun
  | [d1, d2] => { results := [.lit (.bool false)], args := [d1, d2] }
  | _ => none }
def KeepRoadsWrongFalsely : Prop := keepRoadsRow.holds Try.pinned (OpenSpec.ofChange keepRoadsWrong)

/-- 'barquelaw07.ChainComposes': WHATEVER THE INPUT: true; the input reads as it did. -/
def chainComposesSpec : ChangeSpec := { name := "chainComposes", fn := fun _ => fun
  | [d1, d2] => { results := [.lit (.bool true)], args := [d1, d2] }
  | _ => none }
def chainComposesRow : OpenClaim := { program := "yteamoejgpcognaa", sum := "a3178ba821d68d82945ee7aa930abf3376f10e2936ba0633834e0e802af1e5f8", func := "barque/barquelaw07.ChainComposes", spec := "chainComposes", unfollowed := true, recurses := true, apart := false }
def ChainComposesSaid : Prop := chainComposesRow.holds Try.pinned (OpenSpec.ofChange chainComposesSpec)

/-- ITS FALSE NEIGHBOUR: 'it returns false'. Refute it at one input. -/
def chainComposesWrong : ChangeSpec := { name := "chainComposes", fn := fun _ => fun
  | [d1, d2] => { results := [.lit (.bool false)], args := [d1, d2] }
  | _ => none }
def ChainComposesWrongFalsely : Prop := chainComposesRow.holds Try.pinned (OpenSpec.ofChange chainComposesWrong)

/-- 'barquelaw12.KeepChecks': WHATEVER THE INPUT: true; the input reads as it did. -/
def keepChecksSpec : ChangeSpec := { name := "keepChecks", fn := fun _ => fun
  | [d] => { results := [.lit (.bool true)], args := [d] }
  | _ => none }
def keepChecksRow : OpenClaim := { program := "yteamoejgpcognaa", sum := "a3178ba821d68d82945ee7aa930abf3376f10e2936ba0633834e0e802af1e5f8", func := "barque/barquelaw12.KeepChecks", spec := "keepChecks", unfollowed := true, recurses := true, apart := false }
def KeepChecksSaid : Prop := keepChecksRow.holds Try.pinned (OpenSpec.ofChange keepChecksSpec)

/-- ITS FALSE NEIGHBOUR: 'it returns false'. Refute it at one input. -/
def keepChecksWrong : ChangeSpec := { name := "keepChecks", fn := fun _ => fun
  | [d] => { results := [.lit (.bool false)], args := [d] }
  | _ => none }
def KeepChecksWrongFalsely : Prop := keepChecksRow.holds Try.pinned (OpenSpec.ofChange keepChecksWrong)

/-- 'barquelaw07.ChainFolds': WHATEVER THE INPUT: true; the input reads as it did. -/
def chainFoldsSpec : ChangeSpec := { name := "chainFolds", fn := fun _ => fun
  | [d] => { results := [.lit (.bool true)], args := [d] }
  | _ => none }
def chainFoldsRow : OpenClaim := { program := "yteamoejgpcognaa", sum := "a3178ba821d68d82945ee7aa930abf3376f10e2936ba0633834e0e802af1e5f8", func := "barque/barquelaw07.ChainFolds", spec := "chainFolds", unfollowed := true, recurses := true, apart := false }
def ChainFoldsSaid : Prop := chainFoldsRow.holds Try.pinned (OpenSpec.ofChange chainFoldsSpec)

/-- ITS FALSE NEIGHBOUR: 'it returns false'. Refute it at one input. -/
def chainFoldsWrong : ChangeSpec := { name := "chainFolds", fn := fun _ => fun
  | [d] => { results := [.lit (.bool false)], args := [d] }
  | _ => none }
def ChainFoldsWrongFalsely : Prop := chainFoldsRow.holds Try.pinned (OpenSpec.ofChange chainFoldsWrong)

/-- 'barquelaw07.ChainKept': WHATEVER THE INPUT: true; the input reads as it did. -/
def chainKeptSpec : ChangeSpec := { name := "chainKept", fn := fun _ => fun
  | [d1, d2] => { results := [.lit (.bool true)], args := [d1, d2] }
  | _ => none }
def chainKeptRow : OpenClaim := { program := "yteamoejgpcognaa", sum := "a3178ba821d68d82945ee7aa930abf3376f10e2936ba0633834e0e802af1e5f8", func := "barque/barquelaw07.ChainKept", spec := "chainKept", unfollowed := true, recurses := true, apart := false }
def ChainKeptSaid : Prop := chainKeptRow.holds Try.pinned (OpenSpec.ofChange chainKeptSpec)

/-- ITS FALSE NEIGHBOUR: 'it returns false'. Refute it at one input. -/
def chainKeptWrong : ChangeSpec := { name := "chainKept", fn := fun _ => fun
  | [d1, d2] => { results := [.lit (.bool false)], args := [d1, d2] }
  | _ => none }
def ChainKeptWrongFalsely : Prop := chainKeptRow.holds Try.pinned (OpenSpec.ofChange chainKeptWrong)

/-- 'barquelaw12.KeepAfters': WHATEVER THE INPUT: true; the input reads as it did. -/
def keepAftersSpec : ChangeSpec := { name := "keepAfters", fn := fun _ => fun
  | [d1, d2, d3] => { results := [.lit (.bool true)], args := [d1, d2, d3] }
  | _ => none }
def keepAftersRow : OpenClaim := { program := "yteamoejgpcognaa", sum := "a3178ba821d68d82945ee7aa930abf3376f10e2936ba0633834e0e802af1e5f8", func := "barque/barquelaw12.KeepAfters", spec := "keepAfters", unfollowed := true, recurses := true, apart := false }
def KeepAftersSaid : Prop := keepAftersRow.holds Try.pinned (OpenSpec.ofChange keepAftersSpec)

/-- ITS FALSE NEIGHBOUR: 'it returns false'. Refute it at one input. -/
def keepAftersWrong : ChangeSpec := { name := "keepAfters", fn := fun _ => fun
  | [d1, d2, d3] => { results := [.lit (.bool false)], args := [d1, d2, d3] }
  | _ => none }
def KeepAftersWrongFalsely : Prop := keepAftersRow.holds Try.pinned (OpenSpec.ofChange keepAftersWrong)

/-- 'barquelaw12.KeepHolds': WHATEVER THE INPUT: true; the input reads as it did. -/
def keepHoldsSpec : ChangeSpec := { name := "keepHolds", fn := fun _ => fun
  | [d1, d2, d3] => { results := [.lit (.bool true)], args := [d1, d2, d3] }
  | _ => none }
def keepHoldsRow : OpenClaim := { program := "yteamoejgpcognaa", sum := "a3178ba821d68d82945ee7aa930abf3376f10e2936ba0633834e0e802af1e5f8", func := "barque/barquelaw12.KeepHolds", spec := "keepHolds", unfollowed := true, recurses := true, apart := false }
def KeepHoldsSaid : Prop := keepHoldsRow.holds Try.pinned (OpenSpec.ofChange keepHoldsSpec)

/-- ITS FALSE NEIGHBOUR: 'it returns false'. Refute it at one input. -/
def keepHoldsWrong : ChangeSpec := { name := "keepHolds", fn := fun _ => fun
  | [d1, d2, d3] => { results := [.lit (.bool false)], args := [d1, d2, d3] }
  | _ => none }
def KeepHoldsWrongFalsely : Prop := keepHoldsRow.holds Try.pinned (OpenSpec.ofChange keepHoldsWrong)

/- THE SECOND FORM. 'bulk': how many values and letters a reading holds, each counted each time it is reached (what is shared counts as often as it is met; a slice's spare places count too). A statement '..UptoSaid' is the law's where the arguments, and the package variables that the reading takes, are together of bulk at most 1048576: NARROWER than '..Said'. Prove '..Said' where nothing that the law and all that it calls make is longer than what came in: it says more and counts as full. Else prove '..UptoSaid'. A law counts once. -/
mutual
def uptoBulk {H : Type} : DataW H → Nat
  | .lit (.string bytes) => bytes.length + 1
  | .lit _ => 1
  | .nil => 1
  | .ptr d => uptoBulk d + 1
  | .slice elems spare => uptoBulkAll elems + uptoBulkAll spare + 1
  | .agg parts => uptoBulkAll parts + 1
  | .iface _ d => uptoBulk d + 1
  | .map entries => uptoBulkEntries entries + 1
  | .held _ => 1
def uptoBulkAll {H : Type} : List (DataW H) → Nat
  | [] => 0
  | d :: r => uptoBulk d + uptoBulkAll r
def uptoBulkEntries {H : Type} : List (Lit × DataW H) → Nat
  | [] => 0
  | x :: r => uptoBulkEntry x + uptoBulkEntries r
def uptoBulkEntry {H : Type} : Lit × DataW H → Nat
  | (.string bytes, d) => bytes.length + uptoBulk d + 1
  | (_, d) => uptoBulk d + 1
 end
def uptoSmall : (H : Type) → List (DataW H) → Bool := fun _ ds => decide (uptoBulkAll ds ≤ 1048576)
def OpenSpec.upto (s : _root_.Go.ChangeSpec) : _root_.Go.OpenSpec := { _root_.Go.OpenSpec.ofChange s with cond := some uptoSmall }

/-- 'barquelaw07.ChainTidies', WHERE WHAT IT READS IS OF BULK AT MOST 1048576: true; the input reads as it did. -/
def chainTidiesUptoRow : OpenClaim := { program := "yteamoejgpcognaa", sum := "a3178ba821d68d82945ee7aa930abf3376f10e2936ba0633834e0e802af1e5f8", func := "barque/barquelaw07.ChainTidies", spec := "chainTidies", unfollowed := true, recurses := true, apart := false, narrowed := true }
def ChainTidiesUptoSaid : Prop := chainTidiesUptoRow.holds Try.pinned (OpenSpec.upto chainTidiesSpec)

/-- 'barquelaw12.KeepNeeds', WHERE WHAT IT READS IS OF BULK AT MOST 1048576: true; the input reads as it did. -/
def keepNeedsUptoRow : OpenClaim := { program := "yteamoejgpcognaa", sum := "a3178ba821d68d82945ee7aa930abf3376f10e2936ba0633834e0e802af1e5f8", func := "barque/barquelaw12.KeepNeeds", spec := "keepNeeds", unfollowed := true, recurses := true, apart := false, narrowed := true }
def KeepNeedsUptoSaid : Prop := keepNeedsUptoRow.holds Try.pinned (OpenSpec.upto keepNeedsSpec)

/-- 'barquelaw12.KeepPolicies', WHERE WHAT IT READS IS OF BULK AT MOST 1048576: true; the input reads as it did. -/
def keepPoliciesUptoRow : OpenClaim := { program := "yteamoejgpcognaa", sum := "a3178ba821d68d82945ee7aa930abf3376f10e2936ba0633834e0e802af1e5f8", func := "barque/barquelaw12.KeepPolicies", spec := "keepPolicies", unfollowed := true, recurses := true, apart := false, narrowed := true }
def KeepPoliciesUptoSaid : Prop := keepPoliciesUptoRow.holds Try.pinned (OpenSpec.upto keepPoliciesSpec)

/-- 'barquelaw12.KeepFloors', WHERE WHAT IT READS IS OF BULK AT MOST 1048576: true; the input reads as it did. -/
def keepFloorsUptoRow : OpenClaim := { program := "yteamoejgpcognaa", sum := "a3178ba821d68d82945ee7aa930abf3376f10e2936ba0633834e0e802af1e5f8", func := "barque/barquelaw12.KeepFloors", spec := "keepFloors", unfollowed := true, recurses := true, apart := false, narrowed := true }
def KeepFloorsUptoSaid : Prop := keepFloorsUptoRow.holds Try.pinned (OpenSpec.upto keepFloorsSpec)

/-- 'barquelaw12.KeepRoads', WHERE WHAT IT READS IS OF BULK AT MOST 1048576: true; the input reads as it did. -/
def keepRoadsUptoRow : OpenClaim := { program := "yteamoejgpcognaa", sum := "a3178ba821d68d82945ee7aa930abf3376f10e2936ba0633834e0e802af1e5f8", func := "barque/barquelaw12.KeepRoads", spec := "keepRoads", unfollowed := true, recurses := true, apart := false, narrowed := true }
def KeepRoadsUptoSaid : Prop := keepRoadsUptoRow.holds Try.pinned (OpenSpec.upto keepRoadsSpec)

/-- 'barquelaw07.ChainComposes', WHERE WHAT IT READS IS OF BULK AT MOST 1048576: true; the input reads as it did. -/
def chainComposesUptoRow : OpenClaim := { program := "yteamoejgpcognaa", sum := "a3178ba821d68d82945ee7aa930abf3376f10e2936ba0633834e0e802af1e5f8", func := "barque/barquelaw07.ChainComposes", spec := "chainComposes", unfollowed := true, recurses := true, apart := false, narrowed := true }
def ChainComposesUptoSaid : Prop := chainComposesUptoRow.holds Try.pinned (OpenSpec.upto chainComposesSpec)

/-- 'barquelaw12.KeepChecks', WHERE WHAT IT READS IS OF BULK AT MOST 1048576: true; the input reads as it did. -/
def keepChecksUptoRow : OpenClaim := { program := "yteamoejgpcognaa", sum := "a3178ba821d68d82945ee7aa930abf3376f10e2936ba0633834e0e802af1e5f8", func := "barque/barquelaw12.KeepChecks", spec := "keepChecks", unfollowed := true, recurses := true, apart := false, narrowed := true }
def KeepChecksUptoSaid : Prop := keepChecksUptoRow.holds Try.pinned (OpenSpec.upto keepChecksSpec)

/-- 'barquelaw07.ChainFolds', WHERE WHAT IT READS IS OF BULK AT MOST 1048576: true; the input reads as it did. -/
def chainFoldsUptoRow : OpenClaim := { program := "yteamoejgpcognaa", sum := "a3178ba821d68d82945ee7aa930abf3376f10e2936ba0633834e0e802af1e5f8", func := "barque/barquelaw07.ChainFolds", spec := "chainFolds", unfollowed := true, recurses := true, apart := false, narrowed := true }
def ChainFoldsUptoSaid : Prop := chainFoldsUptoRow.holds Try.pinned (OpenSpec.upto chainFoldsSpec)

/-- 'barquelaw07.ChainKept', WHERE WHAT IT READS IS OF BULK AT MOST 1048576: true; the input reads as it did. -/
def chainKeptUptoRow : OpenClaim := { program := "yteamoejgpcognaa", sum := "a3178ba821d68d82945ee7aa930abf3376f10e2936ba0633834e0e802af1e5f8", func := "barque/barquelaw07.ChainKept", spec := "chainKept", unfollowed := true, recurses := true, apart := false, narrowed := true }
def ChainKeptUptoSaid : Prop := chainKeptUptoRow.holds Try.pinned (OpenSpec.upto chainKeptSpec)

/-- 'barquelaw12.KeepAfters', WHERE WHAT IT READS IS OF BULK AT MOST 1048576: true; the input reads as it did. -/
def keepAftersUptoRow : OpenClaim := { program := "yteamoejgpcognaa", sum := "a3178ba821d68d82945ee7aa930abf3376f10e2936ba0633834e0e802af1e5f8", func := "barque/barquelaw12.KeepAfters", spec := "keepAfters", unfollowed := true, recurses := true, apart := false, narrowed := true }
def KeepAftersUptoSaid : Prop := keepAftersUptoRow.holds Try.pinned (OpenSpec.upto keepAftersSpec)

/-- 'barquelaw12.KeepHolds', WHERE WHAT IT READS IS OF BULK AT MOST 1048576: true; the input reads as it did. -/
def keepHoldsUptoRow : OpenClaim := { program := "yteamoejgpcognaa", sum := "a3178ba821d68d82945ee7aa930abf3376f10e2936ba0633834e0e802af1e5f8", func := "barque/barquelaw12.KeepHolds", spec := "keepHolds", unfollowed := true, recurses := true, apart := false, narrowed := true }
def KeepHoldsUptoSaid : Prop := keepHoldsUptoRow.holds Try.pinned (OpenSpec.upto keepHoldsSpec)

end Rows
end Go.Proofs.Yteamoejgpcognaa
