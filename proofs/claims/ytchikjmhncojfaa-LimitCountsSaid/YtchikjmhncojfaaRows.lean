/-
  No cell of these rows narrows 'for every input' (looked for: loops, veiled, ifaces, maps, wideKeys, modest, calm, conditions, laid).
  DERIVED. THE GIVEN ROWS OF THIS SEAT. 21 by the template 'for every input the law returns true; each argument reads behind the call as it read before'; 0 by the template 'total and deterministic' (their statements: YtchikjmhncojfaaTotals.lean).
  GIVEN WITH THE SEED: the statements are not yours to turn. If you find one false, say at which input.
  Laid BY PROGRAM, IN A SANDBOX (cutbox-rows.mjs): the forced cells as the released guide's own fill.sh prints them over the translation 08e6d64214e4a16f… (all of the seat's roots in one cut). By AI agents, Wed Nov 11 2026. No macro, syntax, notation, axiom, sorry.
-/
import Derived.Test.YtchikjmhncojfaaChecked
import GoSem.Claim
import GoSem.ClaimJoined
import GoSem.ClaimMapViews
import Derived.JoinedTies
import Derived.KernelRfl
namespace Go.Proofs.Ytchikjmhncojfaa
/- THE CELL 'sum', in the pinned program and in every row, IS THE sha256 OF THE DUMP (.gsa) THAT YtchikjmhncojfaaProg.lean LOADS. Nothing in Lean hashes anything: it is a label: what it is worth is what the hold of that sum in a sandbox is worth. -/
noncomputable def Try.pinned : Pinned := { name := "ytchikjmhncojfaa", sum := "08e6d64214e4a16f3e1a81972078c52a0fa79ba2377b5febaef62e915a599414", checked := Try.checked }
namespace Rows
def none {H : Type} : Left H := { results := [], args := [] }

/-- 'backstaylaw13.NodeTells': WHATEVER THE INPUT: true; the input reads as it did. -/
def nodeTellsSpec : ChangeSpec := { name := "nodeTells", fn := fun _ => fun
  | [d1, d2, d3, d4, d5] => { results := [.lit (.bool true)], args := [d1, d2, d3, d4, d5] }
  | _ => none }
def nodeTellsRow : OpenClaim := { program := "ytchikjmhncojfaa", sum := "08e6d64214e4a16f3e1a81972078c52a0fa79ba2377b5febaef62e915a599414", func := "backstay/backstaylaw13.NodeTells", spec := "nodeTells", recurses := true, plainKeys := false, apart := false }
def NodeTellsSaid : Prop := nodeTellsRow.holds Try.pinned (OpenSpec.ofChange nodeTellsSpec)

/-- ITS FALSE NEIGHBOUR: 'it returns false'. Refute it at one input. -/
def nodeTellsWrong : ChangeSpec := { name := "nodeTells", fn := fun _ => fun
  | [d1, d2, d3, d4, d5] => { results := [.lit (.bool false)], args := [d1, d2, d3, d4, d5] }
  | _ => none }
def NodeTellsWrongFalsely : Prop := nodeTellsRow.holds Try.pinned (OpenSpec.ofChange nodeTellsWrong)

/-- 'backstaylaw13.NodeUnique': WHATEVER THE INPUT: true; the input reads as it did. -/
def nodeUniqueSpec : ChangeSpec := { name := "nodeUnique", fn := fun _ => fun
  | [d1, d2, d3, d4] => { results := [.lit (.bool true)], args := [d1, d2, d3, d4] }
  | _ => none }
def nodeUniqueRow : OpenClaim := { program := "ytchikjmhncojfaa", sum := "08e6d64214e4a16f3e1a81972078c52a0fa79ba2377b5febaef62e915a599414", func := "backstay/backstaylaw13.NodeUnique", spec := "nodeUnique", plainKeys := false, apart := false }
def NodeUniqueSaid : Prop := nodeUniqueRow.holds Try.pinned (OpenSpec.ofChange nodeUniqueSpec)

/-- ITS FALSE NEIGHBOUR: 'it returns false'. Refute it at one input. -/
def nodeUniqueWrong : ChangeSpec := { name := "nodeUnique", fn := fun _ => fun
  | [d1, d2, d3, d4] => { results := [.lit (.bool false)], args := [d1, d2, d3, d4] }
  | _ => none }
def NodeUniqueWrongFalsely : Prop := nodeUniqueRow.holds Try.pinned (OpenSpec.ofChange nodeUniqueWrong)

/-- 'backstaylaw13.NodeOrdered': WHATEVER THE INPUT: true; the input reads as it did. -/
def nodeOrderedSpec : ChangeSpec := { name := "nodeOrdered", fn := fun _ => fun
  | [d1, d2, d3, d4] => { results := [.lit (.bool true)], args := [d1, d2, d3, d4] }
  | _ => none }
def nodeOrderedRow : OpenClaim := { program := "ytchikjmhncojfaa", sum := "08e6d64214e4a16f3e1a81972078c52a0fa79ba2377b5febaef62e915a599414", func := "backstay/backstaylaw13.NodeOrdered", spec := "nodeOrdered", plainKeys := false, apart := false }
def NodeOrderedSaid : Prop := nodeOrderedRow.holds Try.pinned (OpenSpec.ofChange nodeOrderedSpec)

/-- ITS FALSE NEIGHBOUR: 'it returns false'. Refute it at one input. -/
def nodeOrderedWrong : ChangeSpec := { name := "nodeOrdered", fn := fun _ => fun
  | [d1, d2, d3, d4] => { results := [.lit (.bool false)], args := [d1, d2, d3, d4] }
  | _ => none }
def NodeOrderedWrongFalsely : Prop := nodeOrderedRow.holds Try.pinned (OpenSpec.ofChange nodeOrderedWrong)

/-- 'backstaylaw13.NodeKeeps': WHATEVER THE INPUT: true; the input reads as it did. -/
def nodeKeepsSpec : ChangeSpec := { name := "nodeKeeps", fn := fun _ => fun
  | [d1, d2, d3, d4] => { results := [.lit (.bool true)], args := [d1, d2, d3, d4] }
  | _ => none }
def nodeKeepsRow : OpenClaim := { program := "ytchikjmhncojfaa", sum := "08e6d64214e4a16f3e1a81972078c52a0fa79ba2377b5febaef62e915a599414", func := "backstay/backstaylaw13.NodeKeeps", spec := "nodeKeeps", plainKeys := false, apart := false }
def NodeKeepsSaid : Prop := nodeKeepsRow.holds Try.pinned (OpenSpec.ofChange nodeKeepsSpec)

/-- ITS FALSE NEIGHBOUR: 'it returns false'. Refute it at one input. -/
def nodeKeepsWrong : ChangeSpec := { name := "nodeKeeps", fn := fun _ => fun
  | [d1, d2, d3, d4] => { results := [.lit (.bool false)], args := [d1, d2, d3, d4] }
  | _ => none }
def NodeKeepsWrongFalsely : Prop := nodeKeepsRow.holds Try.pinned (OpenSpec.ofChange nodeKeepsWrong)

/-- 'backstaylaw13.NodeRoom': WHATEVER THE INPUT: true; the input reads as it did. -/
def nodeRoomSpec : ChangeSpec := { name := "nodeRoom", fn := fun _ => fun
  | [d1, d2, d3] => { results := [.lit (.bool true)], args := [d1, d2, d3] }
  | _ => none }
def nodeRoomRow : OpenClaim := { program := "ytchikjmhncojfaa", sum := "08e6d64214e4a16f3e1a81972078c52a0fa79ba2377b5febaef62e915a599414", func := "backstay/backstaylaw13.NodeRoom", spec := "nodeRoom", plainKeys := false, apart := false }
def NodeRoomSaid : Prop := nodeRoomRow.holds Try.pinned (OpenSpec.ofChange nodeRoomSpec)

/-- ITS FALSE NEIGHBOUR: 'it returns false'. Refute it at one input. -/
def nodeRoomWrong : ChangeSpec := { name := "nodeRoom", fn := fun _ => fun
  | [d1, d2, d3] => { results := [.lit (.bool false)], args := [d1, d2, d3] }
  | _ => none }
def NodeRoomWrongFalsely : Prop := nodeRoomRow.holds Try.pinned (OpenSpec.ofChange nodeRoomWrong)

/-- 'backstaylaw13.NodeSides': WHATEVER THE INPUT: true; the input reads as it did. -/
def nodeSidesSpec : ChangeSpec := { name := "nodeSides", fn := fun _ => fun
  | [d1, d2, d3, d4, d5] => { results := [.lit (.bool true)], args := [d1, d2, d3, d4, d5] }
  | _ => none }
def nodeSidesRow : OpenClaim := { program := "ytchikjmhncojfaa", sum := "08e6d64214e4a16f3e1a81972078c52a0fa79ba2377b5febaef62e915a599414", func := "backstay/backstaylaw13.NodeSides", spec := "nodeSides", plainKeys := false, apart := false }
def NodeSidesSaid : Prop := nodeSidesRow.holds Try.pinned (OpenSpec.ofChange nodeSidesSpec)

/-- ITS FALSE NEIGHBOUR: 'it returns false'. Refute it at one input. -/
def nodeSidesWrong : ChangeSpec := { name := "nodeSides", fn := fun _ => fun
  | [d1, d2, d3, d4, d5] => { results := [.lit (.bool false)], args := [d1, d2, d3, d4, d5] }
  | _ => none }
def NodeSidesWrongFalsely : Prop := nodeSidesRow.holds Try.pinned (OpenSpec.ofChange nodeSidesWrong)

/-- 'backstaylaw13.NodeLeaves': WHATEVER THE INPUT: true; the input reads as it did. -/
def nodeLeavesSpec : ChangeSpec := { name := "nodeLeaves", fn := fun _ => fun
  | [d1, d2, d3, d4] => { results := [.lit (.bool true)], args := [d1, d2, d3, d4] }
  | _ => none }
def nodeLeavesRow : OpenClaim := { program := "ytchikjmhncojfaa", sum := "08e6d64214e4a16f3e1a81972078c52a0fa79ba2377b5febaef62e915a599414", func := "backstay/backstaylaw13.NodeLeaves", spec := "nodeLeaves", plainKeys := false, apart := false }
def NodeLeavesSaid : Prop := nodeLeavesRow.holds Try.pinned (OpenSpec.ofChange nodeLeavesSpec)

/-- ITS FALSE NEIGHBOUR: 'it returns false'. Refute it at one input. -/
def nodeLeavesWrong : ChangeSpec := { name := "nodeLeaves", fn := fun _ => fun
  | [d1, d2, d3, d4] => { results := [.lit (.bool false)], args := [d1, d2, d3, d4] }
  | _ => none }
def NodeLeavesWrongFalsely : Prop := nodeLeavesRow.holds Try.pinned (OpenSpec.ofChange nodeLeavesWrong)

/-- 'backstaylaw14.ApplyTells': WHATEVER THE INPUT: true; the input reads as it did. -/
def applyTellsSpec : ChangeSpec := { name := "applyTells", fn := fun _ => fun
  | [d1, d2, d3, d4, d5, d6] => { results := [.lit (.bool true)], args := [d1, d2, d3, d4, d5, d6] }
  | _ => none }
def applyTellsRow : OpenClaim := { program := "ytchikjmhncojfaa", sum := "08e6d64214e4a16f3e1a81972078c52a0fa79ba2377b5febaef62e915a599414", func := "backstay/backstaylaw14.ApplyTells", spec := "applyTells", unfollowed := true, recurses := true, plainKeys := false, apart := false }
def ApplyTellsSaid : Prop := applyTellsRow.holds Try.pinned (OpenSpec.ofChange applyTellsSpec)

/-- ITS FALSE NEIGHBOUR: 'it returns false'. Refute it at one input. -/
def applyTellsWrong : ChangeSpec := { name := "applyTells", fn := fun _ => fun
  | [d1, d2, d3, d4, d5, d6] => { results := [.lit (.bool false)], args := [d1, d2, d3, d4, d5, d6] }
  | _ => none }
def ApplyTellsWrongFalsely : Prop := applyTellsRow.holds Try.pinned (OpenSpec.ofChange applyTellsWrong)

/-- 'backstaylaw14.ApplyCaches': WHATEVER THE INPUT: true; the input reads as it did. -/
def applyCachesSpec : ChangeSpec := { name := "applyCaches", fn := fun _ => fun
  | [d1, d2, d3, d4] => { results := [.lit (.bool true)], args := [d1, d2, d3, d4] }
  | _ => none }
def applyCachesRow : OpenClaim := { program := "ytchikjmhncojfaa", sum := "08e6d64214e4a16f3e1a81972078c52a0fa79ba2377b5febaef62e915a599414", func := "backstay/backstaylaw14.ApplyCaches", spec := "applyCaches", unfollowed := true, recurses := true, plainKeys := false, apart := false }
def ApplyCachesSaid : Prop := applyCachesRow.holds Try.pinned (OpenSpec.ofChange applyCachesSpec)

/-- ITS FALSE NEIGHBOUR: 'it returns false'. Refute it at one input. -/
def applyCachesWrong : ChangeSpec := { name := "applyCaches", fn := fun _ => fun
  | [d1, d2, d3, d4] => { results := [.lit (.bool false)], args := [d1, d2, d3, d4] }
  | _ => none }
def ApplyCachesWrongFalsely : Prop := applyCachesRow.holds Try.pinned (OpenSpec.ofChange applyCachesWrong)

/-- 'backstaylaw14.ApplyNodes': WHATEVER THE INPUT: true; the input reads as it did. -/
def applyNodesSpec : ChangeSpec := { name := "applyNodes", fn := fun _ => fun
  | [d1, d2, d3] => { results := [.lit (.bool true)], args := [d1, d2, d3] }
  | _ => none }
def applyNodesRow : OpenClaim := { program := "ytchikjmhncojfaa", sum := "08e6d64214e4a16f3e1a81972078c52a0fa79ba2377b5febaef62e915a599414", func := "backstay/backstaylaw14.ApplyNodes", spec := "applyNodes", unfollowed := true, recurses := true, plainKeys := false, apart := false }
def ApplyNodesSaid : Prop := applyNodesRow.holds Try.pinned (OpenSpec.ofChange applyNodesSpec)

/-- ITS FALSE NEIGHBOUR: 'it returns false'. Refute it at one input. -/
def applyNodesWrong : ChangeSpec := { name := "applyNodes", fn := fun _ => fun
  | [d1, d2, d3] => { results := [.lit (.bool false)], args := [d1, d2, d3] }
  | _ => none }
def ApplyNodesWrongFalsely : Prop := applyNodesRow.holds Try.pinned (OpenSpec.ofChange applyNodesWrong)

/-- 'backstaylaw14.ApplyRoom': WHATEVER THE INPUT: true; the input reads as it did. -/
def applyRoomSpec : ChangeSpec := { name := "applyRoom", fn := fun _ => fun
  | [d1, d2, d3, d4] => { results := [.lit (.bool true)], args := [d1, d2, d3, d4] }
  | _ => none }
def applyRoomRow : OpenClaim := { program := "ytchikjmhncojfaa", sum := "08e6d64214e4a16f3e1a81972078c52a0fa79ba2377b5febaef62e915a599414", func := "backstay/backstaylaw14.ApplyRoom", spec := "applyRoom", unfollowed := true, recurses := true, plainKeys := false, apart := false }
def ApplyRoomSaid : Prop := applyRoomRow.holds Try.pinned (OpenSpec.ofChange applyRoomSpec)

/-- ITS FALSE NEIGHBOUR: 'it returns false'. Refute it at one input. -/
def applyRoomWrong : ChangeSpec := { name := "applyRoom", fn := fun _ => fun
  | [d1, d2, d3, d4] => { results := [.lit (.bool false)], args := [d1, d2, d3, d4] }
  | _ => none }
def ApplyRoomWrongFalsely : Prop := applyRoomRow.holds Try.pinned (OpenSpec.ofChange applyRoomWrong)

/-- 'backstaylaw14.ApplyRules': WHATEVER THE INPUT: true; the input reads as it did. -/
def applyRulesSpec : ChangeSpec := { name := "applyRules", fn := fun _ => fun
  | [d1, d2, d3, d4, d5, d6] => { results := [.lit (.bool true)], args := [d1, d2, d3, d4, d5, d6] }
  | _ => none }
def applyRulesRow : OpenClaim := { program := "ytchikjmhncojfaa", sum := "08e6d64214e4a16f3e1a81972078c52a0fa79ba2377b5febaef62e915a599414", func := "backstay/backstaylaw14.ApplyRules", spec := "applyRules", unfollowed := true, recurses := true, plainKeys := false, apart := false }
def ApplyRulesSaid : Prop := applyRulesRow.holds Try.pinned (OpenSpec.ofChange applyRulesSpec)

/-- ITS FALSE NEIGHBOUR: 'it returns false'. Refute it at one input. -/
def applyRulesWrong : ChangeSpec := { name := "applyRules", fn := fun _ => fun
  | [d1, d2, d3, d4, d5, d6] => { results := [.lit (.bool false)], args := [d1, d2, d3, d4, d5, d6] }
  | _ => none }
def ApplyRulesWrongFalsely : Prop := applyRulesRow.holds Try.pinned (OpenSpec.ofChange applyRulesWrong)

/-- 'backstaylaw14.ApplyLeaves': WHATEVER THE INPUT: true; the input reads as it did. -/
def applyLeavesSpec : ChangeSpec := { name := "applyLeaves", fn := fun _ => fun
  | [d1, d2, d3, d4] => { results := [.lit (.bool true)], args := [d1, d2, d3, d4] }
  | _ => none }
def applyLeavesRow : OpenClaim := { program := "ytchikjmhncojfaa", sum := "08e6d64214e4a16f3e1a81972078c52a0fa79ba2377b5febaef62e915a599414", func := "backstay/backstaylaw14.ApplyLeaves", spec := "applyLeaves", unfollowed := true, recurses := true, plainKeys := false, apart := false }
def ApplyLeavesSaid : Prop := applyLeavesRow.holds Try.pinned (OpenSpec.ofChange applyLeavesSpec)

/-- ITS FALSE NEIGHBOUR: 'it returns false'. Refute it at one input. -/
def applyLeavesWrong : ChangeSpec := { name := "applyLeaves", fn := fun _ => fun
  | [d1, d2, d3, d4] => { results := [.lit (.bool false)], args := [d1, d2, d3, d4] }
  | _ => none }
def ApplyLeavesWrongFalsely : Prop := applyLeavesRow.holds Try.pinned (OpenSpec.ofChange applyLeavesWrong)

/-- 'backstaylaw14.ApplyMorgan': WHATEVER THE INPUT: true; the input reads as it did. -/
def applyMorganSpec : ChangeSpec := { name := "applyMorgan", fn := fun _ => fun
  | [d1, d2, d3, d4, d5] => { results := [.lit (.bool true)], args := [d1, d2, d3, d4, d5] }
  | _ => none }
def applyMorganRow : OpenClaim := { program := "ytchikjmhncojfaa", sum := "08e6d64214e4a16f3e1a81972078c52a0fa79ba2377b5febaef62e915a599414", func := "backstay/backstaylaw14.ApplyMorgan", spec := "applyMorgan", unfollowed := true, recurses := true, plainKeys := false, apart := false }
def ApplyMorganSaid : Prop := applyMorganRow.holds Try.pinned (OpenSpec.ofChange applyMorganSpec)

/-- ITS FALSE NEIGHBOUR: 'it returns false'. Refute it at one input. -/
def applyMorganWrong : ChangeSpec := { name := "applyMorgan", fn := fun _ => fun
  | [d1, d2, d3, d4, d5] => { results := [.lit (.bool false)], args := [d1, d2, d3, d4, d5] }
  | _ => none }
def ApplyMorganWrongFalsely : Prop := applyMorganRow.holds Try.pinned (OpenSpec.ofChange applyMorganWrong)

/-- 'backstaylaw16.LimitTells': WHATEVER THE INPUT: true; the input reads as it did. -/
def limitTellsSpec : ChangeSpec := { name := "limitTells", fn := fun _ => fun
  | [d1, d2, d3, d4, d5] => { results := [.lit (.bool true)], args := [d1, d2, d3, d4, d5] }
  | _ => none }
def limitTellsRow : OpenClaim := { program := "ytchikjmhncojfaa", sum := "08e6d64214e4a16f3e1a81972078c52a0fa79ba2377b5febaef62e915a599414", func := "backstay/backstaylaw16.LimitTells", spec := "limitTells", unfollowed := true, recurses := true, plainKeys := false, apart := false }
def LimitTellsSaid : Prop := limitTellsRow.holds Try.pinned (OpenSpec.ofChange limitTellsSpec)

/-- ITS FALSE NEIGHBOUR: 'it returns false'. Refute it at one input. -/
def limitTellsWrong : ChangeSpec := { name := "limitTells", fn := fun _ => fun
  | [d1, d2, d3, d4, d5] => { results := [.lit (.bool false)], args := [d1, d2, d3, d4, d5] }
  | _ => none }
def LimitTellsWrongFalsely : Prop := limitTellsRow.holds Try.pinned (OpenSpec.ofChange limitTellsWrong)

/-- 'backstaylaw16.LimitBound': WHATEVER THE INPUT: true; the input reads as it did. -/
def limitBoundSpec : ChangeSpec := { name := "limitBound", fn := fun _ => fun
  | [d1, d2, d3, d4] => { results := [.lit (.bool true)], args := [d1, d2, d3, d4] }
  | _ => none }
def limitBoundRow : OpenClaim := { program := "ytchikjmhncojfaa", sum := "08e6d64214e4a16f3e1a81972078c52a0fa79ba2377b5febaef62e915a599414", func := "backstay/backstaylaw16.LimitBound", spec := "limitBound", unfollowed := true, recurses := true, plainKeys := false, apart := false }
def LimitBoundSaid : Prop := limitBoundRow.holds Try.pinned (OpenSpec.ofChange limitBoundSpec)

/-- ITS FALSE NEIGHBOUR: 'it returns false'. Refute it at one input. -/
def limitBoundWrong : ChangeSpec := { name := "limitBound", fn := fun _ => fun
  | [d1, d2, d3, d4] => { results := [.lit (.bool false)], args := [d1, d2, d3, d4] }
  | _ => none }
def LimitBoundWrongFalsely : Prop := limitBoundRow.holds Try.pinned (OpenSpec.ofChange limitBoundWrong)

/-- 'backstaylaw16.LimitTwice': WHATEVER THE INPUT: true; the input reads as it did. -/
def limitTwiceSpec : ChangeSpec := { name := "limitTwice", fn := fun _ => fun
  | [d1, d2, d3, d4, d5] => { results := [.lit (.bool true)], args := [d1, d2, d3, d4, d5] }
  | _ => none }
def limitTwiceRow : OpenClaim := { program := "ytchikjmhncojfaa", sum := "08e6d64214e4a16f3e1a81972078c52a0fa79ba2377b5febaef62e915a599414", func := "backstay/backstaylaw16.LimitTwice", spec := "limitTwice", unfollowed := true, recurses := true, plainKeys := false, apart := false }
def LimitTwiceSaid : Prop := limitTwiceRow.holds Try.pinned (OpenSpec.ofChange limitTwiceSpec)

/-- ITS FALSE NEIGHBOUR: 'it returns false'. Refute it at one input. -/
def limitTwiceWrong : ChangeSpec := { name := "limitTwice", fn := fun _ => fun
  | [d1, d2, d3, d4, d5] => { results := [.lit (.bool false)], args := [d1, d2, d3, d4, d5] }
  | _ => none }
def LimitTwiceWrongFalsely : Prop := limitTwiceRow.holds Try.pinned (OpenSpec.ofChange limitTwiceWrong)

/-- 'backstaylaw16.LimitSame': WHATEVER THE INPUT: true; the input reads as it did. -/
def limitSameSpec : ChangeSpec := { name := "limitSame", fn := fun _ => fun
  | [d1, d2, d3, d4, d5] => { results := [.lit (.bool true)], args := [d1, d2, d3, d4, d5] }
  | _ => none }
def limitSameRow : OpenClaim := { program := "ytchikjmhncojfaa", sum := "08e6d64214e4a16f3e1a81972078c52a0fa79ba2377b5febaef62e915a599414", func := "backstay/backstaylaw16.LimitSame", spec := "limitSame", unfollowed := true, recurses := true, plainKeys := false, apart := false }
def LimitSameSaid : Prop := limitSameRow.holds Try.pinned (OpenSpec.ofChange limitSameSpec)

/-- ITS FALSE NEIGHBOUR: 'it returns false'. Refute it at one input. -/
def limitSameWrong : ChangeSpec := { name := "limitSame", fn := fun _ => fun
  | [d1, d2, d3, d4, d5] => { results := [.lit (.bool false)], args := [d1, d2, d3, d4, d5] }
  | _ => none }
def LimitSameWrongFalsely : Prop := limitSameRow.holds Try.pinned (OpenSpec.ofChange limitSameWrong)

/-- 'backstaylaw16.LimitNested': WHATEVER THE INPUT: true; the input reads as it did. -/
def limitNestedSpec : ChangeSpec := { name := "limitNested", fn := fun _ => fun
  | [d1, d2, d3] => { results := [.lit (.bool true)], args := [d1, d2, d3] }
  | _ => none }
def limitNestedRow : OpenClaim := { program := "ytchikjmhncojfaa", sum := "08e6d64214e4a16f3e1a81972078c52a0fa79ba2377b5febaef62e915a599414", func := "backstay/backstaylaw16.LimitNested", spec := "limitNested", unfollowed := true, recurses := true, plainKeys := false, apart := false }
def LimitNestedSaid : Prop := limitNestedRow.holds Try.pinned (OpenSpec.ofChange limitNestedSpec)

/-- ITS FALSE NEIGHBOUR: 'it returns false'. Refute it at one input. -/
def limitNestedWrong : ChangeSpec := { name := "limitNested", fn := fun _ => fun
  | [d1, d2, d3] => { results := [.lit (.bool false)], args := [d1, d2, d3] }
  | _ => none }
def LimitNestedWrongFalsely : Prop := limitNestedRow.holds Try.pinned (OpenSpec.ofChange limitNestedWrong)

/-- 'backstaylaw16.LimitOperators': WHATEVER THE INPUT: true; the input reads as it did. -/
def limitOperatorsSpec : ChangeSpec := { name := "limitOperators", fn := fun _ => fun
  | [d1, d2, d3, d4, d5, d6] => { results := [.lit (.bool true)], args := [d1, d2, d3, d4, d5, d6] }
  | _ => none }
def limitOperatorsRow : OpenClaim := { program := "ytchikjmhncojfaa", sum := "08e6d64214e4a16f3e1a81972078c52a0fa79ba2377b5febaef62e915a599414", func := "backstay/backstaylaw16.LimitOperators", spec := "limitOperators", unfollowed := true, recurses := true, plainKeys := false, apart := false }
def LimitOperatorsSaid : Prop := limitOperatorsRow.holds Try.pinned (OpenSpec.ofChange limitOperatorsSpec)

/-- ITS FALSE NEIGHBOUR: 'it returns false'. Refute it at one input. -/
def limitOperatorsWrong : ChangeSpec := { name := "limitOperators", fn := fun _ => fun
  | [d1, d2, d3, d4, d5, d6] => { results := [.lit (.bool false)], args := [d1, d2, d3, d4, d5, d6] }
  | _ => none }
def LimitOperatorsWrongFalsely : Prop := limitOperatorsRow.holds Try.pinned (OpenSpec.ofChange limitOperatorsWrong)

/-- 'backstaylaw16.LimitCounts': WHATEVER THE INPUT: true; the input reads as it did. -/
def limitCountsSpec : ChangeSpec := { name := "limitCounts", fn := fun _ => fun
  | [d1, d2, d3] => { results := [.lit (.bool true)], args := [d1, d2, d3] }
  | _ => none }
def limitCountsRow : OpenClaim := { program := "ytchikjmhncojfaa", sum := "08e6d64214e4a16f3e1a81972078c52a0fa79ba2377b5febaef62e915a599414", func := "backstay/backstaylaw16.LimitCounts", spec := "limitCounts", unfollowed := true, recurses := true, plainKeys := false, apart := false }
def LimitCountsSaid : Prop := limitCountsRow.holds Try.pinned (OpenSpec.ofChange limitCountsSpec)

/-- ITS FALSE NEIGHBOUR: 'it returns false'. Refute it at one input. -/
def limitCountsWrong : ChangeSpec := { name := "limitCounts", fn := fun _ => fun
  | [d1, d2, d3] => { results := [.lit (.bool false)], args := [d1, d2, d3] }
  | _ => none }
def LimitCountsWrongFalsely : Prop := limitCountsRow.holds Try.pinned (OpenSpec.ofChange limitCountsWrong)

/- THE SECOND FORM. 'bulk': how many values and letters a reading holds, each counted each time it is reached (what is shared counts as often as it is met; a slice's spare places count too). A statement '..UptoSaid' is the law's where the arguments, and the package variables that the reading takes, are together of bulk at most 1048576: NARROWER than '..Said'. Prove '..Said' where nothing that the law and all that it calls make is longer than what came in: it says more and counts as full. Else prove '..UptoSaid'. A law counts once. -/
mutual
def uptoBulk {H : Type} : DataW H → Nat
  | .lit (.string bytes) => bytes.length + 1
  | .lit _ => 1
  | .nil => 1
  | .ptr d => uptoBulk d + 1
  | .slice elems spare => uptoBulkAll elems + uptoBulkAll spare + 1
  | .agg parts => uptoBulkAll parts + 1
  | .iface _ d => uptoBulk d + 1
  | .map entries => uptoBulkEntries entries + 1
  | .held _ => 1
def uptoBulkAll {H : Type} : List (DataW H) → Nat
  | [] => 0
  | d :: r => uptoBulk d + uptoBulkAll r
def uptoBulkEntries {H : Type} : List (Lit × DataW H) → Nat
  | [] => 0
  | x :: r => uptoBulkEntry x + uptoBulkEntries r
def uptoBulkEntry {H : Type} : Lit × DataW H → Nat
  | (.string bytes, d) => bytes.length + uptoBulk d + 1
  | (_, d) => uptoBulk d + 1
 end
def uptoSmall : (H : Type) → List (DataW H) → Bool := fun _ ds => decide (uptoBulkAll ds ≤ 1048576)
def OpenSpec.upto (s : _root_.Go.ChangeSpec) : _root_.Go.OpenSpec := { _root_.Go.OpenSpec.ofChange s with cond := some uptoSmall }

/-- 'backstaylaw13.NodeTells', WHERE WHAT IT READS IS OF BULK AT MOST 1048576: true; the input reads as it did. -/
def nodeTellsUptoRow : OpenClaim := { program := "ytchikjmhncojfaa", sum := "08e6d64214e4a16f3e1a81972078c52a0fa79ba2377b5febaef62e915a599414", func := "backstay/backstaylaw13.NodeTells", spec := "nodeTells", recurses := true, plainKeys := false, apart := false, narrowed := true }
def NodeTellsUptoSaid : Prop := nodeTellsUptoRow.holds Try.pinned (OpenSpec.upto nodeTellsSpec)

/-- 'backstaylaw13.NodeUnique', WHERE WHAT IT READS IS OF BULK AT MOST 1048576: true; the input reads as it did. -/
def nodeUniqueUptoRow : OpenClaim := { program := "ytchikjmhncojfaa", sum := "08e6d64214e4a16f3e1a81972078c52a0fa79ba2377b5febaef62e915a599414", func := "backstay/backstaylaw13.NodeUnique", spec := "nodeUnique", plainKeys := false, apart := false, narrowed := true }
def NodeUniqueUptoSaid : Prop := nodeUniqueUptoRow.holds Try.pinned (OpenSpec.upto nodeUniqueSpec)

/-- 'backstaylaw13.NodeOrdered', WHERE WHAT IT READS IS OF BULK AT MOST 1048576: true; the input reads as it did. -/
def nodeOrderedUptoRow : OpenClaim := { program := "ytchikjmhncojfaa", sum := "08e6d64214e4a16f3e1a81972078c52a0fa79ba2377b5febaef62e915a599414", func := "backstay/backstaylaw13.NodeOrdered", spec := "nodeOrdered", plainKeys := false, apart := false, narrowed := true }
def NodeOrderedUptoSaid : Prop := nodeOrderedUptoRow.holds Try.pinned (OpenSpec.upto nodeOrderedSpec)

/-- 'backstaylaw13.NodeKeeps', WHERE WHAT IT READS IS OF BULK AT MOST 1048576: true; the input reads as it did. -/
def nodeKeepsUptoRow : OpenClaim := { program := "ytchikjmhncojfaa", sum := "08e6d64214e4a16f3e1a81972078c52a0fa79ba2377b5febaef62e915a599414", func := "backstay/backstaylaw13.NodeKeeps", spec := "nodeKeeps", plainKeys := false, apart := false, narrowed := true }
def NodeKeepsUptoSaid : Prop := nodeKeepsUptoRow.holds Try.pinned (OpenSpec.upto nodeKeepsSpec)

/-- 'backstaylaw13.NodeRoom', WHERE WHAT IT READS IS OF BULK AT MOST 1048576: true; the input reads as it did. -/
def nodeRoomUptoRow : OpenClaim := { program := "ytchikjmhncojfaa", sum := "08e6d64214e4a16f3e1a81972078c52a0fa79ba2377b5febaef62e915a599414", func := "backstay/backstaylaw13.NodeRoom", spec := "nodeRoom", plainKeys := false, apart := false, narrowed := true }
def NodeRoomUptoSaid : Prop := nodeRoomUptoRow.holds Try.pinned (OpenSpec.upto nodeRoomSpec)

/-- 'backstaylaw13.NodeSides', WHERE WHAT IT READS IS OF BULK AT MOST 1048576: true; the input reads as it did. -/
def nodeSidesUptoRow : OpenClaim := { program := "ytchikjmhncojfaa", sum := "08e6d64214e4a16f3e1a81972078c52a0fa79ba2377b5febaef62e915a599414", func := "backstay/backstaylaw13.NodeSides", spec := "nodeSides", plainKeys := false, apart := false, narrowed := true }
def NodeSidesUptoSaid : Prop := nodeSidesUptoRow.holds Try.pinned (OpenSpec.upto nodeSidesSpec)

/-- 'backstaylaw13.NodeLeaves', WHERE WHAT IT READS IS OF BULK AT MOST 1048576: true; the input reads as it did. -/
def nodeLeavesUptoRow : OpenClaim := { program := "ytchikjmhncojfaa", sum := "08e6d64214e4a16f3e1a81972078c52a0fa79ba2377b5febaef62e915a599414", func := "backstay/backstaylaw13.NodeLeaves", spec := "nodeLeaves", plainKeys := false, apart := false, narrowed := true }
def NodeLeavesUptoSaid : Prop := nodeLeavesUptoRow.holds Try.pinned (OpenSpec.upto nodeLeavesSpec)

/-- 'backstaylaw14.ApplyTells', WHERE WHAT IT READS IS OF BULK AT MOST 1048576: true; the input reads as it did. -/
def applyTellsUptoRow : OpenClaim := { program := "ytchikjmhncojfaa", sum := "08e6d64214e4a16f3e1a81972078c52a0fa79ba2377b5febaef62e915a599414", func := "backstay/backstaylaw14.ApplyTells", spec := "applyTells", unfollowed := true, recurses := true, plainKeys := false, apart := false, narrowed := true }
def ApplyTellsUptoSaid : Prop := applyTellsUptoRow.holds Try.pinned (OpenSpec.upto applyTellsSpec)

/-- 'backstaylaw14.ApplyCaches', WHERE WHAT IT READS IS OF BULK AT MOST 1048576: true; the input reads as it did. -/
def applyCachesUptoRow : OpenClaim := { program := "ytchikjmhncojfaa", sum := "08e6d64214e4a16f3e1a81972078c52a0fa79ba2377b5febaef62e915a599414", func := "backstay/backstaylaw14.ApplyCaches", spec := "applyCaches", unfollowed := true, recurses := true, plainKeys := false, apart := false, narrowed := true }
def ApplyCachesUptoSaid : Prop := applyCachesUptoRow.holds Try.pinned (OpenSpec.upto applyCachesSpec)

/-- 'backstaylaw14.ApplyNodes', WHERE WHAT IT READS IS OF BULK AT MOST 1048576: true; the input reads as it did. -/
def applyNodesUptoRow : OpenClaim := { program := "ytchikjmhncojfaa", sum := "08e6d64214e4a16f3e1a81972078c52a0fa79ba2377b5febaef62e915a599414", func := "backstay/backstaylaw14.ApplyNodes", spec := "applyNodes", unfollowed := true, recurses := true, plainKeys := false, apart := false, narrowed := true }
def ApplyNodesUptoSaid : Prop := applyNodesUptoRow.holds Try.pinned (OpenSpec.upto applyNodesSpec)

/-- 'backstaylaw14.ApplyRoom', WHERE WHAT IT READS IS OF BULK AT MOST 1048576: true; the input reads as it did. -/
def applyRoomUptoRow : OpenClaim := { program := "ytchikjmhncojfaa", sum := "08e6d64214e4a16f3e1a81972078c52a0fa79ba2377b5febaef62e915a599414", func := "backstay/backstaylaw14.ApplyRoom", spec := "applyRoom", unfollowed := true, recurses := true, plainKeys := false, apart := false, narrowed := true }
def ApplyRoomUptoSaid : Prop := applyRoomUptoRow.holds Try.pinned (OpenSpec.upto applyRoomSpec)

/-- 'backstaylaw14.ApplyRules', WHERE WHAT IT READS IS OF BULK AT MOST 1048576: true; the input reads as it did. -/
def applyRulesUptoRow : OpenClaim := { program := "ytchikjmhncojfaa", sum := "08e6d64214e4a16f3e1a81972078c52a0fa79ba2377b5febaef62e915a599414", func := "backstay/backstaylaw14.ApplyRules", spec := "applyRules", unfollowed := true, recurses := true, plainKeys := false, apart := false, narrowed := true }
def ApplyRulesUptoSaid : Prop := applyRulesUptoRow.holds Try.pinned (OpenSpec.upto applyRulesSpec)

/-- 'backstaylaw14.ApplyLeaves', WHERE WHAT IT READS IS OF BULK AT MOST 1048576: true; the input reads as it did. -/
def applyLeavesUptoRow : OpenClaim := { program := "ytchikjmhncojfaa", sum := "08e6d64214e4a16f3e1a81972078c52a0fa79ba2377b5febaef62e915a599414", func := "backstay/backstaylaw14.ApplyLeaves", spec := "applyLeaves", unfollowed := true, recurses := true, plainKeys := false, apart := false, narrowed := true }
def ApplyLeavesUptoSaid : Prop := applyLeavesUptoRow.holds Try.pinned (OpenSpec.upto applyLeavesSpec)

/-- 'backstaylaw14.ApplyMorgan', WHERE WHAT IT READS IS OF BULK AT MOST 1048576: true; the input reads as it did. -/
def applyMorganUptoRow : OpenClaim := { program := "ytchikjmhncojfaa", sum := "08e6d64214e4a16f3e1a81972078c52a0fa79ba2377b5febaef62e915a599414", func := "backstay/backstaylaw14.ApplyMorgan", spec := "applyMorgan", unfollowed := true, recurses := true, plainKeys := false, apart := false, narrowed := true }
def ApplyMorganUptoSaid : Prop := applyMorganUptoRow.holds Try.pinned (OpenSpec.upto applyMorganSpec)

/-- 'backstaylaw16.LimitTells', WHERE WHAT IT READS IS OF BULK AT MOST 1048576: true; the input reads as it did. -/
def limitTellsUptoRow : OpenClaim := { program := "ytchikjmhncojfaa", sum := "08e6d64214e4a16f3e1a81972078c52a0fa79ba2377b5febaef62e915a599414", func := "backstay/backstaylaw16.LimitTells", spec := "limitTells", unfollowed := true, recurses := true, plainKeys := false, apart := false, narrowed := true }
def LimitTellsUptoSaid : Prop := limitTellsUptoRow.holds Try.pinned (OpenSpec.upto limitTellsSpec)

/-- 'backstaylaw16.LimitBound', WHERE WHAT IT READS IS OF BULK AT MOST 1048576: true; the input reads as it did. -/
def limitBoundUptoRow : OpenClaim := { program := "ytchikjmhncojfaa", sum := "08e6d64214e4a16f3e1a81972078c52a0fa79ba2377b5febaef62e915a599414", func := "backstay/backstaylaw16.LimitBound", spec := "limitBound", unfollowed := true, recurses := true, plainKeys := false, apart := false, narrowed := true }
def LimitBoundUptoSaid : Prop := limitBoundUptoRow.holds Try.pinned (OpenSpec.upto limitBoundSpec)

/-- 'backstaylaw16.LimitTwice', WHERE WHAT IT READS IS OF BULK AT MOST 1048576: true; the input reads as it did. -/
def limitTwiceUptoRow : OpenClaim := { program := "ytchikjmhncojfaa", sum := "08e6d64214e4a16f3e1a81972078c52a0fa79ba2377b5febaef62e915a599414", func := "backstay/backstaylaw16.LimitTwice", spec := "limitTwice", unfollowed := true, recurses := true, plainKeys := false, apart := false, narrowed := true }
def LimitTwiceUptoSaid : Prop := limitTwiceUptoRow.holds Try.pinned (OpenSpec.upto limitTwiceSpec)

/-- 'backstaylaw16.LimitSame', WHERE WHAT IT READS IS OF BULK AT MOST 1048576: true; the input reads as it did. -/
def limitSameUptoRow : OpenClaim := { program := "ytchikjmhncojfaa", sum := "08e6d64214e4a16f3e1a81972078c52a0fa79ba2377b5febaef62e915a599414", func := "backstay/backstaylaw16.LimitSame", spec := "limitSame", unfollowed := true, recurses := true, plainKeys := false, apart := false, narrowed := true }
def LimitSameUptoSaid : Prop := limitSameUptoRow.holds Try.pinned (OpenSpec.upto limitSameSpec)

/-- 'backstaylaw16.LimitNested', WHERE WHAT IT READS IS OF BULK AT MOST 1048576: true; the input reads as it did. -/
def limitNestedUptoRow : OpenClaim := { program := "ytchikjmhncojfaa", sum := "08e6d64214e4a16f3e1a81972078c52a0fa79ba2377b5febaef62e915a599414", func := "backstay/backstaylaw16.LimitNested", spec := "limitNested", unfollowed := true, recurses := true, plainKeys := false, apart := false, narrowed := true }
def LimitNestedUptoSaid : Prop := limitNestedUptoRow.holds Try.pinned (OpenSpec.upto limitNestedSpec)

/-- 'backstaylaw16.LimitOperators', WHERE WHAT IT READS IS OF BULK AT MOST 1048576: true; the input reads as it did. -/
def limitOperatorsUptoRow : OpenClaim := { program := "ytchikjmhncojfaa", sum := "08e6d64214e4a16f3e1a81972078c52a0fa79ba2377b5febaef62e915a599414", func := "backstay/backstaylaw16.LimitOperators", spec := "limitOperators", unfollowed := true, recurses := true, plainKeys := false, apart := false, narrowed := true }
def LimitOperatorsUptoSaid : Prop := limitOperatorsUptoRow.holds Try.pinned (OpenSpec.upto limitOperatorsSpec)

/-- 'backstaylaw16.LimitCounts', WHERE WHAT IT READS IS OF BULK AT MOST 1048576: true; the input reads as it did. -/
def limitCountsUptoRow : OpenClaim := { program := "ytchikjmhncojfaa", sum := "08e6d64214e4a16f3e1a81972078c52a0fa79ba2377b5febaef62e915a599414", func := "backstay/backstaylaw16.LimitCounts", spec := "limitCounts", unfollowed := true, recurses := true, plainKeys := false, apart := false, narrowed := true }
def LimitCountsUptoSaid : Prop := limitCountsUptoRow.holds Try.pinned (OpenSpec.upto limitCountsSpec)

end Rows
end Go.Proofs.Ytchikjmhncojfaa
