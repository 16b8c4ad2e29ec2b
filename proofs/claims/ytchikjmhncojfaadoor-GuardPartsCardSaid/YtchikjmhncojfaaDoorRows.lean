/-
  NARROWER THAN 'FOR EVERY INPUT', by the rows' own cells (each row's printed sentence says how): GuardTells: laid · GuardGates: laid · GuardOrder: laid · GuardParts: laid.
  DERIVED. THE GIVEN ROWS OF THIS SEAT. 4 by the template 'for every input the law returns true; each argument reads behind the call as it read before'; 0 by the template 'total and deterministic' (their statements: YtchikjmhncojfaaDoorTotals.lean).
  GIVEN WITH THE SEED: the statements are not yours to turn. If you find one false, say at which input.
  Laid BY PROGRAM, IN A SANDBOX (cutbox-rows.mjs): the forced cells as the released guide's own fill.sh prints them over the translation 94c56afdefd89d6f… (all of the seat's roots in one cut). By AI agents, Wed Nov 11 2026. No macro, syntax, notation, axiom, sorry.
-/
import Derived.Test.YtchikjmhncojfaaDoorChecked
import GoSem.Claim
import GoSem.ClaimJoined
import GoSem.ClaimMapViews
import Derived.JoinedTies
import Derived.KernelRfl
namespace Go.Proofs.YtchikjmhncojfaaDoor
/- THE CELL 'sum', in the pinned program and in every row, IS THE sha256 OF THE DUMP (.gsa) THAT YtchikjmhncojfaaDoorProg.lean LOADS. Nothing in Lean hashes anything: it is a label: what it is worth is what the hold of that sum in a sandbox is worth. -/
noncomputable def Tryd.pinned : Pinned := { name := "ytchikjmhncojfaadoor", sum := "94c56afdefd89d6f59bd2f8a4ac5846e1067b4a62a1e414f0dc111e03b7cc872", checked := Tryd.checked }
namespace Rows
def none {H : Type} : Left H := { results := [], args := [] }

/- WHAT THE LISTED PACKAGE-LEVEL VARIABLES READ AS WHEN THE CALL BEGINS. Each datum BY PROGRAM (the guide's laid-datum.mjs) off the statement by which the dump's own 'gosem.cut.vars' lays the variable. In a bare row this is a premise. The card (YtchikjmhncojfaaDoorCards.lean) ties it to the program's text. -/
def laid_math_bits_deBruijn32tab {H : Type} : DataW H := .agg [.lit (.int .u8 0), .lit (.int .u8 1), .lit (.int .u8 28), .lit (.int .u8 2), .lit (.int .u8 29), .lit (.int .u8 14), .lit (.int .u8 24), .lit (.int .u8 3), .lit (.int .u8 30), .lit (.int .u8 22), .lit (.int .u8 20), .lit (.int .u8 15), .lit (.int .u8 25), .lit (.int .u8 17), .lit (.int .u8 4), .lit (.int .u8 8), .lit (.int .u8 31), .lit (.int .u8 27), .lit (.int .u8 13), .lit (.int .u8 23), .lit (.int .u8 21), .lit (.int .u8 19), .lit (.int .u8 16), .lit (.int .u8 7), .lit (.int .u8 26), .lit (.int .u8 12), .lit (.int .u8 18), .lit (.int .u8 6), .lit (.int .u8 11), .lit (.int .u8 5), .lit (.int .u8 10), .lit (.int .u8 9)]

/-- 'backstaylaw17.GuardTells': WHATEVER THE INPUT: true; the input reads as it did. -/
def guardTellsSpec : ChangeSpec := { name := "guardTells", fn := fun _ => fun
  | [d1, d2, d3, d4, d5] => { results := [.lit (.bool true)], args := [d1, d2, d3, d4, d5] }
  | _ => none }
def guardTellsRow : OpenClaim := { program := "ytchikjmhncojfaadoor", sum := "94c56afdefd89d6f59bd2f8a4ac5846e1067b4a62a1e414f0dc111e03b7cc872", func := "backstay/backstaylaw17.GuardTells", spec := "guardTells", unfollowed := true, recurses := true, named := ["math/bits.deBruijn32tab"], plainKeys := false, apart := false, laid := [("math/bits.deBruijn32tab", laid_math_bits_deBruijn32tab)] }
def GuardTellsSaid : Prop := guardTellsRow.holds Tryd.pinned (OpenSpec.ofChange guardTellsSpec)

/-- ITS FALSE NEIGHBOUR: 'it returns false'. Refute it at one input. -/
def guardTellsWrong : ChangeSpec := { name := "guardTells", fn := fun _ => fun
  | [d1, d2, d3, d4, d5] => { results := [.lit (.bool false)], args := [d1, d2, d3, d4, d5] }
  | _ => none }
def GuardTellsWrongFalsely : Prop := guardTellsRow.holds Tryd.pinned (OpenSpec.ofChange guardTellsWrong)

/-- 'backstaylaw17.GuardGates': WHATEVER THE INPUT: true; the input reads as it did. -/
def guardGatesSpec : ChangeSpec := { name := "guardGates", fn := fun _ => fun
  | [d1, d2, d3, d4, d5] => { results := [.lit (.bool true)], args := [d1, d2, d3, d4, d5] }
  | _ => none }
def guardGatesRow : OpenClaim := { program := "ytchikjmhncojfaadoor", sum := "94c56afdefd89d6f59bd2f8a4ac5846e1067b4a62a1e414f0dc111e03b7cc872", func := "backstay/backstaylaw17.GuardGates", spec := "guardGates", unfollowed := true, recurses := true, named := ["math/bits.deBruijn32tab"], plainKeys := false, apart := false, laid := [("math/bits.deBruijn32tab", laid_math_bits_deBruijn32tab)] }
def GuardGatesSaid : Prop := guardGatesRow.holds Tryd.pinned (OpenSpec.ofChange guardGatesSpec)

/-- ITS FALSE NEIGHBOUR: 'it returns false'. Refute it at one input. -/
def guardGatesWrong : ChangeSpec := { name := "guardGates", fn := fun _ => fun
  | [d1, d2, d3, d4, d5] => { results := [.lit (.bool false)], args := [d1, d2, d3, d4, d5] }
  | _ => none }
def GuardGatesWrongFalsely : Prop := guardGatesRow.holds Tryd.pinned (OpenSpec.ofChange guardGatesWrong)

/-- 'backstaylaw17.GuardOrder': WHATEVER THE INPUT: true; the input reads as it did. -/
def guardOrderSpec : ChangeSpec := { name := "guardOrder", fn := fun _ => fun
  | [d1, d2, d3, d4, d5, d6] => { results := [.lit (.bool true)], args := [d1, d2, d3, d4, d5, d6] }
  | _ => none }
def guardOrderRow : OpenClaim := { program := "ytchikjmhncojfaadoor", sum := "94c56afdefd89d6f59bd2f8a4ac5846e1067b4a62a1e414f0dc111e03b7cc872", func := "backstay/backstaylaw17.GuardOrder", spec := "guardOrder", unfollowed := true, recurses := true, named := ["math/bits.deBruijn32tab"], plainKeys := false, apart := false, laid := [("math/bits.deBruijn32tab", laid_math_bits_deBruijn32tab)] }
def GuardOrderSaid : Prop := guardOrderRow.holds Tryd.pinned (OpenSpec.ofChange guardOrderSpec)

/-- ITS FALSE NEIGHBOUR: 'it returns false'. Refute it at one input. -/
def guardOrderWrong : ChangeSpec := { name := "guardOrder", fn := fun _ => fun
  | [d1, d2, d3, d4, d5, d6] => { results := [.lit (.bool false)], args := [d1, d2, d3, d4, d5, d6] }
  | _ => none }
def GuardOrderWrongFalsely : Prop := guardOrderRow.holds Tryd.pinned (OpenSpec.ofChange guardOrderWrong)

/-- 'backstaylaw17.GuardParts': WHATEVER THE INPUT: true; the input reads as it did. -/
def guardPartsSpec : ChangeSpec := { name := "guardParts", fn := fun _ => fun
  | [d1, d2, d3, d4] => { results := [.lit (.bool true)], args := [d1, d2, d3, d4] }
  | _ => none }
def guardPartsRow : OpenClaim := { program := "ytchikjmhncojfaadoor", sum := "94c56afdefd89d6f59bd2f8a4ac5846e1067b4a62a1e414f0dc111e03b7cc872", func := "backstay/backstaylaw17.GuardParts", spec := "guardParts", unfollowed := true, recurses := true, named := ["math/bits.deBruijn32tab"], plainKeys := false, apart := false, laid := [("math/bits.deBruijn32tab", laid_math_bits_deBruijn32tab)] }
def GuardPartsSaid : Prop := guardPartsRow.holds Tryd.pinned (OpenSpec.ofChange guardPartsSpec)

/-- ITS FALSE NEIGHBOUR: 'it returns false'. Refute it at one input. -/
def guardPartsWrong : ChangeSpec := { name := "guardParts", fn := fun _ => fun
  | [d1, d2, d3, d4] => { results := [.lit (.bool false)], args := [d1, d2, d3, d4] }
  | _ => none }
def GuardPartsWrongFalsely : Prop := guardPartsRow.holds Tryd.pinned (OpenSpec.ofChange guardPartsWrong)

/- THE SECOND FORM. 'bulk': how many values and letters a reading holds, each counted each time it is reached (what is shared counts as often as it is met; a slice's spare places count too). A statement '..UptoSaid' is the law's where the arguments, and the package variables that the reading takes, are together of bulk at most 1048576: NARROWER than '..Said'. Prove '..Said' where nothing that the law and all that it calls make is longer than what came in: it says more and counts as full. Else prove '..UptoSaid'. A law counts once. -/
mutual
def uptoBulk {H : Type} : DataW H → Nat
  | .lit (.string bytes) => bytes.length + 1
  | .lit _ => 1
  | .nil => 1
  | .ptr d => uptoBulk d + 1
  | .slice elems spare => uptoBulkAll elems + uptoBulkAll spare + 1
  | .agg parts => uptoBulkAll parts + 1
  | .iface _ d => uptoBulk d + 1
  | .map entries => uptoBulkEntries entries + 1
  | .held _ => 1
def uptoBulkAll {H : Type} : List (DataW H) → Nat
  | [] => 0
  | d :: r => uptoBulk d + uptoBulkAll r
def uptoBulkEntries {H : Type} : List (Lit × DataW H) → Nat
  | [] => 0
  | x :: r => uptoBulkEntry x + uptoBulkEntries r
def uptoBulkEntry {H : Type} : Lit × DataW H → Nat
  | (.string bytes, d) => bytes.length + uptoBulk d + 1
  | (_, d) => uptoBulk d + 1
 end
def uptoSmall : (H : Type) → List (DataW H) → Bool := fun _ ds => decide (uptoBulkAll ds ≤ 1048576)
def OpenSpec.upto (s : _root_.Go.ChangeSpec) : _root_.Go.OpenSpec := { _root_.Go.OpenSpec.ofChange s with cond := some uptoSmall }

/-- 'backstaylaw17.GuardTells', WHERE WHAT IT READS IS OF BULK AT MOST 1048576: true; the input reads as it did. -/
def guardTellsUptoRow : OpenClaim := { program := "ytchikjmhncojfaadoor", sum := "94c56afdefd89d6f59bd2f8a4ac5846e1067b4a62a1e414f0dc111e03b7cc872", func := "backstay/backstaylaw17.GuardTells", spec := "guardTells", unfollowed := true, recurses := true, named := ["math/bits.deBruijn32tab"], plainKeys := false, apart := false, laid := [("math/bits.deBruijn32tab", laid_math_bits_deBruijn32tab)], narrowed := true }
def GuardTellsUptoSaid : Prop := guardTellsUptoRow.holds Tryd.pinned (OpenSpec.upto guardTellsSpec)

/-- 'backstaylaw17.GuardGates', WHERE WHAT IT READS IS OF BULK AT MOST 1048576: true; the input reads as it did. -/
def guardGatesUptoRow : OpenClaim := { program := "ytchikjmhncojfaadoor", sum := "94c56afdefd89d6f59bd2f8a4ac5846e1067b4a62a1e414f0dc111e03b7cc872", func := "backstay/backstaylaw17.GuardGates", spec := "guardGates", unfollowed := true, recurses := true, named := ["math/bits.deBruijn32tab"], plainKeys := false, apart := false, laid := [("math/bits.deBruijn32tab", laid_math_bits_deBruijn32tab)], narrowed := true }
def GuardGatesUptoSaid : Prop := guardGatesUptoRow.holds Tryd.pinned (OpenSpec.upto guardGatesSpec)

/-- 'backstaylaw17.GuardOrder', WHERE WHAT IT READS IS OF BULK AT MOST 1048576: true; the input reads as it did. -/
def guardOrderUptoRow : OpenClaim := { program := "ytchikjmhncojfaadoor", sum := "94c56afdefd89d6f59bd2f8a4ac5846e1067b4a62a1e414f0dc111e03b7cc872", func := "backstay/backstaylaw17.GuardOrder", spec := "guardOrder", unfollowed := true, recurses := true, named := ["math/bits.deBruijn32tab"], plainKeys := false, apart := false, laid := [("math/bits.deBruijn32tab", laid_math_bits_deBruijn32tab)], narrowed := true }
def GuardOrderUptoSaid : Prop := guardOrderUptoRow.holds Tryd.pinned (OpenSpec.upto guardOrderSpec)

/-- 'backstaylaw17.GuardParts', WHERE WHAT IT READS IS OF BULK AT MOST 1048576: true; the input reads as it did. -/
def guardPartsUptoRow : OpenClaim := { program := "ytchikjmhncojfaadoor", sum := "94c56afdefd89d6f59bd2f8a4ac5846e1067b4a62a1e414f0dc111e03b7cc872", func := "backstay/backstaylaw17.GuardParts", spec := "guardParts", unfollowed := true, recurses := true, named := ["math/bits.deBruijn32tab"], plainKeys := false, apart := false, laid := [("math/bits.deBruijn32tab", laid_math_bits_deBruijn32tab)], narrowed := true }
def GuardPartsUptoSaid : Prop := guardPartsUptoRow.holds Tryd.pinned (OpenSpec.upto guardPartsSpec)

end Rows
end Go.Proofs.YtchikjmhncojfaaDoor
