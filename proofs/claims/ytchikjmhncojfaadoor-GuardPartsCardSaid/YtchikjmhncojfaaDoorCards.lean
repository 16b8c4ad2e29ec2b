/-
  DERIVED. GIVEN WITH THE SEED: THE CARDS: each row of YtchikjmhncojfaaDoorRows.lean that lists a variable, with what it lists TIED to the program's text (the seventh form; the later family's looks); each row that meets fmt, with fmt's text TOLD by the authors' own Lean function (tested against real Go, not proved from fmt's source: count such statements apart). THE CARD IS WHAT COUNTS. Prove the row's statement (the work); the ties are given (YtchikjmhncojfaaDoorTie.lean); close each card by the builder's one call (the guide's Derived/Test/ToyasCard.lean, 'card_holds'). Laid BY PROGRAM, IN A SANDBOX (cutbox-door.mjs). By AI agents, Wed Nov 11 2026. No macro, syntax, notation, axiom, sorry.
-/
import Derived.Test.YtchikjmhncojfaaDoorRows
import GoSem.ClaimSeven
namespace Go.Proofs.YtchikjmhncojfaaDoor
namespace Rows

/-- THE TIED CARD OF 'backstaylaw17.GuardTells'. -/
def guardTellsCard : Claim7 := { stood := { row := guardTellsRow, standIns := [], harness := (true, "0a015805a0339d7f5360af527d4db354aee0bd7e296d674c45a3ea2b8f209eb6"), looks := false }, kinds := [], alts := [], laidByText := true, laidKinds := [.data], laidTests := true, laidLooks := .later }
def GuardTellsCardSaid : Prop := Claim7.holds Tryd.pinned (.plain (OpenSpec.ofChange guardTellsSpec)) guardTellsCard

/-- THE TIED CARD OF 'backstaylaw17.GuardGates'. -/
def guardGatesCard : Claim7 := { stood := { row := guardGatesRow, standIns := [], harness := (true, "0a015805a0339d7f5360af527d4db354aee0bd7e296d674c45a3ea2b8f209eb6"), looks := false }, kinds := [], alts := [], laidByText := true, laidKinds := [.data], laidTests := true, laidLooks := .later }
def GuardGatesCardSaid : Prop := Claim7.holds Tryd.pinned (.plain (OpenSpec.ofChange guardGatesSpec)) guardGatesCard

/-- THE TIED CARD OF 'backstaylaw17.GuardOrder'. -/
def guardOrderCard : Claim7 := { stood := { row := guardOrderRow, standIns := [], harness := (true, "0a015805a0339d7f5360af527d4db354aee0bd7e296d674c45a3ea2b8f209eb6"), looks := false }, kinds := [], alts := [], laidByText := true, laidKinds := [.data], laidTests := true, laidLooks := .later }
def GuardOrderCardSaid : Prop := Claim7.holds Tryd.pinned (.plain (OpenSpec.ofChange guardOrderSpec)) guardOrderCard

/-- THE TIED CARD OF 'backstaylaw17.GuardParts'. -/
def guardPartsCard : Claim7 := { stood := { row := guardPartsRow, standIns := [], harness := (true, "0a015805a0339d7f5360af527d4db354aee0bd7e296d674c45a3ea2b8f209eb6"), looks := false }, kinds := [], alts := [], laidByText := true, laidKinds := [.data], laidTests := true, laidLooks := .later }
def GuardPartsCardSaid : Prop := Claim7.holds Tryd.pinned (.plain (OpenSpec.ofChange guardPartsSpec)) guardPartsCard

/-- THE SECOND FORM's CARD OF 'backstaylaw17.GuardTells'. -/
def guardTellsUptoCard : Claim7 := { stood := { row := guardTellsUptoRow, standIns := [], harness := (true, "0a015805a0339d7f5360af527d4db354aee0bd7e296d674c45a3ea2b8f209eb6"), looks := false }, kinds := [], alts := [], laidByText := true, laidKinds := [.data], laidTests := true, laidLooks := .later }
def GuardTellsUptoCardSaid : Prop := Claim7.holds Tryd.pinned (.plain (OpenSpec.upto guardTellsSpec)) guardTellsUptoCard

/-- THE SECOND FORM's CARD OF 'backstaylaw17.GuardGates'. -/
def guardGatesUptoCard : Claim7 := { stood := { row := guardGatesUptoRow, standIns := [], harness := (true, "0a015805a0339d7f5360af527d4db354aee0bd7e296d674c45a3ea2b8f209eb6"), looks := false }, kinds := [], alts := [], laidByText := true, laidKinds := [.data], laidTests := true, laidLooks := .later }
def GuardGatesUptoCardSaid : Prop := Claim7.holds Tryd.pinned (.plain (OpenSpec.upto guardGatesSpec)) guardGatesUptoCard

/-- THE SECOND FORM's CARD OF 'backstaylaw17.GuardOrder'. -/
def guardOrderUptoCard : Claim7 := { stood := { row := guardOrderUptoRow, standIns := [], harness := (true, "0a015805a0339d7f5360af527d4db354aee0bd7e296d674c45a3ea2b8f209eb6"), looks := false }, kinds := [], alts := [], laidByText := true, laidKinds := [.data], laidTests := true, laidLooks := .later }
def GuardOrderUptoCardSaid : Prop := Claim7.holds Tryd.pinned (.plain (OpenSpec.upto guardOrderSpec)) guardOrderUptoCard

/-- THE SECOND FORM's CARD OF 'backstaylaw17.GuardParts'. -/
def guardPartsUptoCard : Claim7 := { stood := { row := guardPartsUptoRow, standIns := [], harness := (true, "0a015805a0339d7f5360af527d4db354aee0bd7e296d674c45a3ea2b8f209eb6"), looks := false }, kinds := [], alts := [], laidByText := true, laidKinds := [.data], laidTests := true, laidLooks := .later }
def GuardPartsUptoCardSaid : Prop := Claim7.holds Tryd.pinned (.plain (OpenSpec.upto guardPartsSpec)) guardPartsUptoCard
end Rows
end Go.Proofs.YtchikjmhncojfaaDoor
