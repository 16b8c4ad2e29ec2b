/- A store or none. Conditions: none. -/
import Derived.Test.YtchikjmhncojfaaDoorLaw13
namespace Go.Proofs.YtchikjmhncojfaaDoor.W
open Go Go.Proofs Go.RowKit
def xptr (o : Option Nat) : Value := .pointer (o.map fun p => ⟨p, 0, none⟩)
end Go.Proofs.YtchikjmhncojfaaDoor.W
