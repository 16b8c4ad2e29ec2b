/- The walk of (*node.Store).Count. Conditions: none. -/
import Derived.Test.YtchikjmhncojfaaDoorNode3
import Derived.Test.YtchikjmhncojfaaDoorCountM
namespace Go.Proofs.YtchikjmhncojfaaDoor.W
open Go Go.Proofs Go.RowKit
open Go.Proofs.YtchikjmhncojfaaDoor.M (Br St get getZ isN idx has down Wf rank Dfs)

def unit : Value := .agg ([] : List Value).toArray
def seenL (sn : List Int) : List (Int × Value) := sn.map fun i => (i, unit)
theorem look_seen (n : Int) : ∀ (sn : List Int), look (seenL sn) n = if n ∈ sn then some unit else none
  | [] => rfl
  | x :: sn => by
    show look ((x, unit) :: seenL sn) n = _
    rw [look_cons, look_seen n sn]
    by_cases h : n = x
    · simp [h]
    · simp [h]
theorem keyI : KeyLaw Tryd.prog 3 encI := keyLaw_int Tryd.underlying3
theorem zeroUnit (w : World) : (zeroValue 64).run Tryd.prog w = .ok unit w := by kernel_rfl
theorem Own.blkToSl {wb w : World} {b el sz k : Nat} {cs : List Value} {R : List Chunk} (H : Own wb (Blk b cs el :: R) w) (hl : cs.length = k * sz) (hm : k ≤ maxLen) : Own wb (SlC (some ⟨b, 0, none⟩) k k el sz cs :: R) w :=
  H.imp fun D hD => ⟨hl, .inr ⟨b, cs.toArray, rfl, hD.1, hD.2, Nat.le_refl _, hm, by simp [hl], by rw [← hl]; simp⟩⟩
def ints (l : List Int) : List Value := l.map fun i => .int .i64 i


end Go.Proofs.YtchikjmhncojfaaDoor.W
