/- Closed facts on the head of the cut, by their own words, so that no one declaration is too dear for the kernel. Conditions: none. (Written by genhead.py.) -/
import Derived.Test.YtchikjmhncojfaaDoorRows
import Derived.JoinedOf
import Derived.ProofKit
namespace Go.Proofs.YtchikjmhncojfaaDoor.Head
open Go Go.Proofs
def L : List Char := [Char.ofNat 104, Char.ofNat 97, Char.ofNat 114, Char.ofNat 110, Char.ofNat 101, Char.ofNat 115, Char.ofNat 115, Char.ofNat 32, Char.ofNat 48, Char.ofNat 97, Char.ofNat 48, Char.ofNat 49, Char.ofNat 53, Char.ofNat 56, Char.ofNat 48, Char.ofNat 53, Char.ofNat 97, Char.ofNat 48, Char.ofNat 51, Char.ofNat 51, Char.ofNat 57, Char.ofNat 100, Char.ofNat 55, Char.ofNat 102, Char.ofNat 53, Char.ofNat 51, Char.ofNat 54, Char.ofNat 48, Char.ofNat 97, Char.ofNat 102, Char.ofNat 53, Char.ofNat 50, Char.ofNat 55, Char.ofNat 100, Char.ofNat 52, Char.ofNat 100, Char.ofNat 98, Char.ofNat 51, Char.ofNat 53, Char.ofNat 52, Char.ofNat 97, Char.ofNat 101, Char.ofNat 101, Char.ofNat 48, Char.ofNat 98, Char.ofNat 100, Char.ofNat 55, Char.ofNat 101, Char.ofNat 50, Char.ofNat 57, Char.ofNat 54, Char.ofNat 100, Char.ofNat 54, Char.ofNat 55, Char.ofNat 52, Char.ofNat 99, Char.ofNat 52, Char.ofNat 53, Char.ofNat 97, Char.ofNat 51, Char.ofNat 101, Char.ofNat 97, Char.ofNat 50, Char.ofNat 98, Char.ofNat 56, Char.ofNat 102, Char.ofNat 50, Char.ofNat 48, Char.ofNat 57, Char.ofNat 101, Char.ofNat 98, Char.ofNat 54, Char.ofNat 32, Char.ofNat 99, Char.ofNat 117, Char.ofNat 116, Char.ofNat 32, Char.ofNat 97, Char.ofNat 116, Char.ofNat 32, Char.ofNat 98, Char.ofNat 97, Char.ofNat 99, Char.ofNat 107, Char.ofNat 115, Char.ofNat 116, Char.ofNat 97, Char.ofNat 121, Char.ofNat 47, Char.ofNat 98, Char.ofNat 97, Char.ofNat 99, Char.ofNat 107, Char.ofNat 115, Char.ofNat 116, Char.ofNat 97, Char.ofNat 121, Char.ofNat 108, Char.ofNat 97, Char.ofNat 119, Char.ofNat 49, Char.ofNat 55, Char.ofNat 46, Char.ofNat 71, Char.ofNat 117, Char.ofNat 97, Char.ofNat 114, Char.ofNat 100, Char.ofNat 84, Char.ofNat 101, Char.ofNat 108, Char.ofNat 108, Char.ofNat 115, Char.ofNat 32, Char.ofNat 98, Char.ofNat 97, Char.ofNat 99, Char.ofNat 107, Char.ofNat 115, Char.ofNat 116, Char.ofNat 97, Char.ofNat 121, Char.ofNat 47, Char.ofNat 98, Char.ofNat 97, Char.ofNat 99, Char.ofNat 107, Char.ofNat 115, Char.ofNat 116, Char.ofNat 97, Char.ofNat 121, Char.ofNat 108, Char.ofNat 97, Char.ofNat 119, Char.ofNat 49, Char.ofNat 55, Char.ofNat 46, Char.ofNat 71, Char.ofNat 117, Char.ofNat 97, Char.ofNat 114, Char.ofNat 100, Char.ofNat 71, Char.ofNat 97, Char.ofNat 116, Char.ofNat 101, Char.ofNat 115, Char.ofNat 32, Char.ofNat 98, Char.ofNat 97, Char.ofNat 99, Char.ofNat 107, Char.ofNat 115, Char.ofNat 116, Char.ofNat 97, Char.ofNat 121, Char.ofNat 47, Char.ofNat 98, Char.ofNat 97, Char.ofNat 99, Char.ofNat 107, Char.ofNat 115, Char.ofNat 116, Char.ofNat 97, Char.ofNat 121, Char.ofNat 108, Char.ofNat 97, Char.ofNat 119, Char.ofNat 49, Char.ofNat 55, Char.ofNat 46, Char.ofNat 71, Char.ofNat 117, Char.ofNat 97, Char.ofNat 114, Char.ofNat 100, Char.ofNat 79, Char.ofNat 114, Char.ofNat 100, Char.ofNat 101, Char.ofNat 114, Char.ofNat 32, Char.ofNat 98, Char.ofNat 97, Char.ofNat 99, Char.ofNat 107, Char.ofNat 115, Char.ofNat 116, Char.ofNat 97, Char.ofNat 121, Char.ofNat 47, Char.ofNat 98, Char.ofNat 97, Char.ofNat 99, Char.ofNat 107, Char.ofNat 115, Char.ofNat 116, Char.ofNat 97, Char.ofNat 121, Char.ofNat 108, Char.ofNat 97, Char.ofNat 119, Char.ofNat 49, Char.ofNat 55, Char.ofNat 46, Char.ofNat 71, Char.ofNat 117, Char.ofNat 97, Char.ofNat 114, Char.ofNat 100, Char.ofNat 80, Char.ofNat 97, Char.ofNat 114, Char.ofNat 116, Char.ofNat 115]
def S : List Char := [Char.ofNat 48, Char.ofNat 97, Char.ofNat 48, Char.ofNat 49, Char.ofNat 53, Char.ofNat 56, Char.ofNat 48, Char.ofNat 53, Char.ofNat 97, Char.ofNat 48, Char.ofNat 51, Char.ofNat 51, Char.ofNat 57, Char.ofNat 100, Char.ofNat 55, Char.ofNat 102, Char.ofNat 53, Char.ofNat 51, Char.ofNat 54, Char.ofNat 48, Char.ofNat 97, Char.ofNat 102, Char.ofNat 53, Char.ofNat 50, Char.ofNat 55, Char.ofNat 100, Char.ofNat 52, Char.ofNat 100, Char.ofNat 98, Char.ofNat 51, Char.ofNat 53, Char.ofNat 52, Char.ofNat 97, Char.ofNat 101, Char.ofNat 101, Char.ofNat 48, Char.ofNat 98, Char.ofNat 100, Char.ofNat 55, Char.ofNat 101, Char.ofNat 50, Char.ofNat 57, Char.ofNat 54, Char.ofNat 100, Char.ofNat 54, Char.ofNat 55, Char.ofNat 52, Char.ofNat 99, Char.ofNat 52, Char.ofNat 53, Char.ofNat 97, Char.ofNat 51, Char.ofNat 101, Char.ofNat 97, Char.ofNat 50, Char.ofNat 98, Char.ofNat 56, Char.ofNat 102, Char.ofNat 50, Char.ofNat 48, Char.ofNat 57, Char.ofNat 101, Char.ofNat 98, Char.ofNat 54]
theorem h1 : Tryd.prog.initOrder = String.ofList L := by kernel_rfl
theorem h2 : Tryd.prog.initOrder.toList = L := by rw [h1, String.toList_ofList]
theorem a1 : wordsSigns L = "harness".toList :: S :: wordsSigns (L.drop 73) := by kernel_rfl
theorem a2 : isSumSigns S = true := by kernel_rfl
theorem a3 : wordsSigns (L.drop 73) = "cut".toList :: wordsSigns (L.drop 77) := by kernel_rfl
theorem h3 : behindMainWord (wordsSigns L) = "cut".toList :: wordsSigns (L.drop 77) := by
  rw [a1, a3]; simp only [behindMainWord, a2, beq_self_eq_true, Bool.true_or, Bool.and_self, if_true]
theorem g1 (P : Program) (M : List (List Char)) (hm : behindMainWord (wordsSigns P.initOrder.toList) = "cut".toList :: M) : P.liftsFinal = false := by
  unfold Program.liftsFinal Program.headLifts; rw [hm]; kernel_rfl
theorem g2 (P : Program) (M : List (List Char)) (hm : behindMainWord (wordsSigns P.initOrder.toList) = "cut".toList :: M) : P.make = some .cut := by
  unfold Program.make; rw [hm]; kernel_rfl
theorem g3 (P : Program) (M : List (List Char)) (hm : behindMainWord (wordsSigns P.initOrder.toList) = "cut".toList :: M) (k1 : P.laysLater = false) (k2 : P.bearsReflect = false) (k3 : P.doorFits [] = true) : P.mayEnter = true := by
  unfold Program.mayEnter; rw [hm]
  have e : stripLifts liftWords ("cut".toList :: M) = ([], "cut".toList :: M) := by kernel_rfl
  simp only [e, k1, k2, k3]; first | rfl | simp
theorem h4 : behindMainWord (wordsSigns Tryd.prog.initOrder.toList) = "cut".toList :: wordsSigns (L.drop 77) := (congrArg (fun l => behindMainWord (wordsSigns l)) h2).trans h3
theorem final : Tryd.prog.liftsFinal = false := g1 _ _ h4
theorem make : Tryd.prog.make = some .cut := g2 _ _ h4
theorem mayEnter : Tryd.prog.mayEnter = true := g3 _ _ h4 (by kernel_rfl) (by kernel_rfl) (by kernel_rfl)
theorem and_mk {a b : Bool} (h : a = true) (k : b = true) : (a && b) = true := by rw [h, k]; rfl
set_option maxRecDepth 100000 in
/-- the builder's closed facts, with the dear three apart -/
theorem joined {f : FuncId} {fn : Func} {s : ChangeSpec} {c : OpenClaim}
    (k : (c.wf (OpenSpec.ofChange s) && laidOutB Tryd.prog && mapsRowed Tryd.prog && fn.params.all (Tryd.prog.readableRec ·) && namedTie Tryd.prog c.named s.vars &&
      (c.stops == []) && (Tryd.prog.stops == []) && (c.knobs == []) && (Tryd.prog.stopKnobs == []) && (c.inPlace == Tryd.prog.inPlace f) && (c.unfollowed == Tryd.prog.unfollowed f) && (c.recurses == Tryd.prog.recurses f) && (c.named == Tryd.prog.varsNamed f) &&
      (c.maps == (fn.params.toList ++ s.plain.varTypes Tryd.prog).any (Tryd.prog.mapsRec ·)) && (c.ifaces == (fn.params.toList ++ s.plain.varTypes Tryd.prog).any (Tryd.prog.ifacesRec ·)) && (c.mapsOut == Tryd.prog.mapsAmong fn.resultTypes.toList) &&
      (c.loops == (fn.params.toList ++ s.plain.varTypes Tryd.prog).any (Tryd.prog.loopsFrom ·)) && (c.wideKeys == (fn.params.toList ++ s.plain.varTypes Tryd.prog ++ fn.resultTypes.toList).any (Tryd.prog.wideKeysFrom ·)) &&
      s.vars.all (Tryd.prog.varReadable ·) && fn.resultTypes.all (fun t => Tryd.prog.readableRec t && decide (t < Tryd.prog.types.size)) && (c.ifacesOut == fn.resultTypes.toList.any (Tryd.prog.ifacesRec ·)) && (c.loopsOut == fn.resultTypes.toList.any (Tryd.prog.loopsFrom ·)) && (c.plainKeys == Tryd.prog.plainKeys) && c.shortTexts.isNone && Tryd.prog.stopsHeard) = true)
    (b2 : c.lifted = false) (b3 : c.make = .cut)
    (k1 : (c.kinds == (if c.domain.isEmpty then [] else fn.params.toList.map fun t => match Tryd.prog.underlying t with | some (.int k) => some k | _ => none)) = true) (k2 : (c.pinned == c.pinnedBy) = true)
    (k3 : (c.veiled == (fn.params.toList ++ s.plain.varTypes Tryd.prog ++ fn.resultTypes.toList).any (Tryd.prog.veiledRec ·)) = true) (k4 : c.veiledFits Tryd.prog fn.params.toList (fn.params.toList ++ s.plain.varTypes Tryd.prog ++ fn.resultTypes.toList) = true) :
    joinedFacts Tryd.prog f fn s c = true := by
  unfold joinedFacts
  refine and_mk (and_mk (and_mk (and_mk (and_mk (and_mk (and_mk k mayEnter) ?_) ?_) k1) k2) k3) k4
  · rw [b2, final]; rfl
  · rw [b3, make]; rfl
end Go.Proofs.YtchikjmhncojfaaDoor.Head
