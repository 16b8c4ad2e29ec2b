/- Closed facts on the head of the cut, by their own words, so that no one declaration is too dear for the kernel. Conditions: none. (Written by genhead.py.) -/
import Derived.Test.YtchikjmhncojfaaRows
import Derived.JoinedOf
import Derived.ProofKit
namespace Go.Proofs.Ytchikjmhncojfaa.Head
open Go Go.Proofs
def L : List Char := ['h', 'a', 'r', 'n', 'e', 's', 's', ' ', 'c', 'a', '0', '1', 'a', '1', '5', '6', '9', 'd', '6', '9', '8', 'c', 'f', '9', '0', '6', '5', '7', '0', '7', '4', 'b', '4', 'e', '3', 'e', '8', '9', '6', '0', 'c', 'e', 'd', '2', 'a', '7', '9', '7', '3', '1', 'd', '1', '0', 'c', '2', 'f', '1', 'e', 'e', '2', '7', '5', '4', 'f', '2', '1', 'a', '7', '9', 'b', '7', '2', ' ', 'c', 'u', 't', ' ', 'a', 't', ' ', 'b', 'a', 'c', 'k', 's', 't', 'a', 'y', '/', 'b', 'a', 'c', 'k', 's', 't', 'a', 'y', 'l', 'a', 'w', '1', '3', '.', 'N', 'o', 'd', 'e', 'T', 'e', 'l', 'l', 's', ' ', 'b', 'a', 'c', 'k', 's', 't', 'a', 'y', '/', 'b', 'a', 'c', 'k', 's', 't', 'a', 'y', 'l', 'a', 'w', '1', '3', '.', 'N', 'o', 'd', 'e', 'U', 'n', 'i', 'q', 'u', 'e', ' ', 'b', 'a', 'c', 'k', 's', 't', 'a', 'y', '/', 'b', 'a', 'c', 'k', 's', 't', 'a', 'y', 'l', 'a', 'w', '1', '3', '.', 'N', 'o', 'd', 'e', 'O', 'r', 'd', 'e', 'r', 'e', 'd', ' ', 'b', 'a', 'c', 'k', 's', 't', 'a', 'y', '/', 'b', 'a', 'c', 'k', 's', 't', 'a', 'y', 'l', 'a', 'w', '1', '3', '.', 'N', 'o', 'd', 'e', 'K', 'e', 'e', 'p', 's', ' ', 'b', 'a', 'c', 'k', 's', 't', 'a', 'y', '/', 'b', 'a', 'c', 'k', 's', 't', 'a', 'y', 'l', 'a', 'w', '1', '3', '.', 'N', 'o', 'd', 'e', 'R', 'o', 'o', 'm', ' ', 'b', 'a', 'c', 'k', 's', 't', 'a', 'y', '/', 'b', 'a', 'c', 'k', 's', 't', 'a', 'y', 'l', 'a', 'w', '1', '3', '.', 'N', 'o', 'd', 'e', 'S', 'i', 'd', 'e', 's', ' ', 'b', 'a', 'c', 'k', 's', 't', 'a', 'y', '/', 'b', 'a', 'c', 'k', 's', 't', 'a', 'y', 'l', 'a', 'w', '1', '3', '.', 'N', 'o', 'd', 'e', 'L', 'e', 'a', 'v', 'e', 's', ' ', 'b', 'a', 'c', 'k', 's', 't', 'a', 'y', '/', 'b', 'a', 'c', 'k', 's', 't', 'a', 'y', 'l', 'a', 'w', '1', '4', '.', 'A', 'p', 'p', 'l', 'y', 'T', 'e', 'l', 'l', 's', ' ', 'b', 'a', 'c', 'k', 's', 't', 'a', 'y', '/', 'b', 'a', 'c', 'k', 's', 't', 'a', 'y', 'l', 'a', 'w', '1', '4', '.', 'A', 'p', 'p', 'l', 'y', 'C', 'a', 'c', 'h', 'e', 's', ' ', 'b', 'a', 'c', 'k', 's', 't', 'a', 'y', '/', 'b', 'a', 'c', 'k', 's', 't', 'a', 'y', 'l', 'a', 'w', '1', '4', '.', 'A', 'p', 'p', 'l', 'y', 'N', 'o', 'd', 'e', 's', ' ', 'b', 'a', 'c', 'k', 's', 't', 'a', 'y', '/', 'b', 'a', 'c', 'k', 's', 't', 'a', 'y', 'l', 'a', 'w', '1', '4', '.', 'A', 'p', 'p', 'l', 'y', 'R', 'o', 'o', 'm', ' ', 'b', 'a', 'c', 'k', 's', 't', 'a', 'y', '/', 'b', 'a', 'c', 'k', 's', 't', 'a', 'y', 'l', 'a', 'w', '1', '4', '.', 'A', 'p', 'p', 'l', 'y', 'R', 'u', 'l', 'e', 's', ' ', 'b', 'a', 'c', 'k', 's', 't', 'a', 'y', '/', 'b', 'a', 'c', 'k', 's', 't', 'a', 'y', 'l', 'a', 'w', '1', '4', '.', 'A', 'p', 'p', 'l', 'y', 'L', 'e', 'a', 'v', 'e', 's', ' ', 'b', 'a', 'c', 'k', 's', 't', 'a', 'y', '/', 'b', 'a', 'c', 'k', 's', 't', 'a', 'y', 'l', 'a', 'w', '1', '4', '.', 'A', 'p', 'p', 'l', 'y', 'M', 'o', 'r', 'g', 'a', 'n', ' ', 'b', 'a', 'c', 'k', 's', 't', 'a', 'y', '/', 'b', 'a', 'c', 'k', 's', 't', 'a', 'y', 'l', 'a', 'w', '1', '6', '.', 'L', 'i', 'm', 'i', 't', 'T', 'e', 'l', 'l', 's', ' ', 'b', 'a', 'c', 'k', 's', 't', 'a', 'y', '/', 'b', 'a', 'c', 'k', 's', 't', 'a', 'y', 'l', 'a', 'w', '1', '6', '.', 'L', 'i', 'm', 'i', 't', 'B', 'o', 'u', 'n', 'd', ' ', 'b', 'a', 'c', 'k', 's', 't', 'a', 'y', '/', 'b', 'a', 'c', 'k', 's', 't', 'a', 'y', 'l', 'a', 'w', '1', '6', '.', 'L', 'i', 'm', 'i', 't', 'T', 'w', 'i', 'c', 'e', ' ', 'b', 'a', 'c', 'k', 's', 't', 'a', 'y', '/', 'b', 'a', 'c', 'k', 's', 't', 'a', 'y', 'l', 'a', 'w', '1', '6', '.', 'L', 'i', 'm', 'i', 't', 'S', 'a', 'm', 'e', ' ', 'b', 'a', 'c', 'k', 's', 't', 'a', 'y', '/', 'b', 'a', 'c', 'k', 's', 't', 'a', 'y', 'l', 'a', 'w', '1', '6', '.', 'L', 'i', 'm', 'i', 't', 'N', 'e', 's', 't', 'e', 'd', ' ', 'b', 'a', 'c', 'k', 's', 't', 'a', 'y', '/', 'b', 'a', 'c', 'k', 's', 't', 'a', 'y', 'l', 'a', 'w', '1', '6', '.', 'L', 'i', 'm', 'i', 't', 'O', 'p', 'e', 'r', 'a', 't', 'o', 'r', 's', ' ', 'b', 'a', 'c', 'k', 's', 't', 'a', 'y', '/', 'b', 'a', 'c', 'k', 's', 't', 'a', 'y', 'l', 'a', 'w', '1', '6', '.', 'L', 'i', 'm', 'i', 't', 'C', 'o', 'u', 'n', 't', 's']
def S : List Char := ['c', 'a', '0', '1', 'a', '1', '5', '6', '9', 'd', '6', '9', '8', 'c', 'f', '9', '0', '6', '5', '7', '0', '7', '4', 'b', '4', 'e', '3', 'e', '8', '9', '6', '0', 'c', 'e', 'd', '2', 'a', '7', '9', '7', '3', '1', 'd', '1', '0', 'c', '2', 'f', '1', 'e', 'e', '2', '7', '5', '4', 'f', '2', '1', 'a', '7', '9', 'b', '7', '2']
theorem h1 : Try.prog.initOrder = String.ofList L := by kernel_rfl
theorem h2 : Try.prog.initOrder.toList = L := by rw [h1, String.toList_ofList]
theorem a1 : wordsSigns L = "harness".toList :: S :: wordsSigns (L.drop 73) := by kernel_rfl
theorem a2 : isSumSigns S = true := by kernel_rfl
theorem a3 : wordsSigns (L.drop 73) = "cut".toList :: wordsSigns (L.drop 77) := by kernel_rfl
theorem h3 : behindMainWord (wordsSigns L) = "cut".toList :: wordsSigns (L.drop 77) := by
  rw [a1, a3]; simp only [behindMainWord, a2, beq_self_eq_true, Bool.true_or, Bool.and_self, if_true]
theorem g1 (P : Program) (M : List (List Char)) (hm : behindMainWord (wordsSigns P.initOrder.toList) = "cut".toList :: M) : P.liftsFinal = false := by
  unfold Program.liftsFinal Program.headLifts; rw [hm]; kernel_rfl
theorem g2 (P : Program) (M : List (List Char)) (hm : behindMainWord (wordsSigns P.initOrder.toList) = "cut".toList :: M) : P.make = some .cut := by
  unfold Program.make; rw [hm]; kernel_rfl
theorem g3 (P : Program) (M : List (List Char)) (hm : behindMainWord (wordsSigns P.initOrder.toList) = "cut".toList :: M) (k1 : P.laysLater = false) (k2 : P.bearsReflect = false) (k3 : P.doorFits [] = true) : P.mayEnter = true := by
  unfold Program.mayEnter; rw [hm]
  have e : stripLifts liftWords ("cut".toList :: M) = ([], "cut".toList :: M) := by kernel_rfl
  simp only [e, k1, k2, k3]; first | rfl | simp
theorem h4 : behindMainWord (wordsSigns Try.prog.initOrder.toList) = "cut".toList :: wordsSigns (L.drop 77) := (congrArg (fun l => behindMainWord (wordsSigns l)) h2).trans h3
theorem final : Try.prog.liftsFinal = false := g1 _ _ h4
theorem make : Try.prog.make = some .cut := g2 _ _ h4
theorem mayEnter : Try.prog.mayEnter = true := g3 _ _ h4 (by kernel_rfl) (by kernel_rfl) (by kernel_rfl)
theorem and_mk {a b : Bool} (h : a = true) (k : b = true) : (a && b) = true := by rw [h, k]; rfl
set_option maxRecDepth 100000 in
/-- the builder's closed facts, with the dear three apart -/
theorem joined {f : FuncId} {fn : Func} {s : ChangeSpec} {c : OpenClaim}
    (k : (c.wf (OpenSpec.ofChange s) && laidOutB Try.prog && mapsRowed Try.prog && fn.params.all (Try.prog.readableRec ·) && namedTie Try.prog c.named s.vars &&
      (c.stops == []) && (Try.prog.stops == []) && (c.knobs == []) && (Try.prog.stopKnobs == []) && (c.inPlace == Try.prog.inPlace f) && (c.unfollowed == Try.prog.unfollowed f) && (c.recurses == Try.prog.recurses f) && (c.named == Try.prog.varsNamed f) &&
      (c.maps == (fn.params.toList ++ s.plain.varTypes Try.prog).any (Try.prog.mapsRec ·)) && (c.ifaces == (fn.params.toList ++ s.plain.varTypes Try.prog).any (Try.prog.ifacesRec ·)) && (c.mapsOut == Try.prog.mapsAmong fn.resultTypes.toList) &&
      (c.loops == (fn.params.toList ++ s.plain.varTypes Try.prog).any (Try.prog.loopsFrom ·)) && (c.wideKeys == (fn.params.toList ++ s.plain.varTypes Try.prog ++ fn.resultTypes.toList).any (Try.prog.wideKeysFrom ·)) &&
      s.vars.all (Try.prog.varReadable ·) && fn.resultTypes.all (fun t => Try.prog.readableRec t && decide (t < Try.prog.types.size)) && (c.ifacesOut == fn.resultTypes.toList.any (Try.prog.ifacesRec ·)) && (c.loopsOut == fn.resultTypes.toList.any (Try.prog.loopsFrom ·)) && (c.plainKeys == Try.prog.plainKeys) && c.shortTexts.isNone && Try.prog.stopsHeard) = true)
    (b2 : c.lifted = false) (b3 : c.make = .cut)
    (k1 : (c.kinds == (if c.domain.isEmpty then [] else fn.params.toList.map fun t => match Try.prog.underlying t with | some (.int k) => some k | _ => none)) = true) (k2 : (c.pinned == c.pinnedBy) = true)
    (k3 : (c.veiled == (fn.params.toList ++ s.plain.varTypes Try.prog ++ fn.resultTypes.toList).any (Try.prog.veiledRec ·)) = true) (k4 : c.veiledFits Try.prog fn.params.toList (fn.params.toList ++ s.plain.varTypes Try.prog ++ fn.resultTypes.toList) = true) :
    joinedFacts Try.prog f fn s c = true := by
  unfold joinedFacts
  refine and_mk (and_mk (and_mk (and_mk (and_mk (and_mk (and_mk k mayEnter) ?_) ?_) k1) k2) k3) k4
  · rw [b2, final]; rfl
  · rw [b3, make]; rfl
end Go.Proofs.Ytchikjmhncojfaa.Head
