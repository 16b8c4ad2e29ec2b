/- What a tied card's row hands to its walk: the library's table lies in its variable. Conditions: none. Door seat alone. -/
import Derived.Test.YtchikjmhncojfaaDoorRows
import Derived.Test.YtchikjmhncojfaaDoorHead
import Derived.Test.YtchikjmhncojfaaDoorList
import Derived.Test.YtchikjmhncojfaaDoorFrame
import Derived.ProofKit
import Derived.LaidMore
import Derived.OpenShut
import Derived.Stop.Joined
namespace Go.Proofs.YtchikjmhncojfaaDoor.DF
open Go Go.Proofs Go.ChangeShapes Go.WideShapes Go.ChangeAt Go.WideMaps Go.WideElems Go.RowKit
theorem own : ownKnob Tryd.prog.godebug = none := by kernel_rfl
/-- the listed variable's name, as the rows have it -/
abbrev tabName : String := Rows.guardTellsRow.named.headD ""
theorem gTab : Tryd.prog.globalNamed tabName = some 0 := by kernel_rfl
theorem tTab : (Tryd.prog.globals[0]?).map (·.type) = some 90 := by kernel_rfl
theorem c5 : Tryd.prog.cellsOf 5 = 1 := by kernel_rfl
theorem c90 : Tryd.prog.cellsOf 90 = 32 := by kernel_rfl
abbrev laidL : List (String × DataW Unit) := [(tabName, Rows.laid_math_bits_deBruijn32tab)]
theorem door_met (os : Os) (args : Array Value) : laidMetH Tryd.prog laidL ((World.doorLaid Tryd.prog 400 os).forCall (fun _ _ => 0) ⟨#[], args, []⟩).memory :=
  laidMetH_of_parts3 (fuel := 8) (laidMet_of_run' 8 (by kernel_rfl) (by kernel_rfl)) (by kernel_rfl) (by kernel_rfl)
theorem tab_list : (Rows.laid_math_bits_deBruijn32tab : DataW Unit) = .agg (Lib.deBruijn32tab.map fun k : Nat => .lit (.int .u8 k)) := rfl
theorem of_laid {W : World} (h : laidMetH Tryd.prog laidL W) : YtchikjmhncojfaaDoor.W.Tab W := by
  rw [MakeChecks.laidMetH_plain _ _ _ (by kernel_rfl)] at h
  obtain ⟨ps, ⟨g0, t0, cs0, f0, p0, q0, hg0, ht0, hv0, hd0, _, _⟩, _, _⟩ := h
  obtain rfl := Option.some.inj (gTab.symm.trans hg0)
  obtain rfl := Option.some.inj (tTab.symm.trans ht0)
  obtain ⟨xs, m1, rfl, hx1, hlen, hn3, hel⟩ := DataW.trod_array Tryd.underlying90 hd0
  simp only [Prod.mk.injEq] at hx1
  rw [tab_list] at hx1
  have hxs : xs.map (·.1) = Lib.deBruijn32tab.map fun k : Nat => (.lit (.int .u8 k) : DataW Unit) := by have := hx1.1; simp only [DataW.agg.injEq] at this; exact this.symm
  have cell : ∀ j, j < 32 → W.cell? ⟨0, j, none⟩ = some (.int .u8 (Lib.deBruijn32tab.getD j 0)) := by
    intro j hj
    rw [World.var?_cell hg0 hv0 j]
    have h1 := hel j hj
    rw [c5, Nat.mul_one] at h1
    obtain ⟨x, hx⟩ : ∃ x, xs[j]? = some x := ⟨xs[j]'(by omega), List.getElem?_eq_getElem _⟩
    rw [hx] at h1
    obtain ⟨k, e1, e2, _⟩ := DataW.trod_int Tryd.underlying5 h1
    have h2 := congrArg (fun l => l[j]?) hxs
    simp only [List.getElem?_map, hx, Option.map_some] at h2
    have hg : Lib.deBruijn32tab[j]? = some (Lib.deBruijn32tab.getD j 0) := by
      rw [List.getD_eq_getElem?_getD, List.getElem?_eq_getElem (by simpa [Lib.deBruijn32tab] using hj)]; rfl
    rw [hg, e2] at h2
    simp only [Option.map_some, Option.some.injEq, DataW.lit.injEq, Lit.int.injEq, true_and] at h2
    subst h2
    have h3 := congrArg (fun l => l[0]?) e1
    simp only [List.getElem?_take, List.getElem?_drop, Nat.add_zero, List.getElem?_cons_zero] at h3
    simpa using h3
  exact ⟨World.block_lt_of_cell? W ⟨0, 0, none⟩ (cell 0 (by decide)), cell⟩
end Go.Proofs.YtchikjmhncojfaaDoor.DF
