/- What is fixed hangs on no more links: the plain part of the laws of layer 17. Conditions: none. Door seat alone. -/
import Derived.Test.YtchikjmhncojfaaDoorLaw17
import Derived.Test.YtchikjmhncojfaaDoorAppend2
set_option linter.unusedVariables false
namespace Go.Proofs.YtchikjmhncojfaaDoor.M
theorem turn_turn (F k : Nat) (a b : Bool) : turn (turn F k a) k b = turn F k b := by
  refine Nat.eq_of_testBit_eq fun l => ?_
  by_cases h : l = k
  · subst h; rw [turn_at, turn_at]
  · rw [turn_other _ _ _ _ h, turn_other _ _ _ _ h, turn_other _ _ _ _ h]
theorem turn_comm (F i j : Nat) (a b : Bool) (h : i ≠ j) : turn (turn F i a) j b = turn (turn F j b) i a := by
  refine Nat.eq_of_testBit_eq fun l => ?_
  by_cases hi : l = i
  · subst hi; rw [turn_other _ _ _ _ h, turn_at, turn_at]
  · by_cases hj : l = j
    · subst hj; rw [turn_at, turn_other _ _ _ _ hi, turn_at]
    · rw [turn_other _ _ _ _ hj, turn_other _ _ _ _ hi, turn_other _ _ _ _ hi, turn_other _ _ _ _ hj]
theorem fix_hang {s : St} {a b : Int} {g : Nat → Int} {k j : Nat} {v : Bool} (ta : Tells s a g) (tb : Tells s b (fun F => g (turn F k v))) (hk : k < s.links) (h : Hang s b j) : j ≠ k ∧ Hang s a j := by
  obtain ⟨F, hF, v', hne⟩ := h
  rw [tb.eval, tb.eval] at hne
  by_cases hjk : j = k
  · subst hjk; rw [turn_turn] at hne; exact (hne rfl).elim
  · exact ⟨hjk, turn F k v, turn_lt v hF hk, v', by rw [ta.eval, ta.eval, turn_comm _ _ _ _ _ (fun h => hjk h.symm)]; exact hne⟩
theorem turn_same (F k : Nat) (v : Bool) (h : F.testBit k = v) : turn F k v = F := by unfold turn; rw [if_pos h]
theorem choose_parts (g : Nat → Int) (F k : Nat) : g F = chooseF (failsF k F) (g (turn F k true)) (g (turn F k false)) := by
  unfold chooseF failsF tr
  cases h : F.testBit k with
  | true => simp [turn_same F k true h]
  | false => simp [turn_same F k false h]
theorem gate_gate (a b : Int) : gateF a (gateF a b) = gateF a b := by unfold gateF; split <;> simp_all
theorem gate_comm (a b c : Int) : gateF a (gateF b c) = gateF b (gateF a c) := by unfold gateF; split <;> split <;> simp_all
theorem fails_turn (F k : Nat) (v : Bool) : failsF k (turn F k v) = tr v := by unfold failsF; rw [turn_at]
theorem gate_stand (b : Int) : gateF (tr false) b = b := rfl
theorem gate_fail (b : Int) : gateF (tr true) b = 0 := rfl
end Go.Proofs.YtchikjmhncojfaaDoor.M
namespace Go.Proofs.YtchikjmhncojfaaDoor.W
open Go Go.Proofs Go.RowKit
open Go.Proofs.YtchikjmhncojfaaDoor.M (Br St get getZ isN idx has down Wf rank i64 leafB askB Tells Room6 turn Hang)
theorem Leaf_room {wb w : World} {R : List Chunk} {p c : Nat} {st : St} (h : Room6 st c) (hc : c + 1 < 1000) (v : Int) (H : Own wb (StoreC p st :: R) w) :
    FnC Tryd.prog 17 [ptr p, int v] w (fun u w' => ∃ s' i, u = pairV i 0 ∧ M.Ext st s' ∧ Room6 s' (c + 1) ∧ Tells s' i (fun _ => v) ∧ Own wb (StoreC p s' :: R) w') := by
  obtain ⟨s', i, e, x, m, t⟩ := M.leaf_tells h hc v
  exact (Leaf_ok h.wf.most e H).mono fun _ _ ⟨hv, H⟩ => ⟨s', i, hv, x, m, t, H⟩
open Classical in
theorem asksL_is {s : St} (hw : Wf s) (h6 : s.links ≤ 6) {id : Int} (hid : isN s id = true) : asksL s id = ((List.range s.links).filter fun j => decide (Hang s id j)).map fun x : Nat => (x : Int) :=
  asksL_eq hw h6 hid _ fun j _ => by simp
theorem asksL_le {s : St} (hw : Wf s) (h6 : s.links ≤ 6) {a b : Int} (ha : isN s a = true) (hb : isN s b = true) (h : ∀ j, Hang s b j → Hang s a j) : ((asksL s b).length : Int) ≤ ((asksL s a).length : Int) := by
  rw [asksL_is hw h6 ha, asksL_is hw h6 hb, List.length_map, List.length_map, ← List.countP_eq_length_filter, ← List.countP_eq_length_filter]
  have := List.countP_mono_left (l := List.range s.links) (p := fun j => @decide (Hang s b j) (Classical.propDecidable _)) (q := fun j => @decide (Hang s a j) (Classical.propDecidable _)) fun x _ hx => by simpa using h x (by simpa using hx)
  omega
theorem asksL_len {s : St} {id : Int} : (asksL s id).length ≤ 6 := by
  unfold asksL bitsI
  rw [List.length_map]
  exact V.bitsL_len _
theorem ones_ints (l : List Int) : oneCells (ints l) = true := by
  unfold oneCells ints
  rw [List.all_eq_true]
  intro x hx
  obtain ⟨y, _, rfl⟩ := List.mem_map.1 hx
  rfl
theorem asksL_mem {s : St} (hw : Wf s) (h6 : s.links ≤ 6) {id : Int} (hid : isN s id = true) (x : Int) (hx : x ∈ asksL s id) : ∃ j : Nat, x = j ∧ j < s.links ∧ Hang s id j := by
  rw [asksL_is hw h6 hid] at hx
  obtain ⟨j, hj, rfl⟩ := List.mem_map.1 hx
  obtain ⟨h1, h2⟩ := List.mem_filter.1 hj
  exact ⟨j, rfl, List.mem_range.1 h1, by simpa using h2⟩
end Go.Proofs.YtchikjmhncojfaaDoor.W
