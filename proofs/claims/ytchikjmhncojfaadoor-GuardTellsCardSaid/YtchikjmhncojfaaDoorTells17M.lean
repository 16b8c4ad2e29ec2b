/- Which links are marked, set by set: the plain part of GuardTells. Conditions: none. Door seat alone. -/
import Derived.Test.YtchikjmhncojfaaDoorHangM
import Derived.Laws.MakeOwn
set_option linter.unusedVariables false
namespace Go.Proofs.YtchikjmhncojfaaDoor.M
def askF (g : Nat → Int) (m j : Nat) : Bool := (List.range m).any fun F => decide (g F ≠ g (turn F j true))
theorem askF_succ (g : Nat → Int) (m j : Nat) : askF g (m + 1) j = (askF g m j || decide (g m ≠ g (turn m j true))) := by
  unfold askF; rw [List.range_succ, List.any_append]; simp
theorem askF_up {g : Nat → Int} {m j : Nat} (h : askF g m j = true) : askF g (m + 1) j = true := by rw [askF_succ, h]; rfl
theorem askF_hang {s : St} {x : Int} {g : Nat → Int} (t : Tells s x g) {j : Nat} (hj : j < s.links) : askF g (2 ^ s.links) j = true ↔ Hang s x j := by
  unfold askF
  rw [List.any_eq_true]
  constructor
  · rintro ⟨F, hF, hne⟩
    exact ⟨F, List.mem_range.1 hF, true, by rw [t.eval, t.eval]; exact fun h => (of_decide_eq_true hne) h.symm⟩
  · rintro ⟨F, hF, v, hne⟩
    rw [t.eval, t.eval] at hne
    cases v with
    | true => exact ⟨F, List.mem_range.2 hF, decide_eq_true fun h => hne h.symm⟩
    | false =>
      refine ⟨turn F j false, List.mem_range.2 (turn_lt false hF hj), decide_eq_true fun h => hne ?_⟩
      rw [turn_turn] at h
      cases hb : F.testBit j with
      | true => rw [turn_same F j true hb] at h; exact h
      | false => rw [turn_same F j false hb]
def marks (g : Nat → Int) (N m j : Nat) : List Bool := (List.range N).map fun z => if z < j then askF g (m + 1) z else askF g m z
theorem marks_len (g : Nat → Int) (N m j : Nat) : (marks g N m j).length = N := by simp [marks]
theorem marks_zero (g : Nat → Int) (N : Nat) : List.replicate N false = marks g N 0 0 := by
  refine List.ext_getElem? fun i => ?_
  unfold marks
  rw [List.getElem?_map]
  by_cases h : i < N
  · simp [h, askF]
  · simp [h]
theorem marks_get (g : Nat → Int) {N m j z : Nat} (hz : z < N) : (marks g N m j)[z]? = some (if z < j then askF g (m + 1) z else askF g m z) := by
  unfold marks; rw [List.getElem?_map, List.getElem?_range hz]; rfl
theorem marks_step (g : Nat → Int) {N m j : Nat} (hj : j < N) {b : Bool} (hb : b = askF g (m + 1) j) : (marks g N m j).set j b = marks g N m (j + 1) := by
  subst hb
  refine List.ext_getElem? fun i => ?_
  by_cases hi : i < N
  · rw [marks_get g hi, List.getElem?_set, marks_len]
    by_cases hij : j = i
    · subst hij; simp [hj]
    · rw [if_neg hij, marks_get g hi]
      by_cases h1 : i < j
      · rw [if_pos h1, if_pos (by omega)]
      · rw [if_neg h1, if_neg (by omega)]
  · rw [List.getElem?_eq_none (by rw [List.length_set, marks_len]; omega), List.getElem?_eq_none (by rw [marks_len]; omega)]
theorem marks_next (g : Nat → Int) (N m : Nat) : marks g N m N = marks g N (m + 1) 0 := by
  unfold marks
  refine List.map_congr_left fun z hz => ?_
  rw [if_pos (List.mem_range.1 hz), if_neg (by omega)]
def cnt (g : Nat → Bool) (i : Nat) : Nat := ((List.range i).filter g).length
theorem cnt_succ (g : Nat → Bool) (i : Nat) : cnt g (i + 1) = cnt g i + (if g i then 1 else 0) := by
  unfold cnt; rw [List.range_succ, List.filter_append, List.length_append]
  cases h : g i <;> simp [h]
theorem cnt_at (g : Nat → Bool) {i N : Nat} (hi : i < N) (h : g i = true) : ((List.range N).filter g)[cnt g i]? = some i := by
  obtain ⟨d, rfl⟩ : ∃ d, N = i + (d + 1) := ⟨N - i - 1, by omega⟩
  rw [List.range_add, List.filter_append, List.range_succ_eq_map, List.map_cons, List.filter_cons_of_pos (by simpa using h)]
  unfold cnt
  rw [List.getElem?_append_right (Nat.le_refl _), Nat.sub_self]
  simp
theorem cnt_lt (g : Nat → Bool) {i N : Nat} (hi : i < N) (h : g i = true) : cnt g i < cnt g N := by
  have := (List.getElem?_eq_some_iff.1 (cnt_at g hi h)).1
  exact this
end Go.Proofs.YtchikjmhncojfaaDoor.M
namespace Go.Proofs.YtchikjmhncojfaaDoor.W
open Go Go.Proofs Go.RowKit
open Go.Proofs.YtchikjmhncojfaaDoor.M (Br St get getZ isN idx has down Wf rank i64 leafB askB Tells Room6 turn Hang)
def bools (l : List Bool) : List Value := l.map fun b => .bool b
section
variable {n : Nat} {ops : List Oper} {K : Env → World → Prop} {rest : List Oper} {e : Env} {w wb : World} {L : List Chunk}
variable {d : Nat} {ty : TypeId} {g : Option (Nat × Bool)} {x y : Operand} {ps : String} {af : Array Edge}
theorem madeBools (k : Nat) : madeCells (Value.cells (.bool false)) (k * 1) = (bools (List.replicate k false)).toArray := by
  apply Array.ext
  · simp [madeCells, bools]
  · intro i h1 h2
    simp [madeCells, bools, Value.cells, Nat.mod_one]
theorem ops_makeBools {k : Nat} (H : Own wb L w) (hk : k ≤ 1073741824) (hp : pre n d ops e g = true) (hx : ev e x = .int .i64 k) (hy : ev e y = .int .i64 k)
    (h : ∀ b w', Own wb (Blk b (bools (List.replicate k false)) 4 :: L) w' → opsW Tryd.prog n ops K rest (upd e d (.slice (some ⟨b, 0, none⟩) k k)) w') :
    opsW Tryd.prog n ops K (⟨some d, .makeSlice 36 x y, ty, ps, af, g⟩ :: rest) e w := by
  have z1 : (Tryd.prog.info? 4).map (fun i => i.zero) = some (some (.bool false)) := by kernel_rfl
  have z2 : (Tryd.prog.info? 4).map (fun i => i.size) = some 1 := by kernel_rfl
  have z3 : (Tryd.prog.info? 4).map (fun i => i.bytes) = some 1 := by kernel_rfl
  obtain ⟨i, hi⟩ : ∃ i, Tryd.prog.info? 4 = some i := by
    cases h : Tryd.prog.info? 4 with
    | none => rw [h] at z2; cases z2
    | some i => exact ⟨i, rfl⟩
  rw [hi] at z1 z2 z3
  have hz : i.zero = some (.bool false) := Option.some.inj z1
  have hs : i.size = 1 := Option.some.inj z2
  have hb : i.bytes = 1 := Option.some.inj z3
  have hr := run_make (P := Tryd.prog) w 36 4 i (.bool false) Tryd.underlying36 hi hz .i64 .i64 k k (by omega) (Int.le_refl _) (by rw [hb]; omega) (by omega)
  rw [hs, Int.toNat_natCast, madeBools] at hr
  refine ops_run (w' := w.alloc (.cells (bools (List.replicate k false)).toArray 4)) (v := .slice (some ⟨w.heap.size, 0, none⟩) k k) hp (fun a ha => ?_) (h _ _ (H.newBlk _ _))
  simp [execOp, ha.eval, hx, hy, hr]
end
theorem bools_get {l : List Bool} {i : Nat} {b : Bool} (h : l[i]? = some b) : (bools l)[0 + ((i : Int)).toNat * 1]? = some (.bool b) := by
  rw [Nat.zero_add, Nat.mul_one, Int.toNat_natCast]; simp [bools, h]
theorem bools_setB {l : List Bool} {i : Nat} (b : Bool) (hi : i < l.length) : (bools l).take (0 + ((i : Int)).toNat * 1) ++ [.bool b] ++ (bools l).drop (0 + ((i : Int)).toNat * 1 + 1) = bools (l.set i b) := by
  rw [Nat.zero_add, Nat.mul_one, Int.toNat_natCast]
  unfold bools
  rw [List.map_set, List.set_eq_take_append_cons_drop, if_pos (by simpa using hi)]
  simp
end Go.Proofs.YtchikjmhncojfaaDoor.W
