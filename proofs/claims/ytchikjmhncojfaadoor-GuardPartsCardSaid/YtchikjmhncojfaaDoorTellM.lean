/- What nodes tell, and lifting where there is room: the plain part of the laws of layer 14. Conditions: none. -/
import Derived.Test.YtchikjmhncojfaaDoorOpsM
namespace Go.Proofs.YtchikjmhncojfaaDoor.M
/-- a node that tells g -/
structure Tells (s : St) (i : Int) (g : Nat → Int) : Prop where
  here : isN s i = true
  eval : ∀ F : Nat, M.eval s i F = g F
theorem Tells.ext {s t : St} {i : Int} {g : Nat → Int} (h : Tells s i g) (w : Wf s) (x : Ext s t) (wt : Wf t) : Tells t i g :=
  ⟨x.isN h.here, fun F => by rw [x.eval w wt _ _ h.here]; exact h.eval F⟩
theorem Tells.of {s : St} {i : Int} (h : isN s i = true) : Tells s i (fun F => M.eval s i F) := ⟨h, fun _ => rfl⟩
theorem Tells.to {s : St} {i : Int} {g g' : Nat → Int} (h : Tells s i g) (hg : ∀ F, g F = g' F) : Tells s i g' := ⟨h.here, fun F => (h.eval F).trans (hg F)⟩
theorem Tells.same {s : St} (w : Wf s) {i j : Int} {g g' : Nat → Int} (h : Tells s i g) (k : Tells s j g') (hg : ∀ F, F < 2 ^ s.links → g F = g' F) : i = j :=
  unique w h.here k.here fun F hF => by rw [h.eval, k.eval, hg F hF]
/-- a store of up to six links, with so many nodes at the most -/
structure Room6 (s : St) (k : Nat) : Prop where
  wf : Wf s
  six : s.links ≤ 6
  most : s.most = 1000
  len : s.nodes.length ≤ k
theorem Room6.le {s : St} {k m : Nat} (h : Room6 s k) (hm : k ≤ m) : Room6 s m := ⟨h.wf, h.six, h.most, Nat.le_trans h.len hm⟩
theorem Lifts.there' {s : St} {f : Int → Int → Int → Int} {a b c r : Int} {ga gb gc gr : Nat → Int} (w : Wf s) (ta : Tells s a ga) (tb : Tells s b gb) (tc : Tells s c gc) (tr : Tells s r gr) (h : ∀ F, F < 2 ^ s.links → gr F = f (ga F) (gb F) (gc F)) : Lifts f s a b c s r 0 :=
  Lifts.there w ta.here tb.here tc.here tr.here fun F hF => by rw [tr.eval, ta.eval, tb.eval, tc.eval, h F hF]
theorem Lifts.tells {s s' : St} {f : Int → Int → Int → Int} {a b c i : Int} {ga gb gc : Nat → Int} (L : Lifts f s a b c s' i 0) (w : Wf s) (ta : Tells s a ga) (tb : Tells s b gb) (tc : Tells s c gc) : Wf s' ∧ Ext s s' ∧ Tells s' i (fun F => f (ga F) (gb F) (gc F)) := by
  have g := L.good w ta.here tb.here tc.here
  exact ⟨g.wf, g.ext, g.here rfl, fun F => by rw [g.eval rfl, ta.eval, tb.eval, tc.eval]⟩
theorem lift_room {s : St} {k : Nat} (f : Int → Int → Int → Int) {a b c : Int} {ga gb gc : Nat → Int} (h : Room6 s k) (hk : k + 127 < 1000) (ta : Tells s a ga) (tb : Tells s b gb) (tc : Tells s c gc) :
    ∃ s' i, Lifts f s a b c s' i 0 ∧ Ext s s' ∧ Room6 s' (k + 127) ∧ Tells s' i (fun F => f (ga F) (gb F) (gc F)) := by
  obtain ⟨s', i, e, L⟩ := Lifts.ex f h.wf ta.here tb.here tc.here
  have hl := h.len
  have hm := h.most
  have he := L.ok h.wf ta.here tb.here tc.here h.six (.inl (by omega))
  subst he
  have g := L.good h.wf ta.here tb.here tc.here
  have hf := (L.few h.wf ta.here tb.here tc.here h.six).1
  have := L.tells h.wf ta tb tc
  exact ⟨s', i, L, g.ext, ⟨g.wf, by rw [g.ext.links]; exact h.six, by rw [g.ext.most]; exact hm, by omega⟩, this.2.2⟩
theorem lift_room01 {s : St} {k : Nat} (f : Int → Int → Int → Int) (hf : ∀ x y z, f x y z = 0 ∨ f x y z = 1) {a b c : Int} {ga gb gc : Nat → Int} (h : Room6 s k) (hk : k + 65 < 1000) (ta : Tells s a ga) (tb : Tells s b gb) (tc : Tells s c gc) :
    ∃ s' i, Lifts f s a b c s' i 0 ∧ Ext s s' ∧ Room6 s' (k + 65) ∧ Tells s' i (fun F => f (ga F) (gb F) (gc F)) := by
  obtain ⟨s', i, e, L⟩ := Lifts.ex f h.wf ta.here tb.here tc.here
  have hl := h.len
  have hm := h.most
  have he := L.ok h.wf ta.here tb.here tc.here h.six (.inr ⟨hf, by omega⟩)
  subst he
  have g := L.good h.wf ta.here tb.here tc.here
  have hf := (L.few h.wf ta.here tb.here tc.here h.six).2 hf
  have := L.tells h.wf ta tb tc
  exact ⟨s', i, L, g.ext, ⟨g.wf, by rw [g.ext.links]; exact h.six, by rw [g.ext.most]; exact hm, by omega⟩, this.2.2⟩
theorem leaf_tells {s : St} {k : Nat} (h : Room6 s k) (hk : k + 1 < 1000) (v : Int) : ∃ s' i, leaf s v = (s', i, 0) ∧ Ext s s' ∧ Room6 s' (k + 1) ∧ Tells s' i (fun _ => v) := by
  obtain ⟨s', i, e⟩ : ∃ s' i, (∃ e, leaf s v = (s', i, e)) := ⟨(leaf s v).1, (leaf s v).2.1, _, rfl⟩
  obtain ⟨e, hl⟩ := e
  obtain ⟨w, x, hc⟩ := leaf_case h.wf hl
  have hlen := h.len
  have hm := h.most
  rcases hc with ⟨_, _, _, hf⟩ | ⟨rfl, hg⟩
  · omega
  · refine ⟨s', i, hl, x, ⟨w, by rw [x.links]; exact h.six, by rw [x.most]; exact hm, ?_⟩, isN_some hg, fun F => eval_leaf hg rfl⟩
    have := leaf_size hl
    rcases put_size hl with rfl | h'
    · omega
    · rw [h']; simp; omega
theorem eval_vals {s : St} (w : Wf s) (h : ∀ b ∈ s.nodes, b.leaf = true → 0 ≤ b.value ∧ b.value ≤ 3) (F : Int) : ∀ id, isN s id = true → 0 ≤ eval s id F ∧ eval s id F ≤ 3 := by
  refine w.ind fun id ih hi => ?_
  obtain ⟨b, hb⟩ := isN_get hi
  cases hl : b.leaf with
  | true =>
    rw [eval_leaf hb hl]
    exact h b (List.mem_of_getElem? (get_some hb).2.2) hl
  | false =>
    rw [eval_ask w hb hl]
    have ha := w.ask hb hl
    have := ih b hb hl
    unfold down
    split
    · exact this.2 (under_isN ha.2.2.2.2.2.1)
    · exact this.1 (under_isN ha.2.2.2.2.1)
theorem bad_id {s : St} {i : Int} (h : (s.nodes.length : Int) ≤ i ∨ i < 0) : isN s i = false := by
  cases hi : isN s i with
  | false => rfl
  | true => have := isN_iff.1 hi; omega
end Go.Proofs.YtchikjmhncojfaaDoor.M
