/- What is there, made again: the plain part of NodeKeeps. Conditions: none. -/
import Derived.Test.YtchikjmhncojfaaDoorUniqM
namespace Go.Proofs.YtchikjmhncojfaaDoor.M
theorem put_there {s : St} (w : Wf s) {i : Nat} {b : Br} (h : s.nodes[i]? = some b) : put s b = (s, (i : Int), 0) := by
  rcases put_cases s b with ⟨j, hj, hp⟩ | ⟨hn, _, _⟩ | ⟨hn, _, _⟩
  · rw [hp]
    have := (List.getElem?_inj (List.getElem?_eq_some_iff.1 h).1 w.nodup).1 (h.trans hj.symm)
    rw [this]
  · exact (hn (List.mem_of_getElem? h)).elim
  · exact (hn (List.mem_of_getElem? h)).elim
theorem leaf_again {s : St} (w : Wf s) {i : Nat} {b : Br} (h : s.nodes[i]? = some b) (hl : b.leaf = true) : leaf s b.value = (s, (i : Int), 0) := by
  unfold leaf
  rw [← w.leafs i b h hl]
  exact put_there w h
theorem make_again {s : St} (w : Wf s) {i : Nat} {b : Br} (h : s.nodes[i]? = some b) (hl : b.leaf = false) : make s b.link b.stands b.fails = (s, (i : Int), 0) := by
  obtain ⟨e, a1, a2, a3, a4, a5, _, _⟩ := w.asks i b h hl
  unfold make
  rw [if_pos (makeOk_iff.2 ⟨a1, a2, a4, a5⟩), if_neg a3, ← e]
  exact put_there w h
theorem leaf_any {s : St} (w : Wf s) (v : Int) : ∃ s' id e, leaf s v = (s', id, e) ∧ Wf s' ∧ Ext s s' :=
  ⟨(leaf s v).1, (leaf s v).2.1, (leaf s v).2.2, rfl, w.leaf v, leaf_ext s v⟩
theorem make_any' {s : St} (w : Wf s) (k a b : Int) : ∃ s' id e, make s k a b = (s', id, e) ∧ Wf s' ∧ Ext s s' :=
  ⟨(make s k a b).1, (make s k a b).2.1, (make s k a b).2.2, rfl, w.make k a b, make_ext s k a b⟩
end Go.Proofs.YtchikjmhncojfaaDoor.M
