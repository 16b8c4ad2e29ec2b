/- Marks: the plain part of the document's own count. Conditions: none. -/
import Derived.Test.YtchikjmhncojfaaSidesM
namespace Go.Proofs.Ytchikjmhncojfaa.M
structure Reach (st : St) (id : Int) (l l' : List Bool) (c : Nat) : Prop where
  len : l'.length = l.length
  cnt : l'.count true = l.count true + c
  mono : ∀ j : Nat, l[j]? = some true → l'[j]? = some true
  here : l'[id.toNat]? = some true
  fro : ∀ j : Nat, l'[j]? = some true → l[j]? = some true ∨ comes st id j = true
  closed : ∀ j : Nat, l'[j]? = some true → l[j]? = some true ∨ (∀ b, get st j = some b → b.leaf = false → l'[b.stands.toNat]? = some true ∧ l'[b.fails.toNat]? = some true)
theorem Reach.seen {st : St} {id : Int} {l : List Bool} (h : l[id.toNat]? = some true) : Reach st id l l 0 :=
  ⟨rfl, rfl, fun _ h => h, h, fun _ h => .inl h, fun _ h => .inl h⟩
theorem set_get {l : List Bool} {i j : Nat} (hi : i < l.length) : (l.set i true)[j]? = some true ↔ (j = i ∨ l[j]? = some true) := by
  rw [List.getElem?_set]
  by_cases h : i = j
  · subst h; simp [hi]
  · simp [h]
    rintro rfl
    exact (h rfl).elim
theorem set_count {l : List Bool} {i : Nat} (h : l[i]? = some false) : (l.set i true).count true = l.count true + 1 := by
  obtain ⟨hi, he⟩ := List.getElem?_eq_some_iff.1 h
  rw [List.count_set hi]
  simp [he]
theorem Reach.leaf {st : St} {id : Int} {b : Br} {l : List Bool} (hg : get st id = some b) (hl : b.leaf = true) (h : l[id.toNat]? = some false) : Reach st id l (l.set id.toNat true) 1 := by
  have hi := (List.getElem?_eq_some_iff.1 h).1
  have h0 := (get_some hg).1
  refine ⟨by simp, set_count h, fun j hj => (set_get hi).2 (.inr hj), (set_get hi).2 (.inl rfl), fun j hj => ?_, fun j hj => ?_⟩
  · rcases (set_get hi).1 hj with rfl | hj
    · right; rw [comes_leaf hg hl]; simp; omega
    · exact .inl hj
  · rcases (set_get hi).1 hj with rfl | hj
    · right
      intro x hx hlx
      rw [Int.toNat_of_nonneg h0, hg] at hx
      cases hx
      rw [hl] at hlx; cases hlx
    · exact .inl hj
theorem Reach.ask {st : St} (w : Wf st) {id : Int} {b : Br} {l l2 l3 : List Bool} {c2 c3 : Nat} (hg : get st id = some b) (hl : b.leaf = false) (h : l[id.toNat]? = some false)
    (h2 : Reach st b.stands (l.set id.toNat true) l2 c2) (h3 : Reach st b.fails l2 l3 c3) : Reach st id l l3 (1 + c2 + c3) := by
  have hi := (List.getElem?_eq_some_iff.1 h).1
  have h0 := (get_some hg).1
  have e : ∀ y, comes st id y = (decide (id = y) || (comes st b.stands y || comes st b.fails y)) := fun y => comes_ask w hg hl
  refine ⟨by rw [h3.len, h2.len]; simp, by rw [h3.cnt, h2.cnt, set_count h]; omega, fun j hj => h3.mono j (h2.mono j ((set_get hi).2 (.inr hj))), h3.mono _ (h2.mono _ ((set_get hi).2 (.inl rfl))), fun j hj => ?_, fun j hj => ?_⟩
  · rcases h3.fro j hj with hj | hj
    · rcases h2.fro j hj with hj | hj
      · rcases (set_get hi).1 hj with rfl | hj
        · right; rw [e]; simp; left; omega
        · exact .inl hj
      · right; rw [e, hj]; simp
    · right; rw [e, hj]; simp
  · rcases h3.closed j hj with hj | hj
    · rcases h2.closed j hj with hj | hj
      · rcases (set_get hi).1 hj with rfl | hj
        · right
          intro x hx hlx
          rw [Int.toNat_of_nonneg h0, hg] at hx
          cases hx
          exact ⟨h3.mono _ h2.here, h3.here⟩
        · exact .inl hj
      · right
        intro x hx hlx
        have := hj x hx hlx
        exact ⟨h3.mono _ this.1, h3.mono _ this.2⟩
    · exact .inr hj
theorem marks_len (l : List Bool) : ((List.range l.length).filter fun j => decide (l[j]? = some true)).length = l.count true := by
  rw [← List.reverse_reverse l]
  induction l.reverse with
  | nil => rfl
  | cons x m ih =>
    rw [List.reverse_cons]
    generalize m.reverse = k at ih
    rw [List.length_append, List.length_singleton, List.range_succ, List.filter_append, List.length_append, List.count_append, ← ih]
    have e1 : (List.range k.length).filter (fun j => decide ((k ++ [x])[j]? = some true)) = (List.range k.length).filter (fun j => decide (k[j]? = some true)) := by
      refine List.filter_congr fun j hj => ?_
      rw [List.getElem?_append_left (List.mem_range.1 hj)]
    rw [e1]
    cases x <;> simp
theorem Reach.count {st : St} (w : Wf st) {id : Int} (hid : isN st id = true) {l' : List Bool} {c : Nat} (h : Reach st id (List.replicate st.nodes.length false) l' c) : c = count st id := by
  have no : ∀ j : Nat, (List.replicate st.nodes.length false)[j]? ≠ some true := fun j hj => by
    rw [List.getElem?_replicate] at hj
    split at hj <;> simp at hj
  have h0 := isN_iff.1 hid
  have hlen : l'.length = st.nodes.length := by rw [h.len]; simp
  let L : List Int := ((List.range l'.length).filter fun j => decide (l'[j]? = some true)).map fun j : Nat => (j : Int)
  have mem : ∀ x : Int, x ∈ L ↔ 0 ≤ x ∧ l'[x.toNat]? = some true := fun x => by
    simp only [L, List.mem_map, List.mem_filter, List.mem_range, decide_eq_true_eq]
    constructor
    · rintro ⟨j, ⟨_, hj⟩, rfl⟩; exact ⟨by omega, by simpa using hj⟩
    · rintro ⟨hx, hj⟩; exact ⟨x.toNat, ⟨(List.getElem?_eq_some_iff.1 hj).1, hj⟩, by omega⟩
  have hn : L.Nodup := by
    refine List.pairwise_map.2 ((List.Pairwise.filter _ List.nodup_range).imp ?_)
    intro a b hab h; exact hab (by omega)
  have hc : ∀ x ∈ L, ∀ b, get st x = some b → b.leaf = false → b.stands ∈ L ∧ b.fails ∈ L := by
    intro x hx b hb hl
    obtain ⟨x0, xj⟩ := (mem x).1 hx
    have ha := w.ask hb hl
    have s0 := (isN_iff.1 (under_isN ha.2.2.2.2.1)).1
    have f0 := (isN_iff.1 (under_isN ha.2.2.2.2.2.1)).1
    rcases h.closed _ xj with hj | hj
    · exact (no _ hj).elim
    · rw [Int.toNat_of_nonneg x0] at hj
      have := hj b hb hl
      exact ⟨(mem _).2 ⟨s0, this.1⟩, (mem _).2 ⟨f0, this.2⟩⟩
  have hm : ∀ x, x ∈ L ↔ comes st id x = true := fun x => by
    constructor
    · intro hx
      obtain ⟨x0, xj⟩ := (mem x).1 hx
      rcases h.fro _ xj with hj | hj
      · exact (no _ hj).elim
      · rwa [Int.toNat_of_nonneg x0] at hj
    · exact closed_comes w hc id ((mem id).2 ⟨h0.1, h.here⟩)
  have hL := count_of w hn hm
  have hcl : L.length = l'.count true := by
    simp only [L, List.length_map]
    exact marks_len l'
  have := h.cnt
  rw [List.count_replicate] at this
  simp at this
  omega
end Go.Proofs.Ytchikjmhncojfaa.M
