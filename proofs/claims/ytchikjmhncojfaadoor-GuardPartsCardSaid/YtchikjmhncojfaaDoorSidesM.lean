/- What make makes: the plain part of NodeSides. Conditions: none. -/
import Derived.Test.YtchikjmhncojfaaDoorUniqM
namespace Go.Proofs.YtchikjmhncojfaaDoor.M
theorem count_le (s : St) (a : Int) : count s a ≤ s.nodes.length := by
  unfold count
  have := List.length_filter_le (fun i => comes s a ((i : Nat) : Int)) (List.range s.nodes.length)
  simpa using this
theorem count_eq (s : St) (a : Int) : count s a = ((List.range s.nodes.length).filter fun i => comes s a ((i : Nat) : Int)).length := rfl
theorem filter_or_le {α : Type} (p q : α → Bool) : ∀ l : List α, (l.filter fun i => p i || q i).length ≤ (l.filter p).length + (l.filter q).length
  | [] => by simp
  | x :: l => by
    have := filter_or_le p q l
    simp only [List.filter_cons]
    cases p x <;> cases q x <;> simp <;> omega
theorem filter_imp_le {α : Type} {p q : α → Bool} (h : ∀ x, p x = true → q x = true) : ∀ l : List α, (l.filter p).length ≤ (l.filter q).length
  | [] => by simp
  | x :: l => by
    have := filter_imp_le h l
    simp only [List.filter_cons]
    cases hp : p x
    · cases q x <;> simp <;> omega
    · rw [h x hp]; simp; omega
theorem filter_one_le (k : Int) : ∀ n : Nat, ((List.range n).filter fun i : Nat => decide (k = (i : Int))).length ≤ 1
  | n => by
    have : (List.range n).filter (fun i : Nat => decide (k = (i : Int))) = (List.range n).filter (fun i : Nat => decide (0 ≤ k) && (i == k.toNat)) := by
      refine List.filter_congr fun i _ => ?_
      rw [Bool.eq_iff_iff]
      simp only [decide_eq_true_eq, Bool.and_eq_true, beq_iff_eq]
      omega
    rw [this]
    by_cases h : 0 ≤ k
    · simp only [h, decide_true, Bool.true_and]
      have h1 := List.count_eq_length_filter (a := k.toNat) (l := List.range n)
      rw [← h1]
      exact List.nodup_iff_count.1 List.nodup_range _
    · rw [decide_eq_false h]; simp only [Bool.false_and]; rw [List.filter_eq_nil_iff.2 (by simp)]; simp
theorem count_mono {s : St} {a b : Int} (h : ∀ y, comes s a y = true → comes s b y = true) : count s a ≤ count s b :=
  filter_imp_le (p := fun i : Nat => comes s a (i : Int)) (q := fun i : Nat => comes s b (i : Int)) (fun i hi => h i hi) _
theorem count_ask {s : St} (w : Wf s) {k : Int} {x : Br} (hk : get s k = some x) (hl : x.leaf = false) :
    count s k ≤ count s x.stands + count s x.fails + 1 ∧ count s x.stands ≤ count s k ∧ count s x.fails ≤ count s k := by
  have e : ∀ y, comes s k y = (decide (k = y) || (comes s x.stands y || comes s x.fails y)) := fun y => comes_ask w hk hl
  refine ⟨?_, count_mono fun y hy => ?_, count_mono fun y hy => ?_⟩
  · have h1 : count s k = ((List.range s.nodes.length).filter fun i => decide (k = ((i : Nat) : Int)) || (comes s x.stands ((i : Nat) : Int) || comes s x.fails ((i : Nat) : Int))).length := by
      unfold count
      congr 1
      exact List.filter_congr fun i _ => e i
    rw [h1]
    have a1 := filter_or_le (fun i : Nat => decide (k = (i : Int))) (fun i : Nat => comes s x.stands (i : Int) || comes s x.fails (i : Int)) (List.range s.nodes.length)
    have a2 := filter_or_le (fun i : Nat => comes s x.stands (i : Int)) (fun i : Nat => comes s x.fails (i : Int)) (List.range s.nodes.length)
    have a3 := filter_one_le k s.nodes.length
    have a4 := count_eq s x.stands
    have a5 := count_eq s x.fails
    omega
  · rw [e, hy]; simp
  · rw [e, hy]; simp
theorem make_bad {s : St} {k a b : Int} (h : makeOk s k a b = false) : make s k a b = (s, 0, 1) := by simp [make, h]
theorem make_good {s : St} (w : Wf s) {k a b : Int} (h : makeOk s k a b = true) (hr : s.nodes.length < s.most) :
    ∃ s' id, make s k a b = (s', id, 0) ∧ Wf s' ∧ Ext s s' ∧ isN s' id = true ∧ s'.nodes.length ≤ s.nodes.length + 1 ∧ ((a = b ∧ id = a) ∨ (a ≠ b ∧ get s' id = some (askB k a b))) := by
  have hw := w.make k a b
  have hx := make_ext s k a b
  have hu := (makeOk_iff.1 h).2.2.1
  unfold make at *
  rw [if_pos h] at hw hx ⊢
  by_cases hab : a = b
  · rw [if_pos hab]
    exact ⟨s, a, rfl, w, Ext.refl s, under_isN hu, by omega, .inl ⟨hab, rfl⟩⟩
  · rw [if_neg hab] at hw hx ⊢
    rcases put_cases s (askB k a b) with ⟨i, hi, h⟩ | ⟨_, hge, h⟩ | ⟨_, _, h⟩
    · rw [h] at hw hx ⊢
      exact ⟨s, i, rfl, w, hx, isN_iff.2 ⟨Int.natCast_nonneg i, by have := (List.getElem?_eq_some_iff.1 hi).1; omega⟩, by omega, .inr ⟨hab, by rw [get_nat]; exact hi⟩⟩
    · omega
    · rw [h] at hw hx ⊢
      refine ⟨_, _, rfl, hw, hx, isN_iff.2 ⟨Int.natCast_nonneg _, by simp only [List.length_append, List.length_cons, List.length_nil]; omega⟩, by simp, .inr ⟨hab, ?_⟩⟩
      rw [get_nat]; simp
theorem has0 (f : Int) : has f 0 = decide (f % 2 = 1) := by
  unfold has
  simp
/-- the law -/
theorem sides {s : St} (w : Wf s) {a b f : Int} (h : makeOk s 0 a b = true) (hr : s.nodes.length < s.most) :
    ∃ s' k, make s 0 a b = (s', k, 0) ∧ Wf s' ∧ Ext s s' ∧ s'.nodes.length ≤ s.nodes.length + 1 ∧
      eval s' k f = (if f % 2 = 1 then eval s' b f else eval s' a f) ∧ count s' k ≤ count s' a + count s' b + 1 ∧ count s' a ≤ count s' k ∧ count s' b ≤ count s' k ∧ (a ≠ b ∨ k = a) := by
  obtain ⟨s', k, hm, w', hx, hk, hl, hc⟩ := make_good w h hr
  refine ⟨s', k, hm, w', hx, hl, ?_⟩
  rcases hc with ⟨rfl, rfl⟩ | ⟨hne, hg⟩
  · exact ⟨by split <;> rfl, by omega, by omega, by omega, .inr rfl⟩
  · have hc := count_ask w' hg rfl
    refine ⟨?_, hc.1, hc.2.1, hc.2.2, .inl hne⟩
    rw [eval_ask w' hg rfl]
    unfold down
    show eval s' (if has f 0 = true then b else a) f = _
    rw [has0 f]
    by_cases hf : f % 2 = 1
    · rw [if_pos (by simpa using hf), if_pos hf]
    · rw [if_neg (by simpa using hf), if_neg hf]
end Go.Proofs.YtchikjmhncojfaaDoor.M
