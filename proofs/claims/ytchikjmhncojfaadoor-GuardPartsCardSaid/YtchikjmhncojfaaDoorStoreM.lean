/- Stores grow: what is there stays as it is. The plain part. Conditions: none. -/
import Derived.Test.YtchikjmhncojfaaDoorCountM
namespace Go.Proofs.YtchikjmhncojfaaDoor.M

/-- s' is s with nodes behind. -/
structure Ext (s s' : St) : Prop where
  links : s'.links = s.links
  most : s'.most = s.most
  nodes : ∃ l, s'.nodes = s.nodes ++ l
theorem Ext.refl (s : St) : Ext s s := ⟨rfl, rfl, [], by simp⟩
theorem Ext.trans {a b c : St} (h : Ext a b) (k : Ext b c) : Ext a c := by
  obtain ⟨l, hl⟩ := h.nodes
  obtain ⟨m, hm⟩ := k.nodes
  exact ⟨k.links.trans h.links, k.most.trans h.most, l ++ m, by rw [hm, hl, List.append_assoc]⟩
theorem Ext.len {s s' : St} (h : Ext s s') : s.nodes.length ≤ s'.nodes.length := by
  obtain ⟨l, hl⟩ := h.nodes
  rw [hl]; simp
theorem Ext.get {s s' : St} (h : Ext s s') {id : Int} {b : Br} (hg : get s id = some b) : M.get s' id = some b := by
  obtain ⟨l, hl⟩ := h.nodes
  obtain ⟨h0, h1, hn⟩ := get_some hg
  unfold M.get
  rw [if_neg (by omega), hl, List.getElem?_append_left h1]
  exact hn
theorem Ext.isN {s s' : St} (h : Ext s s') {id : Int} (hi : isN s id = true) : M.isN s' id = true := by
  obtain ⟨b, hb⟩ := Option.isSome_iff_exists.1 hi
  simp [M.isN, h.get hb]
theorem Ext.under {s s' : St} (h : Ext s s') {k id : Int} (hu : under s k id = true) : M.under s' k id = true := by
  obtain ⟨b, hb⟩ := Option.isSome_iff_exists.1 (under_isN hu)
  rw [under_eq (h.get hb), ← under_eq hb]
  exact hu
theorem Ext.under_eq {s s' : St} (h : Ext s s') {k id : Int} (hi : M.isN s id = true) : M.under s' k id = M.under s k id := by
  obtain ⟨b, hb⟩ := Option.isSome_iff_exists.1 hi
  rw [M.under_eq (h.get hb), ← M.under_eq hb]
theorem Ext.rank {s s' : St} (h : Ext s s') {id : Int} (hi : M.isN s id = true) : rank s' id = rank s id := by
  obtain ⟨b, hb⟩ := Option.isSome_iff_exists.1 hi
  simp only [M.rank, h.get hb, hb]

theorem idx_some {l : List Br} {b : Br} {i : Nat} (h : idx l b = some i) : l[i]? = some b := by
  unfold idx at h
  have := List.findIdx?_eq_some_iff_getElem.1 h
  obtain ⟨hlt, hd, _⟩ := this
  rw [List.getElem?_eq_getElem hlt]
  congr 1
  exact of_decide_eq_true hd
theorem idx_none {l : List Br} {b : Br} (h : idx l b = none) : b ∉ l := by
  unfold idx at h
  rw [List.findIdx?_eq_none_iff] at h
  intro hm
  have := h b hm
  simp at this
/-- what put does: it is there, there is no room, or it comes -/
theorem put_cases (s : St) (b : Br) :
    (∃ i : Nat, s.nodes[i]? = some b ∧ put s b = (s, (i : Int), 0)) ∨
    (b ∉ s.nodes ∧ s.most ≤ s.nodes.length ∧ put s b = (s, 0, 60)) ∨
    (b ∉ s.nodes ∧ s.nodes.length < s.most ∧ put s b = ({ s with nodes := s.nodes ++ [b] }, (s.nodes.length : Int), 0)) := by
  cases hi : idx s.nodes b with
  | some i => exact .inl ⟨i, idx_some hi, by simp [put, hi]⟩
  | none =>
    by_cases h : s.most ≤ s.nodes.length
    · exact .inr (.inl ⟨idx_none hi, h, by simp [put, hi, h]⟩)
    · exact .inr (.inr ⟨idx_none hi, by omega, by simp [put, hi, h]⟩)
theorem put_ext (s : St) (b : Br) : Ext s (put s b).1 := by
  rcases put_cases s b with ⟨i, _, h⟩ | ⟨_, _, h⟩ | ⟨_, _, h⟩ <;> rw [h]
  · exact Ext.refl s
  · exact Ext.refl s
  · exact ⟨rfl, rfl, [b], rfl⟩
theorem leaf_ext (s : St) (v : Int) : Ext s (leaf s v).1 := put_ext s _
theorem make_ext (s : St) (k a b : Int) : Ext s (make s k a b).1 := by
  unfold make
  split
  · split
    · exact Ext.refl s
    · exact put_ext s _
  · exact Ext.refl s

/-- may this node come? -/
def NodeOk (s : St) (b : Br) : Prop :=
  (b.leaf = true ∧ b = leafB b.value) ∨ (b.leaf = false ∧ b = askB b.link b.stands b.fails ∧ 0 ≤ b.link ∧ b.link < s.links ∧ b.stands ≠ b.fails ∧ under s b.link b.stands = true ∧ under s b.link b.fails = true)
theorem Wf.empty {links most : Nat} (h1 : links ≤ 16) (h2 : most ≤ 1073741824) : Wf ⟨links, most, []⟩ :=
  ⟨h1, h2, by simp, List.nodup_nil, by simp, by simp⟩
theorem Wf.put {s : St} (w : Wf s) {b : Br} (hb : NodeOk s b) : Wf (put s b).1 := by
  have hx := put_ext s b
  rcases put_cases s b with ⟨i, _, h⟩ | ⟨_, _, h⟩ | ⟨hn, hlt, h⟩
  · rw [h]; exact w
  · rw [h]; exact w
  · rw [h] at hx ⊢
    refine ⟨w.links, w.most, by simp; omega, ?_, ?_, ?_⟩
    · refine List.nodup_append.2 ⟨w.nodup, by simp, ?_⟩
      rintro a ha c hc rfl
      simp at hc
      exact hn (hc ▸ ha)
    · intro i x hi hl
      simp only at hi
      by_cases hlt' : i < s.nodes.length
      · rw [List.getElem?_append_left hlt'] at hi
        exact w.leafs i x hi hl
      · rw [List.getElem?_append_right (by omega)] at hi
        have hxb : x = b := by
          cases hj : i - s.nodes.length with
          | zero => rw [hj] at hi; simp at hi; exact hi.symm
          | succ j => rw [hj] at hi; simp at hi
        subst hxb
        rcases hb with hb | hb
        · exact hb.2
        · rw [hb.1] at hl; cases hl
    · intro i x hi hl
      simp only at hi
      by_cases hlt' : i < s.nodes.length
      · rw [List.getElem?_append_left hlt'] at hi
        obtain ⟨a1, a2, a3, a4, a5, a6, a7, a8⟩ := w.asks i x hi hl
        exact ⟨a1, a2, a3, a4, hx.under a5, hx.under a6, a7, a8⟩
      · rw [List.getElem?_append_right (by omega)] at hi
        have hxb : x = b := by
          cases hj : i - s.nodes.length with
          | zero => rw [hj] at hi; simp at hi; exact hi.symm
          | succ j => rw [hj] at hi; simp at hi
        subst hxb
        rcases hb with hb | hb
        · rw [hb.1] at hl; cases hl
        · obtain ⟨_, a1, a2, a3, a4, a5, a6⟩ := hb
          have i5 := (isN_iff.1 (under_isN a5)).2
          have i6 := (isN_iff.1 (under_isN a6)).2
          exact ⟨a1, a2, a3, a4, hx.under a5, hx.under a6, by omega, by omega⟩
theorem Wf.leaf {s : St} (w : Wf s) (v : Int) : Wf (leaf s v).1 := w.put (.inl ⟨rfl, rfl⟩)
theorem makeOk_iff {s : St} {k a b : Int} : makeOk s k a b = true ↔ 0 ≤ k ∧ k < s.links ∧ under s k a = true ∧ under s k b = true := by
  simp [makeOk, and_assoc]
theorem Wf.make {s : St} (w : Wf s) (k a b : Int) : Wf (make s k a b).1 := by
  unfold M.make
  split
  · rename_i h
    split
    · exact w
    · rename_i hne
      obtain ⟨h1, h2, h3, h4⟩ := makeOk_iff.1 h
      exact w.put (.inr ⟨rfl, rfl, h1, h2, hne, h3, h4⟩)
  · exact w

/-! What is there is told as it was. -/
theorem Ext.eval {s s' : St} (h : Ext s s') (w : Wf s) (w' : Wf s') (f : Int) : ∀ id, M.isN s id = true → eval s' id f = eval s id f := by
  refine w.ind fun id ih hi => ?_
  obtain ⟨b, hb⟩ := Option.isSome_iff_exists.1 hi
  cases hl : b.leaf with
  | true => rw [eval_leaf hb hl, eval_leaf (h.get hb) hl]
  | false =>
    have ha := w.ask hb hl
    rw [eval_ask w hb hl, eval_ask w' (h.get hb) hl]
    have := ih b hb hl
    unfold down
    split
    · exact this.2 (under_isN ha.2.2.2.2.2.1)
    · exact this.1 (under_isN ha.2.2.2.2.1)
theorem Ext.comes {s s' : St} (h : Ext s s') (w : Wf s) (w' : Wf s') (y : Int) : ∀ id, M.isN s id = true → comes s' id y = comes s id y := by
  refine w.ind fun id ih hi => ?_
  obtain ⟨b, hb⟩ := Option.isSome_iff_exists.1 hi
  cases hl : b.leaf with
  | true => rw [comes_leaf hb hl, comes_leaf (h.get hb) hl]
  | false =>
    have ha := w.ask hb hl
    rw [comes_ask w hb hl, comes_ask w' (h.get hb) hl]
    have := ih b hb hl
    rw [this.1 (under_isN ha.2.2.2.2.1), this.2 (under_isN ha.2.2.2.2.2.1)]
theorem Ext.count {s s' : St} (h : Ext s s') (w : Wf s) (w' : Wf s') {id : Int} (hi : M.isN s id = true) : count s' id = count s id := by
  have hn : (((List.range s.nodes.length).filter fun i => M.comes s id ((i : Nat) : Int)).map (fun i : Nat => (i : Int))).Nodup := by
    refine List.pairwise_map.2 ((List.Pairwise.filter _ List.nodup_range).imp ?_)
    intro a b hab h; exact hab (by omega)
  have := count_of w' (a := id) hn (fun x => by
    rw [h.comes w w' x id hi]
    simp only [List.mem_map, List.mem_filter, List.mem_range]
    constructor
    · rintro ⟨i, ⟨_, hc⟩, rfl⟩; exact hc
    · intro hc
      have hx := isN_iff.1 (comes_isN w id hc)
      exact ⟨x.toNat, ⟨by omega, by rw [Int.toNat_of_nonneg hx.1]; exact hc⟩, by omega⟩)
  rw [← this]
  simp [M.count]
end Go.Proofs.YtchikjmhncojfaaDoor.M
