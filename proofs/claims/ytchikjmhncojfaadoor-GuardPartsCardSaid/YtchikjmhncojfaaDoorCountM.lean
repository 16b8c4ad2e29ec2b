/- Which nodes one comes to, and how many: the plain part. Conditions: none. -/
import Derived.Test.YtchikjmhncojfaaDoorNodeM
namespace Go.Proofs.YtchikjmhncojfaaDoor.M

def comesN : Nat → St → Int → Int → Bool
  | 0, s, a, b => isN s a && decide (a = b)
  | n + 1, s, a, b =>
    match get s a with
    | none => false
    | some x => decide (a = b) || (!x.leaf && (comesN n s x.stands b || comesN n s x.fails b))
def comes (s : St) (a b : Int) : Bool := comesN 20 s a b
def count (s : St) (a : Int) : Nat := ((List.range s.nodes.length).filter fun i => comes s a ((i : Nat) : Int)).length

theorem isN_some {s : St} {id : Int} {b : Br} (h : get s id = some b) : isN s id = true := by simp [isN, h]
theorem isN_none {s : St} {id : Int} (h : get s id = none) : isN s id = false := by simp [isN, h]
theorem comesN_zero {s : St} (w : Wf s) {a b : Int} (h : rank s a = 0) : ∀ n, comesN n s a b = (isN s a && decide (a = b))
  | 0 => rfl
  | n + 1 => by
    unfold comesN
    cases hg : get s a with
    | none => simp [isN_none hg]
    | some x =>
      cases hl : x.leaf with
      | true => simp [isN_some hg, hl]
      | false =>
        rw [rank_ask hg hl] at h
        have := w.ask hg hl
        have := w.links
        omega
theorem Wf.rank_stands {s : St} (w : Wf s) {id : Int} {b : Br} (h : get s id = some b) (hl : b.leaf = false) : rank s b.stands < rank s id := by
  have ha := w.ask h hl
  have hlk := w.links
  rw [rank_ask h hl]
  exact rank_under (by omega) ha.2.2.2.2.1
theorem Wf.rank_fails {s : St} (w : Wf s) {id : Int} {b : Br} (h : get s id = some b) (hl : b.leaf = false) : rank s b.fails < rank s id := by
  have ha := w.ask h hl
  have hlk := w.links
  rw [rank_ask h hl]
  exact rank_under (by omega) ha.2.2.2.2.2.1
theorem comesN_eq {s : St} (w : Wf s) (b : Int) : ∀ (n m : Nat) (a : Int), rank s a ≤ n → rank s a ≤ m → comesN n s a b = comesN m s a b
  | 0, m, a, h, _ => (comesN_zero w (by omega) 0).trans (comesN_zero w (by omega) m).symm
  | n + 1, 0, a, _, h => (comesN_zero w (by omega) (n + 1)).trans (comesN_zero w (by omega) 0).symm
  | n + 1, m + 1, a, h1, h2 => by
    simp only [comesN]
    cases hg : get s a with
    | none => rfl
    | some x =>
      cases hl : x.leaf with
      | true => simp [hl]
      | false =>
        have hs := w.rank_stands hg hl
        have hf := w.rank_fails hg hl
        simp only [hl, Bool.not_false, Bool.true_and]
        rw [comesN_eq w b n m x.stands (by omega) (by omega), comesN_eq w b n m x.fails (by omega) (by omega)]
theorem comes_def (s : St) (a b : Int) : comes s a b = match get s a with
    | none => false
    | some x => decide (a = b) || (!x.leaf && (comesN 19 s x.stands b || comesN 19 s x.fails b)) := rfl
theorem comes_none {s : St} {a b : Int} (h : get s a = none) : comes s a b = false := by rw [comes_def, h]
theorem comes_leaf {s : St} {a b : Int} {x : Br} (h : get s a = some x) (hl : x.leaf = true) : comes s a b = decide (a = b) := by rw [comes_def, h]; simp only [hl, Bool.not_true, Bool.false_and, Bool.or_false]
theorem comes_ask {s : St} (w : Wf s) {a b : Int} {x : Br} (h : get s a = some x) (hl : x.leaf = false) : comes s a b = (decide (a = b) || (comes s x.stands b || comes s x.fails b)) := by
  have h1 : comes s a b = (decide (a = b) || (comesN 19 s x.stands b || comesN 19 s x.fails b)) := by rw [comes_def, h]; simp only [hl, Bool.not_false, Bool.true_and]
  have hs := w.rank_stands h hl
  have hf := w.rank_fails h hl
  have hr := w.rank_le a
  rw [h1, comesN_eq w b 19 20 x.stands (by omega) (by omega), comesN_eq w b 19 20 x.fails (by omega) (by omega)]
  rfl
theorem comes_self {s : St} {a : Int} (h : isN s a = true) : comes s a a = true := by
  obtain ⟨x, hx⟩ := Option.isSome_iff_exists.1 h
  rw [comes_def, hx]; simp
/-- by what hangs below -/
theorem Wf.ind {s : St} (w : Wf s) {p : Int → Prop} (h : ∀ a, (∀ x, get s a = some x → x.leaf = false → p x.stands ∧ p x.fails) → p a) : ∀ a, p a := by
  have key : ∀ n a, rank s a < n → p a := by
    intro n
    induction n with
    | zero => intro a h; omega
    | succ n ih =>
      intro a ha
      refine h a fun x hx hl => ?_
      have hs := w.rank_stands hx hl
      have hf := w.rank_fails hx hl
      exact ⟨ih _ (by omega), ih _ (by omega)⟩
  exact fun a => key _ a (Nat.lt_succ_self _)
theorem comes_isN {s : St} (w : Wf s) {b : Int} : ∀ a, comes s a b = true → isN s b = true := by
  refine w.ind fun a ih h => ?_
  cases hg : get s a with
  | none => rw [comes_none hg] at h; cases h
  | some x =>
    cases hl : x.leaf with
    | true =>
      rw [comes_leaf hg hl] at h
      have := of_decide_eq_true h
      subst this
      exact isN_some hg
    | false =>
      rw [comes_ask w hg hl] at h
      simp only [Bool.or_eq_true, decide_eq_true_eq] at h
      rcases h with h | h | h
      · subst h; exact isN_some hg
      · exact (ih x hg hl).1 h
      · exact (ih x hg hl).2 h
theorem comes_left {s : St} {a b : Int} (h : comes s a b = true) : isN s a = true := by
  cases hg : get s a with
  | none => rw [comes_none hg] at h; cases h
  | some x => exact isN_some hg
theorem comes_trans {s : St} (w : Wf s) {b c : Int} (hbc : comes s b c = true) : ∀ a, comes s a b = true → comes s a c = true := by
  refine w.ind fun a ih h => ?_
  cases hg : get s a with
  | none => rw [comes_none hg] at h; cases h
  | some x =>
    cases hl : x.leaf with
    | true =>
      rw [comes_leaf hg hl] at h
      have := of_decide_eq_true h
      subst this
      exact hbc
    | false =>
      rw [comes_ask w hg hl] at h
      simp only [Bool.or_eq_true, decide_eq_true_eq] at h
      rcases h with h | h | h
      · subst h; exact hbc
      · rw [comes_ask w hg hl, (ih x hg hl).1 h]; simp
      · rw [comes_ask w hg hl, (ih x hg hl).2 h]; simp

/-- A list without repeats that holds just the nodes to which one comes has so many. -/
theorem count_of {s : St} (w : Wf s) {a : Int} {l : List Int} (hn : l.Nodup) (hm : ∀ x, x ∈ l ↔ comes s a x = true) : l.length = count s a := by
  have hp : (l.map Int.toNat).Perm ((List.range s.nodes.length).filter fun i => comes s a ((i : Nat) : Int)) := by
    have hinj : ∀ x ∈ l, ∀ y ∈ l, x.toNat = y.toNat → x = y := by
      intro x hx y hy h
      have h1 := (isN_iff.1 (comes_isN w a ((hm x).1 hx))).1
      have h2 := (isN_iff.1 (comes_isN w a ((hm y).1 hy))).1
      omega
    have hn1 : (l.map Int.toNat).Nodup := by
      refine List.pairwise_map.2 (hn.imp_of_mem ?_)
      intro x y hx hy hne h
      exact hne (hinj x hx y hy h)
    refine (List.perm_ext_iff_of_nodup hn1 (List.Pairwise.filter _ List.nodup_range)).2 fun i => ?_
    simp only [List.mem_map, List.mem_filter, List.mem_range]
    constructor
    · rintro ⟨x, hx, rfl⟩
      have hc := (hm x).1 hx
      have hi := isN_iff.1 (comes_isN w a hc)
      refine ⟨by omega, ?_⟩
      rw [Int.toNat_of_nonneg hi.1]
      exact hc
    · rintro ⟨_, hc⟩
      exact ⟨(i : Int), (hm _).2 hc, by simp⟩
  have := hp.length_eq
  simpa [count] using this
/-- What is closed under going down holds all to which one comes. -/
theorem closed_comes {s : St} (w : Wf s) {l : List Int} (hc : ∀ x ∈ l, ∀ b, get s x = some b → b.leaf = false → b.stands ∈ l ∧ b.fails ∈ l) {y : Int} : ∀ a, a ∈ l → comes s a y = true → y ∈ l := by
  refine w.ind fun a ih ha h => ?_
  cases hg : get s a with
  | none => rw [comes_none hg] at h; cases h
  | some x =>
    cases hl : x.leaf with
    | true =>
      rw [comes_leaf hg hl] at h
      have := of_decide_eq_true h
      subst this
      exact ha
    | false =>
      have hcx := hc a ha x hg hl
      rw [comes_ask w hg hl] at h
      simp only [Bool.or_eq_true, decide_eq_true_eq] at h
      rcases h with h | h | h
      · subst h; exact ha
      · exact (ih x hg hl).1 hcx.1 h
      · exact (ih x hg hl).2 hcx.2 h

/-! ### The search: what has been seen, what is still to be looked at -/
structure Dfs (s : St) (id : Int) (sn stk : List Int) : Prop where
  nodup : sn.Nodup
  seen : ∀ x ∈ sn, comes s id x = true
  todo : ∀ x ∈ stk, isN s x = true → comes s id x = true
  kids : ∀ x ∈ sn, ∀ b, get s x = some b → b.leaf = false → (b.stands ∈ sn ∨ b.stands ∈ stk) ∧ (b.fails ∈ sn ∨ b.fails ∈ stk)
  root : isN s id = true → id ∈ sn ∨ id ∈ stk
  len : stk.length ≤ sn.length + 1
theorem Dfs.start (s : St) (id : Int) : Dfs s id [] [id] :=
  ⟨List.nodup_nil, by simp, fun x hx h => by simp at hx; subst hx; exact comes_self h, by simp, by simp, by simp⟩
theorem Dfs.lens {s : St} (w : Wf s) {id : Int} {sn stk : List Int} (h : Dfs s id sn stk) : sn.length ≤ s.nodes.length := by
  have hsub : ∀ i ∈ sn.map Int.toNat, i ∈ List.range s.nodes.length := by
    intro i hi
    obtain ⟨x, hx, rfl⟩ := List.mem_map.1 hi
    have := isN_iff.1 (comes_isN w id (h.seen x hx))
    simp; omega
  have hn1 : (sn.map Int.toNat).Nodup := by
    refine List.pairwise_map.2 (h.nodup.imp_of_mem ?_)
    intro x y hx hy hne he
    have h1 := (isN_iff.1 (comes_isN w id (h.seen x hx))).1
    have h2 := (isN_iff.1 (comes_isN w id (h.seen y hy))).1
    exact hne (by omega)
  have := hn1.length_le_of_subset hsub
  simpa using this
theorem under_is {s : St} {k id : Int} (h : under s k id = true) : isN s id = true := under_isN h
theorem Dfs.skip {s : St} (w : Wf s) {id n : Int} {sn stk : List Int} (h : Dfs s id sn (stk ++ [n])) (hn : n ∈ sn ∨ isN s n = false) : Dfs s id sn stk where
  nodup := h.nodup
  seen := h.seen
  todo := fun x hx => h.todo x (by simp [hx])
  kids := fun x hx b hb hl => by
    have := h.kids x hx b hb hl
    have ha := w.ask hb hl
    have fix : ∀ y, (y ∈ sn ∨ y ∈ stk ++ [n]) → isN s y = true → y ∈ sn ∨ y ∈ stk := by
      intro y hy hi
      simp only [List.mem_append, List.mem_singleton] at hy
      rcases hy with hy | hy | rfl
      · exact .inl hy
      · exact .inr hy
      · rcases hn with hn | hn
        · exact .inl hn
        · rw [hn] at hi; cases hi
    exact ⟨fix _ this.1 (under_is ha.2.2.2.2.1), fix _ this.2 (under_is ha.2.2.2.2.2.1)⟩
  root := fun hi => by
    rcases h.root hi with h1 | h1
    · exact .inl h1
    · simp only [List.mem_append, List.mem_singleton] at h1
      rcases h1 with h1 | h1
      · exact .inr h1
      · rcases hn with hn | hn
        · exact .inl (h1 ▸ hn)
        · rw [h1, hn] at hi; cases hi
  len := by have := h.len; simp at this; omega
theorem Dfs.take {s : St} (w : Wf s) {id n : Int} {sn stk more : List Int} (h : Dfs s id sn (stk ++ [n])) (hn : n ∉ sn) (hi : isN s n = true)
    (hk : ∀ b, get s n = some b → b.leaf = false → more = [b.stands, b.fails]) (hl : ∀ b, get s n = some b → b.leaf = true → more = []) : Dfs s id (sn ++ [n]) (stk ++ more) := by
  have hcn : comes s id n = true := h.todo n (by simp) hi
  obtain ⟨x, hx⟩ := Option.isSome_iff_exists.1 hi
  have hmore : ∀ y ∈ more, comes s n y = true := by
    intro y hy
    cases hlx : x.leaf with
    | true => rw [hl x hx hlx] at hy; simp at hy
    | false =>
      rw [hk x hx hlx] at hy
      have ha := w.ask hx hlx
      rw [comes_ask w hx hlx]
      simp at hy
      rcases hy with rfl | rfl
      · rw [comes_self (under_is ha.2.2.2.2.1)]; simp
      · rw [comes_self (under_is ha.2.2.2.2.2.1)]; simp
  refine ⟨?_, ?_, ?_, ?_, ?_, ?_⟩
  · refine List.nodup_append.2 ⟨h.nodup, by simp, ?_⟩
    rintro a ha b hb rfl
    simp at hb
    exact hn (hb ▸ ha)
  · intro y hy
    simp at hy
    rcases hy with hy | rfl
    · exact h.seen y hy
    · exact hcn
  · intro y hy hyi
    simp at hy
    rcases hy with hy | hy
    · exact h.todo y (by simp [hy]) hyi
    · exact comes_trans w (hmore y hy) id hcn
  · intro y hy b hb hlb
    simp only [List.mem_append, List.mem_singleton] at hy
    rcases hy with hy | rfl
    · have := h.kids y hy b hb hlb
      simp only [List.mem_append, List.mem_singleton] at this ⊢
      refine ⟨?_, ?_⟩
      · rcases this.1 with h1 | h1 | h1
        · exact .inl (.inl h1)
        · exact .inr (.inl h1)
        · exact .inl (.inr h1)
      · rcases this.2 with h1 | h1 | h1
        · exact .inl (.inl h1)
        · exact .inr (.inl h1)
        · exact .inl (.inr h1)
    · rw [hk b hb hlb]
      exact ⟨.inr (by simp), .inr (by simp)⟩
  · intro hid
    rcases h.root hid with h1 | h1
    · exact .inl (by simp [h1])
    · simp only [List.mem_append, List.mem_singleton] at h1
      rcases h1 with h1 | h1
      · exact .inr (by simp [h1])
      · exact .inl (by simp [h1])
  · have := h.len
    have hm2 : more.length ≤ 2 := by
      cases hlx : x.leaf with
      | true => rw [hl x hx hlx]; simp
      | false => rw [hk x hx hlx]; simp
    simp at this ⊢
    omega
theorem Dfs.done {s : St} (w : Wf s) {id : Int} {sn : List Int} (h : Dfs s id sn []) : sn.length = count s id := by
  refine count_of w h.nodup fun x => ⟨h.seen x, fun hx => ?_⟩
  have hr := h.root (comes_left hx)
  simp at hr
  exact closed_comes w (fun y hy b hb hl => by have := h.kids y hy b hb hl; simpa using this) id hr hx
end Go.Proofs.YtchikjmhncojfaaDoor.M
