/- Nodes of one store that tell the same of each set are the same. The plain part. Conditions: none. -/
import Derived.Test.YtchikjmhncojfaaDoorStoreM
namespace Go.Proofs.YtchikjmhncojfaaDoor.M

theorem has_nat (F l : Nat) : has (F : Int) (l : Int) = (decide (l < 16) && F.testBit l) := by
  unfold has
  rw [decide_eq_true (by omega : (0 : Int) ≤ (l : Int)), Bool.true_and, Int.toNat_natCast]
  congr 1
  · exact decide_eq_decide.2 (by omega)
  · rw [Nat.testBit_eq_decide_div_mod_eq]
    refine decide_eq_decide.2 ?_
    have : ((F : Int) / 2 ^ l % 2) = ((F / 2 ^ l % 2 : Nat) : Int) := by push_cast; rfl
    rw [this]
    omega
theorem has_neg {f l : Int} (h : l < 0) : has f l = false := by
  unfold has
  rw [decide_eq_false (by omega)]
  rfl
/-- one link turned to fail, or to stand -/
def turn (F k : Nat) (v : Bool) : Nat := if F.testBit k = v then F else F ^^^ 2 ^ k
theorem turn_at (F k : Nat) (v : Bool) : (turn F k v).testBit k = v := by
  unfold turn
  split
  · assumption
  · rename_i h
    rw [Nat.testBit_xor, Nat.testBit_two_pow_self]
    cases hv : v <;> cases hf : F.testBit k <;> simp_all
theorem turn_other (F k l : Nat) (v : Bool) (h : l ≠ k) : (turn F k v).testBit l = F.testBit l := by
  unfold turn
  split
  · rfl
  · rw [Nat.testBit_xor, Nat.testBit_two_pow_of_ne (Ne.symm h), Bool.xor_false]
theorem turn_lt {F k n : Nat} (v : Bool) (hF : F < 2 ^ n) (hk : k < n) : turn F k v < 2 ^ n := by
  unfold turn
  split
  · exact hF
  · exact Nat.xor_lt_two_pow hF (Nat.pow_lt_pow_right (by decide) hk)
theorem has_turn (F k : Nat) (v : Bool) (hk : k < 16) : has (turn F k v : Nat) (k : Nat) = v := by
  rw [has_nat, turn_at, decide_eq_true hk, Bool.true_and]
theorem has_turn_other (F k : Nat) (v : Bool) (l : Int) (h : l ≠ k) : has (turn F k v : Nat) l = has (F : Nat) l := by
  by_cases h0 : l < 0
  · rw [has_neg h0, has_neg h0]
  · obtain ⟨m, rfl⟩ : ∃ m : Nat, l = m := ⟨l.toNat, by omega⟩
    rw [has_nat, has_nat, turn_other _ _ _ _ (by omega)]

/-- what is under a link does not ask it, nor those above -/
theorem eval_agree {s : St} (w : Wf s) {f g : Int} : ∀ id (k : Int), under s k id = true → (∀ l, k < l → has f l = has g l) → eval s id f = eval s id g := by
  refine w.ind fun id ih k hu hh => ?_
  obtain ⟨b, hb⟩ := Option.isSome_iff_exists.1 (under_isN hu)
  cases hl : b.leaf with
  | true => rw [eval_leaf hb hl, eval_leaf hb hl]
  | false =>
    have ha := w.ask hb hl
    have hlt : k < b.link := by rw [under_eq hb, hl] at hu; simpa using hu
    rw [eval_ask w hb hl, eval_ask w hb hl]
    have := ih b hb hl
    have hd : down b f = down b g := by unfold down; rw [hh _ hlt]
    rw [← hd]
    unfold down
    split
    · exact this.2 b.link ha.2.2.2.2.2.1 (fun l h => hh l (by omega))
    · exact this.1 b.link ha.2.2.2.2.1 (fun l h => hh l (by omega))
/-- the sides of a node, by what it tells itself -/
theorem eval_stands {s : St} (w : Wf s) {id : Int} {b : Br} (hb : get s id = some b) (hl : b.leaf = false) (F : Nat) : eval s b.stands F = eval s id (turn F b.link.toNat false : Nat) := by
  have ha := w.ask hb hl
  have h16 := w.links
  rw [eval_ask w hb hl, show down b (turn F b.link.toNat false : Nat) = b.stands from ?_]
  · exact eval_agree w _ b.link ha.2.2.2.2.1 (fun l h => (has_turn_other _ _ _ _ (by omega)).symm)
  · unfold down
    have := has_turn F b.link.toNat false (by omega)
    rw [Int.toNat_of_nonneg ha.2.1] at this
    rw [this]; rfl
theorem eval_fails {s : St} (w : Wf s) {id : Int} {b : Br} (hb : get s id = some b) (hl : b.leaf = false) (F : Nat) : eval s b.fails F = eval s id (turn F b.link.toNat true : Nat) := by
  have ha := w.ask hb hl
  have h16 := w.links
  rw [eval_ask w hb hl, show down b (turn F b.link.toNat true : Nat) = b.fails from ?_]
  · exact eval_agree w _ b.link ha.2.2.2.2.2.1 (fun l h => (has_turn_other _ _ _ _ (by omega)).symm)
  · unfold down
    have := has_turn F b.link.toNat true (by omega)
    rw [Int.toNat_of_nonneg ha.2.1] at this
    rw [this]; rfl
theorem same_node {s : St} (w : Wf s) {a b : Int} {x : Br} (ha : get s a = some x) (hb : get s b = some x) : a = b := by
  obtain ⟨a0, a1, a2⟩ := get_some ha
  obtain ⟨b0, b1, b2⟩ := get_some hb
  have := (List.getElem?_inj a1 w.nodup).1 (a2.trans b2.symm)
  omega
theorem uniq {s : St} (w : Wf s) : ∀ (m : Nat) (a b : Int), rank s a ≤ m → rank s b ≤ m → isN s a = true → isN s b = true → (∀ F : Nat, F < 2 ^ s.links → eval s a F = eval s b F) → a = b := by
  intro m
  induction m with
  | zero =>
    intro a b ra rb ia ib h
    obtain ⟨x, hx⟩ := Option.isSome_iff_exists.1 ia
    obtain ⟨y, hy⟩ := Option.isSome_iff_exists.1 ib
    have leafOf : ∀ {c : Int} {z : Br}, get s c = some z → rank s c ≤ 0 → z.leaf = true := by
      intro c z hc hr
      cases hl : z.leaf with
      | true => rfl
      | false => have := w.ask hc hl; have := w.links; rw [rank_ask hc hl] at hr; omega
    have lx := leafOf hx ra
    have ly := leafOf hy rb
    have h0 := h 0 (Nat.pow_pos (by decide))
    rw [eval_leaf hx lx, eval_leaf hy ly] at h0
    have ex := w.leafs _ _ (get_some hx).2.2 lx
    have ey := w.leafs _ _ (get_some hy).2.2 ly
    have : x = y := by rw [ex, ey, h0]
    subst this
    exact same_node w hx hy
  | succ m ih =>
    -- a side that is alone with its link cannot be
    have alone : ∀ (a b : Int) (x : Br), get s a = some x → x.leaf = false → rank s a ≤ m + 1 → under s x.link b = true → (∀ F : Nat, F < 2 ^ s.links → eval s a F = eval s b F) → False := by
      intro a b x hx hl ra hu h
      have hax := w.ask hx hl
      refine hax.2.2.2.1 (ih _ _ (by have := w.rank_stands hx hl; omega) (by have := w.rank_fails hx hl; omega) (under_isN hax.2.2.2.2.1) (under_isN hax.2.2.2.2.2.1) fun F hF => ?_)
      rw [eval_stands w hx hl, eval_fails w hx hl, h _ (turn_lt _ hF (by omega)), h _ (turn_lt _ hF (by omega))]
      exact eval_agree w b x.link hu (fun l hl' => by rw [has_turn_other _ _ _ _ (by omega), has_turn_other _ _ _ _ (by omega)])
    intro a b ra rb ia ib h
    obtain ⟨x, hx⟩ := Option.isSome_iff_exists.1 ia
    obtain ⟨y, hy⟩ := Option.isSome_iff_exists.1 ib
    cases lx : x.leaf with
    | true =>
      cases ly : y.leaf with
      | true =>
        have h0 := h 0 (Nat.pow_pos (by decide))
        rw [eval_leaf hx lx, eval_leaf hy ly] at h0
        have ex := w.leafs _ _ (get_some hx).2.2 lx
        have ey := w.leafs _ _ (get_some hy).2.2 ly
        have : x = y := by rw [ex, ey, h0]
        subst this
        exact same_node w hx hy
      | false => exact (alone b a y hy ly rb (by rw [under_eq hx, lx]; rfl) (fun F hF => (h F hF).symm)).elim
    | false =>
      cases ly : y.leaf with
      | true => exact (alone a b x hx lx ra (by rw [under_eq hy, ly]; rfl) h).elim
      | false =>
        have ax := w.ask hx lx
        have ay := w.ask hy ly
        rcases Int.lt_trichotomy x.link y.link with hlt | heq | hgt
        · exact (alone a b x hx lx ra (by rw [under_eq hy, ly]; simpa using hlt) h).elim
        · have e1 : x.stands = y.stands := ih _ _ (by have := w.rank_stands hx lx; omega) (by have := w.rank_stands hy ly; omega) (under_isN ax.2.2.2.2.1) (under_isN ay.2.2.2.2.1) fun F hF => by
            rw [eval_stands w hx lx, eval_stands w hy ly, heq, h _ (turn_lt _ hF (by omega))]
          have e2 : x.fails = y.fails := ih _ _ (by have := w.rank_fails hx lx; omega) (by have := w.rank_fails hy ly; omega) (under_isN ax.2.2.2.2.2.1) (under_isN ay.2.2.2.2.2.1) fun F hF => by
            rw [eval_fails w hx lx, eval_fails w hy ly, heq, h _ (turn_lt _ hF (by omega))]
          have : x = y := by rw [ax.1, ay.1, heq, e1, e2]
          subst this
          exact same_node w hx hy
        · exact (alone b a y hy ly rb (by rw [under_eq hx, lx]; simpa using hgt) (fun F hF => (h F hF).symm)).elim
theorem unique {s : St} (w : Wf s) {a b : Int} (ia : isN s a = true) (ib : isN s b = true) (h : ∀ F : Nat, F < 2 ^ s.links → eval s a F = eval s b F) : a = b :=
  uniq w (max (rank s a) (rank s b)) a b (Nat.le_max_left _ _) (Nat.le_max_right _ _) ia ib h
end Go.Proofs.YtchikjmhncojfaaDoor.M
