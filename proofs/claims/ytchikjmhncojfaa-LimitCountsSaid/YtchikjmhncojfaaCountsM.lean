/- Counting the sets of which a diagram tells a number; AtMost in a smaller room: the plain part of LimitCounts. Conditions: none. -/
import Derived.Test.YtchikjmhncojfaaSetsM
namespace Go.Proofs.Ytchikjmhncojfaa.M
theorem AtM.comes {s : St} {k m : Int} {s' : St} {i e : Int} (h : AtM s k m s' i e) : Wf s → 0 ≤ k → k ≤ 16 → e = 0 → ∀ j, isN s' j = true → isN s j = false → comes s' i j = true := by
  have leafish : ∀ {s s' : St} {v i e : Int}, Wf s → leaf s v = (s', i, e) → e = 0 → ∀ j, isN s' j = true → isN s j = false → M.comes s' i j = true := by
    intro s s' v i e w h he j hj hn
    have : i = j := by
      unfold leaf at h
      rcases put_cases s (leafB v) with ⟨k, hk, hp⟩ | ⟨_, hge, hp⟩ | ⟨_, _, hp⟩ <;> rw [h] at hp <;> cases hp
      · rw [hn] at hj; cases hj
      · cases he
      · have h1 := isN_iff.1 hj
        have h2 : ¬(0 ≤ j ∧ j < s.nodes.length) := fun hh => by rw [isN_iff.2 hh] at hn; cases hn
        simp at h1
        omega
    subst this
    exact comes_self hj
  induction h with
  | zero hm h => intro w _ _ he; exact leafish w h he
  | one hm hk h => intro w _ _ he; exact leafish w h he
  | err1 hm hk h1 he ih => intro _ _ _ h; exact (he h).elim
  | err2 hm hk h1 h2 he ih1 ih2 => intro _ _ _ h; exact (he h).elim
  | @ask s k m s1 i1 s2 i2 s3 i3 e3 hm hk h1 h2 h3 ih1 ih2 =>
    intro w h0 h16 he j hj hn
    subst he
    have hl := w.links
    have g1 := h1.good w (by omega) (by omega)
    have g2 := h2.good g1.wf (by omega) (by omega)
    have n1 := g2.ext.isN (g1.here rfl)
    have n2 := g2.here rfl
    have l1 := g1.link rfl
    have l2 := g2.link rfl
    rw [← g2.ext.lnk (g1.here rfl)] at l1
    have ok : makeOk s2 k i1 i2 = true := makeOk_iff.2 ⟨h0, by rw [g2.ext.links, g1.ext.links]; omega, under_lnk n1 (by omega), under_lnk n2 (by omega)⟩
    obtain ⟨w3, x3, hh⟩ := make_case g2.wf ok h3
    have hh' : (i1 = i2 ∧ i3 = i1 ∧ s3 = s2) ∨ (i1 ≠ i2 ∧ get s3 i3 = some (askB k i1 i2)) := by
      rcases hh with ⟨h0, _⟩ | ⟨_, hh⟩
      · cases h0
      · exact hh
    have down1 : ∀ j, M.comes s2 i1 j = true → M.comes s3 i3 j = true := by
      intro j hj
      rcases hh' with ⟨_, rfl, rfl⟩ | ⟨_, hg⟩
      · exact hj
      · rw [comes_ask w3 hg rfl]
        show (_ || (M.comes s3 i1 j || M.comes s3 i2 j)) = true
        rw [x3.comes g2.wf w3 _ _ n1, hj]; simp
    have down2 : ∀ j, M.comes s2 i2 j = true → M.comes s3 i3 j = true := by
      intro j hj
      rcases hh' with ⟨rfl, rfl, rfl⟩ | ⟨_, hg⟩
      · exact hj
      · rw [comes_ask w3 hg rfl]
        show (_ || (M.comes s3 i1 j || M.comes s3 i2 j)) = true
        rw [x3.comes g2.wf w3 _ _ n2, hj]; simp
    cases hj2 : isN s2 j with
    | false =>
      have : i3 = j := by
        unfold make at h3
        rw [if_pos ok] at h3
        split at h3
        · cases h3; rw [hj2] at hj; cases hj
        · rcases put_cases s2 (askB k i1 i2) with ⟨q, hk, hp⟩ | ⟨_, hge, hp⟩ | ⟨_, _, hp⟩
          · rw [h3] at hp; cases hp; rw [hj2] at hj; cases hj
          · rw [h3] at hp; cases hp
          · rw [h3] at hp; cases hp
            have h1 := isN_iff.1 hj
            have h2 : ¬(0 ≤ j ∧ j < s2.nodes.length) := fun hh => by rw [isN_iff.2 hh] at hj2; cases hj2
            simp at h1
            omega
      subst this
      exact comes_self hj
    | true =>
      cases hj1 : isN s1 j with
      | false => exact down2 j (ih2 g1.wf (by omega) (by omega) rfl j hj2 hj1)
      | true =>
        refine down1 j ?_
        rw [g2.ext.comes g1.wf g2.wf _ _ (g1.here rfl)]
        exact ih1 w (by omega) (by omega) rfl j hj1 hn
theorem AtM.sim {s : St} {k q : Int} {s' : St} {i e : Int} (h : AtM s k q s' i e) : Wf s → 0 ≤ k → k ≤ 16 → e = 0 → ∀ m, s.nodes.length ≤ m →
    (s'.nodes.length ≤ m → AtM (s.room m) k q (s'.room m) i 0) ∧ (m < s'.nodes.length → ∃ t, AtM (s.room m) k q t 0 60 ∧ t.nodes.length = m) := by
  induction h with
  | @zero s k m' s' i e hm h =>
    intro w h0 h16 he m hmm
    subst he
    have p := put_sim h hmm
    exact ⟨fun hh => .zero hm (p.1 hh), fun hh => ⟨s.room m, .zero hm (p.2 hh).1, (p.2 hh).2⟩⟩
  | @one s k m' s' i e hm hk h =>
    intro w h0 h16 he m hmm
    subst he
    have p := put_sim h hmm
    exact ⟨fun hh => .one hm hk (p.1 hh), fun hh => ⟨s.room m, .one hm hk (p.2 hh).1, (p.2 hh).2⟩⟩
  | err1 hm hk h1 he ih => intro _ _ _ h; exact (he h).elim
  | err2 hm hk h1 h2 he ih1 ih2 => intro _ _ _ h; exact (he h).elim
  | @ask s k m' s1 i1 s2 i2 s3 i3 e3 hm hk h1 h2 h3 ih1 ih2 =>
    intro w h0 h16 he m hmm
    subst he
    have hl := w.links
    have g1 := h1.good w (by omega) (by omega)
    have g2 := h2.good g1.wf (by omega) (by omega)
    have x3 := make_ext s2 k i1 i2
    rw [h3] at x3
    have q1 := g1.ext.len
    have q2 := g2.ext.len
    have q3 : s2.nodes.length ≤ s3.nodes.length := x3.len
    have k1 := ih1 w (by omega) (by omega) rfl m hmm
    by_cases m1 : s1.nodes.length ≤ m
    · have k2 := ih2 g1.wf (by omega) (by omega) rfl m m1
      by_cases m2 : s2.nodes.length ≤ m
      · have k3 := make_sim h3 m2
        exact ⟨fun hh => .ask hm hk (k1.1 m1) (k2.1 m2) (k3.1 hh), fun hh => ⟨s2.room m, .ask hm hk (k1.1 m1) (k2.1 m2) (k3.2 hh).1, (k3.2 hh).2⟩⟩
      · refine ⟨fun hh => by omega, fun hh => ?_⟩
        obtain ⟨t, ht, hl⟩ := k2.2 (by omega)
        exact ⟨t, .err2 hm hk (k1.1 m1) ht (by decide), hl⟩
    · refine ⟨fun hh => by omega, fun hh => ?_⟩
      obtain ⟨t, ht, hl⟩ := k1.2 (by omega)
      exact ⟨t, .err1 hm hk ht (by decide), hl⟩
theorem count_all {s : St} {a : Int} (h : ∀ j, isN s j = true → comes s a j = true) : count s a = s.nodes.length := by
  unfold count
  rw [List.filter_eq_self.2, List.length_range]
  intro i hi
  rw [List.mem_range] at hi
  exact h i (isN_iff.2 ⟨by omega, by omega⟩)

/-- of how many sets of at most q links, of d from k on, a node tells v -/
def pcN : Nat → St → Int → Int → Int → Int → Int
  | 0, s, v, id, _, q => if q < 0 then 0 else if (getZ s id).leaf then (if (getZ s id).value = v then cz 0 q else 0) else 0
  | d + 1, s, v, id, k, q => if q < 0 then 0 else if (getZ s id).leaf then (if (getZ s id).value = v then cz (d + 1) q else 0)
      else pcN d s v (sideOf s id k false) (k + 1) q + pcN d s v (sideOf s id k true) (k + 1) (q - 1)
theorem cz_le : ∀ (d : Nat) (j : Int), cz d j ≤ 2 ^ d
  | 0, j => by unfold cz; split <;> decide
  | d + 1, j => by
    have h1 := cz_le d j
    have h2 := cz_le d (j - 1)
    have e : cz (d + 1) j = cz d j + cz d (j - 1) := rfl
    have p : (2 : Int) ^ (d + 1) = 2 ^ d * 2 := Int.pow_succ 2 d
    omega
theorem pcN_range (s : St) (v : Int) : ∀ (d : Nat) (id k q : Int), 0 ≤ pcN d s v id k q ∧ pcN d s v id k q ≤ 2 ^ d
  | 0, id, k, q => by
    unfold pcN
    split
    · decide
    · split
      · split
        · exact ⟨cz_nonneg 0 q, cz_le 0 q⟩
        · decide
      · decide
  | d + 1, id, k, q => by
    have hp : (0 : Int) < 2 ^ d := Int.pow_pos (by decide)
    have p : (2 : Int) ^ (d + 1) = 2 ^ d * 2 := Int.pow_succ 2 d
    unfold pcN
    split
    · omega
    · split
      · split
        · exact ⟨cz_nonneg _ q, cz_le _ q⟩
        · omega
      · have h1 := pcN_range s v d (sideOf s id k false) (k + 1) q
        have h2 := pcN_range s v d (sideOf s id k true) (k + 1) (q - 1)
        omega
theorem popF_low (t : Nat) : ∀ (d j : Nat), j + d ≤ 16 → popF (2 ^ t - 1) (j : Int) d = (min (t - j) d : Nat)
  | 0, j, _ => by simp [popF]
  | d + 1, j, h => by
    rw [popF_succ]
    have ih := popF_low t d (j + 1) (by omega)
    rw [show ((j : Int) + 1) = ((j + 1 : Nat) : Int) by push_cast; rfl, ih, has_nat, Nat.testBit_two_pow_sub_one]
    by_cases hj : j < t
    · simp only [decide_eq_true hj, decide_eq_true (show j < 16 by omega), Bool.and_self, if_true]
      omega
    · simp only [decide_eq_false hj, Bool.and_false, Bool.false_eq_true, if_false]
      omega
theorem pc_at {s : St} (w : Wf s) : ∀ (d : Nat) {k : Nat} {r m : Int}, k + d = s.links → isN s r = true → (k : Int) ≤ lnk s r → (∀ F : Nat, eval s r F = atf k d m F) →
    ∀ q : Int, pcN d s 1 r k q = cz d (min m q) ∧ (q ≤ m → pcN d s 0 r k q = 0) := by
  intro d
  induction d with
  | zero =>
    intro k r m hkd hr hlk ht q
    have hl := w.links
    have rr := lnk_range w hr
    obtain ⟨b, hb⟩ := isN_get hr
    have hleaf : b.leaf = true := lnk_16 w hb (by omega)
    have hv : b.value = atf k 0 m 0 := by rw [← ht 0, eval_leaf hb hleaf]
    have hat : atf (k : Int) 0 m 0 = if 0 ≤ m then 1 else 0 := rfl
    unfold pcN
    rw [getZ_eq hb, hleaf, hv, hat]
    by_cases hq : q < 0
    · rw [if_pos hq, cz_neg 0 (by omega)]; exact ⟨rfl, fun _ => by rw [if_pos hq]⟩
    · rw [if_neg hq]
      by_cases hm : 0 ≤ m
      · rw [if_pos hm]
        refine ⟨?_, fun _ => by simp⟩
        simp only [if_true]
        unfold cz
        rw [if_neg hq, if_neg (by omega)]
      · rw [if_neg hm, cz_neg 0 (j := min m q) (by omega)]
        exact ⟨by simp, fun h => by omega⟩
  | succ d ih =>
    intro k r m hkd hr hlk ht q
    have hl := w.links
    have rr := lnk_range w hr
    obtain ⟨b, hb⟩ := isN_get hr
    unfold pcN
    rw [getZ_eq hb]
    by_cases hq : q < 0
    · rw [if_pos hq, cz_neg (d + 1) (by omega)]; exact ⟨rfl, fun _ => by rw [if_pos hq]⟩
    · rw [if_neg hq]
      cases hleaf : b.leaf with
      | true =>
        have hv : ∀ F : Nat, b.value = atf k (d + 1) m F := fun F => by rw [← ht F, eval_leaf hb hleaf]
        simp only [if_true]
        by_cases hm : 0 ≤ m
        · have h0 : popF 0 (k : Int) (d + 1) = 0 := popF_none 0 _ _ fun l h1 h2 => by
            obtain ⟨j, rfl⟩ : ∃ j : Nat, l = j := ⟨l.toNat, by omega⟩
            rw [has_nat]; simp
          have hv1 : b.value = 1 := by rw [hv 0]; unfold atf; rw [h0, if_pos hm]
          have hfull := hv (2 ^ (k + (d + 1)) - 1)
          rw [hv1] at hfull
          have hp := popF_low (k + (d + 1)) (d + 1) k (by omega)
          have hdm : ((d + 1 : Nat) : Int) ≤ m := by
            unfold atf at hfull
            rw [hp] at hfull
            split at hfull
            · omega
            · cases hfull
          rw [hv1]
          refine ⟨?_, fun _ => by simp⟩
          simp only [if_true]
          by_cases hqm : q ≤ m
          · rw [Int.min_eq_right hqm]
          · rw [Int.min_eq_left (by omega), cz_all (d + 1) (j := q) (by omega), cz_all (d + 1) hdm]
        · have hv0 : b.value = 0 := by
            rw [hv 0]; unfold atf; have := popF_lo 0 (d + 1) k; rw [if_neg (by omega)]
          rw [hv0, cz_neg (d + 1) (j := min m q) (by omega)]
          exact ⟨by simp, fun h => by omega⟩
      | false =>
        simp only [Bool.false_eq_true, if_false, if_neg hq]
        have hlt : lnk s r < 16 := by
          rw [lnk_ask hb hleaf]
          have := w.ask hb hleaf
          omega
        have hlr := rr.2.2 hlt
        have sr := fun v => side_lnk w hr hlk (by omega) v
        have ev : ∀ v (F : Nat), eval s (sideOf s r k v) F = atf ((k + 1 : Nat) : Int) d (if v then m - 1 else m) F := by
          intro v F
          rw [eval_side w hr (by omega) hlk (by omega), ht, atf_step]
          have hh : has (turnI F k v : Nat) k = v := by
            have := has_turn F k v (by omega)
            unfold turnI
            rw [Int.toNat_natCast]
            exact this
          have hp : ∀ q, atf ((k : Int) + 1) d q (turnI F k v) = atf ((k : Int) + 1) d q F := fun q => by
            unfold atf turnI; rw [Int.toNat_natCast, popF_turn F k v _ _ (by omega)]
          rw [hh, show (((k + 1 : Nat) : Int)) = (k : Int) + 1 by push_cast; rfl]
          cases v with
          | true => simp only [if_true]; exact hp _
          | false => simp only [Bool.false_eq_true, if_false]; exact hp _
        have e1 : ((k : Int) + 1) = ((k + 1 : Nat) : Int) := by push_cast; rfl
        have c1 := ih (k := k + 1) (m := m) (by omega) (sr false).1 (by have := (sr false).2; omega) (ev false) q
        have c2 := ih (k := k + 1) (m := m - 1) (by omega) (sr true).1 (by have := (sr true).2; omega) (ev true) (q - 1)
        rw [e1]
        refine ⟨?_, fun h => by rw [c1.2 h, c2.2 (by omega)]; rfl⟩
        rw [c1.1, c2.1]
        show _ = cz d (min m q) + cz d (min m q - 1)
        congr 2
        omega
end Go.Proofs.Ytchikjmhncojfaa.M
