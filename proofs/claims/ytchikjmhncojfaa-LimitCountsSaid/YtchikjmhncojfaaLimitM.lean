/- The diagram of small sets: the plain part of layer 16. Conditions: none. -/
import Derived.Test.YtchikjmhncojfaaTellM
namespace Go.Proofs.Ytchikjmhncojfaa.M
/-- how many links fail, of d from k on -/
def popF (F : Nat) : Int → Nat → Int
  | _, 0 => 0
  | k, d + 1 => (if has (F : Nat) k then 1 else 0) + popF F (k + 1) d
theorem popF_lo (F : Nat) : ∀ (d : Nat) (k : Int), 0 ≤ popF F k d
  | 0, _ => by simp [popF]
  | d + 1, k => by have := popF_lo F d (k + 1); unfold popF; split <;> omega
theorem popF_hi (F : Nat) : ∀ (d : Nat) (k : Int), popF F k d ≤ d
  | 0, _ => by simp [popF]
  | d + 1, k => by have := popF_hi F d (k + 1); unfold popF; split <;> omega
/-- 1 of sets of at most m links, of d from k on -/
def atf (k : Int) (d : Nat) (m : Int) (F : Nat) : Int := if popF F k d ≤ m then 1 else 0
theorem atf_or (k : Int) (d : Nat) (m : Int) (F : Nat) : atf k d m F = 0 ∨ atf k d m F = 1 := by unfold atf; split <;> simp
theorem popF_succ (F : Nat) (k : Int) (d : Nat) : popF F k (d + 1) = (if has (F : Nat) k then 1 else 0) + popF F (k + 1) d := rfl
theorem atf_step (k : Int) (d : Nat) (m : Int) (F : Nat) : atf k (d + 1) m F = if has (F : Nat) k then atf (k + 1) d (m - 1) F else atf (k + 1) d m F := by
  unfold atf
  rw [popF_succ]
  cases h : has (F : Nat) k with
  | true =>
    simp only [if_true]
    by_cases hp : popF F (k + 1) d ≤ m - 1
    · rw [if_pos hp, if_pos (by omega)]
    · rw [if_neg hp, if_neg (by omega)]
  | false =>
    simp only [Bool.false_eq_true, if_false]
    by_cases hp : popF F (k + 1) d ≤ m
    · rw [if_pos hp, if_pos (by omega)]
    · rw [if_neg hp, if_neg (by omega)]
theorem popF_turn (F : Nat) (j : Nat) (v : Bool) : ∀ (d : Nat) (k : Int), (j : Int) < k → popF (turn F j v) k d = popF F k d
  | 0, _, _ => rfl
  | d + 1, k, h => by
    unfold popF
    rw [has_turn_other F j v k (by omega), popF_turn F j v d (k + 1) (by omega)]
inductive AtM : St → Int → Int → St → Int → Int → Prop
  | zero {s k m s' i e} (hm : m < 0) (h : leaf s 0 = (s', i, e)) : AtM s k m s' i e
  | one {s k m s' i e} (hm : 0 ≤ m) (hk : (s.links : Int) - k ≤ m) (h : leaf s 1 = (s', i, e)) : AtM s k m s' i e
  | err1 {s k m s1 i e} (hm : 0 ≤ m) (hk : m < (s.links : Int) - k) (h1 : AtM s (k + 1) m s1 i e) (he : e ≠ 0) : AtM s k m s1 0 e
  | err2 {s k m s1 i1 s2 i e} (hm : 0 ≤ m) (hk : m < (s.links : Int) - k) (h1 : AtM s (k + 1) m s1 i1 0) (h2 : AtM s1 (k + 1) (m - 1) s2 i e) (he : e ≠ 0) : AtM s k m s2 0 e
  | ask {s k m s1 i1 s2 i2 s3 i3 e3} (hm : 0 ≤ m) (hk : m < (s.links : Int) - k) (h1 : AtM s (k + 1) m s1 i1 0) (h2 : AtM s1 (k + 1) (m - 1) s2 i2 0) (h3 : make s2 k i1 i2 = (s3, i3, e3)) : AtM s k m s3 i3 e3
/-- how deep it goes -/
def deep (s : St) (k : Int) : Nat := ((s.links : Int) - k).toNat
structure GoodM (s : St) (k m : Int) (s' : St) (i e : Int) : Prop where
  wf : Wf s'
  ext : Ext s s'
  err : e = 0 ∨ (e = 60 ∧ i = 0 ∧ s'.nodes.length = s'.most)
  here : e = 0 → isN s' i = true
  link : e = 0 → k ≤ lnk s' i
  tells : e = 0 → Tells s' i (atf k (deep s k) m)
theorem deep_succ {s : St} {k : Int} (h : 0 < (s.links : Int) - k) : deep s k = deep s (k + 1) + 1 := by unfold deep; omega
theorem AtM.good {s : St} {k m : Int} {s' : St} {i e : Int} (h : AtM s k m s' i e) : Wf s → 0 ≤ k → k ≤ 16 → GoodM s k m s' i e := by
  induction h with
  | @zero s k m s' i e hm h =>
    intro w h0 h16
    obtain ⟨w', x, hh⟩ := leaf_case w h
    rcases hh with ⟨rfl, rfl, rfl, hf⟩ | ⟨rfl, hg⟩
    · exact ⟨w', x, .inr ⟨rfl, rfl, hf⟩, fun h => by simp at h, fun h => by simp at h, fun h => by simp at h⟩
    · refine ⟨w', x, .inl rfl, fun _ => isN_some hg, fun _ => by rw [lnk_leaf hg rfl]; exact h16, fun _ => ⟨isN_some hg, fun F => ?_⟩⟩
      rw [eval_leaf hg rfl]
      have := popF_lo F (deep s k) k
      unfold atf; rw [if_neg (by omega)]; rfl
  | @one s k m s' i e hm hk h =>
    intro w h0 h16
    obtain ⟨w', x, hh⟩ := leaf_case w h
    rcases hh with ⟨rfl, rfl, rfl, hf⟩ | ⟨rfl, hg⟩
    · exact ⟨w', x, .inr ⟨rfl, rfl, hf⟩, fun h => by simp at h, fun h => by simp at h, fun h => by simp at h⟩
    · refine ⟨w', x, .inl rfl, fun _ => isN_some hg, fun _ => by rw [lnk_leaf hg rfl]; exact h16, fun _ => ⟨isN_some hg, fun F => ?_⟩⟩
      rw [eval_leaf hg rfl]
      have := popF_hi F (deep s k) k
      unfold atf; rw [if_pos (by unfold deep at *; omega)]; rfl
  | @err1 s k m s1 i e hm hk h1 he ih =>
    intro w h0 h16
    have hl := w.links
    have g := ih w (by omega) (by omega)
    refine ⟨g.wf, g.ext, .inr ?_, fun h => (he h).elim, fun h => (he h).elim, fun h => (he h).elim⟩
    rcases g.err with h | h
    · exact (he h).elim
    · exact ⟨h.1, rfl, h.2.2⟩
  | @err2 s k m s1 i1 s2 i e hm hk h1 h2 he ih1 ih2 =>
    intro w h0 h16
    have hl := w.links
    have g1 := ih1 w (by omega) (by omega)
    have g := ih2 g1.wf (by omega) (by omega)
    refine ⟨g.wf, g1.ext.trans g.ext, .inr ?_, fun h => (he h).elim, fun h => (he h).elim, fun h => (he h).elim⟩
    rcases g.err with h | h
    · exact (he h).elim
    · exact ⟨h.1, rfl, h.2.2⟩
  | @ask s k m s1 i1 s2 i2 s3 i3 e3 hm hk h1 h2 h3 ih1 ih2 =>
    intro w h0 h16
    have hl := w.links
    have g1 := ih1 w (by omega) (by omega)
    have g2 := ih2 g1.wf (by omega) (by omega)
    have n1 := g2.ext.isN (g1.here rfl)
    have n2 := g2.here rfl
    have l1 := g1.link rfl
    have l2 := g2.link rfl
    rw [← g2.ext.lnk (g1.here rfl)] at l1
    have ok : makeOk s2 k i1 i2 = true := makeOk_iff.2 ⟨h0, by rw [g2.ext.links, g1.ext.links]; omega, under_lnk n1 (by omega), under_lnk n2 (by omega)⟩
    obtain ⟨w3, x3, hh⟩ := make_case g2.wf ok h3
    have x := (g1.ext.trans g2.ext).trans x3
    have t1 := (g1.tells rfl).ext g1.wf g2.ext g2.wf
    have t2 := g2.tells rfl
    have hd : deep s1 (k + 1) = deep s (k + 1) := by unfold deep; rw [g1.ext.links]
    rw [hd] at t2
    have hds := deep_succ (s := s) (k := k) (by omega)
    rcases hh with ⟨rfl, rfl, rfl, hf⟩ | ⟨rfl, hh⟩
    · exact ⟨w3, x, .inr ⟨rfl, rfl, hf⟩, fun h => by simp at h, fun h => by simp at h, fun h => by simp at h⟩
    · rcases hh with ⟨rfl, rfl, rfl⟩ | ⟨hne, hg⟩
      · refine ⟨w3, x, .inl rfl, fun _ => n1, fun _ => by omega, fun _ => ⟨n1, fun F => ?_⟩⟩
        rw [hds, atf_step]
        split
        · rw [t2.eval]
        · rw [t1.eval]
      · refine ⟨w3, x, .inl rfl, fun _ => isN_some hg, fun _ => by rw [lnk_ask hg rfl]; exact Int.le_refl _, fun _ => ⟨isN_some hg, fun F => ?_⟩⟩
        rw [hds, atf_step, eval_ask w3 hg rfl]
        show M.eval s3 (if has (F : Nat) k then i2 else i1) F = _
        split
        · rw [x3.eval g2.wf w3 _ _ n2, t2.eval]
        · rw [x3.eval g2.wf w3 _ _ n1, t1.eval]
theorem AtM.only {s : St} {k m : Int} {s' : St} {i e : Int} (h : AtM s k m s' i e) : ∀ {t : St} {j g : Int}, AtM s k m t j g → s' = t ∧ i = j ∧ e = g := by
  induction h with
  | zero hm h =>
    intro t j g q
    cases q with
    | zero _ h' => rw [h] at h'; cases h'; exact ⟨rfl, rfl, rfl⟩
    | one => omega
    | err1 => omega
    | err2 => omega
    | ask => omega
  | one hm hk h =>
    intro t j g q
    cases q with
    | zero => omega
    | one _ _ h' => rw [h] at h'; cases h'; exact ⟨rfl, rfl, rfl⟩
    | err1 => omega
    | err2 => omega
    | ask => omega
  | err1 hm hk h1 he ih =>
    intro t j g q
    cases q with
    | zero => omega
    | one => omega
    | err1 _ _ h1' he' => obtain ⟨a, _, b⟩ := ih h1'; exact ⟨a, rfl, b⟩
    | err2 _ _ h1' _ _ => exact (he (ih h1').2.2).elim
    | ask _ _ h1' _ _ => exact (he (ih h1').2.2).elim
  | err2 hm hk h1 h2 he ih1 ih2 =>
    intro t j g q
    cases q with
    | zero => omega
    | one => omega
    | err1 _ _ h1' he' => exact (he' (ih1 h1').2.2.symm).elim
    | err2 _ _ h1' h2' _ =>
      obtain ⟨rfl, rfl, _⟩ := ih1 h1'
      obtain ⟨a, _, b⟩ := ih2 h2'
      exact ⟨a, rfl, b⟩
    | ask _ _ h1' h2' _ =>
      obtain ⟨rfl, rfl, _⟩ := ih1 h1'
      exact (he (ih2 h2').2.2).elim
  | ask hm hk h1 h2 h3 ih1 ih2 =>
    intro t j g q
    cases q with
    | zero => omega
    | one => omega
    | err1 _ _ h1' he' => exact (he' (ih1 h1').2.2.symm).elim
    | err2 _ _ h1' h2' he' =>
      obtain ⟨rfl, rfl, _⟩ := ih1 h1'
      exact (he' (ih2 h2').2.2.symm).elim
    | ask _ _ h1' h2' h3' =>
      obtain ⟨rfl, rfl, _⟩ := ih1 h1'
      obtain ⟨rfl, rfl, _⟩ := ih2 h2'
      rw [h3] at h3'; cases h3'; exact ⟨rfl, rfl, rfl⟩
def atN : Nat → St → Int → Int → St × Int × Int
  | 0, s, _, m => if m < 0 then leaf s 0 else leaf s 1
  | d + 1, s, k, m =>
    if m < 0 then leaf s 0 else if (s.links : Int) - k ≤ m then leaf s 1 else
      let r1 := atN d s (k + 1) m
      if r1.2.2 = 0 then
        let r2 := atN d r1.1 (k + 1) (m - 1)
        if r2.2.2 = 0 then make r2.1 k r1.2.1 r2.2.1 else (r2.1, 0, r2.2.2)
      else (r1.1, 0, r1.2.2)
theorem atN_at : ∀ (d : Nat) {s : St} {k m : Int}, Wf s → 0 ≤ k → k ≤ 16 → deep s k ≤ d → AtM s k m (atN d s k m).1 (atN d s k m).2.1 (atN d s k m).2.2
  | 0, s, k, m, w, h0, h16, hd => by
    unfold atN
    unfold deep at hd
    split
    · exact .zero (by assumption) rfl
    · exact .one (by omega) (by omega) rfl
  | d + 1, s, k, m, w, h0, h16, hd => by
    have hl := w.links
    unfold atN
    split
    · exact .zero (by assumption) rfl
    · split
      · exact .one (by omega) (by assumption) rfl
      · have hs := deep_succ (s := s) (k := k) (by omega)
        have i1 := atN_at d (s := s) (k := k + 1) (m := m) w (by omega) (by omega) (by omega)
        have g1 := i1.good w (by omega) (by omega)
        have i2 := atN_at d (s := (atN d s (k + 1) m).1) (k := k + 1) (m := m - 1) g1.wf (by omega) (by omega) (by unfold deep at *; rw [g1.ext.links]; omega)
        simp only
        split
        · rename_i h1
          rw [h1] at i1
          split
          · rename_i h2
            rw [h2] at i2
            exact .ask (by omega) (by omega) i1 i2 rfl
          · rename_i h2
            exact .err2 (by omega) (by omega) i1 i2 h2
        · rename_i h1
          exact .err1 (by omega) (by omega) i1 h1
theorem AtM.ex {s : St} (w : Wf s) (m : Int) : ∃ s' i e, AtM s 0 m s' i e := ⟨_, _, _, atN_at (deep s 0) w (by decide) (by decide) (Nat.le_refl _)⟩
theorem atN_eq {s : St} {m : Int} {s' : St} {i e : Int} (w : Wf s) (h : atN (deep s 0) s 0 m = (s', i, e)) : AtM s 0 m s' i e := by
  have := atN_at (deep s 0) (m := m) w (by decide) (by decide) (Nat.le_refl _)
  rw [h] at this
  exact this
theorem const_leaf {s : St} (w : Wf s) {r : Int} (hr : isN s r = true) {v : Int} (h : ∀ F : Nat, F < 2 ^ s.links → eval s r F = v) : leaf s v = (s, r, 0) := by
  have rr := lnk_range w hr
  have hl := w.links
  have hlr : lnk s r = 16 := by
    refine Classical.byContradiction fun hne => ?_
    refine indep w (k := (lnk s r).toNat) hr (by omega) (by omega) fun F hF v' => ?_
    rw [h _ (turn_lt v' hF (by omega)), h _ hF]
  obtain ⟨x, hx⟩ := isN_get hr
  have hxl := lnk_16 w hx hlr
  have h0 := h 0 (Nat.pow_pos (by decide))
  rw [eval_leaf hx hxl] at h0
  have := leaf_again w (get_some hx).2.2 hxl
  rw [← h0, this, Int.toNat_of_nonneg (get_some hx).1]
theorem AtM.thereN : ∀ (d : Nat) {s : St} {k m r : Int}, Wf s → deep s k ≤ d → 0 ≤ k → k ≤ 16 → isN s r = true → k ≤ lnk s r → (∀ F, F < 2 ^ s.links → eval s r (F : Nat) = atf k (deep s k) m F) → AtM s k m s r 0 := by
  intro d
  induction d with
  | zero =>
    intro s k m r w hd h0 h16 hr hlk h
    by_cases hm : m < 0
    · refine .zero hm (const_leaf w hr fun F hF => ?_)
      rw [h F hF]; unfold atf; have := popF_lo F (deep s k) k; rw [if_neg (by omega)]
    · refine .one (by omega) (by unfold deep at hd; omega) (const_leaf w hr fun F hF => ?_)
      rw [h F hF]; unfold atf; have := popF_hi F (deep s k) k; rw [if_pos (by unfold deep at *; omega)]
  | succ d ih =>
    intro s k m r w hd h0 h16 hr hlk h
    by_cases hm : m < 0
    · refine .zero hm (const_leaf w hr fun F hF => ?_)
      rw [h F hF]; unfold atf; have := popF_lo F (deep s k) k; rw [if_neg (by omega)]
    · by_cases hk : (s.links : Int) - k ≤ m
      · refine .one (by omega) hk (const_leaf w hr fun F hF => ?_)
        rw [h F hF]; unfold atf; have := popF_hi F (deep s k) k; rw [if_pos (by unfold deep at *; omega)]
      · have hl := w.links
        have hds := deep_succ (s := s) (k := k) (by omega)
        have sr := fun v => side_lnk w hr hlk (by omega) v
        have ev : ∀ v (F : Nat), F < 2 ^ s.links → eval s (sideOf s r k v) F = atf (k + 1) (deep s (k + 1)) (if v then m - 1 else m) F := by
          intro v F hF
          rw [eval_side w hr h0 hlk (by omega)]
          have hF' : turnI F k v < 2 ^ s.links := turn_lt v hF (by omega)
          rw [h _ hF', hds, atf_step]
          have hh : has (turnI F k v : Nat) k = v := by
            have := has_turn F k.toNat v (by omega)
            rw [Int.toNat_of_nonneg h0] at this
            exact this
          have hp : ∀ q, atf (k + 1) (deep s (k + 1)) q (turnI F k v) = atf (k + 1) (deep s (k + 1)) q F := fun q => by
            unfold atf turnI; rw [popF_turn F k.toNat v _ _ (by omega)]
          rw [hh]
          cases v with
          | true => simp only [if_true]; exact hp _
          | false => simp only [Bool.false_eq_true, if_false]; exact hp _
        have A1 : AtM s (k + 1) m s (sideOf s r k false) 0 := ih w (by omega) (by omega) (by omega) (sr false).1 (by have := (sr false).2; omega) (ev false)
        have A2 : AtM s (k + 1) (m - 1) s (sideOf s r k true) 0 := ih w (by omega) (by omega) (by omega) (sr true).1 (by have := (sr true).2; omega) (ev true)
        refine .ask (by omega) (by omega) A1 A2 ?_
        by_cases he : lnk s r = k
        · obtain ⟨x, hx⟩ := isN_get hr
          obtain ⟨hxl, hxk⟩ := lnk_lt hx (by omega)
          have := make_again w (get_some hx).2.2 hxl
          simp only [sideOf, he, if_true, getZ_eq hx, Bool.false_eq_true, if_false]
          rw [← he, ← hxk, this, Int.toNat_of_nonneg (get_some hx).1]
        · simp only [sideOf, he, if_false]
          have rr := lnk_range w hr
          have ok : makeOk s k r r = true := makeOk_iff.2 ⟨h0, by omega, under_lnk hr (by omega), under_lnk hr (by omega)⟩
          simp [make, ok]
theorem AtM.there {s : St} {m r : Int} {g : Nat → Int} (w : Wf s) (h : Tells s r g) (hg : ∀ F, F < 2 ^ s.links → g F = atf 0 s.links m F) : AtM s 0 m s r 0 := by
  refine AtM.thereN _ w (Nat.le_refl _) (by decide) (by decide) h.here (lnk_range w h.here).1 fun F hF => ?_
  rw [h.eval, hg F hF]; unfold deep; congr 1
theorem AtM.again {s : St} {k m : Int} {s' : St} {i : Int} (h : AtM s k m s' i 0) (w : Wf s) (h0 : 0 ≤ k) (h16 : k ≤ 16) {t : St} (x : Ext s' t) (wt : Wf t) : AtM t k m t i 0 := by
  have g := h.good w h0 h16
  have tt := (g.tells rfl).ext g.wf x wt
  have hd : deep t k = deep s k := by unfold deep; rw [x.links, g.ext.links]
  refine AtM.thereN _ wt (Nat.le_refl _) h0 h16 tt.here ?_ fun F _ => ?_
  · rw [x.lnk (g.here rfl)]; exact g.link rfl
  · rw [tt.eval, hd]

/-! ### How much comes -/
theorem pigeon {α β : Type} [DecidableEq β] (rel : α → β → Prop) : ∀ (L : List α) (P : List β), L.Nodup → (∀ x ∈ L, ∃ p ∈ P, rel x p) → (∀ x ∈ L, ∀ y ∈ L, ∀ p, rel x p → rel y p → x = y) → L.length ≤ P.length
  | [], P, _, _, _ => by simp
  | x :: L, P, hn, hr, hi => by
    obtain ⟨p, hp, hxp⟩ := hr x (by simp)
    have hn' := List.nodup_cons.1 hn
    have := pigeon rel L (P.erase p) hn'.2 (fun y hy => by
      obtain ⟨q, hq, hyq⟩ := hr y (by simp [hy])
      refine ⟨q, (List.mem_erase_of_ne ?_).2 hq, hyq⟩
      rintro rfl
      have := hi x (by simp) y (by simp [hy]) _ hxp hyq
      exact hn'.1 (this ▸ hy)) (fun a ha b hb => hi a (by simp [ha]) b (by simp [hb]))
    rw [List.length_erase_of_mem hp] at this
    have := List.length_pos_of_mem hp
    simp only [List.length_cons]
    omega
theorem AtM.fresh {s : St} {k m : Int} {s' : St} {i e : Int} (h : AtM s k m s' i e) : Wf s → 0 ≤ k → k ≤ s.links → ∀ id, isN s' id = true → isN s id = false → ∃ (j : Int) (q : Int), k ≤ j ∧ j ≤ s.links ∧ -1 ≤ q ∧ q ≤ s.links ∧ Tells s' id (atf j (deep s j) q) := by
  have leafish : ∀ {s s' : St} {v i e : Int}, Wf s → leaf s v = (s', i, e) → ∀ id, isN s' id = true → isN s id = false → get s' id = some (leafB v) := by
    intro s s' v i e w h id hi hn
    unfold leaf at h
    rcases put_cases s (leafB v) with ⟨j, hj, hp⟩ | ⟨_, hge, hp⟩ | ⟨_, _, hp⟩ <;> rw [h] at hp <;> cases hp
    · rw [hn] at hi; cases hi
    · rw [hn] at hi; cases hi
    · have h1 := isN_iff.1 hi
      have h2 : ¬(0 ≤ id ∧ id < s.nodes.length) := fun hh => by rw [isN_iff.2 hh] at hn; cases hn
      simp at h1
      have : id = (s.nodes.length : Int) := by omega
      rw [this, get_nat]; simp
  induction h with
  | @zero s k m s' i e hm h =>
    intro w h0 hk id hi hn
    have hg := leafish w h id hi hn
    refine ⟨s.links, -1, hk, Int.le_refl _, Int.le_refl _, by omega, isN_some hg, fun F => ?_⟩
    rw [eval_leaf hg rfl]; unfold atf; have := popF_lo F (deep s s.links) s.links; rw [if_neg (by omega)]; rfl
  | @one s k m s' i e hm hk h =>
    intro w h0 hk id hi hn
    have hg := leafish w h id hi hn
    refine ⟨s.links, 0, hk, Int.le_refl _, by decide, by omega, isN_some hg, fun F => ?_⟩
    rw [eval_leaf hg rfl]; unfold atf; have := popF_hi F (deep s s.links) s.links; rw [if_pos (by unfold deep at *; omega)]; rfl
  | @err1 s k m s1 i e hm hk h1 he ih =>
    intro w h0 hkl id hi hn
    obtain ⟨j, q, a, b⟩ := ih w (by omega) (by omega) id hi hn
    exact ⟨j, q, by omega, b⟩
  | @err2 s k m s1 i1 s2 i e hm hk h1 h2 he ih1 ih2 =>
    intro w h0 hkl id hi hn
    have hl := w.links
    have g1 := h1.good w (by omega) (by omega)
    have g2 := h2.good g1.wf (by omega) (by omega)
    cases hn1 : isN s1 id with
    | true =>
      obtain ⟨j, q, a, b, c, d, t⟩ := ih1 w (by omega) (by omega) id hn1 hn
      exact ⟨j, q, by omega, b, c, d, t.ext g1.wf g2.ext g2.wf⟩
    | false =>
      obtain ⟨j, q, a, b, c, d, t⟩ := ih2 g1.wf (by omega) (by rw [g1.ext.links]; omega) id hi hn1
      rw [g1.ext.links] at b d
      refine ⟨j, q, by omega, b, c, d, ?_⟩
      have : deep s1 j = deep s j := by unfold deep; rw [g1.ext.links]
      rw [← this]; exact t
  | @ask s k m s1 i1 s2 i2 s3 i3 e3 hm hk h1 h2 h3 ih1 ih2 =>
    intro w h0 hkl id hi hn
    have hl := w.links
    have g1 := h1.good w (by omega) (by omega)
    have g2 := h2.good g1.wf (by omega) (by omega)
    have g3 := (AtM.ask hm hk h1 h2 h3).good w h0 (by omega)
    have x3 := make_ext s2 k i1 i2
    rw [h3] at x3
    cases hn2 : isN s2 id with
    | true =>
      cases hn1 : isN s1 id with
      | true =>
        obtain ⟨j, q, a, b, c, d, t⟩ := ih1 w (by omega) (by omega) id hn1 hn
        exact ⟨j, q, by omega, b, c, d, (t.ext g1.wf g2.ext g2.wf).ext g2.wf x3 g3.wf⟩
      | false =>
        obtain ⟨j, q, a, b, c, d, t⟩ := ih2 g1.wf (by omega) (by rw [g1.ext.links]; omega) id hn2 hn1
        rw [g1.ext.links] at b d
        have : deep s1 j = deep s j := by unfold deep; rw [g1.ext.links]
        rw [this] at t
        exact ⟨j, q, by omega, b, c, d, t.ext g2.wf x3 g3.wf⟩
    | false =>
      have he3 : e3 = 0 := by
        unfold make at h3
        split at h3
        · split at h3
          · cases h3; rfl
          · rcases put_cases s2 (askB k i1 i2) with ⟨j, hj, hp⟩ | ⟨_, hge, hp⟩ | ⟨_, _, hp⟩ <;> rw [h3] at hp <;> cases hp
            · rfl
            · rw [hn2] at hi; cases hi
            · rfl
        · cases h3; rw [hn2] at hi; cases hi
      have hid : i3 = id := by
        unfold make at h3
        split at h3
        · split at h3
          · cases h3; rw [hn2] at hi; cases hi
          · rcases put_cases s2 (askB k i1 i2) with ⟨j, hj, hp⟩ | ⟨_, hge, hp⟩ | ⟨_, _, hp⟩ <;> rw [h3] at hp <;> cases hp
            · rw [hn2] at hi; cases hi
            · rw [hn2] at hi; cases hi
            · have h1 := isN_iff.1 hi
              have h2 : ¬(0 ≤ id ∧ id < s2.nodes.length) := fun hh => by rw [isN_iff.2 hh] at hn2; cases hn2
              simp at h1
              omega
        · cases h3; rw [hn2] at hi; cases hi
      subst hid
      exact ⟨k, m, Int.le_refl _, hkl, by omega, by omega, g3.tells he3⟩
theorem AtM.few {s : St} {m : Int} {s' : St} {i e : Int} (h : AtM s 0 m s' i e) (w : Wf s) : s'.nodes.length ≤ s.nodes.length + (s.links + 1) * (s.links + 2) := by
  have hl := w.links
  have g := h.good w (by decide) (by decide)
  have hf := h.fresh w (by decide) (by omega)
  have hlen := g.ext.len
  have hp := pigeon (rel := fun (x : Nat) (p : Nat × Nat) => Tells s' x (atf (p.1 : Nat) (deep s (p.1 : Nat)) ((p.2 : Nat) - 1))) (List.range' s.nodes.length (s'.nodes.length - s.nodes.length))
    ((List.range (s.links + 1)).flatMap fun a => (List.range (s.links + 2)).map fun b => (a, b)) List.nodup_range' (fun x hx => by
      rw [List.mem_range'_1] at hx
      obtain ⟨j, q, a, b, c, d, t⟩ := hf x (isN_iff.2 ⟨by omega, by omega⟩) (bad_id (.inl (by omega)))
      refine ⟨(j.toNat, (q + 1).toNat), ?_, ?_⟩
      · simp only [List.mem_flatMap, List.mem_range, List.mem_map, Prod.mk.injEq]
        exact ⟨j.toNat, by omega, (q + 1).toNat, by omega, rfl, rfl⟩
      · show Tells s' x (atf ((j.toNat : Nat) : Int) (deep s ((j.toNat : Nat) : Int)) (((q + 1).toNat : Nat) - 1))
        rw [Int.toNat_of_nonneg a, Int.toNat_of_nonneg (by omega), show q + 1 - 1 = q by omega]
        exact t) (fun x hx y hy p h1 h2 => by
      have := h1.same g.wf h2 (fun _ _ => rfl)
      omega)
  rw [List.length_range', List.length_flatMap] at hp
  have hsum : ((List.range (s.links + 1)).map fun a => ((List.range (s.links + 2)).map fun b => (a, b)).length).sum = (s.links + 1) * (s.links + 2) := by
    simp only [List.length_map, List.length_range, List.map_const', List.sum_replicate_nat]
  rw [hsum] at hp
  omega
/-- where there is room -/
theorem at_room {s : St} {k : Nat} (h : Room6 s k) (hk : k + 56 < 1000) (m : Int) : ∃ s' i, AtM s 0 m s' i 0 ∧ Ext s s' ∧ Room6 s' (k + 56) ∧ Tells s' i (atf 0 s.links m) := by
  obtain ⟨s', i, e, A⟩ := AtM.ex h.wf m
  have hf := A.few h.wf
  have g := A.good h.wf (by decide) (by decide)
  have hl := h.len
  have hm := h.most
  have h6 := h.six
  have hb : (s.links + 1) * (s.links + 2) ≤ 7 * 8 := Nat.mul_le_mul (by omega) (by omega)
  have he : e = 0 := by
    rcases g.err with h | ⟨_, _, hh⟩
    · exact h
    · rw [g.ext.most] at hh; omega
  subst he
  refine ⟨s', i, A, g.ext, ⟨g.wf, by rw [g.ext.links]; exact h6, by rw [g.ext.most]; exact hm, by omega⟩, ?_⟩
  have := g.tells rfl
  unfold deep at this
  simpa using this
end Go.Proofs.Ytchikjmhncojfaa.M
