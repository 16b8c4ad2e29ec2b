/- Functions lifted to diagrams: the plain part of layer 14. Conditions: none. -/
import Derived.Test.YtchikjmhncojfaaDoorSidesM
import Derived.Test.YtchikjmhncojfaaDoorKeepsM
namespace Go.Proofs.YtchikjmhncojfaaDoor.M

/-- the link that a node asks; 16: none -/
def lnk (s : St) (id : Int) : Int := if (getZ s id).leaf then 16 else (getZ s id).link
def val (s : St) (id : Int) : Int := (getZ s id).value
def sideOf (s : St) (id lk : Int) (v : Bool) : Int := if lnk s id = lk then (if v then (getZ s id).fails else (getZ s id).stands) else id
def linkOf (s : St) (a b c : Int) : Int := min (min (lnk s a) (lnk s b)) (lnk s c)
def turnI (F : Nat) (lk : Int) (v : Bool) : Nat := turn F lk.toNat v

theorem getZ_eq {s : St} {id : Int} {b : Br} (h : get s id = some b) : getZ s id = b := by simp [getZ, h]
theorem lnk_leaf {s : St} {id : Int} {b : Br} (h : get s id = some b) (hl : b.leaf = true) : lnk s id = 16 := by simp [lnk, getZ_eq h, hl]
theorem lnk_ask {s : St} {id : Int} {b : Br} (h : get s id = some b) (hl : b.leaf = false) : lnk s id = b.link := by simp [lnk, getZ_eq h, hl]
theorem isN_get {s : St} {id : Int} (h : isN s id = true) : ∃ b, get s id = some b := Option.isSome_iff_exists.1 h
theorem lnk_range {s : St} (w : Wf s) {id : Int} (h : isN s id = true) : 0 ≤ lnk s id ∧ lnk s id ≤ 16 ∧ (lnk s id < 16 → lnk s id < s.links) := by
  obtain ⟨b, hb⟩ := isN_get h
  have := w.links
  cases hl : b.leaf with
  | true => rw [lnk_leaf hb hl]; omega
  | false =>
    have ha := w.ask hb hl
    rw [lnk_ask hb hl]; omega
theorem lnk_lt {s : St} {id : Int} {b : Br} (hb : get s id = some b) (h : lnk s id < 16) : b.leaf = false ∧ b.link = lnk s id := by
  cases hl : b.leaf with
  | true => rw [lnk_leaf hb hl] at h; omega
  | false => exact ⟨rfl, (lnk_ask hb hl).symm⟩
theorem lnk_16 {s : St} (w : Wf s) {id : Int} {b : Br} (hb : get s id = some b) (h : lnk s id = 16) : b.leaf = true := by
  cases hl : b.leaf with
  | true => rfl
  | false =>
    have ha := w.ask hb hl
    have := w.links
    rw [lnk_ask hb hl] at h; omega
theorem under_lnk {s : St} {id k : Int} (h : isN s id = true) (hk : k < lnk s id) : under s k id = true := by
  obtain ⟨b, hb⟩ := isN_get h
  rw [under_eq hb]
  cases hl : b.leaf with
  | true => rfl
  | false => rw [lnk_ask hb hl] at hk; simpa using hk
theorem lnk_under {s : St} (w : Wf s) {id k : Int} (hk : k < 16) (h : under s k id = true) : k < lnk s id := by
  obtain ⟨b, hb⟩ := isN_get (under_isN h)
  rw [under_eq hb] at h
  cases hl : b.leaf with
  | true => rw [lnk_leaf hb hl]; exact hk
  | false => rw [lnk_ask hb hl]; rw [hl] at h; simpa using h
theorem Ext.getZ {s s' : St} (h : Ext s s') {id : Int} (hi : M.isN s id = true) : M.getZ s' id = M.getZ s id := by
  obtain ⟨b, hb⟩ := isN_get hi
  rw [getZ_eq hb, getZ_eq (h.get hb)]
theorem Ext.lnk {s s' : St} (h : Ext s s') {id : Int} (hi : M.isN s id = true) : M.lnk s' id = M.lnk s id := by simp only [M.lnk, h.getZ hi]
theorem Ext.val {s s' : St} (h : Ext s s') {id : Int} (hi : M.isN s id = true) : M.val s' id = M.val s id := by simp only [M.val, h.getZ hi]
theorem Ext.sideOf {s s' : St} (h : Ext s s') {id : Int} (hi : M.isN s id = true) (lk : Int) (v : Bool) : M.sideOf s' id lk v = M.sideOf s id lk v := by simp only [M.sideOf, h.lnk hi, h.getZ hi]
theorem Ext.linkOf {s s' : St} (h : Ext s s') {a b c : Int} (ha : M.isN s a = true) (hb : M.isN s b = true) (hc : M.isN s c = true) : M.linkOf s' a b c = M.linkOf s a b c := by simp only [M.linkOf, h.lnk ha, h.lnk hb, h.lnk hc]
theorem side_lnk {s : St} (w : Wf s) {id lk : Int} (h : isN s id = true) (hk : lk ≤ lnk s id) (h16 : lk < 16) (v : Bool) : isN s (sideOf s id lk v) = true ∧ lk < lnk s (sideOf s id lk v) := by
  unfold sideOf
  split
  · rename_i he
    obtain ⟨b, hb⟩ := isN_get h
    obtain ⟨hl, hlk⟩ := lnk_lt hb (by omega)
    have ha := w.ask hb hl
    rw [getZ_eq hb]
    have hbl : b.link = lk := by omega
    cases v with
    | true => exact ⟨under_isN ha.2.2.2.2.2.1, lnk_under w h16 (hbl ▸ ha.2.2.2.2.2.1)⟩
    | false => exact ⟨under_isN ha.2.2.2.2.1, lnk_under w h16 (hbl ▸ ha.2.2.2.2.1)⟩
  · exact ⟨h, by omega⟩
theorem eval_under_turn {s : St} (w : Wf s) {id : Int} {k : Nat} (h : isN s id = true) (hk : (k : Int) < lnk s id) (F : Nat) (v : Bool) : eval s id (turn F k v : Nat) = eval s id F :=
  eval_agree w id k (under_lnk h hk) (fun l hl => has_turn_other _ _ _ _ (by omega))
theorem eval_side {s : St} (w : Wf s) {id lk : Int} (h : isN s id = true) (h0 : 0 ≤ lk) (hk : lk ≤ lnk s id) (h16 : lk < 16) (F : Nat) (v : Bool) : eval s (sideOf s id lk v) F = eval s id (turnI F lk v : Nat) := by
  unfold sideOf turnI
  split
  · rename_i he
    obtain ⟨b, hb⟩ := isN_get h
    obtain ⟨hl, hlk⟩ := lnk_lt hb (by omega)
    have hbl : b.link = lk := by omega
    rw [getZ_eq hb, ← hbl]
    cases v with
    | true => exact eval_fails w hb hl F
    | false => exact eval_stands w hb hl F
  · exact (eval_under_turn w (k := lk.toNat) h (by omega) F v).symm
theorem eval_val {s : St} (w : Wf s) {id : Int} (h : isN s id = true) (h16 : lnk s id = 16) (F : Int) : eval s id F = val s id := by
  obtain ⟨b, hb⟩ := isN_get h
  rw [eval_leaf hb (lnk_16 w hb h16), val, getZ_eq hb]
/-- what asks a link hangs on it -/
theorem indep {s : St} (w : Wf s) {r : Int} {k : Nat} (h : isN s r = true) (hk : lnk s r = k) (h16 : k < 16) (hh : ∀ F : Nat, F < 2 ^ s.links → ∀ v, eval s r (turn F k v : Nat) = eval s r F) : False := by
  obtain ⟨b, hb⟩ := isN_get h
  obtain ⟨hl, hlk⟩ := lnk_lt hb (by omega)
  have ha := w.ask hb hl
  have hbk : b.link.toNat = k := by omega
  refine ha.2.2.2.1 (unique w (under_isN ha.2.2.2.2.1) (under_isN ha.2.2.2.2.2.1) fun F hF => ?_)
  rw [eval_stands w hb hl, eval_fails w hb hl, hbk, hh F hF, hh F hF]

/-! ### What lifting is -/
inductive Lifts (f : Int → Int → Int → Int) : St → Int → Int → Int → St → Int → Int → Prop
  | leaf {s a b c s' i e} (hL : linkOf s a b c = 16) (h : leaf s (f (val s a) (val s b) (val s c)) = (s', i, e)) : Lifts f s a b c s' i e
  | err1 {s a b c s1 i e} (L : Int) (hL : linkOf s a b c = L) (h16 : L < 16) (h1 : Lifts f s (sideOf s a L false) (sideOf s b L false) (sideOf s c L false) s1 i e) (he : e ≠ 0) : Lifts f s a b c s1 0 e
  | err2 {s a b c s1 i1 s2 i e} (L : Int) (hL : linkOf s a b c = L) (h16 : L < 16) (h1 : Lifts f s (sideOf s a L false) (sideOf s b L false) (sideOf s c L false) s1 i1 0)
      (h2 : Lifts f s1 (sideOf s a L true) (sideOf s b L true) (sideOf s c L true) s2 i e) (he : e ≠ 0) : Lifts f s a b c s2 0 e
  | ask {s a b c s1 i1 s2 i2 s3 i3 e3} (L : Int) (hL : linkOf s a b c = L) (h16 : L < 16) (h1 : Lifts f s (sideOf s a L false) (sideOf s b L false) (sideOf s c L false) s1 i1 0)
      (h2 : Lifts f s1 (sideOf s a L true) (sideOf s b L true) (sideOf s c L true) s2 i2 0) (h3 : make s2 L i1 i2 = (s3, i3, e3)) : Lifts f s a b c s3 i3 e3

theorem leaf_case {s : St} (w : Wf s) {v : Int} {s' : St} {i e : Int} (h : leaf s v = (s', i, e)) :
    Wf s' ∧ Ext s s' ∧ ((e = 60 ∧ i = 0 ∧ s' = s ∧ s.nodes.length = s.most) ∨ (e = 0 ∧ get s' i = some (leafB v))) := by
  have hw := w.leaf v
  have hx := leaf_ext s v
  unfold leaf at *
  rw [h] at hw hx
  refine ⟨hw, hx, ?_⟩
  have hr := w.room
  rcases put_cases s (leafB v) with ⟨j, hj, hp⟩ | ⟨_, hge, hp⟩ | ⟨_, _, hp⟩
  · rw [h] at hp; cases hp
    exact .inr ⟨rfl, by rw [get_nat]; exact hj⟩
  · rw [h] at hp; cases hp
    exact .inl ⟨rfl, rfl, rfl, by omega⟩
  · rw [h] at hp; cases hp
    exact .inr ⟨rfl, by rw [get_nat]; simp⟩
theorem make_case {s : St} (w : Wf s) {k a b : Int} (ok : makeOk s k a b = true) {s' : St} {i e : Int} (h : make s k a b = (s', i, e)) :
    Wf s' ∧ Ext s s' ∧ ((e = 60 ∧ i = 0 ∧ s' = s ∧ s.nodes.length = s.most) ∨ (e = 0 ∧ ((a = b ∧ i = a ∧ s' = s) ∨ (a ≠ b ∧ get s' i = some (askB k a b))))) := by
  have hw := w.make k a b
  have hx := make_ext s k a b
  rw [h] at hw hx
  refine ⟨hw, hx, ?_⟩
  have hr := w.room
  unfold make at h
  rw [if_pos ok] at h
  split at h
  · cases h; exact .inr ⟨rfl, .inl ⟨by assumption, rfl, rfl⟩⟩
  · rename_i hab
    rcases put_cases s (askB k a b) with ⟨j, hj, hp⟩ | ⟨_, hge, hp⟩ | ⟨_, _, hp⟩
    · rw [h] at hp; cases hp
      exact .inr ⟨rfl, .inr ⟨hab, by rw [get_nat]; exact hj⟩⟩
    · rw [h] at hp; cases hp
      exact .inl ⟨rfl, rfl, rfl, by omega⟩
    · rw [h] at hp; cases hp
      exact .inr ⟨rfl, .inr ⟨hab, by rw [get_nat]; simp⟩⟩
theorem linkOf_le {s : St} {a b c : Int} : linkOf s a b c ≤ lnk s a ∧ linkOf s a b c ≤ lnk s b ∧ linkOf s a b c ≤ lnk s c := by unfold linkOf; omega
theorem linkOf_range {s : St} (w : Wf s) {a b c : Int} (ha : isN s a = true) (hb : isN s b = true) (hc : isN s c = true) : 0 ≤ linkOf s a b c ∧ linkOf s a b c ≤ 16 ∧ (linkOf s a b c < 16 → linkOf s a b c < s.links) := by
  have := lnk_range w ha
  have := lnk_range w hb
  have := lnk_range w hc
  unfold linkOf
  omega
theorem linkOf_sides {s : St} (w : Wf s) {a b c L : Int} (ha : isN s a = true) (hb : isN s b = true) (hc : isN s c = true) (hL : linkOf s a b c = L) (h16 : L < 16) (v : Bool) :
    isN s (sideOf s a L v) = true ∧ isN s (sideOf s b L v) = true ∧ isN s (sideOf s c L v) = true ∧ L < linkOf s (sideOf s a L v) (sideOf s b L v) (sideOf s c L v) := by
  have hle := @linkOf_le s a b c
  have h1 := side_lnk w ha (by omega : L ≤ _) h16 v
  have h2 := side_lnk w hb (by omega : L ≤ _) h16 v
  have h3 := side_lnk w hc (by omega : L ≤ _) h16 v
  refine ⟨h1.1, h2.1, h3.1, ?_⟩
  have a1 := h1.2
  have a2 := h2.2
  have a3 := h3.2
  unfold linkOf
  omega

/-! ### What is lifted tells, set by set, what the function makes -/
structure Good (f : Int → Int → Int → Int) (s : St) (a b c : Int) (s' : St) (i e : Int) : Prop where
  wf : Wf s'
  ext : Ext s s'
  err : e = 0 ∨ (e = 60 ∧ i = 0 ∧ s'.nodes.length = s'.most)
  here : e = 0 → isN s' i = true
  link : e = 0 → linkOf s a b c ≤ lnk s' i
  eval : e = 0 → ∀ F : Nat, M.eval s' i F = f (M.eval s a F) (M.eval s b F) (M.eval s c F)
theorem turnI_has {F : Nat} {L : Int} (h0 : 0 ≤ L) (h16 : L < 16) {v : Bool} (h : has (F : Nat) L = v) : turnI F L v = F := by
  obtain ⟨l, rfl⟩ : ∃ l : Nat, L = l := ⟨L.toNat, by omega⟩
  rw [has_nat, decide_eq_true (by omega), Bool.true_and] at h
  unfold turnI turn
  rw [Int.toNat_natCast, if_pos h]
theorem Lifts.good {f : Int → Int → Int → Int} {s : St} {a b c : Int} {s' : St} {i e : Int} (h : Lifts f s a b c s' i e) : Wf s → isN s a = true → isN s b = true → isN s c = true → Good f s a b c s' i e := by
  induction h with
  | @leaf s a b c s' i e hL h =>
    intro w ha hb hc
    obtain ⟨w', x, hh⟩ := leaf_case w h
    have hle := @linkOf_le s a b c
    have ra := lnk_range w ha
    have rb := lnk_range w hb
    have rc := lnk_range w hc
    rcases hh with ⟨rfl, rfl, rfl, hf⟩ | ⟨rfl, hg⟩
    · exact ⟨w', x, .inr ⟨rfl, rfl, hf⟩, fun h => by simp at h, fun h => by simp at h, fun h => by simp at h⟩
    · refine ⟨w', x, .inl rfl, fun _ => isN_some hg, fun _ => by rw [lnk_leaf hg rfl]; omega, fun _ F => ?_⟩
      rw [eval_leaf hg rfl, eval_val w ha (by omega), eval_val w hb (by omega), eval_val w hc (by omega)]
      rfl
  | @err1 s a b c s1 i e L hL h16 h1 he ih =>
    intro w ha hb hc
    have hs := linkOf_sides w ha hb hc hL h16 false
    have g := ih w hs.1 hs.2.1 hs.2.2.1
    refine ⟨g.wf, g.ext, .inr ?_, fun h => (he h).elim, fun h => (he h).elim, fun h => (he h).elim⟩
    rcases g.err with h | h
    · exact (he h).elim
    · exact ⟨h.1, rfl, h.2.2⟩
  | @err2 s a b c s1 i1 s2 i e L hL h16 h1 h2 he ih1 ih2 =>
    intro w ha hb hc
    have hs := linkOf_sides w ha hb hc hL h16 false
    have ht := linkOf_sides w ha hb hc hL h16 true
    have g1 := ih1 w hs.1 hs.2.1 hs.2.2.1
    have g := ih2 g1.wf (g1.ext.isN ht.1) (g1.ext.isN ht.2.1) (g1.ext.isN ht.2.2.1)
    refine ⟨g.wf, g1.ext.trans g.ext, .inr ?_, fun h => (he h).elim, fun h => (he h).elim, fun h => (he h).elim⟩
    rcases g.err with h | h
    · exact (he h).elim
    · exact ⟨h.1, rfl, h.2.2⟩
  | @ask s a b c s1 i1 s2 i2 s3 i3 e3 L hL h16 h1 h2 h3 ih1 ih2 =>
    intro w ha hb hc
    have hs := linkOf_sides w ha hb hc hL h16 false
    have ht := linkOf_sides w ha hb hc hL h16 true
    have hr := linkOf_range w ha hb hc
    have hle := @linkOf_le s a b c
    have g1 := ih1 w hs.1 hs.2.1 hs.2.2.1
    have g2 := ih2 g1.wf (g1.ext.isN ht.1) (g1.ext.isN ht.2.1) (g1.ext.isN ht.2.2.1)
    have n1 := g2.ext.isN (g1.here rfl)
    have n2 := g2.here rfl
    have l1 := g1.link rfl
    have l2 := g2.link rfl
    rw [g1.ext.linkOf ht.1 ht.2.1 ht.2.2.1] at l2
    rw [← g2.ext.lnk (g1.here rfl)] at l1
    have ok : makeOk s2 L i1 i2 = true := makeOk_iff.2 ⟨by omega, by rw [g2.ext.links, g1.ext.links]; omega, under_lnk n1 (by omega), under_lnk n2 (by omega)⟩
    obtain ⟨w3, x3, hh⟩ := make_case g2.wf ok h3
    have x := (g1.ext.trans g2.ext).trans x3
    -- what the two sides tell
    have e1 : ∀ F : Nat, M.eval s2 i1 F = f (M.eval s a (turnI F L false : Nat)) (M.eval s b (turnI F L false : Nat)) (M.eval s c (turnI F L false : Nat)) := by
      intro F
      rw [g2.ext.eval g1.wf g2.wf _ _ (g1.here rfl), g1.eval rfl, eval_side w ha (by omega) (by omega) h16, eval_side w hb (by omega) (by omega) h16, eval_side w hc (by omega) (by omega) h16]
    have e2 : ∀ F : Nat, M.eval s2 i2 F = f (M.eval s a (turnI F L true : Nat)) (M.eval s b (turnI F L true : Nat)) (M.eval s c (turnI F L true : Nat)) := by
      intro F
      rw [g2.eval rfl, g1.ext.eval w g1.wf _ _ ht.1, g1.ext.eval w g1.wf _ _ ht.2.1, g1.ext.eval w g1.wf _ _ ht.2.2.1, eval_side w ha (by omega) (by omega) h16, eval_side w hb (by omega) (by omega) h16, eval_side w hc (by omega) (by omega) h16]
    have key : ∀ F : Nat, (if has (F : Nat) L then M.eval s2 i2 F else M.eval s2 i1 F) = f (M.eval s a F) (M.eval s b F) (M.eval s c F) := by
      intro F
      cases hF : has (F : Nat) L with
      | true => rw [if_pos rfl, e2, turnI_has (by omega) h16 hF]
      | false => rw [if_neg (by decide), e1, turnI_has (by omega) h16 hF]
    rcases hh with ⟨rfl, rfl, rfl, hf⟩ | ⟨rfl, hh⟩
    · exact ⟨w3, x, .inr ⟨rfl, rfl, hf⟩, fun h => by simp at h, fun h => by simp at h, fun h => by simp at h⟩
    · rcases hh with ⟨rfl, rfl, rfl⟩ | ⟨hne, hg⟩
      · refine ⟨w3, x, .inl rfl, fun _ => n1, fun _ => by omega, fun _ F => ?_⟩
        rw [← key F]
        split <;> rfl
      · refine ⟨w3, x, .inl rfl, fun _ => isN_some hg, fun _ => by rw [lnk_ask hg rfl]; show _ ≤ L; omega, fun _ F => ?_⟩
        rw [eval_ask w3 hg rfl, ← key F]
        show M.eval s3 (if has (F : Nat) L then i2 else i1) F = _
        split
        · rw [x3.eval g2.wf w3 _ _ n2]
        · rw [x3.eval g2.wf w3 _ _ n1]

/-! ### There is one way alone -/
theorem Lifts.one {f : Int → Int → Int → Int} {s : St} {a b c : Int} {s' : St} {i e : Int} (h : Lifts f s a b c s' i e) : ∀ {t : St} {j g : Int}, Lifts f s a b c t j g → s' = t ∧ i = j ∧ e = g := by
  induction h with
  | leaf hL h =>
    intro t j g k
    cases k with
    | leaf hL' h' => rw [h] at h'; cases h'; exact ⟨rfl, rfl, rfl⟩
    | err1 L hL' h16 _ _ => omega
    | err2 L hL' h16 _ _ _ => omega
    | ask L hL' h16 _ _ _ => omega
  | err1 L hL h16 h1 he ih =>
    subst hL
    intro t j g k
    cases k with
    | leaf hL' h' => omega
    | err1 L hL' h16 h1' he' => subst hL'; obtain ⟨a, _, b⟩ := ih h1'; exact ⟨a, rfl, b⟩
    | err2 L hL' h16 h1' h2' _ => subst hL'; exact (he (ih h1').2.2).elim
    | ask L hL' h16 h1' _ _ => subst hL'; exact (he (ih h1').2.2).elim
  | err2 L hL h16 h1 h2 he ih1 ih2 =>
    subst hL
    intro t j g k
    cases k with
    | leaf hL' h' => omega
    | err1 L hL' h16 h1' he' => subst hL'; exact (he' (ih1 h1').2.2.symm).elim
    | err2 L hL' h16 h1' h2' _ =>
      subst hL'
      obtain ⟨rfl, rfl, _⟩ := ih1 h1'
      obtain ⟨a, _, b⟩ := ih2 h2'
      exact ⟨a, rfl, b⟩
    | ask L hL' h16 h1' h2' _ =>
      subst hL'
      obtain ⟨rfl, rfl, _⟩ := ih1 h1'
      exact (he (ih2 h2').2.2).elim
  | ask L hL h16 h1 h2 h3 ih1 ih2 =>
    subst hL
    intro t j g k
    cases k with
    | leaf hL' h' => omega
    | err1 L hL' h16 h1' he' => subst hL'; exact (he' (ih1 h1').2.2.symm).elim
    | err2 L hL' h16 h1' h2' he' =>
      subst hL'
      obtain ⟨rfl, rfl, _⟩ := ih1 h1'
      exact (he' (ih2 h2').2.2.symm).elim
    | ask L hL' h16 h1' h2' h3' =>
      subst hL'
      obtain ⟨rfl, rfl, _⟩ := ih1 h1'
      obtain ⟨rfl, rfl, _⟩ := ih2 h2'
      rw [h3] at h3'; cases h3'; exact ⟨rfl, rfl, rfl⟩

/-! ### If the node is there already, it is told, and nothing comes -/
theorem Lifts.thereN {f : Int → Int → Int → Int} : ∀ (n : Nat) {s : St} {a b c r : Int}, Wf s → (16 - linkOf s a b c).toNat ≤ n → isN s a = true → isN s b = true → isN s c = true → isN s r = true →
    (∀ F : Nat, F < 2 ^ s.links → eval s r F = f (eval s a F) (eval s b F) (eval s c F)) → Lifts f s a b c s r 0 := by
  intro n
  induction n with
  | zero =>
    intro s a b c r w hn ha hb hc hr h
    have hrange := linkOf_range w ha hb hc
    have hle := @linkOf_le s a b c
    have ra := lnk_range w ha
    have rb := lnk_range w hb
    have rc := lnk_range w hc
    have rr := lnk_range w hr
    have hlr : lnk s r = 16 := by
      refine Classical.byContradiction fun hne => ?_
      refine indep w (k := (lnk s r).toNat) hr (by omega) (by omega) fun F hF v => ?_
      rw [h _ (turn_lt v hF (by omega)), h _ hF, eval_under_turn w ha (by omega), eval_under_turn w hb (by omega), eval_under_turn w hc (by omega)]
    obtain ⟨x, hx⟩ := isN_get hr
    have hxl := lnk_16 w hx hlr
    refine .leaf (by omega) ?_
    have h0 := h 0 (Nat.pow_pos (by decide))
    rw [eval_leaf hx hxl, eval_val w ha (by omega), eval_val w hb (by omega), eval_val w hc (by omega)] at h0
    rw [← h0]
    have := leaf_again w (get_some hx).2.2 hxl
    rw [this, Int.toNat_of_nonneg (get_some hx).1]
  | succ n ih =>
    intro s a b c r w hn ha hb hc hr h
    have hrange := linkOf_range w ha hb hc
    have hle := @linkOf_le s a b c
    by_cases h16 : linkOf s a b c = 16
    · exact ih w (by omega) ha hb hc hr h
    · generalize hL : linkOf s a b c = L at *
      have hL16 : L < 16 := by omega
      have hs := linkOf_sides w ha hb hc hL hL16 false
      have ht := linkOf_sides w ha hb hc hL hL16 true
      have rr := lnk_range w hr
      have hlr : L ≤ lnk s r := by
        refine Classical.byContradiction fun hne => ?_
        refine indep w (k := (lnk s r).toNat) hr (by omega) (by omega) fun F hF v => ?_
        rw [h _ (turn_lt v hF (by omega)), h _ hF, eval_under_turn w ha (by omega), eval_under_turn w hb (by omega), eval_under_turn w hc (by omega)]
      have sr := fun v => side_lnk w hr hlr hL16 v
      have side : ∀ v, linkOf s (sideOf s a L v) (sideOf s b L v) (sideOf s c L v) > L → isN s (sideOf s a L v) = true → isN s (sideOf s b L v) = true → isN s (sideOf s c L v) = true →
          Lifts f s (sideOf s a L v) (sideOf s b L v) (sideOf s c L v) s (sideOf s r L v) 0 := by
        intro v h1 h2 h3 h4
        refine ih w (by omega) h2 h3 h4 (sr v).1 fun F hF => ?_
        rw [eval_side w hr (by omega) hlr hL16, eval_side w ha (by omega) (by omega) hL16, eval_side w hb (by omega) (by omega) hL16, eval_side w hc (by omega) (by omega) hL16]
        exact h _ (turn_lt v hF (by omega))
      refine .ask L hL hL16 (side false hs.2.2.2 hs.1 hs.2.1 hs.2.2.1) (side true ht.2.2.2 ht.1 ht.2.1 ht.2.2.1) ?_
      by_cases hk : lnk s r = L
      · obtain ⟨x, hx⟩ := isN_get hr
        obtain ⟨hxl, hxk⟩ := lnk_lt hx (by omega)
        have := make_again w (get_some hx).2.2 hxl
        simp only [sideOf, hk, if_true, getZ_eq hx, Bool.false_eq_true, if_false]
        rw [← hk, ← hxk, this, Int.toNat_of_nonneg (get_some hx).1]
      · simp only [sideOf, hk, if_false]
        have ok : makeOk s L r r = true := makeOk_iff.2 ⟨by omega, by omega, under_lnk hr (by omega), under_lnk hr (by omega)⟩
        simp [make, ok]
theorem Lifts.there {f : Int → Int → Int → Int} {s : St} {a b c r : Int} (w : Wf s) (ha : isN s a = true) (hb : isN s b = true) (hc : isN s c = true) (hr : isN s r = true)
    (h : ∀ F : Nat, F < 2 ^ s.links → eval s r F = f (eval s a F) (eval s b F) (eval s c F)) : Lifts f s a b c s r 0 := Lifts.thereN _ w (Nat.le_refl _) ha hb hc hr h
/-- made again it is the same, and nothing comes -/
theorem Lifts.again {f : Int → Int → Int → Int} {s : St} {a b c : Int} {s' : St} {i : Int} (h : Lifts f s a b c s' i 0) (w : Wf s) (ha : isN s a = true) (hb : isN s b = true) (hc : isN s c = true) {t : St} (x : Ext s' t) (wt : Wf t) : Lifts f t a b c t i 0 := by
  have g := h.good w ha hb hc
  have y := g.ext.trans x
  refine Lifts.there wt (y.isN ha) (y.isN hb) (y.isN hc) (x.isN (g.here rfl)) fun F _ => ?_
  rw [x.eval g.wf wt _ _ (g.here rfl), y.eval w wt _ _ ha, y.eval w wt _ _ hb, y.eval w wt _ _ hc, g.eval rfl]

/-! ### How much comes -/
def inner (s : St) : Nat := (s.nodes.filter fun b => !b.leaf).length
def leaves (s : St) : Nat := (s.nodes.filter fun b => b.leaf).length
def out (s : St) : Nat := (s.nodes.filter fun b => b.leaf && !(decide (b.value = 0) || decide (b.value = 1))).length
theorem len_eq (s : St) : s.nodes.length = inner s + leaves s := by
  unfold inner leaves
  induction s.nodes with
  | nil => rfl
  | cons b l ih => cases hb : b.leaf <;> simp [List.filter_cons, hb, ih] <;> omega
theorem filter_split (q : Br → Bool) : ∀ l : List Br, (l.filter fun b => b.leaf).length = (l.filter fun b => b.leaf && !q b).length + (l.filter fun b => b.leaf && q b).length
  | [] => rfl
  | b :: l => by
    have ih := filter_split q l
    cases hb : b.leaf <;> cases hv : q b <;> simp [hb, hv, ih] <;> omega
theorem out_le (s : St) (w : Wf s) : leaves s ≤ out s + 2 ∧ out s ≤ leaves s := by
  have key := filter_split (fun b => decide (b.value = 0) || decide (b.value = 1)) s.nodes
  have hn : (s.nodes.filter fun b => b.leaf && (decide (b.value = 0) || decide (b.value = 1))).Nodup := List.Pairwise.filter _ w.nodup
  have h2 : (s.nodes.filter fun b => b.leaf && (decide (b.value = 0) || decide (b.value = 1))).length ≤ [leafB 0, leafB 1].length := by
    refine hn.length_le_of_subset fun b hb => ?_
    simp only [List.mem_filter, Bool.and_eq_true, Bool.or_eq_true, decide_eq_true_eq] at hb
    obtain ⟨hm, hl, hv⟩ := hb
    obtain ⟨i, hi, hi'⟩ := List.getElem_of_mem hm
    have := w.leafs i b (by rw [List.getElem?_eq_getElem hi, hi']) hl
    rcases hv with hv | hv <;> rw [hv] at this <;> simp [this]
  simp only [List.length_cons, List.length_nil] at h2
  unfold leaves out
  omega
theorem put_size {s : St} {b : Br} {s' : St} {i e : Int} (h : put s b = (s', i, e)) : s' = s ∨ s'.nodes = s.nodes ++ [b] := by
  rcases put_cases s b with ⟨j, hj, hp⟩ | ⟨_, hge, hp⟩ | ⟨_, _, hp⟩ <;> (rw [h] at hp; cases hp)
  · exact .inl rfl
  · exact .inl rfl
  · exact .inr rfl
theorem leaf_size {s : St} {v : Int} {s' : St} {i e : Int} (h : leaf s v = (s', i, e)) : inner s' = inner s ∧ leaves s' ≤ leaves s + 1 ∧ (v = 0 ∨ v = 1 → out s' = out s) := by
  rcases put_size h with rfl | h
  · exact ⟨rfl, by omega, fun _ => rfl⟩
  · unfold inner leaves out
    rw [h]
    simp only [List.filter_append, List.length_append]
    refine ⟨by simp [leafB], by simp [leafB], ?_⟩
    rintro (rfl | rfl) <;> simp [leafB]
theorem make_size {s : St} {k a b : Int} {s' : St} {i e : Int} (h : make s k a b = (s', i, e)) : inner s' ≤ inner s + 1 ∧ leaves s' = leaves s ∧ out s' = out s := by
  unfold make at h
  split at h
  · split at h
    · cases h; exact ⟨by omega, rfl, rfl⟩
    · rcases put_size h with rfl | h
      · exact ⟨by omega, rfl, rfl⟩
      · unfold inner leaves out
        rw [h]
        simp only [List.filter_append, List.length_append]
        exact ⟨by simp [askB], by simp [askB], by simp [askB]⟩
  · cases h; exact ⟨by omega, rfl, rfl⟩
theorem Lifts.size {f : Int → Int → Int → Int} {s : St} {a b c : Int} {s' : St} {i e : Int} (h : Lifts f s a b c s' i e) : Wf s → isN s a = true → isN s b = true → isN s c = true → ∀ d : Nat, s.links ≤ linkOf s a b c + d →
    inner s' + 1 ≤ inner s + 2 ^ d ∧ leaves s' ≤ leaves s + 2 ^ d ∧ ((∀ x y z, f x y z = 0 ∨ f x y z = 1) → out s' = out s) := by
  induction h with
  | @leaf s a b c s' i e hL h =>
    intro w ha hb hc d hd
    have := leaf_size h
    have h1 : 1 ≤ 2 ^ d := Nat.one_le_two_pow
    exact ⟨by omega, by omega, fun hf => this.2.2 (hf _ _ _)⟩
  | @err1 s a b c s1 i e L hL h16 h1 he ih =>
    intro w ha hb hc d hd
    have hs := linkOf_sides w ha hb hc hL h16 false
    have hr := linkOf_range w ha hb hc
    have hp : 2 ^ (d - 1) ≤ 2 ^ d := Nat.pow_le_pow_right (by decide) (by omega)
    have k1 := ih w hs.1 hs.2.1 hs.2.2.1 (d - 1) (by omega)
    exact ⟨by omega, by omega, k1.2.2⟩
  | @err2 s a b c s1 i1 s2 i e L hL h16 h1 h2 he ih1 ih2 =>
    intro w ha hb hc d hd
    have hs := linkOf_sides w ha hb hc hL h16 false
    have ht := linkOf_sides w ha hb hc hL h16 true
    have hr := linkOf_range w ha hb hc
    have hp : 2 ^ d = 2 ^ (d - 1) + 2 ^ (d - 1) := by rw [← Nat.two_mul, ← Nat.pow_succ']; congr 1; omega
    have g1 := h1.good w hs.1 hs.2.1 hs.2.2.1
    have k1 := ih1 w hs.1 hs.2.1 hs.2.2.1 (d - 1) (by omega)
    have k2 := ih2 g1.wf (g1.ext.isN ht.1) (g1.ext.isN ht.2.1) (g1.ext.isN ht.2.2.1) (d - 1) (by rw [g1.ext.linkOf ht.1 ht.2.1 ht.2.2.1, g1.ext.links]; omega)
    exact ⟨by omega, by omega, fun hf => (k2.2.2 hf).trans (k1.2.2 hf)⟩
  | @ask s a b c s1 i1 s2 i2 s3 i3 e3 L hL h16 h1 h2 h3 ih1 ih2 =>
    intro w ha hb hc d hd
    have hs := linkOf_sides w ha hb hc hL h16 false
    have ht := linkOf_sides w ha hb hc hL h16 true
    have hr := linkOf_range w ha hb hc
    have hp : 2 ^ d = 2 ^ (d - 1) + 2 ^ (d - 1) := by rw [← Nat.two_mul, ← Nat.pow_succ']; congr 1; omega
    have g1 := h1.good w hs.1 hs.2.1 hs.2.2.1
    have k1 := ih1 w hs.1 hs.2.1 hs.2.2.1 (d - 1) (by omega)
    have k2 := ih2 g1.wf (g1.ext.isN ht.1) (g1.ext.isN ht.2.1) (g1.ext.isN ht.2.2.1) (d - 1) (by rw [g1.ext.linkOf ht.1 ht.2.1 ht.2.2.1, g1.ext.links]; omega)
    have k3 := make_size h3
    exact ⟨by omega, by omega, fun hf => k3.2.2.trans ((k2.2.2 hf).trans (k1.2.2 hf))⟩
/-- at most so many nodes come, of up to six links -/
theorem Lifts.few {f : Int → Int → Int → Int} {s : St} {a b c : Int} {s' : St} {i e : Int} (h : Lifts f s a b c s' i e) (w : Wf s) (ha : isN s a = true) (hb : isN s b = true) (hc : isN s c = true) (h6 : s.links ≤ 6) :
    s'.nodes.length ≤ s.nodes.length + 127 ∧ ((∀ x y z, f x y z = 0 ∨ f x y z = 1) → s'.nodes.length ≤ s.nodes.length + 65) := by
  have hr := linkOf_range w ha hb hc
  have k := h.size w ha hb hc 6 (by omega)
  have l1 := len_eq s
  have l2 := len_eq s'
  have g := h.good w ha hb hc
  have o := out_le s w
  have o' := out_le s' g.wf
  refine ⟨by omega, fun hf => ?_⟩
  have := k.2.2 hf
  omega
theorem Lifts.ok {f : Int → Int → Int → Int} {s : St} {a b c : Int} {s' : St} {i e : Int} (h : Lifts f s a b c s' i e) (w : Wf s) (ha : isN s a = true) (hb : isN s b = true) (hc : isN s c = true) (h6 : s.links ≤ 6)
    (hm : s.nodes.length + 127 < s.most ∨ ((∀ x y z, f x y z = 0 ∨ f x y z = 1) ∧ s.nodes.length + 65 < s.most)) : e = 0 := by
  have k := h.few w ha hb hc h6
  have g := h.good w ha hb hc
  rcases g.err with h | ⟨_, _, hl⟩
  · exact h
  · rw [g.ext.most] at hl
    rcases hm with hm | ⟨hf, hm⟩
    · have := k.1; omega
    · have := k.2 hf; omega

/-! ### What comes hangs below what is told -/
theorem Lifts.comes {f : Int → Int → Int → Int} {s : St} {a b c : Int} {s' : St} {i e : Int} (h : Lifts f s a b c s' i e) : Wf s → isN s a = true → isN s b = true → isN s c = true → e = 0 → ∀ j, isN s' j = true → isN s j = false → comes s' i j = true := by
  induction h with
  | @leaf s a b c s' i e hL h =>
    intro w ha hb hc he j hj hn
    subst he
    obtain ⟨w', x, hh⟩ := leaf_case w h
    have hN : isN s' i = true := by
      rcases hh with ⟨h0, _⟩ | ⟨_, hg⟩
      · cases h0
      · exact isN_some hg
    have : i = j := by
      rcases put_cases s (leafB (f (val s a) (val s b) (val s c))) with ⟨k, hk, hp⟩ | ⟨_, hge, hp⟩ | ⟨_, _, hp⟩
      · rw [show put s _ = _ from h] at hp; cases hp; rw [hn] at hj; cases hj
      · rw [show put s _ = _ from h] at hp; cases hp
      · rw [show put s _ = _ from h] at hp; cases hp
        have h1 := isN_iff.1 hj
        have h2 : ¬(0 ≤ j ∧ j < s.nodes.length) := fun hh => by rw [isN_iff.2 hh] at hn; cases hn
        simp at h1
        omega
    subst this
    exact comes_self hN
  | @err1 s a b c s1 i e L hL h16 h1 he ih => intro _ _ _ _ h; exact (he h).elim
  | @err2 s a b c s1 i1 s2 i e L hL h16 h1 h2 he ih1 ih2 => intro _ _ _ _ h; exact (he h).elim
  | @ask s a b c s1 i1 s2 i2 s3 i3 e3 L hL h16 h1 h2 h3 ih1 ih2 =>
    intro w ha hb hc he j hj hn
    subst he
    have hs := linkOf_sides w ha hb hc hL h16 false
    have ht := linkOf_sides w ha hb hc hL h16 true
    have hr := linkOf_range w ha hb hc
    have g1 := h1.good w hs.1 hs.2.1 hs.2.2.1
    have g2 := h2.good g1.wf (g1.ext.isN ht.1) (g1.ext.isN ht.2.1) (g1.ext.isN ht.2.2.1)
    have n1 := g2.ext.isN (g1.here rfl)
    have n2 := g2.here rfl
    have l1 := g1.link rfl
    have l2 := g2.link rfl
    rw [g1.ext.linkOf ht.1 ht.2.1 ht.2.2.1] at l2
    rw [← g2.ext.lnk (g1.here rfl)] at l1
    have ok : makeOk s2 L i1 i2 = true := makeOk_iff.2 ⟨by omega, by rw [g2.ext.links, g1.ext.links]; omega, under_lnk n1 (by omega), under_lnk n2 (by omega)⟩
    obtain ⟨w3, x3, hh⟩ := make_case g2.wf ok h3
    have hh' : (i1 = i2 ∧ i3 = i1 ∧ s3 = s2) ∨ (i1 ≠ i2 ∧ get s3 i3 = some (askB L i1 i2)) := by
      rcases hh with ⟨h0, _⟩ | ⟨_, hh⟩
      · cases h0
      · exact hh
    have down1 : ∀ j, M.comes s2 i1 j = true → M.comes s3 i3 j = true := by
      intro j hj
      rcases hh' with ⟨_, rfl, rfl⟩ | ⟨_, hg⟩
      · exact hj
      · rw [comes_ask w3 hg rfl]
        show (_ || (M.comes s3 i1 j || M.comes s3 i2 j)) = true
        rw [x3.comes g2.wf w3 _ _ n1, hj]; simp
    have down2 : ∀ j, M.comes s2 i2 j = true → M.comes s3 i3 j = true := by
      intro j hj
      rcases hh' with ⟨rfl, rfl, rfl⟩ | ⟨_, hg⟩
      · exact hj
      · rw [comes_ask w3 hg rfl]
        show (_ || (M.comes s3 i1 j || M.comes s3 i2 j)) = true
        rw [x3.comes g2.wf w3 _ _ n2, hj]; simp
    cases hj2 : isN s2 j with
    | false =>
      have : i3 = j := by
        unfold make at h3
        rw [if_pos ok] at h3
        split at h3
        · cases h3; rw [hj2] at hj; cases hj
        · rcases put_cases s2 (askB L i1 i2) with ⟨k, hk, hp⟩ | ⟨_, hge, hp⟩ | ⟨_, _, hp⟩
          · rw [h3] at hp; cases hp; rw [hj2] at hj; cases hj
          · rw [h3] at hp; cases hp
          · rw [h3] at hp; cases hp
            have h1 := isN_iff.1 hj
            have h2 : ¬(0 ≤ j ∧ j < s2.nodes.length) := fun hh => by rw [isN_iff.2 hh] at hj2; cases hj2
            simp at h1
            omega
      subst this
      exact comes_self hj
    | true =>
      cases hj1 : isN s1 j with
      | false => exact down2 j (ih2 g1.wf (g1.ext.isN ht.1) (g1.ext.isN ht.2.1) (g1.ext.isN ht.2.2.1) rfl j hj2 hj1)
      | true =>
        refine down1 j ?_
        rw [g2.ext.comes g1.wf g2.wf _ _ (g1.here rfl)]
        exact ih1 w hs.1 hs.2.1 hs.2.2.1 rfl j hj1 hn

/-! ### In a smaller room -/
def St.room (s : St) (m : Nat) : St := { s with most := m }
theorem put_sim {s : St} {b : Br} {s' : St} {i : Int} (h : put s b = (s', i, 0)) {m : Nat} (hm : s.nodes.length ≤ m) :
    (s'.nodes.length ≤ m → put (s.room m) b = (s'.room m, i, 0)) ∧ (m < s'.nodes.length → put (s.room m) b = (s.room m, 0, 60) ∧ s.nodes.length = m) := by
  unfold put at h ⊢
  show (_ → (match idx s.nodes b with | some i => _ | none => _) = _) ∧ (_ → (match idx s.nodes b with | some i => _ | none => _) = _ ∧ _)
  cases hi : idx s.nodes b with
  | some k =>
    rw [hi] at h
    cases h
    exact ⟨fun _ => rfl, fun hh => by omega⟩
  | none =>
    rw [hi] at h
    simp only at h ⊢
    split at h
    · cases h
    · cases h
      simp only [List.length_append, List.length_cons, List.length_nil]
      refine ⟨fun hh => ?_, fun hh => ⟨?_, by omega⟩⟩
      · rw [if_neg (by show ¬m ≤ s.nodes.length; omega)]; rfl
      · rw [if_pos (by show m ≤ s.nodes.length; omega)]
theorem make_sim {s : St} {k a b : Int} {s' : St} {i : Int} (h : make s k a b = (s', i, 0)) {m : Nat} (hm : s.nodes.length ≤ m) :
    (s'.nodes.length ≤ m → make (s.room m) k a b = (s'.room m, i, 0)) ∧ (m < s'.nodes.length → make (s.room m) k a b = (s.room m, 0, 60) ∧ s.nodes.length = m) := by
  have e : makeOk (s.room m) k a b = makeOk s k a b := rfl
  unfold make at h ⊢
  rw [e]
  split at h
  · rename_i ok
    rw [if_pos ok]
    split at h
    · rename_i hab
      cases h
      rw [if_pos hab]
      exact ⟨fun _ => rfl, fun hh => by omega⟩
    · rename_i hab
      rw [if_neg hab]
      exact put_sim h hm
  · cases h
theorem Lifts.sim {f : Int → Int → Int → Int} {s : St} {a b c : Int} {s' : St} {i e : Int} (h : Lifts f s a b c s' i e) : Wf s → isN s a = true → isN s b = true → isN s c = true → e = 0 → ∀ m, s.nodes.length ≤ m →
    (s'.nodes.length ≤ m → Lifts f (s.room m) a b c (s'.room m) i 0) ∧ (m < s'.nodes.length → ∃ t, Lifts f (s.room m) a b c t 0 60 ∧ t.nodes.length = m) := by
  induction h with
  | @leaf s a b c s' i e hL h =>
    intro w ha hb hc he m hm
    subst he
    have k := put_sim h hm
    exact ⟨fun hh => .leaf hL (k.1 hh), fun hh => ⟨s.room m, .leaf hL (k.2 hh).1, (k.2 hh).2⟩⟩
  | @err1 s a b c s1 i e L hL h16 h1 he ih => intro _ _ _ _ h; exact (he h).elim
  | @err2 s a b c s1 i1 s2 i e L hL h16 h1 h2 he ih1 ih2 => intro _ _ _ _ h; exact (he h).elim
  | @ask s a b c s1 i1 s2 i2 s3 i3 e3 L hL h16 h1 h2 h3 ih1 ih2 =>
    intro w ha hb hc he m hm
    subst he
    have hs := linkOf_sides w ha hb hc hL h16 false
    have ht := linkOf_sides w ha hb hc hL h16 true
    have g1 := h1.good w hs.1 hs.2.1 hs.2.2.1
    have g2 := h2.good g1.wf (g1.ext.isN ht.1) (g1.ext.isN ht.2.1) (g1.ext.isN ht.2.2.1)
    have x3 := make_ext s2 L i1 i2
    rw [h3] at x3
    have q1 := g1.ext.len
    have q2 := g2.ext.len
    have q3 : s2.nodes.length ≤ s3.nodes.length := x3.len
    have k1 := ih1 w hs.1 hs.2.1 hs.2.2.1 rfl m hm
    by_cases m1 : s1.nodes.length ≤ m
    · have k2 := ih2 g1.wf (g1.ext.isN ht.1) (g1.ext.isN ht.2.1) (g1.ext.isN ht.2.2.1) rfl m m1
      by_cases m2 : s2.nodes.length ≤ m
      · have k3 := make_sim h3 m2
        exact ⟨fun hh => .ask L hL h16 (k1.1 m1) (k2.1 m2) (k3.1 hh), fun hh => ⟨s2.room m, .ask L hL h16 (k1.1 m1) (k2.1 m2) (k3.2 hh).1, (k3.2 hh).2⟩⟩
      · refine ⟨fun hh => by omega, fun hh => ?_⟩
        obtain ⟨t, ht, hl⟩ := k2.2 (by omega)
        exact ⟨t, .err2 L hL h16 (k1.1 m1) ht (by decide), hl⟩
    · refine ⟨fun hh => by omega, fun hh => ?_⟩
      obtain ⟨t, ht, hl⟩ := k1.2 (by omega)
      exact ⟨t, .err1 L hL h16 ht (by decide), hl⟩
end Go.Proofs.YtchikjmhncojfaaDoor.M
