/- A link fixed in a diagram: the plain part of layer 17. Conditions: none. -/
import Derived.Test.YtchikjmhncojfaaDoorTellM
namespace Go.Proofs.YtchikjmhncojfaaDoor.M
inductive Fx (k : Int) (v : Bool) : St → Int → St → Int → Int → Prop
  | stay {s id} (h : k < lnk s id) : Fx k v s id s id 0
  | side {s id} (h : lnk s id = k) : Fx k v s id s (sideOf s id k v) 0
  | err1 {s id s1 i e} (h : lnk s id < k) (h1 : Fx k v s (getZ s id).stands s1 i e) (he : e ≠ 0) : Fx k v s id s1 0 e
  | err2 {s id s1 i1 s2 i e} (h : lnk s id < k) (h1 : Fx k v s (getZ s id).stands s1 i1 0) (h2 : Fx k v s1 (getZ s id).fails s2 i e) (he : e ≠ 0) : Fx k v s id s2 0 e
  | ask {s id s1 i1 s2 i2 s3 i3 e3} (h : lnk s id < k) (h1 : Fx k v s (getZ s id).stands s1 i1 0) (h2 : Fx k v s1 (getZ s id).fails s2 i2 0) (h3 : make s2 (lnk s id) i1 i2 = (s3, i3, e3)) : Fx k v s id s3 i3 e3
structure GoodF (k : Nat) (v : Bool) (s : St) (id : Int) (s' : St) (i e : Int) : Prop where
  wf : Wf s'
  ext : Ext s s'
  err : e = 0 ∨ (e = 60 ∧ i = 0 ∧ s'.nodes.length = s'.most)
  here : e = 0 → isN s' i = true
  link : e = 0 → lnk s id ≤ lnk s' i
  eval : e = 0 → ∀ F : Nat, M.eval s' i F = M.eval s id (turn F k v : Nat)
/-- what a node asks, if it asks one ahead of k -/
theorem ask_parts {s : St} (w : Wf s) {id : Int} {k : Int} (hid : isN s id = true) (h : lnk s id < k) (hk : k < 16) :
    isN s (getZ s id).stands = true ∧ isN s (getZ s id).fails = true ∧ lnk s id < lnk s (getZ s id).stands ∧ lnk s id < lnk s (getZ s id).fails ∧ 0 ≤ lnk s id ∧ lnk s id < s.links ∧
    (∀ F : Nat, M.eval s id F = if has (F : Nat) (lnk s id) then M.eval s (getZ s id).fails F else M.eval s (getZ s id).stands F) := by
  obtain ⟨b, hb⟩ := isN_get hid
  obtain ⟨hl, hlk⟩ := lnk_lt hb (by omega)
  have ha := w.ask hb hl
  rw [getZ_eq hb, ← hlk]
  refine ⟨under_isN ha.2.2.2.2.1, under_isN ha.2.2.2.2.2.1, lnk_under w (by omega) ha.2.2.2.2.1, lnk_under w (by omega) ha.2.2.2.2.2.1, ha.2.1, ha.2.2.1, fun F => ?_⟩
  rw [eval_ask w hb hl]
  unfold down
  split <;> rfl
theorem Fx.good {k : Nat} {v : Bool} {s : St} {id : Int} {s' : St} {i e : Int} (h : Fx k v s id s' i e) (hk : k < 16) : Wf s → isN s id = true → GoodF k v s id s' i e := by
  generalize hkk : (k : Int) = kk at h
  induction h with
  | @stay s id h =>
    subst hkk
    intro w hid
    exact ⟨w, Ext.refl _, .inl rfl, fun _ => hid, fun _ => Int.le_refl _, fun _ F => (eval_under_turn w hid h F v).symm⟩
  | @side s id h =>
    subst hkk
    intro w hid
    have hs := side_lnk w hid (by omega : (k : Int) ≤ lnk s id) (by omega) v
    refine ⟨w, Ext.refl _, .inl rfl, fun _ => hs.1, fun _ => by have := hs.2; omega, fun _ F => ?_⟩
    rw [eval_side w hid (by omega) (by omega) (by omega)]
    unfold turnI; rw [Int.toNat_natCast]
  | @err1 s id s1 i e h h1 he ih =>
    subst hkk
    intro w hid
    have hp := ask_parts w hid h (by omega)
    have g := ih w hp.1
    refine ⟨g.wf, g.ext, .inr ?_, fun h => (he h).elim, fun h => (he h).elim, fun h => (he h).elim⟩
    rcases g.err with h | h
    · exact (he h).elim
    · exact ⟨h.1, rfl, h.2.2⟩
  | @err2 s id s1 i1 s2 i e h h1 h2 he ih1 ih2 =>
    subst hkk
    intro w hid
    have hp := ask_parts w hid h (by omega)
    have g1 := ih1 w hp.1
    have g := ih2 g1.wf (g1.ext.isN hp.2.1)
    refine ⟨g.wf, g1.ext.trans g.ext, .inr ?_, fun h => (he h).elim, fun h => (he h).elim, fun h => (he h).elim⟩
    rcases g.err with h | h
    · exact (he h).elim
    · exact ⟨h.1, rfl, h.2.2⟩
  | @ask s id s1 i1 s2 i2 s3 i3 e3 h h1 h2 h3 ih1 ih2 =>
    subst hkk
    intro w hid
    have hp := ask_parts w hid h (by omega)
    have g1 := ih1 w hp.1
    have g2 := ih2 g1.wf (g1.ext.isN hp.2.1)
    have n1 := g2.ext.isN (g1.here rfl)
    have n2 := g2.here rfl
    have l1 := g1.link rfl
    have l2 := g2.link rfl
    rw [g1.ext.lnk hp.2.1] at l2
    rw [← g2.ext.lnk (g1.here rfl)] at l1
    have ok : makeOk s2 (lnk s id) i1 i2 = true := makeOk_iff.2 ⟨hp.2.2.2.2.1, by rw [g2.ext.links, g1.ext.links]; exact hp.2.2.2.2.2.1, under_lnk n1 (by omega), under_lnk n2 (by omega)⟩
    obtain ⟨w3, x3, hh⟩ := make_case g2.wf ok h3
    have x := (g1.ext.trans g2.ext).trans x3
    have e1 : ∀ F : Nat, M.eval s2 i1 F = M.eval s (getZ s id).stands (turn F k v : Nat) := fun F => by rw [g2.ext.eval g1.wf g2.wf _ _ (g1.here rfl), g1.eval rfl]
    have e2 : ∀ F : Nat, M.eval s2 i2 F = M.eval s (getZ s id).fails (turn F k v : Nat) := fun F => by rw [g2.eval rfl, g1.ext.eval w g1.wf _ _ hp.2.1]
    have key : ∀ F : Nat, (if has (F : Nat) (lnk s id) then M.eval s2 i2 F else M.eval s2 i1 F) = M.eval s id (turn F k v : Nat) := by
      intro F
      rw [hp.2.2.2.2.2.2, has_turn_other F k v (lnk s id) (by omega), e1, e2]
    rcases hh with ⟨rfl, rfl, rfl, hf⟩ | ⟨rfl, hh⟩
    · exact ⟨w3, x, .inr ⟨rfl, rfl, hf⟩, fun h => by simp at h, fun h => by simp at h, fun h => by simp at h⟩
    · rcases hh with ⟨rfl, rfl, rfl⟩ | ⟨hne, hg⟩
      · refine ⟨w3, x, .inl rfl, fun _ => n1, fun _ => by omega, fun _ F => ?_⟩
        rw [← key F]
        split <;> rfl
      · refine ⟨w3, x, .inl rfl, fun _ => isN_some hg, fun _ => by rw [lnk_ask hg rfl]; exact Int.le_refl _, fun _ F => ?_⟩
        rw [eval_ask w3 hg rfl, ← key F]
        show M.eval s3 (if has (F : Nat) (lnk s id) then i2 else i1) F = _
        split
        · rw [x3.eval g2.wf w3 _ _ n2]
        · rw [x3.eval g2.wf w3 _ _ n1]
theorem Fx.only {k : Int} {v : Bool} {s : St} {id : Int} {s' : St} {i e : Int} (h : Fx k v s id s' i e) : ∀ {t : St} {j g : Int}, Fx k v s id t j g → s' = t ∧ i = j ∧ e = g := by
  induction h with
  | stay h =>
    intro t j g q
    cases q with
    | stay => exact ⟨rfl, rfl, rfl⟩
    | side => omega
    | err1 => omega
    | err2 => omega
    | ask => omega
  | side h =>
    intro t j g q
    cases q with
    | stay => omega
    | side => exact ⟨rfl, rfl, rfl⟩
    | err1 => omega
    | err2 => omega
    | ask => omega
  | err1 h h1 he ih =>
    intro t j g q
    cases q with
    | stay => omega
    | side => omega
    | err1 _ h1' he' => obtain ⟨a, _, b⟩ := ih h1'; exact ⟨a, rfl, b⟩
    | err2 _ h1' _ _ => exact (he (ih h1').2.2).elim
    | ask _ h1' _ _ => exact (he (ih h1').2.2).elim
  | err2 h h1 h2 he ih1 ih2 =>
    intro t j g q
    cases q with
    | stay => omega
    | side => omega
    | err1 _ h1' he' => exact (he' (ih1 h1').2.2.symm).elim
    | err2 _ h1' h2' _ =>
      obtain ⟨rfl, rfl, _⟩ := ih1 h1'
      obtain ⟨a, _, b⟩ := ih2 h2'
      exact ⟨a, rfl, b⟩
    | ask _ h1' h2' _ =>
      obtain ⟨rfl, rfl, _⟩ := ih1 h1'
      exact (he (ih2 h2').2.2).elim
  | ask h h1 h2 h3 ih1 ih2 =>
    intro t j g q
    cases q with
    | stay => omega
    | side => omega
    | err1 _ h1' he' => exact (he' (ih1 h1').2.2.symm).elim
    | err2 _ h1' h2' he' =>
      obtain ⟨rfl, rfl, _⟩ := ih1 h1'
      exact (he' (ih2 h2').2.2.symm).elim
    | ask _ h1' h2' h3' =>
      obtain ⟨rfl, rfl, _⟩ := ih1 h1'
      obtain ⟨rfl, rfl, _⟩ := ih2 h2'
      rw [h3] at h3'; cases h3'; exact ⟨rfl, rfl, rfl⟩
def fxN (k : Int) (v : Bool) : Nat → St → Int → St × Int × Int
  | 0, s, id => if k < lnk s id then (s, id, 0) else (s, sideOf s id k v, 0)
  | n + 1, s, id =>
    if k < lnk s id then (s, id, 0) else if lnk s id = k then (s, sideOf s id k v, 0) else
      let r1 := fxN k v n s (getZ s id).stands
      if r1.2.2 = 0 then
        let r2 := fxN k v n r1.1 (getZ s id).fails
        if r2.2.2 = 0 then make r2.1 (lnk s id) r1.2.1 r2.2.1 else (r2.1, 0, r2.2.2)
      else (r1.1, 0, r1.2.2)
theorem fxN_fx (k : Nat) (v : Bool) (hk : k < 16) : ∀ (n : Nat) {s : St} {id : Int}, Wf s → isN s id = true → ((k : Int) - lnk s id).toNat ≤ n → Fx k v s id (fxN k v n s id).1 (fxN k v n s id).2.1 (fxN k v n s id).2.2
  | 0, s, id, w, hid, hn => by
    unfold fxN
    split
    · exact .stay (by assumption)
    · exact .side (by omega)
  | n + 1, s, id, w, hid, hn => by
    unfold fxN
    split
    · exact .stay (by assumption)
    · split
      · exact .side (by assumption)
      · have hp := ask_parts w hid (k := k) (by omega) (by omega)
        have i1 := fxN_fx k v hk n w hp.1 (by omega)
        have g1 := i1.good hk w hp.1
        have i2 := fxN_fx k v hk n g1.wf (g1.ext.isN hp.2.1) (by rw [g1.ext.lnk hp.2.1]; omega)
        simp only
        split
        · rename_i h1
          rw [h1] at i1
          split
          · rename_i h2
            rw [h2] at i2
            exact .ask (by omega) i1 i2 rfl
          · rename_i h2
            exact .err2 (by omega) i1 i2 h2
        · rename_i h1
          exact .err1 (by omega) i1 h1
theorem Fx.ex {k : Nat} (v : Bool) (hk : k < 16) {s : St} {id : Int} (w : Wf s) (hid : isN s id = true) : ∃ s' i e, Fx k v s id s' i e := ⟨_, _, _, fxN_fx k v hk 16 w hid (by have := lnk_range w hid; omega)⟩
theorem fxN_eq {k : Nat} {v : Bool} (hk : k < 16) {s : St} {id : Int} {s' : St} {i e : Int} (w : Wf s) (hid : isN s id = true) (h : fxN k v 16 s id = (s', i, e)) : Fx k v s id s' i e := by
  have := fxN_fx k v hk 16 w hid (by have := lnk_range w hid; omega)
  rw [h] at this
  exact this
/-- if the node is there already, it is told, and nothing comes -/
theorem Fx.thereN {k : Nat} {v : Bool} (hk : k < 16) : ∀ (n : Nat) {s : St} {id r : Int}, Wf s → ((k : Int) - lnk s id).toNat ≤ n → isN s id = true → isN s r = true → (k : Int) < s.links ∨ lnk s id ≠ k →
    (∀ F : Nat, F < 2 ^ s.links → eval s r F = eval s id (turn F k v : Nat)) → Fx k v s id s r 0 := by
  intro n
  induction n with
  | zero =>
    intro s id r w hn hid hr hkl h
    by_cases h1 : (k : Int) < lnk s id
    · have : r = id := unique w hr hid fun F hF => by rw [h F hF, eval_under_turn w hid h1]
      subst this; exact .stay h1
    · have hs := side_lnk w hid (by omega : (k : Int) ≤ lnk s id) (by omega) v
      have : r = sideOf s id k v := unique w hr hs.1 fun F hF => by
        rw [h F hF, eval_side w hid (by omega) (by omega) (by omega)]
        unfold turnI; rw [Int.toNat_natCast]
      subst this; exact .side (by omega)
  | succ n ih =>
    intro s id r w hn hid hr hkl h
    by_cases h1 : (k : Int) ≤ lnk s id
    · exact ih w (by omega) hid hr hkl h
    · have hl := w.links
      have hp := ask_parts w hid (k := k) (by omega) (by omega)
      obtain ⟨p1, p2, p3, p4, p5, p6, p7⟩ := hp
      obtain ⟨ll, hll⟩ : ∃ ll : Nat, lnk s id = ll := ⟨(lnk s id).toNat, by omega⟩
      have hlr : lnk s id ≤ lnk s r := by
        refine Classical.byContradiction fun hne => ?_
        have rr := lnk_range w hr
        obtain ⟨rl, hrl⟩ : ∃ rl : Nat, lnk s r = rl := ⟨(lnk s r).toNat, by omega⟩
        refine indep w (k := rl) hr hrl (by omega) fun F hF v' => ?_
        have hlt : rl < s.links := by have := rr.2.2 (by omega); omega
        rw [h _ (turn_lt v' hF hlt), h _ hF]
        refine eval_agree w id (lnk s id - 1) (under_lnk hid (by omega)) fun l hl' => ?_
        by_cases hlk : l = k
        · subst hlk; rw [has_turn _ _ _ hk, has_turn _ _ _ hk]
        · rw [has_turn_other _ _ _ _ hlk, has_turn_other _ _ _ _ hlk, has_turn_other _ _ _ _ (by omega)]
      have sr := fun v' => side_lnk w hr hlr (by omega) v'
      have ev : ∀ (v' : Bool) (F : Nat), F < 2 ^ s.links → eval s (sideOf s r (lnk s id) v') F = eval s (if v' then (getZ s id).fails else (getZ s id).stands) (turn F k v : Nat) := by
        intro v' F hF
        rw [eval_side w hr p5 hlr (by omega), hll]
        unfold turnI
        rw [Int.toNat_natCast, h _ (turn_lt v' hF (by omega)), p7]
        have hh : has (turn (turn F ll v') k v : Nat) (lnk s id) = v' := by
          rw [has_turn_other _ _ _ _ (by omega), hll]
          exact has_turn F ll v' (by omega)
        rw [hh]
        have agree : ∀ {x : Int}, isN s x = true → lnk s id < lnk s x → eval s x (turn (turn F ll v') k v : Nat) = eval s x (turn F k v : Nat) := by
          intro x hx hlx
          refine eval_agree w x (lnk s id) (under_lnk hx hlx) fun l hl' => ?_
          by_cases hlk : l = k
          · subst hlk; rw [has_turn _ _ _ hk, has_turn _ _ _ hk]
          · rw [has_turn_other _ _ _ _ hlk, has_turn_other _ _ _ _ hlk, has_turn_other _ _ _ _ (by omega)]
        cases v' with
        | true => exact agree p2 p4
        | false => exact agree p1 p3
      have hk2 : (k : Int) < s.links ∨ ∀ x, isN s x = true → lnk s x ≠ k := by
        by_cases hks : (k : Int) < s.links
        · exact .inl hks
        · refine .inr fun x hx he => ?_
          have := (lnk_range w hx).2.2 (by omega)
          omega
      have hkk : ∀ x, isN s x = true → (k : Int) < s.links ∨ lnk s x ≠ k := fun x hx => by rcases hk2 with h | h; exact .inl h; exact .inr (h x hx)
      have A1 : Fx k v s (getZ s id).stands s (sideOf s r (lnk s id) false) 0 := ih w (by omega) p1 (sr false).1 (hkk _ p1) (ev false)
      have A2 : Fx k v s (getZ s id).fails s (sideOf s r (lnk s id) true) 0 := ih w (by omega) p2 (sr true).1 (hkk _ p2) (ev true)
      refine .ask (by omega) A1 A2 ?_
      by_cases he : lnk s r = lnk s id
      · obtain ⟨x, hx⟩ := isN_get hr
        obtain ⟨hxl, hxk⟩ := lnk_lt hx (by omega)
        have := make_again w (get_some hx).2.2 hxl
        simp only [sideOf, he, if_true, getZ_eq hx, Bool.false_eq_true, if_false]
        rw [← he, ← hxk, this, Int.toNat_of_nonneg (get_some hx).1]
      · simp only [sideOf, he, if_false]
        have ok : makeOk s (lnk s id) r r = true := makeOk_iff.2 ⟨p5, p6, under_lnk hr (by omega), under_lnk hr (by omega)⟩
        simp [make, ok]
theorem Fx.there {k : Nat} {v : Bool} (hk : k < 16) {s : St} {id r : Int} (w : Wf s) (hkl : (k : Int) < s.links) (hid : isN s id = true) (hr : isN s r = true) (h : ∀ F : Nat, F < 2 ^ s.links → eval s r F = eval s id (turn F k v : Nat)) : Fx k v s id s r 0 :=
  Fx.thereN hk _ w (Nat.le_refl _) hid hr (.inl hkl) h
theorem Fx.again {k : Nat} {v : Bool} (hk : k < 16) {s : St} {id : Int} {s' : St} {i : Int} (h : Fx k v s id s' i 0) (w : Wf s) (hkl : (k : Int) < s.links) (hid : isN s id = true) {t : St} (x : Ext s' t) (wt : Wf t) : Fx k v t id t i 0 := by
  have g := h.good hk w hid
  have y := g.ext.trans x
  refine Fx.there hk wt (by rw [y.links]; exact hkl) (y.isN hid) (x.isN (g.here rfl)) fun F _ => ?_
  rw [x.eval g.wf wt _ _ (g.here rfl), y.eval w wt _ _ hid, g.eval rfl]
/-- how much comes -/
theorem Fx.size {k : Nat} {v : Bool} (hk : k < 16) {s : St} {id : Int} {s' : St} {i e : Int} (h : Fx k v s id s' i e) : Wf s → isN s id = true → ∀ d : Nat, (k : Int) ≤ lnk s id + d → s'.nodes.length + 1 ≤ s.nodes.length + 2 ^ d := by
  have msz : ∀ {s : St} {l a b : Int} {s' : St} {i e : Int}, make s l a b = (s', i, e) → s'.nodes.length ≤ s.nodes.length + 1 := by
    intro s l a b s' i e h
    have h1 := make_size h
    have h2 := len_eq s
    have h3 := len_eq s'
    omega
  generalize hkk : (k : Int) = kk at h
  induction h with
  | stay h => intro _ _ d _; have : 1 ≤ 2 ^ d := Nat.one_le_two_pow; omega
  | side h => intro _ _ d _; have : 1 ≤ 2 ^ d := Nat.one_le_two_pow; omega
  | @err1 s id s1 i e h h1 he ih =>
    subst hkk
    intro w hid d hd
    have hp := ask_parts w hid h (by omega)
    have hp2 : 2 ^ (d - 1) ≤ 2 ^ d := Nat.pow_le_pow_right (by decide) (by omega)
    have := ih w hp.1 (d - 1) (by omega)
    omega
  | @err2 s id s1 i1 s2 i e h h1 h2 he ih1 ih2 =>
    subst hkk
    intro w hid d hd
    have hp := ask_parts w hid h (by omega)
    have hp2 : 2 ^ d = 2 ^ (d - 1) + 2 ^ (d - 1) := by rw [← Nat.two_mul, ← Nat.pow_succ']; congr 1; omega
    have g1 := h1.good hk w hp.1
    have k1 := ih1 w hp.1 (d - 1) (by omega)
    have k2 := ih2 g1.wf (g1.ext.isN hp.2.1) (d - 1) (by rw [g1.ext.lnk hp.2.1]; omega)
    omega
  | @ask s id s1 i1 s2 i2 s3 i3 e3 h h1 h2 h3 ih1 ih2 =>
    subst hkk
    intro w hid d hd
    have hp := ask_parts w hid h (by omega)
    have hp2 : 2 ^ d = 2 ^ (d - 1) + 2 ^ (d - 1) := by rw [← Nat.two_mul, ← Nat.pow_succ']; congr 1; omega
    have g1 := h1.good hk w hp.1
    have k1 := ih1 w hp.1 (d - 1) (by omega)
    have k2 := ih2 g1.wf (g1.ext.isN hp.2.1) (d - 1) (by rw [g1.ext.lnk hp.2.1]; omega)
    have := msz h3
    omega
theorem fix_room {s : St} {c : Nat} {k : Nat} (v : Bool) (h : Room6 s c) (hc : c + 64 < 1000) (hk : k < s.links) {x : Int} {g : Nat → Int} (tx : Tells s x g) :
    ∃ s' i, Fx k v s x s' i 0 ∧ Ext s s' ∧ Room6 s' (c + 64) ∧ Tells s' i (fun F => g (turn F k v)) := by
  have h6 := h.six
  have hk16 : k < 16 := by omega
  obtain ⟨s', i, e, A⟩ := Fx.ex v hk16 h.wf tx.here
  have g' := A.good hk16 h.wf tx.here
  have hs := A.size hk16 h.wf tx.here 6 (by have := lnk_range h.wf tx.here; omega)
  have hl := h.len
  have hm := h.most
  have he : e = 0 := by
    rcases g'.err with h | ⟨_, _, hh⟩
    · exact h
    · rw [g'.ext.most] at hh; omega
  subst he
  exact ⟨s', i, A, g'.ext, ⟨g'.wf, by rw [g'.ext.links]; exact h6, by rw [g'.ext.most]; exact hm, by omega⟩, g'.here rfl, fun F => by rw [g'.eval rfl, tx.eval]⟩
end Go.Proofs.YtchikjmhncojfaaDoor.M
