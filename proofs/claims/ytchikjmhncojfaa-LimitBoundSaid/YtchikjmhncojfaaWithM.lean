/- How many nodes a diagram has that tells DontCare of all large sets: the plain part of LimitBound. Conditions: none. -/
import Derived.Test.YtchikjmhncojfaaSetsM
namespace Go.Proofs.Ytchikjmhncojfaa.M
theorem count_leaf {s : St} (w : Wf s) {id : Int} {b : Br} (hb : get s id = some b) (hl : b.leaf = true) : count s id = 1 := by
  have := count_of w (a := id) (l := [id]) (by simp) (fun x => by
    rw [comes_leaf hb hl]
    simp only [List.mem_singleton, decide_eq_true_eq]
    exact ⟨fun h => h.symm, fun h => h.symm⟩)
  rw [← this]; rfl
theorem has_turn_pop (F : Nat) {l : Nat} (v : Bool) (hl : l < 16) {k d : Nat} (hk : k ≤ l) (hd : l < k + d) :
    popF F ((l : Int) + 1) (k + d - (l + 1)) + (if v then 1 else 0) ≤ popF (turn F l v) (k : Int) d := by
  have e : d = (l - k) + (1 + (k + d - (l + 1))) := by omega
  rw [e, popF_app, popF_app, show ((k : Int) + ((l - k : Nat) : Int)) = (l : Int) by omega]
  have h1 := popF_lo (turn F l v) (l - k) k
  have h2 : popF (turn F l v) (l : Int) 1 = if v then 1 else 0 := by
    rw [popF_succ, has_turn F l v hl]
    cases v <;> simp [popF]
  have h3 : popF (turn F l v) ((l : Int) + (1 : Nat)) (k + d - (l + 1)) = popF F ((l : Int) + 1) (k + d - (l + 1)) := by
    have := popF_turn F l v (k + d - (l + 1)) ((l : Int) + 1) (by omega)
    simpa using this
  have e2 : k + (l - k + (1 + (k + d - (l + 1)))) - (l + 1) = k + d - (l + 1) := by omega
  rw [e2, h2, h3]
  omega
theorem few_within {s : St} (w : Wf s) : ∀ (d : Nat) {k : Nat} {id : Int} {j : Int}, k + d = s.links → isN s id = true → (k : Int) ≤ lnk s id → -1 ≤ j →
    (∀ F : Nat, j < popF F k d → eval s id F = dontCare) → (count s id : Int) ≤ 2 * cz d (j + 1) - 1 := by
  intro d
  induction d using Nat.strongRecOn with
  | _ d ih =>
    intro k id j hkd hid hlk hj hB
    have hl := w.links
    obtain ⟨b, hb⟩ := isN_get hid
    cases hleaf : b.leaf with
    | true =>
      rw [count_leaf w hb hleaf]
      have := cz_pos d (j := j + 1) (by omega)
      omega
    | false =>
      have ha := w.ask hb hleaf
      have hlb := lnk_ask hb hleaf
      obtain ⟨l, hll⟩ : ∃ l : Nat, b.link = l := ⟨b.link.toNat, by omega⟩
      by_cases hj1 : j = -1
      · exfalso
        refine indep w (k := l) hid (by omega) (by omega) fun F hF v => ?_
        rw [hB F (by have := popF_lo F d k; omega), hB (turn F l v) (by have := popF_lo (turn F l v) d k; omega)]
      · have hst : ∀ (v : Bool) (F : Nat), (if v then j - 1 else j) < popF F ((l + 1 : Nat) : Int) (s.links - (l + 1)) → eval s (if v then b.fails else b.stands) F = dontCare := by
          intro v F hF
          have hp := has_turn_pop F v (by omega : l < 16) (k := k) (d := d) (by omega) (by omega)
          rw [hkd] at hp
          have hF' : (if v then j - 1 else j) < popF F ((l : Int) + 1) (s.links - (l + 1)) := by
            rw [show ((l : Int) + 1) = ((l + 1 : Nat) : Int) by push_cast; rfl]; exact hF
          have hlt : b.link.toNat = l := by omega
          cases v with
          | true =>
            simp only [if_true] at hp hF' ⊢
            rw [eval_fails w hb hleaf, hlt]
            exact hB _ (by omega)
          | false =>
            simp only [Bool.false_eq_true, if_false] at hp hF' ⊢
            rw [eval_stands w hb hleaf, hlt]
            exact hB _ (by omega)
        have c1 := ih (s.links - (l + 1)) (by omega) (k := l + 1) (id := b.stands) (j := j) (by omega) (under_isN ha.2.2.2.2.1) (by have := lnk_under w (by omega) ha.2.2.2.2.1; omega) hj (fun F h => hst false F h)
        have c2 := ih (s.links - (l + 1)) (by omega) (k := l + 1) (id := b.fails) (j := j - 1) (by omega) (under_isN ha.2.2.2.2.2.1) (by have := lnk_under w (by omega) ha.2.2.2.2.2.1; omega) (by omega) (fun F h => hst true F h)
        have hc := (count_ask w hb hleaf).1
        have hz : cz (s.links - (l + 1) + 1) (j + 1) = cz (s.links - (l + 1)) (j + 1) + cz (s.links - (l + 1)) (j + 1 - 1) := rfl
        have hmono := cz_mono (show s.links - (l + 1) + 1 ≤ d by omega) (j + 1)
        have e1 : j - 1 + 1 = j + 1 - 1 := by omega
        rw [e1] at c2
        omega
end Go.Proofs.Ytchikjmhncojfaa.M
