/- The operators on numbers, and lifting as a function: the plain part of layer 14. Conditions: none. -/
import Derived.Test.YtchikjmhncojfaaApplyM
import Derived.Test.YtchikjmhncojfaaKeyA
namespace Go.Proofs.Ytchikjmhncojfaa.M
open Go
def tr (b : Bool) : Int := if b then 1 else 0
def oneF (t a : Int) : Int := if t = 1 then tr (decide (a = 0)) else IntKind.i64.wrap (a + 1)
def twoF (t a b : Int) : Int :=
  if t = 3 then (if b < a then b else a) else if t = 4 then (if a < b then b else a) else if t = 5 then IntKind.i64.wrap (a + b)
  else if t = 6 then tr (decide (a = b)) else if t = 7 then tr (decide (a ≠ 0) && decide (b ≠ 0)) else tr (decide (a ≠ 0) || decide (b ≠ 0))
def chooseF (a b c : Int) : Int := if a ≠ 0 then b else c
def dontCare : Int := -1
def withinF (a b : Int) : Int := if a = 0 then dontCare else b
def gateF (a b : Int) : Int := if a ≠ 0 then 0 else b
/-- what the operators of one cache make of numbers, by their tags -/
def opF (t a b c : Int) : Int :=
  if t = 1 ∨ t = 2 then oneF t a else if 3 ≤ t ∧ t ≤ 8 then twoF t a b else if t = 100 then chooseF a b c else if t = -1 then withinF a b else if t = -2 then gateF a b else 0
theorem opF_one {t : Int} (h : t = 1 ∨ t = 2) : opF t = fun a _ _ => oneF t a := by funext a b c; unfold opF; rw [if_pos h]
theorem opF_two {t : Int} (h : 3 ≤ t ∧ t ≤ 8) : opF t = fun a b _ => twoF t a b := by funext a b c; unfold opF; rw [if_neg (by omega), if_pos h]
theorem opF_choose : opF 100 = fun a b c => chooseF a b c := by funext a b c; rfl
theorem opF_gate : opF (-2) = fun a b _ => gateF a b := by funext a b c; rfl
theorem opF_within : opF (-1) = fun a b _ => withinF a b := by funext a b c; rfl

def liftN (f : Int → Int → Int → Int) : Nat → St → Int → Int → Int → St × Int × Int
  | 0, s, a, b, c => leaf s (f (val s a) (val s b) (val s c))
  | n + 1, s, a, b, c =>
    if linkOf s a b c < 16 then
      let r1 := liftN f n s (sideOf s a (linkOf s a b c) false) (sideOf s b (linkOf s a b c) false) (sideOf s c (linkOf s a b c) false)
      if r1.2.2 = 0 then
        let r2 := liftN f n r1.1 (sideOf s a (linkOf s a b c) true) (sideOf s b (linkOf s a b c) true) (sideOf s c (linkOf s a b c) true)
        if r2.2.2 = 0 then make r2.1 (linkOf s a b c) r1.2.1 r2.2.1 else (r2.1, 0, r2.2.2)
      else (r1.1, 0, r1.2.2)
    else leaf s (f (val s a) (val s b) (val s c))
theorem liftN_lifts (f : Int → Int → Int → Int) : ∀ (n : Nat) {s : St} {a b c : Int}, Wf s → isN s a = true → isN s b = true → isN s c = true → (16 - linkOf s a b c).toNat ≤ n →
    Lifts f s a b c (liftN f n s a b c).1 (liftN f n s a b c).2.1 (liftN f n s a b c).2.2
  | 0, s, a, b, c, w, ha, hb, hc, hn => .leaf (by have := linkOf_range w ha hb hc; omega) rfl
  | n + 1, s, a, b, c, w, ha, hb, hc, hn => by
    have hr := linkOf_range w ha hb hc
    unfold liftN
    split
    · rename_i h16
      have hs := linkOf_sides w ha hb hc rfl h16 false
      have ht := linkOf_sides w ha hb hc rfl h16 true
      have i1 := liftN_lifts f n w hs.1 hs.2.1 hs.2.2.1 (by omega)
      have g1 := i1.good w hs.1 hs.2.1 hs.2.2.1
      have i2 := liftN_lifts f n g1.wf (g1.ext.isN ht.1) (g1.ext.isN ht.2.1) (g1.ext.isN ht.2.2.1) (by rw [g1.ext.linkOf ht.1 ht.2.1 ht.2.2.1]; omega)
      simp only
      split
      · rename_i h1
        rw [h1] at i1
        split
        · rename_i h2
          rw [h2] at i2
          exact .ask _ rfl h16 i1 i2 rfl
        · rename_i h2
          exact .err2 _ rfl h16 i1 i2 h2
      · rename_i h1
        exact .err1 _ rfl h16 i1 h1
    · rename_i h16
      exact .leaf (by omega) rfl
theorem Lifts.ex (f : Int → Int → Int → Int) {s : St} {a b c : Int} (w : Wf s) (ha : isN s a = true) (hb : isN s b = true) (hc : isN s c = true) : ∃ s' i e, Lifts f s a b c s' i e :=
  ⟨_, _, _, liftN_lifts f 16 w ha hb hc (by have := linkOf_range w ha hb hc; omega)⟩
theorem liftN_eq {f : Int → Int → Int → Int} {s : St} {a b c : Int} {s' : St} {i e : Int} (w : Wf s) (ha : isN s a = true) (hb : isN s b = true) (hc : isN s c = true) (h : liftN f 16 s a b c = (s', i, e)) : Lifts f s a b c s' i e := by
  have := liftN_lifts f 16 w ha hb hc (by have := linkOf_range w ha hb hc; omega)
  rw [h] at this
  exact this
end Go.Proofs.Ytchikjmhncojfaa.M
