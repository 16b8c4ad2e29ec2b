/- The sets at their places: the plain part of LimitSame. Conditions: none. -/
import Derived.Test.YtchikjmhncojfaaSetsM
namespace Go.Proofs.Ytchikjmhncojfaa.M
def szN (n : Nat) : Nat → Int → Nat → Int × Nat
  | 0, p, s => (p, s)
  | f + 1, p, s => if chN n s ≤ p then szN n f (p - chN n s) (s + 1) else (p, s)
def szOk (n : Nat) : Nat → Int → Nat → Bool
  | 0, p, s => decide (p < chN n s) && decide (s ≤ 16)
  | f + 1, p, s => decide (s ≤ 16) && (if chN n s ≤ p then szOk n f (p - chN n s) (s + 1) else true)
def btN (n : Nat) : Nat → Nat → Int → Nat → Nat → Nat
  | 0, _, _, _, F => F
  | _ + 1, _, _, 0, F => F
  | f + 1, i, p, s + 1, F => if chN ((n : Int) - i - 1) s ≤ p then btN n f (i + 1) (p - chN ((n : Int) - i - 1) s) (s + 1) F else btN n f (i + 1) p s (F ||| 2 ^ i)
def btOk (n : Nat) : Nat → Nat → Int → Nat → Bool
  | 0, _, _, s => decide (s = 0)
  | _ + 1, _, _, 0 => true
  | f + 1, i, p, s + 1 => decide (i + 1 ≤ n) && decide (s ≤ 16) && (if chN ((n : Int) - i - 1) s ≤ p then btOk n f (i + 1) (p - chN ((n : Int) - i - 1) s) (s + 1) else btOk n f (i + 1) p s)
def atI (n : Nat) (p : Int) : Nat := btN n 18 0 (szN n 18 p 0).1 (szN n 18 p 0).2 0
def atGood (n m : Nat) : Bool :=
  ((List.range (cz n m).toNat).all fun (p : Nat) => szOk n 18 (p : Int) 0 && btOk n 18 0 (szN n 18 p 0).1 (szN n 18 p 0).2 && decide (atI n p < 2 ^ n) && decide (popF (atI n p) 0 n ≤ m)) &&
  ((List.range (2 ^ n)).all fun F => decide ((m : Int) < popF F 0 n) || (List.range (cz n m).toNat).any fun (p : Nat) => decide (atI n (p : Int) = F)) && decide (cz n m ≤ 64)
theorem at_fin : ∀ n : Fin 7, ∀ m : Fin 5, atGood n m = true := by decide +kernel
theorem at_in {n m : Nat} (hn : n ≤ 6) (hm : m ≤ 4) {p : Nat} (hp : (p : Int) < cz n m) : szOk n 18 (p : Int) 0 = true ∧ btOk n 18 0 (szN n 18 p 0).1 (szN n 18 p 0).2 = true ∧ atI n p < 2 ^ n ∧ popF (atI n p) 0 n ≤ m := by
  have h := at_fin ⟨n, by omega⟩ ⟨m, by omega⟩
  simp only [atGood, Bool.and_eq_true, List.all_eq_true, List.mem_range, decide_eq_true_eq] at h
  have := h.1.1 p (by omega)
  exact ⟨this.1.1.1, this.1.1.2, this.1.2, this.2⟩
theorem at_all {n m : Nat} (hn : n ≤ 6) (hm : m ≤ 4) {F : Nat} (hF : F < 2 ^ n) (hp : popF F 0 n ≤ m) : ∃ p : Nat, (p : Int) < cz n m ∧ atI n p = F := by
  have h := at_fin ⟨n, by omega⟩ ⟨m, by omega⟩
  simp only [atGood, Bool.and_eq_true, List.all_eq_true, List.mem_range, Bool.or_eq_true, decide_eq_true_eq, List.any_eq_true] at h
  rcases h.1.2 F hF with h | ⟨p, h1, h2⟩
  · omega
  · exact ⟨p, by omega, h2⟩
theorem at_len {n m : Nat} (hn : n ≤ 6) (hm : m ≤ 4) : cz n m ≤ 64 := by
  have h := at_fin ⟨n, by omega⟩ ⟨m, by omega⟩
  simp only [atGood, Bool.and_eq_true, decide_eq_true_eq] at h
  exact h.2
end Go.Proofs.Ytchikjmhncojfaa.M
