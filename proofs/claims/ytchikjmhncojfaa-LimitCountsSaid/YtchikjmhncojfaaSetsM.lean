/- How many sets are small, counted one by one: the plain part. Conditions: none. -/
import Derived.Test.YtchikjmhncojfaaBitsM
namespace Go.Proofs.Ytchikjmhncojfaa.M
theorem popF_snoc (F : Nat) : ∀ (d : Nat) (k : Int), popF F k (d + 1) = popF F k d + (if has (F : Nat) (k + d) then 1 else 0)
  | 0, k => by simp [popF]
  | d + 1, k => by
    have ih := popF_snoc F d (k + 1)
    rw [popF_succ, ih, popF_succ F k d, show k + 1 + (d : Int) = k + ((d + 1 : Nat) : Int) by push_cast; omega]
    omega
theorem popF_app (F : Nat) (a : Nat) : ∀ (b : Nat) (k : Int), popF F k (a + b) = popF F k a + popF F (k + a) b
  | 0, k => by simp [popF]
  | b + 1, k => by
    rw [show a + (b + 1) = (a + b) + 1 from rfl, popF_snoc, popF_app F a b k, popF_snoc, show k + ((a + b : Nat) : Int) = k + a + b by push_cast; omega]
    omega
theorem popF_none (F : Nat) : ∀ (d : Nat) (k : Int), (∀ l : Int, k ≤ l → l < k + d → has (F : Nat) l = false) → popF F k d = 0
  | 0, _, _ => rfl
  | d + 1, k, h => by
    rw [popF_succ, h k (Int.le_refl _) (by omega), popF_none F d (k + 1) (fun l h1 h2 => h l (by omega) (by omega))]
    rfl
theorem popF_same (F G : Nat) : ∀ (d : Nat) (k : Int), (∀ l : Int, k ≤ l → l < k + d → has (F : Nat) l = has (G : Nat) l) → popF F k d = popF G k d
  | 0, _, _ => rfl
  | d + 1, k, h => by
    rw [popF_succ, popF_succ, h k (Int.le_refl _) (by omega), popF_same F G d (k + 1) (fun l h1 h2 => h l (by omega) (by omega))]
/-- of sets of n links no more than n matter -/
theorem pop_16 {F n : Nat} (hF : F < 2 ^ n) (hn : n ≤ 16) : popF F 0 16 = popF F 0 n := by
  have : 16 = n + (16 - n) := by omega
  have h0 : popF F (0 + n) (16 - n) = 0 := by
    refine popF_none _ _ _ ?_
    intro l h1 h2
    obtain ⟨m, rfl⟩ : ∃ m : Nat, l = m := ⟨l.toNat, by omega⟩
    rw [has_nat, Nat.testBit_lt_two_pow (Nat.lt_of_lt_of_le hF (Nat.pow_le_pow_right (by decide) (by omega)))]
    simp
  rw [this, popF_app, h0, Int.add_zero]
theorem pop_up {i n : Nat} (hi : i < 2 ^ n) (hn : n < 16) : popF (2 ^ n + i) 0 16 = popF i 0 16 + 1 := by
  have e1 : 16 = n + (1 + (15 - n)) := by omega
  rw [e1, popF_app, popF_app, popF_app, popF_app]
  have hlow : popF (2 ^ n + i) 0 n = popF i 0 n := popF_same _ _ n 0 fun l h1 h2 => by
    obtain ⟨m, rfl⟩ : ∃ m : Nat, l = m := ⟨l.toNat, by omega⟩
    rw [has_nat, has_nat, Nat.testBit_two_pow_add_gt (by omega)]
  have hmid : popF (2 ^ n + i) (0 + n) 1 = popF i (0 + n) 1 + 1 := by
    rw [popF_succ, popF_succ, show ((0 : Int) + n) = (n : Nat) by omega, has_nat, has_nat, Nat.testBit_two_pow_add_eq, Nat.testBit_lt_two_pow hi]
    simp [popF, hn]
  have hhigh : popF (2 ^ n + i) (0 + n + (1 : Nat)) (15 - n) = popF i (0 + n + (1 : Nat)) (15 - n) := popF_same _ _ _ _ fun l h1 h2 => by
    obtain ⟨m, rfl⟩ : ∃ m : Nat, l = m := ⟨l.toNat, by omega⟩
    have hlt : 2 ^ n + i < 2 ^ m := by
      have : 2 ^ (n + 1) ≤ 2 ^ m := Nat.pow_le_pow_right (by decide) (by omega)
      rw [Nat.pow_succ] at this
      omega
    rw [has_nat, has_nat, Nat.testBit_lt_two_pow hlt, Nat.testBit_lt_two_pow (by omega)]
  rw [hlow, hmid, hhigh]
  omega
/-- so many of the first sets have at most m links -/
def cntF (m : Int) : Nat → Int
  | 0 => 0
  | i + 1 => cntF m i + (if popF i 0 16 ≤ m then 1 else 0)
theorem cntF_le (m : Int) : ∀ i, 0 ≤ cntF m i ∧ cntF m i ≤ i
  | 0 => by simp [cntF]
  | i + 1 => by have := cntF_le m i; unfold cntF; split <;> omega
theorem cntF_up {n : Nat} (hn : n < 16) (m : Int) : ∀ i, i ≤ 2 ^ n → cntF m (2 ^ n + i) = cntF m (2 ^ n) + cntF (m - 1) i
  | 0, _ => by simp [cntF]
  | i + 1, h => by
    have ih := cntF_up hn m i (by omega)
    rw [← Nat.add_assoc]
    show cntF m (2 ^ n + i) + (if popF (2 ^ n + i) 0 16 ≤ m then 1 else 0) = cntF m (2 ^ n) + (cntF (m - 1) i + (if popF i 0 16 ≤ m - 1 then 1 else 0))
    rw [ih, pop_up (by omega) hn]
    by_cases hp : popF i 0 16 ≤ m - 1
    · rw [if_pos hp, if_pos (by omega)]; omega
    · rw [if_neg hp, if_neg (by omega)]; omega
theorem cntF_cz : ∀ (n : Nat), n ≤ 16 → ∀ m, cntF m (2 ^ n) = cz n m
  | 0, _, m => by
    show cntF m 1 = cz 0 m
    unfold cz
    show cntF m 0 + (if popF 0 0 16 ≤ m then 1 else 0) = _
    have : popF 0 0 16 = 0 := by decide
    rw [this]
    show 0 + _ = _
    by_cases h : m < 0
    · rw [if_neg (by omega), if_pos h]; rfl
    · rw [if_pos (by omega), if_neg h]; rfl
  | n + 1, hn, m => by
    rw [Nat.pow_succ, Nat.mul_two, cntF_up (by omega) m _ (Nat.le_refl _), cntF_cz n (by omega), cntF_cz n (by omega)]
    rfl
/-- the document's bound is the program's -/
def refBoundI (n m : Int) : Int := if m < 0 then 0 else 2 * (if n < 0 ∨ 16 < n ∨ minI m 20 + 1 < 0 then 0 else cz n.toNat (minI m 20 + 1))
theorem bound_same (n m : Int) : boundI n m = refBoundI n m := by
  unfold boundI refBoundI
  split
  · rfl
  · rename_i hm
    congr 1
    by_cases hn : n < 0 ∨ 16 < n
    · rw [if_pos (by omega)]; unfold countI; rw [if_pos (by omega)]
    · have h20 : minI m 20 = m ∧ m ≤ 20 ∨ minI m 20 = 20 ∧ 20 < m := by unfold minI; split <;> omega
      have h16 : minI m 16 = m ∧ m ≤ 16 ∨ minI m 16 = 16 ∧ 16 < m := by unfold minI; split <;> omega
      rw [if_neg (by omega)]
      obtain ⟨k, rfl⟩ : ∃ k : Nat, n = k := ⟨n.toNat, by omega⟩
      rw [count_cz (by omega) (by omega) (by omega), Int.toNat_natCast]
      by_cases h : m ≤ 16
      · rw [show minI m 16 = minI m 20 by omega]
      · have e1 := cz_all k (j := minI m 16 + 1) (by omega)
        have e2 := cz_all k (j := minI m 20 + 1) (by omega)
        rw [e1, e2]
theorem refBound_range (n m : Int) : 0 ≤ (if n < 0 ∨ 16 < n ∨ minI m 20 + 1 < 0 then (0 : Int) else cz n.toNat (minI m 20 + 1)) ∧ (if n < 0 ∨ 16 < n ∨ minI m 20 + 1 < 0 then (0 : Int) else cz n.toNat (minI m 20 + 1)) ≤ 65536 := by
  split
  · decide
  · have h20 : minI m 20 ≤ 20 := by unfold minI; split <;> omega
    have := countI_range (n.toNat : Int) (minI m 20 + 1)
    rw [count_cz (by omega) (by omega) (by omega)] at this
    exact this
end Go.Proofs.Ytchikjmhncojfaa.M
