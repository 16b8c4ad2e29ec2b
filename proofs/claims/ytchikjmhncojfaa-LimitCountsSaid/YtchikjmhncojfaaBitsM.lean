/- Counts of small sets: the plain part. Conditions: none. -/
import Derived.Test.YtchikjmhncojfaaLimitM
namespace Go.Proofs.Ytchikjmhncojfaa.M
open Go
def chN (links : Int) : Nat → Int
  | 0 => 1
  | i + 1 => (chN links i * (links - i)).tdiv (i + 1)
def cntN (links : Int) : Nat → Int
  | 0 => 0
  | j + 1 => cntN links j + chN links j
def minI (a b : Int) : Int := if b < a then b else a
def countI (n m : Int) : Int := if n < 0 ∨ 16 < n ∨ m < 0 then 0 else cntN n (minI m n + 1).toNat
def boundI (n m : Int) : Int := if m < 0 then 0 else 2 * countI n (minI m 16 + 1)
/-- how many sets of at most j of d links there are -/
def cz : Nat → Int → Int
  | 0, j => if j < 0 then 0 else 1
  | d + 1, j => cz d j + cz d (j - 1)
theorem ch_fin : ∀ n : Fin 17, ∀ i : Fin 19, 0 ≤ chN ((n : Nat) : Int) i ∧ chN ((n : Nat) : Int) i ≤ 12870 ∧ -1000000 ≤ chN ((n : Nat) : Int) i * (((n : Nat) : Int) - ((i : Nat) : Int)) ∧ chN ((n : Nat) : Int) i * (((n : Nat) : Int) - ((i : Nat) : Int)) ≤ 1000000 := by decide +kernel
theorem cnt_fin : ∀ n : Fin 17, ∀ i : Fin 19, 0 ≤ cntN ((n : Nat) : Int) i ∧ cntN ((n : Nat) : Int) i ≤ 65536 := by decide +kernel
theorem ch_range {n i : Nat} (hn : n ≤ 16) (hi : i ≤ 18) : 0 ≤ chN (n : Int) i ∧ chN (n : Int) i ≤ 12870 ∧ -1000000 ≤ chN (n : Int) i * ((n : Int) - (i : Int)) ∧ chN (n : Int) i * ((n : Int) - (i : Int)) ≤ 1000000 := ch_fin ⟨n, by omega⟩ ⟨i, by omega⟩
theorem cnt_range {n i : Nat} (hn : n ≤ 16) (hi : i ≤ 18) : 0 ≤ cntN (n : Int) i ∧ cntN (n : Int) i ≤ 65536 := cnt_fin ⟨n, by omega⟩ ⟨i, by omega⟩
theorem countI_range (n m : Int) : 0 ≤ countI n m ∧ countI n m ≤ 65536 := by
  unfold countI
  split
  · decide
  · obtain ⟨k, rfl⟩ : ∃ k : Nat, n = k := ⟨n.toNat, by omega⟩
    exact cnt_range (by omega) (by unfold minI; split <;> omega)
theorem count_fin : ∀ n : Fin 17, ∀ m : Fin 22, countI ((n : Nat) : Int) ((m : Nat) : Int) = cz n ((m : Nat) : Int) := by decide +kernel
theorem count_cz {n : Nat} {m : Int} (hn : n ≤ 16) (h0 : 0 ≤ m) (h1 : m ≤ 21) : countI (n : Int) m = cz n m := by
  have := count_fin ⟨n, by omega⟩ ⟨m.toNat, by omega⟩
  simp only [Int.toNat_of_nonneg h0] at this
  exact this
theorem cz_neg : ∀ (d : Nat) {j : Int}, j < 0 → cz d j = 0
  | 0, j, h => by simp [cz, h]
  | d + 1, j, h => by simp [cz, cz_neg d h, cz_neg d (show j - 1 < 0 by omega)]
theorem cz_nonneg : ∀ (d : Nat) (j : Int), 0 ≤ cz d j
  | 0, j => by unfold cz; split <;> omega
  | d + 1, j => by have := cz_nonneg d j; have := cz_nonneg d (j - 1); unfold cz; omega
theorem cz_pos : ∀ (d : Nat) {j : Int}, 0 ≤ j → 1 ≤ cz d j
  | 0, j, h => by unfold cz; rw [if_neg (by omega)]; omega
  | d + 1, j, h => by have := cz_pos d h; have := cz_nonneg d (j - 1); unfold cz; omega
theorem cz_mono {d e : Nat} (h : d ≤ e) (j : Int) : cz d j ≤ cz e j := by
  induction h with
  | refl => omega
  | @step k _ ih => have := cz_nonneg k (j - 1); have e : cz (k + 1) j = cz k j + cz k (j - 1) := rfl; show _ ≤ cz (k + 1) j; omega
theorem cz_all : ∀ (d : Nat) {j : Int}, (d : Int) ≤ j → cz d j = cz d d
  | 0, j, h => by unfold cz; rw [if_neg (by omega), if_neg (by omega)]
  | d + 1, j, h => by
    unfold cz
    rw [cz_all d (show (d : Int) ≤ j by omega), cz_all d (show (d : Int) ≤ j - 1 by omega), cz_all d (show (d : Int) ≤ ((d + 1 : Nat) : Int) by omega), cz_all d (show (d : Int) ≤ ((d + 1 : Nat) : Int) - 1 by omega)]
end Go.Proofs.Ytchikjmhncojfaa.M
