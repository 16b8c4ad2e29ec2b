/- Two stores of the same nodes, one with more room: the plain part of NodeRoom. Conditions: none. -/
import Derived.Test.YtchikjmhncojfaaStoreM
namespace Go.Proofs.Ytchikjmhncojfaa.M
/-- what one step in both stores comes to -/
def Room (n k m : Nat) (N : List Br) (f : St → St × Int × Int) : Prop :=
  (∃ id t, f ⟨n, k, N⟩ = (⟨n, k, N⟩, 0, 60) ∧ f ⟨n, m, N⟩ = (t, id, 0) ∧ N.length = k ∧ t.nodes.length = k + 1) ∨
  (∃ id e N', f ⟨n, k, N⟩ = (⟨n, k, N'⟩, id, e) ∧ f ⟨n, m, N⟩ = (⟨n, m, N'⟩, id, e) ∧ e ≠ 60 ∧ N'.length ≤ k ∧ N'.length ≤ N.length + 1)
theorem room_put {n k m : Nat} {N : List Br} (hk : N.length ≤ k) (hm : N.length < m) (b : Br) : Room n k m N (fun s => put s b) := by
  unfold Room put
  simp only
  cases hi : idx N b with
  | some i => exact .inr ⟨i, 0, N, rfl, rfl, by decide, hk, by omega⟩
  | none =>
    by_cases h : k ≤ N.length
    · exact .inl ⟨(N.length : Int), ⟨n, m, N ++ [b]⟩, if_pos h, if_neg (by omega), by omega, by simp; omega⟩
    · exact .inr ⟨(N.length : Int), 0, N ++ [b], if_neg h, if_neg (by omega), by decide, by simp; omega, by simp⟩
theorem room_leaf {n k m : Nat} {N : List Br} (hk : N.length ≤ k) (hm : N.length < m) (v : Int) : Room n k m N (fun s => leaf s v) := room_put hk hm _
theorem room_make {n k m : Nat} {N : List Br} (hk : N.length ≤ k) (hm : N.length < m) (j a b : Int) : Room n k m N (fun s => make s j a b) := by
  have he : makeOk ⟨n, m, N⟩ j a b = makeOk ⟨n, k, N⟩ j a b := rfl
  unfold Room make
  simp only [he]
  cases makeOk ⟨n, k, N⟩ j a b with
  | false => exact .inr ⟨0, 1, N, rfl, rfl, by decide, hk, by omega⟩
  | true =>
    by_cases hab : a = b
    · simp only [if_pos hab, if_true]
      exact .inr ⟨a, 0, N, rfl, rfl, by decide, hk, by omega⟩
    · simp only [if_neg hab, if_true]
      exact room_put hk hm _
end Go.Proofs.Ytchikjmhncojfaa.M
