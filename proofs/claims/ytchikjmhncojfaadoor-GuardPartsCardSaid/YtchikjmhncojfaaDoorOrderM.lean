/- Links rise downwards; what is not asked makes no difference: the plain part of NodeOrdered. Conditions: none. -/
import Derived.Test.YtchikjmhncojfaaDoorSidesM
import Derived.Test.YtchikjmhncojfaaDoorNode4
namespace Go.Proofs.YtchikjmhncojfaaDoor.M
theorem eval_agree' {s : St} (w : Wf s) {f g : Int} : ∀ id (k : Int), under s k id = true → (∀ l, k < l → l < s.links → has f l = has g l) → eval s id f = eval s id g := by
  refine w.ind fun id ih k hu hh => ?_
  obtain ⟨b, hb⟩ := Option.isSome_iff_exists.1 (under_isN hu)
  cases hl : b.leaf with
  | true => rw [eval_leaf hb hl, eval_leaf hb hl]
  | false =>
    have ha := w.ask hb hl
    have hlt : k < b.link := by rw [under_eq hb, hl] at hu; simpa using hu
    rw [eval_ask w hb hl, eval_ask w hb hl]
    have := ih b hb hl
    have hd : down b f = down b g := by unfold down; rw [hh _ hlt ha.2.2.1]
    rw [← hd]
    unfold down
    split
    · exact this.2 b.link ha.2.2.2.2.2.1 (fun l h => hh l (by omega))
    · exact this.1 b.link ha.2.2.2.2.1 (fun l h => hh l (by omega))
theorem has_flip (F J : Nat) (l : Int) (h : l ≠ J) : has ((F ^^^ 2 ^ J : Nat) : Int) l = has (F : Nat) l := by
  by_cases h0 : l < 0
  · rw [has_neg h0, has_neg h0]
  · obtain ⟨m, rfl⟩ : ∃ m : Nat, l = m := ⟨l.toNat, by omega⟩
    rw [has_nat, has_nat, Nat.testBit_xor, Nat.testBit_two_pow_of_ne (by omega), Bool.xor_false]
theorem count_pos {s : St} {a : Int} (h : isN s a = true) : 1 ≤ count s a := by
  have hr := isN_iff.1 h
  have hm : a.toNat ∈ (List.range s.nodes.length).filter fun i => comes s a ((i : Nat) : Int) := by
    refine List.mem_filter.2 ⟨List.mem_range.2 (by omega), ?_⟩
    rw [Int.toNat_of_nonneg hr.1]
    exact comes_self h
  exact List.length_pos_of_mem hm
/-- links that are not asked make no difference -/
theorem flip_same {s : St} (w : Wf s) {id : Int} {b : Br} (hb : get s id = some b) (F J : Nat) (h : b.leaf = true ∨ (J : Int) < b.link ∨ (s.links : Int) ≤ J) : eval s id F = eval s id ((F ^^^ 2 ^ J : Nat) : Int) := by
  cases hl : b.leaf with
  | true => rw [eval_leaf hb hl, eval_leaf hb hl]
  | false =>
    rcases h with h | h | h
    · rw [hl] at h; cases h
    · exact eval_agree' w id (b.link - 1) (by rw [under_eq hb]; simp; omega) fun l h1 h2 => (has_flip F J l (by omega)).symm
    · exact eval_agree' w id (b.link - 1) (by rw [under_eq hb]; simp; omega) fun l h1 h2 => (has_flip F J l (by omega)).symm
end Go.Proofs.YtchikjmhncojfaaDoor.M
namespace Go.Proofs.YtchikjmhncojfaaDoor.W
open Go Go.RowKit
theorem xor_nat (F G : Nat) (hF : F < 2 ^ 62) (hG : G < 2 ^ 62) : IntKind.i64.wrap (BitVec.ofInt IntKind.i64.bits F ^^^ BitVec.ofInt IntKind.i64.bits G).toNat = ((F ^^^ G : Nat) : Int) := by
  have h : (BitVec.ofInt IntKind.i64.bits F ^^^ BitVec.ofInt IntKind.i64.bits G).toNat = F ^^^ G := by
    show (BitVec.ofInt 64 F ^^^ BitVec.ofInt 64 G).toNat = _
    rw [BitVec.toNat_xor, BitVec.toNat_ofInt, BitVec.toNat_ofInt]
    congr 1 <;> omega
  have hx : F ^^^ G < 2 ^ 62 := Nat.xor_lt_two_pow hF hG
  rw [h]
  exact wrap_in (by omega) (by omega)
theorem shl1 (n : Nat) (h : n ≤ 62) : IntKind.i64.wrap (1 * 2 ^ min n IntKind.i64.bits) = 2 ^ n := by
  have hb : IntKind.i64.bits = 64 := rfl
  have : min n IntKind.i64.bits = n := by rw [hb]; omega
  rw [this, Int.one_mul]
  have h1 : (2 : Nat) ^ n ≤ 4611686018427387904 := Nat.pow_le_pow_right (by decide) h
  have h2 : (2 : Int) ^ n = ((2 ^ n : Nat) : Int) := by push_cast; rfl
  rw [h2]
  generalize (2 : Nat) ^ n = m at h1
  exact wrap_in (by omega) (by omega)
end Go.Proofs.YtchikjmhncojfaaDoor.W
