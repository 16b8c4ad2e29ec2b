/- The walks of package bits: none, choose, Count; limit.Bound. Conditions: none. -/
import Derived.Test.YtchikjmhncojfaaLimit
import Derived.Test.YtchikjmhncojfaaBitsM
set_option linter.unusedVariables false
namespace Go.Proofs.Ytchikjmhncojfaa.W
open Go Go.Proofs Go.RowKit
open Go.Proofs.Ytchikjmhncojfaa.M (i64 chN cntN minI countI boundI)
variable {wb w : World} {R L : List Chunk}
theorem none_ok (n m : Int) (H : Own wb R w) : FnC Try.prog 82 [int n, int m] w (fun v w' => v = .bool (decide (n < 0 ∨ 16 < n ∨ m < 0)) ∧ Own wb R w') := by
  by_cases h1 : n < 0
  · refine FnC_of Try.func82 rfl rfl rfl rfl ?_
    refine W_seq ?_
    refine W_region ?_
    refine ops_v (v_assign (v := _) rfl rfl) ?_
    refine ops_nil ?_
    refine W_seq ?_
    refine W_region ?_
    refine ops_v (v_move (v := (.int _ _)) rfl rfl) ?_
    refine ops_v (v_lss true rfl rfl rfl (decide_eq_true (by first | omega | (simp only; omega) | rfl | decide))) ?_
    refine ops_v (v_move (v := (.bool _)) rfl rfl) ?_
    refine ops_skip rfl rfl ?_
    refine ops_skip rfl rfl ?_
    refine ops_v (v_pick_t (v := (.bool _)) rfl rfl rfl) ?_
    refine ops_v (v_move (v := (.bool _)) rfl rfl) ?_
    refine ops_skip rfl rfl ?_
    refine ops_skip rfl rfl ?_
    refine ops_v (v_pick_t (v := (.bool _)) rfl rfl rfl) ?_
    refine ops_v (v_assign (v := (.bool _)) rfl rfl) ?_
    refine ops_nil ?_
    refine W_ret ?_
    refine ⟨_, (.tmp (v := (.bool _)) rfl .nil), ?_⟩
    exact ⟨by simp [packV, h1], H⟩
    -- (bits.none: ret; chunks ; ptr )
  · by_cases h2 : 16 < n
    · refine FnC_of Try.func82 rfl rfl rfl rfl ?_
      refine W_seq ?_
      refine W_region ?_
      refine ops_v (v_assign (v := _) rfl rfl) ?_
      refine ops_nil ?_
      refine W_seq ?_
      refine W_region ?_
      refine ops_v (v_move (v := (.int _ _)) rfl rfl) ?_
      refine ops_v (v_lss false rfl rfl rfl (decide_eq_false (by first | omega | (simp only; omega) | rfl | decide))) ?_
      refine ops_v (v_move (v := (.bool _)) rfl rfl) ?_
      refine ops_v (v_move (v := (.int _ _)) rfl rfl) ?_
      refine ops_v (v_gtr true rfl rfl rfl (decide_eq_true (by first | omega | (simp only; omega) | rfl | decide))) ?_
      refine ops_v (v_pick_f (v := (.bool _)) rfl rfl rfl) ?_
      refine ops_v (v_move (v := (.bool _)) rfl rfl) ?_
      refine ops_skip rfl rfl ?_
      refine ops_skip rfl rfl ?_
      refine ops_v (v_pick_t (v := (.bool _)) rfl rfl rfl) ?_
      refine ops_v (v_assign (v := (.bool _)) rfl rfl) ?_
      refine ops_nil ?_
      refine W_ret ?_
      refine ⟨_, (.tmp (v := (.bool _)) rfl .nil), ?_⟩
      exact ⟨by simp [packV, h2], H⟩
      -- (bits.none: ret; chunks ; ptr )
    · refine FnC_of Try.func82 rfl rfl rfl rfl ?_
      refine W_seq ?_
      refine W_region ?_
      refine ops_v (v_assign (v := _) rfl rfl) ?_
      refine ops_nil ?_
      refine W_seq ?_
      refine W_region ?_
      refine ops_v (v_move (v := (.int _ _)) rfl rfl) ?_
      refine ops_v (v_lss false rfl rfl rfl (decide_eq_false (by first | omega | (simp only; omega) | rfl | decide))) ?_
      refine ops_v (v_move (v := (.bool _)) rfl rfl) ?_
      refine ops_v (v_move (v := (.int _ _)) rfl rfl) ?_
      refine ops_v (v_gtr false rfl rfl rfl (decide_eq_false (by first | omega | (simp only; omega) | rfl | decide))) ?_
      refine ops_v (v_pick_f (v := (.bool _)) rfl rfl rfl) ?_
      refine ops_v (v_move (v := (.bool _)) rfl rfl) ?_
      refine ops_v (v_move (v := (.int _ _)) rfl rfl) ?_
      refine ops_v (v_lss _ rfl rfl rfl rfl) ?_
      refine ops_v (v_pick_f (v := (.bool _)) rfl rfl rfl) ?_
      refine ops_v (v_assign (v := (.bool _)) rfl rfl) ?_
      refine ops_nil ?_
      refine W_ret ?_
      refine ⟨_, (.tmp (v := (.bool _)) rfl .nil), ?_⟩
      exact ⟨by simp [packV, h1, h2], H⟩
      -- (bits.none: ret; chunks ; ptr )
theorem none_is (n m : Int) {b : Bool} (hb : decide (n < 0 ∨ 16 < n ∨ m < 0) = b) (H : Own wb R w) : FnC Try.prog 82 [int n, int m] w (fun v w' => v = .bool b ∧ Own wb R w') := by
  subst hb; exact none_ok n m H
theorem choose_ok (n k : Nat) (hn : n ≤ 16) (hk : k ≤ 17) (H : Own wb R w) : FnC Try.prog 83 [.int .i64 (n : Int), .int .i64 (k : Int)] w (fun v w' => v = int (chN n k) ∧ Own wb R w') := by
  refine FnC_of Try.func83 rfl rfl rfl rfl ?_
  refine W_seq ?_
  refine W_region ?_
  refine ops_v (v_assign (v := _) rfl rfl) ?_
  refine ops_nil ?_
  refine W_seq ?_
  refine W_region ?_
  refine ops_v (v_assign (v := _) rfl rfl) ?_
  refine ops_nil ?_
  refine W_seq ?_
  refine W_seq ?_
  refine W_region ?_
  refine ops_v (v_move (v := (.int _ _)) rfl rfl) ?_
  refine ops_v (v_move (v := _) rfl rfl) ?_
  refine ops_nil ?_
  refine W_block ?_
  -- (bits.choose: loop; chunks ; ptr )
  refine W_loopS (fun (i : Nat) => [(0, .int .i64 (n : Int)), (5, int (chN n i)), (7, .int .i64 (k : Int)), (8, .int .i64 i)]) (fun i w => Own wb R w ∧ i ≤ k) (fun i => k - i) 0 ⟨rfl, rfl, rfl, rfl, trivial⟩ ⟨H, Nat.zero_le _⟩ ?_
  clear H
  rintro i e w ⟨H, hi⟩
  by_cases hik : (i : Int) < (k : Int)
  · have r1 := M.ch_range hn (i := i) (by omega)
    have r2 := M.ch_range hn (i := i + 1) (by omega)
    have hq : IntKind.i64.wrap ((chN n i * ((n : Int) - (i : Int))).tdiv ((i : Int) + 1)) = chN n (i + 1) := by
      show IntKind.i64.wrap (chN n (i + 1)) = _
      exact wrap_in (by omega) (by omega)
    refine W_seq ?_
    refine W_region ?_
    refine ops_v (v_lss true rfl rfl rfl (decide_eq_true (by first | omega | (simp only; omega) | rfl | decide))) ?_
    refine ops_nil ?_
    refine W_seq ?_
    refine W_if_t rfl ?_
    refine W_skip ?_
    refine W_seq ?_
    refine W_block ?_
    refine W_seq ?_
    refine W_region ?_
    refine ops_v (v_move (v := (.int _ _)) rfl rfl) ?_
    refine ops_v (v_assign (v := (.int _ _)) rfl rfl) ?_
    refine ops_nil ?_
    refine W_region ?_
    refine ops_v (v_move (v := (.int _ _)) rfl rfl) ?_
    refine ops_v (v_move (v := (.int _ _)) rfl rfl) ?_
    refine ops_v (v_move (v := (.int _ _)) rfl rfl) ?_
    refine ops_v (v_sub _ rfl rfl rfl (wrap_in (by omega) (by omega))) ?_
    refine ops_v (v_mul _ rfl rfl rfl (wrap_in (by omega) (by omega))) ?_
    refine ops_v (v_move (v := (.int _ _)) rfl rfl) ?_
    refine ops_v (v_add _ rfl rfl rfl (wrap_in (by omega) (by omega))) ?_
    refine ops_v (v_quo (chN n (i + 1)) rfl rfl rfl (by omega) hq) ?_
    refine ops_v (v_assign (v := (.int _ _)) rfl rfl) ?_
    refine ops_nil ?_
    refine W_region ?_
    refine ops_v (v_add _ rfl rfl rfl (wrap_in (by omega) (by omega))) ?_
    refine ops_v (v_move (v := (.int _ _)) rfl rfl) ?_
    refine ops_nil ?_
    exact ⟨i + 1, by omega, ⟨rfl, rfl, rfl, rfl, trivial⟩, H, by omega⟩
    -- (bits.choose: loopend; chunks ; ptr )
  · have : i = k := by omega
    subst this
    refine W_seq ?_
    refine W_region ?_
    refine ops_v (v_lss false rfl rfl rfl (decide_eq_false (by first | omega | (simp only; omega) | rfl | decide))) ?_
    refine ops_nil ?_
    refine W_seq ?_
    refine W_if_f rfl ?_
    refine W_exit ?_
    refine W_seq ?_
    refine W_region ?_
    refine ops_v (v_move (v := (.int _ _)) rfl rfl) ?_
    refine ops_v (v_assign (v := (.int _ _)) rfl rfl) ?_
    refine ops_nil ?_
    refine W_ret ?_
    refine ⟨_, (.tmp (v := (.int _ _)) rfl .nil), ?_⟩
    exact ⟨rfl, H⟩
    -- (bits.choose: ret; chunks ; ptr )
theorem choose_at {n k : Int} (hn : 0 ≤ n) (hn' : n ≤ 16) (hk : 0 ≤ k) (hk' : k ≤ 17) (H : Own wb R w) : FnC Try.prog 83 [int n, int k] w (fun v w' => v = int (chN n k.toNat) ∧ Own wb R w') := by
  obtain ⟨a, rfl⟩ : ∃ a : Nat, n = a := ⟨n.toNat, by omega⟩
  obtain ⟨b, rfl⟩ : ∃ b : Nat, k = b := ⟨k.toNat, by omega⟩
  exact choose_ok a b (by omega) (by omega) H
theorem BCount_ok (n m : Int) (H : Own wb R w) : FnC Try.prog 62 [int n, int m] w (fun v w' => v = int (countI n m) ∧ Own wb R w') := by
  by_cases hb : n < 0 ∨ 16 < n ∨ m < 0
  · refine FnC_of Try.func62 rfl rfl rfl rfl ?_
    refine W_seq ?_
    refine W_region ?_
    refine ops_v (v_assign (v := _) rfl rfl) ?_
    refine ops_nil ?_
    refine W_seq ?_
    refine W_seq ?_
    refine W_region ?_
    refine ops_v (v_move (v := (.int _ _)) rfl rfl) ?_
    refine ops_v (v_move (v := (.int _ _)) rfl rfl) ?_
    refine ops_call rfl c82 (none_is n m (decide_eq_true hb) H) ?_
    clear H; rintro _ w ⟨rfl, H⟩
    refine ops_nil ?_
    refine W_if_t rfl ?_
    refine W_seq ?_
    refine W_region ?_
    refine ops_v (v_assign (v := _) rfl rfl) ?_
    refine ops_nil ?_
    refine W_ret ?_
    refine ⟨_, (.tmp (v := (.int _ _)) rfl .nil), ?_⟩
    exact ⟨by unfold countI; rw [if_pos hb]; rfl, H⟩
    -- (bits.Count: ret; chunks ; ptr )
  · obtain ⟨a, rfl⟩ : ∃ a : Nat, n = a := ⟨n.toNat, by omega⟩
    obtain ⟨b, hbb⟩ : ∃ b : Nat, minI m a + 1 = b := ⟨(minI m a + 1).toNat, by unfold minI; split <;> omega⟩
    have hb17 : b ≤ 17 := by unfold minI at hbb; split at hbb <;> omega
    have hb' : (if (a : Int) < m then (a : Int) else m) + 1 = b := hbb
    have hres : countI a m = cntN a b := by unfold countI; rw [if_neg hb, hbb, Int.toNat_natCast]
    rw [hres]
    refine FnC_of Try.func62 rfl rfl rfl rfl ?_
    refine W_seq ?_
    refine W_region ?_
    refine ops_v (v_assign (v := _) rfl rfl) ?_
    refine ops_nil ?_
    refine W_seq ?_
    refine W_seq ?_
    refine W_region ?_
    refine ops_v (v_move (v := (.int _ _)) rfl rfl) ?_
    refine ops_v (v_move (v := (.int _ _)) rfl rfl) ?_
    refine ops_call rfl c82 (none_is (a : Int) m (decide_eq_false hb) H) ?_
    clear H; rintro _ w ⟨rfl, H⟩
    refine ops_nil ?_
    refine W_if_f rfl ?_
    refine W_skip ?_
    refine W_seq ?_
    refine W_seq ?_
    refine W_region ?_
    refine ops_v (v_move (v := (.int _ _)) rfl rfl) ?_
    refine ops_v (v_move (v := (.int _ _)) rfl rfl) ?_
    refine ops_v (v_min rfl rfl rfl rfl) ?_
    refine ops_v (v_add (b : Int) rfl rfl rfl (by rw [hb']; exact wrap_in (by omega) (by omega))) ?_
    refine ops_v (v_move (v := _) rfl rfl) ?_
    refine ops_nil ?_
    refine W_block ?_
    -- (bits.Count: loop; chunks ; ptr )
    refine W_loopS (fun (i : Nat) => [(0, .int .i64 (a : Int)), (4, int (cntN a i)), (12, .int .i64 (b : Int)), (13, .int .i64 i)]) (fun i w => Own wb R w ∧ i ≤ b) (fun i => b - i) 0 ⟨rfl, rfl, rfl, rfl, trivial⟩ ⟨H, Nat.zero_le _⟩ ?_
    clear H
    rintro i e w ⟨H, hi⟩
    by_cases hik : (i : Int) < (b : Int)
    · have r1 := M.ch_range (n := a) (by omega) (i := i) (by omega)
      have r2 := M.cnt_range (n := a) (by omega) (i := i) (by omega)
      refine W_seq ?_
      refine W_region ?_
      refine ops_v (v_lss true rfl rfl rfl (decide_eq_true (by first | omega | (simp only; omega) | rfl | decide))) ?_
      refine ops_nil ?_
      refine W_seq ?_
      refine W_if_t rfl ?_
      refine W_skip ?_
      refine W_seq ?_
      refine W_block ?_
      refine W_seq ?_
      refine W_region ?_
      refine ops_v (v_move (v := (.int _ _)) rfl rfl) ?_
      refine ops_v (v_assign (v := (.int _ _)) rfl rfl) ?_
      refine ops_nil ?_
      refine W_region ?_
      refine ops_v (v_move (v := (.int _ _)) rfl rfl) ?_
      refine ops_v (v_move (v := (.int _ _)) rfl rfl) ?_
      refine ops_v (v_move (v := (.int _ _)) rfl rfl) ?_
      refine ops_call rfl c83 (choose_ok a i (by omega) (by omega) H) ?_
      clear H; rintro _ w ⟨rfl, H⟩
      refine ops_v (v_add _ rfl rfl rfl (wrap_in (by omega) (by omega))) ?_
      refine ops_v (v_assign (v := (.int _ _)) rfl rfl) ?_
      refine ops_nil ?_
      refine W_region ?_
      refine ops_v (v_add _ rfl rfl rfl (wrap_in (by omega) (by omega))) ?_
      refine ops_v (v_move (v := (.int _ _)) rfl rfl) ?_
      refine ops_nil ?_
      exact ⟨i + 1, by omega, ⟨rfl, rfl, rfl, rfl, trivial⟩, H, by omega⟩
      -- (bits.Count: loopend; chunks ; ptr )
    · have : i = b := by omega
      subst this
      refine W_seq ?_
      refine W_region ?_
      refine ops_v (v_lss false rfl rfl rfl (decide_eq_false (by first | omega | (simp only; omega) | rfl | decide))) ?_
      refine ops_nil ?_
      refine W_seq ?_
      refine W_if_f rfl ?_
      refine W_exit ?_
      refine W_ret ?_
      refine ⟨_, (.tmp (v := (.int _ _)) rfl .nil), ?_⟩
      exact ⟨rfl, H⟩
      -- (bits.Count: ret; chunks ; ptr )
theorem Bound_ok (n m : Int) (hm : i64 m) (H : Own wb R w) : FnC Try.prog 58 [int n, int m] w (fun v w' => v = int (boundI n m) ∧ Own wb R w') := by
  obtain ⟨m1, m2⟩ := hm
  by_cases h : m < 0
  · refine FnC_of Try.func58 rfl rfl rfl rfl ?_
    refine W_seq ?_
    refine W_region ?_
    refine ops_v (v_assign (v := _) rfl rfl) ?_
    refine ops_nil ?_
    refine W_seq ?_
    refine W_seq ?_
    refine W_region ?_
    refine ops_v (v_move (v := (.int _ _)) rfl rfl) ?_
    refine ops_v (v_lss true rfl rfl rfl (decide_eq_true (by first | omega | (simp only; omega) | rfl | decide))) ?_
    refine ops_nil ?_
    refine W_if_t rfl ?_
    refine W_seq ?_
    refine W_region ?_
    refine ops_v (v_assign (v := _) rfl rfl) ?_
    refine ops_nil ?_
    refine W_ret ?_
    refine ⟨_, (.tmp (v := (.int _ _)) rfl .nil), ?_⟩
    exact ⟨by unfold boundI; rw [if_pos h]; rfl, H⟩
    -- (limit.Bound: ret; chunks ; ptr )
  · have hr := M.countI_range n (minI m 16 + 1)
    have hmin : minI m 16 ≤ 16 ∧ 0 ≤ minI m 16 := by unfold minI; split <;> omega
    refine FnC_of Try.func58 rfl rfl rfl rfl ?_
    refine W_seq ?_
    refine W_region ?_
    refine ops_v (v_assign (v := _) rfl rfl) ?_
    refine ops_nil ?_
    refine W_seq ?_
    refine W_seq ?_
    refine W_region ?_
    refine ops_v (v_move (v := (.int _ _)) rfl rfl) ?_
    refine ops_v (v_lss false rfl rfl rfl (decide_eq_false (by first | omega | (simp only; omega) | rfl | decide))) ?_
    refine ops_nil ?_
    refine W_if_f rfl ?_
    refine W_skip ?_
    refine W_seq ?_
    refine W_region ?_
    refine ops_v (v_move (v := (.int _ _)) rfl rfl) ?_
    refine ops_v (v_move (v := (.int _ _)) rfl rfl) ?_
    refine ops_v (v_min (c := minI m 16) rfl rfl rfl rfl) ?_
    refine ops_v (v_add _ rfl rfl rfl (wrap_in (by omega) (by omega))) ?_
    refine ops_call rfl c62 (BCount_ok n (minI m 16 + 1) H) ?_
    clear H; rintro _ w ⟨rfl, H⟩
    refine ops_v (v_mul _ rfl rfl rfl (wrap_in (by omega) (by omega))) ?_
    refine ops_v (v_assign (v := (.int _ _)) rfl rfl) ?_
    refine ops_nil ?_
    refine W_ret ?_
    refine ⟨_, (.tmp (v := (.int _ _)) rfl .nil), ?_⟩
    exact ⟨by unfold boundI; rw [if_neg h]; rfl, H⟩
    -- (limit.Bound: ret; chunks ; ptr )
theorem Bound_is (n m : Int) {b : Int} (hm : i64 m) (hb : boundI n m = b) (H : Own wb R w) : FnC Try.prog 58 [int n, int m] w (fun v w' => v = int b ∧ Own wb R w') := by
  subst hb; exact Bound_ok n m hm H
end Go.Proofs.Ytchikjmhncojfaa.W
