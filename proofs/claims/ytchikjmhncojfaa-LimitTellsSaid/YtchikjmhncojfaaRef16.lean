/- The walks of backstayref16 and of backstayref01's counts. Conditions: none. -/
import Derived.Test.YtchikjmhncojfaaBits
import Derived.Test.YtchikjmhncojfaaSetsM
import Derived.Test.YtchikjmhncojfaaRef13c
import Derived.Test.YtchikjmhncojfaaMade
set_option linter.unusedVariables false
namespace Go.Proofs.Ytchikjmhncojfaa.W
open Go Go.Proofs Go.RowKit
open Go.Proofs.Ytchikjmhncojfaa.M (has i64 popF atf minI cz cntF)
variable {wb w : World} {R L : List Chunk}
theorem i64_nat {F : Nat} (h : F < 2 ^ 62) : i64 (F : Int) := ⟨by omega, by omega⟩
theorem refAtMost_ok (n : Nat) (m : Int) (F : Nat) (hn : n ≤ 16) (hF : F < 2 ^ 62) (H : Own wb R w) : FnC Try.prog 61 [.int .i64 (n : Int), int m, .int .i64 (F : Int)] w (fun v w' => v = int (atf 0 n m F) ∧ Own wb R w') := by
  refine FnC_of Try.func61 rfl rfl rfl rfl ?_
  refine W_seq ?_
  refine W_region ?_
  refine ops_v (v_assign (v := _) rfl rfl) ?_
  refine ops_nil ?_
  refine W_seq ?_
  refine W_region ?_
  refine ops_v (v_assign (v := _) rfl rfl) ?_
  refine ops_nil ?_
  refine W_seq ?_
  refine W_seq ?_
  refine W_region ?_
  refine ops_v (v_assign (v := _) rfl rfl) ?_
  refine ops_nil ?_
  refine W_block ?_
  -- (backstayref16.AtMost: loop; chunks ; ptr )
  refine W_loopS (fun (i : Nat) => [(0, .int .i64 (n : Int)), (1, int m), (2, .int .i64 (F : Int)), (7, int (popF F 0 i)), (8, .int .i64 i)]) (fun i w => Own wb R w ∧ i ≤ n) (fun i => n - i) 0 ⟨rfl, rfl, rfl, rfl, rfl, trivial⟩ ⟨H, Nat.zero_le _⟩ ?_
  clear H
  rintro i e w ⟨H, hi⟩
  by_cases hik : (i : Int) < (n : Int)
  · have h0 := M.popF_lo F i 0
    have h1 := M.popF_hi F i 0
    have hs := M.popF_snoc F i 0
    rw [Int.zero_add] at hs
    cases hh : has (F : Nat) (i : Int) with
    | true =>
      rw [hh, if_pos rfl] at hs
      refine W_seq ?_
      refine W_seq ?_
      refine W_region ?_
      refine ops_v (v_move (v := (.int _ _)) rfl rfl) ?_
      refine ops_v (v_move (v := (.int _ _)) rfl rfl) ?_
      refine ops_v (v_lss true rfl rfl rfl (decide_eq_true (by first | omega | (simp only; omega) | rfl | decide))) ?_
      refine ops_nil ?_
      refine W_if_t rfl ?_
      refine W_skip ?_
      refine W_seq ?_
      refine W_block ?_
      refine W_seq ?_
      refine W_region ?_
      refine ops_v (v_move (v := (.int _ _)) rfl rfl) ?_
      refine ops_v (v_move (v := (.int _ _)) rfl rfl) ?_
      refine ops_call rfl c68 (Has13_ok H F i (i64_nat hF) true hh) ?_
      clear H; rintro _ w ⟨rfl, H⟩
      refine ops_nil ?_
      refine W_if_t rfl ?_
      refine W_region ?_
      refine ops_v (v_move (v := (.int _ _)) rfl rfl) ?_
      refine ops_v (v_add _ rfl rfl rfl (wrap_in (by omega) (by omega))) ?_
      refine ops_v (v_assign (v := (.int _ _)) rfl rfl) ?_
      refine ops_nil ?_
      refine W_region ?_
      refine ops_v (v_move (v := (.int _ _)) rfl rfl) ?_
      refine ops_v (v_add _ rfl rfl rfl (wrap_in (by omega) (by omega))) ?_
      refine ops_v (v_assign (v := (.int _ _)) rfl rfl) ?_
      refine ops_nil ?_
      exact ⟨i + 1, by omega, ⟨rfl, rfl, rfl, by rw [hs]; rfl, rfl, trivial⟩, H, by omega⟩
      -- (backstayref16.AtMost: loopend; chunks ; ptr )
    | false =>
      rw [hh, if_neg (by decide), Int.add_zero] at hs
      refine W_seq ?_
      refine W_seq ?_
      refine W_region ?_
      refine ops_v (v_move (v := (.int _ _)) rfl rfl) ?_
      refine ops_v (v_move (v := (.int _ _)) rfl rfl) ?_
      refine ops_v (v_lss true rfl rfl rfl (decide_eq_true (by first | omega | (simp only; omega) | rfl | decide))) ?_
      refine ops_nil ?_
      refine W_if_t rfl ?_
      refine W_skip ?_
      refine W_seq ?_
      refine W_block ?_
      refine W_seq ?_
      refine W_region ?_
      refine ops_v (v_move (v := (.int _ _)) rfl rfl) ?_
      refine ops_v (v_move (v := (.int _ _)) rfl rfl) ?_
      refine ops_call rfl c68 (Has13_ok H F i (i64_nat hF) false hh) ?_
      clear H; rintro _ w ⟨rfl, H⟩
      refine ops_nil ?_
      refine W_if_f rfl ?_
      refine W_skip ?_
      refine W_region ?_
      refine ops_v (v_move (v := (.int _ _)) rfl rfl) ?_
      refine ops_v (v_add _ rfl rfl rfl (wrap_in (by omega) (by omega))) ?_
      refine ops_v (v_assign (v := (.int _ _)) rfl rfl) ?_
      refine ops_nil ?_
      exact ⟨i + 1, by omega, ⟨rfl, rfl, rfl, by rw [hs]; rfl, rfl, trivial⟩, H, by omega⟩
      -- (backstayref16.AtMost: loopend; chunks ; ptr )
  · have : i = n := by omega
    subst this
    by_cases hp : popF F 0 i ≤ m
    · refine W_seq ?_
      refine W_seq ?_
      refine W_region ?_
      refine ops_v (v_move (v := (.int _ _)) rfl rfl) ?_
      refine ops_v (v_move (v := (.int _ _)) rfl rfl) ?_
      refine ops_v (v_lss false rfl rfl rfl (decide_eq_false (by first | omega | (simp only; omega) | rfl | decide))) ?_
      refine ops_nil ?_
      refine W_if_f rfl ?_
      refine W_exit ?_
      refine W_seq ?_
      refine W_seq ?_
      refine W_region ?_
      refine ops_v (v_move (v := (.int _ _)) rfl rfl) ?_
      refine ops_v (v_move (v := (.int _ _)) rfl rfl) ?_
      refine ops_v (v_leq true rfl rfl rfl (decide_eq_true (by first | omega | (simp only; omega) | rfl | decide))) ?_
      refine ops_nil ?_
      refine W_if_t rfl ?_
      refine W_seq ?_
      refine W_region ?_
      refine ops_v (v_assign (v := _) rfl rfl) ?_
      refine ops_nil ?_
      refine W_ret ?_
      refine ⟨_, (.tmp (v := (.int _ _)) rfl .nil), ?_⟩
      exact ⟨by unfold atf; rw [if_pos hp]; rfl, H⟩
      -- (backstayref16.AtMost: ret; chunks ; ptr )
    · refine W_seq ?_
      refine W_seq ?_
      refine W_region ?_
      refine ops_v (v_move (v := (.int _ _)) rfl rfl) ?_
      refine ops_v (v_move (v := (.int _ _)) rfl rfl) ?_
      refine ops_v (v_lss false rfl rfl rfl (decide_eq_false (by first | omega | (simp only; omega) | rfl | decide))) ?_
      refine ops_nil ?_
      refine W_if_f rfl ?_
      refine W_exit ?_
      refine W_seq ?_
      refine W_seq ?_
      refine W_region ?_
      refine ops_v (v_move (v := (.int _ _)) rfl rfl) ?_
      refine ops_v (v_move (v := (.int _ _)) rfl rfl) ?_
      refine ops_v (v_leq false rfl rfl rfl (decide_eq_false (by first | omega | (simp only; omega) | rfl | decide))) ?_
      refine ops_nil ?_
      refine W_if_f rfl ?_
      refine W_skip ?_
      refine W_seq ?_
      refine W_region ?_
      refine ops_v (v_assign (v := _) rfl rfl) ?_
      refine ops_nil ?_
      refine W_ret ?_
      refine ⟨_, (.tmp (v := (.int _ _)) rfl .nil), ?_⟩
      exact ⟨by unfold atf; rw [if_neg hp]; rfl, H⟩
      -- (backstayref16.AtMost: ret; chunks ; ptr )
theorem List01_ok (F : Nat) (hF : F < 2 ^ 62) (H : Own wb R w) : FnC Try.prog 106 [.int .i64 (F : Int)] w (fun v w' => ∃ q k cap xs, v = .slice q k cap ∧ (k : Int) = popF F 0 16 ∧ Own wb (SlC q k cap 3 1 xs :: R) w') := by
  refine FnC_of Try.func106 rfl rfl rfl rfl ?_
  refine W_seq ?_
  refine W_region ?_
  refine ops_v (v_assign (v := _) rfl rfl) ?_
  refine ops_nil ?_
  refine W_seq ?_
  refine W_region ?_
  refine ops_v (v_assign (v := _) rfl rfl) ?_
  refine ops_nil ?_
  refine W_seq ?_
  refine W_seq ?_
  refine W_region ?_
  refine ops_v (v_assign (v := _) rfl rfl) ?_
  refine ops_nil ?_
  refine W_block ?_
  -- (backstayref01.List: loop; chunks ; ptr )
  have H := sl_nil 3 1 H
  refine W_loopS (fun (s : Nat × Option Addr × Nat × Nat) => [(0, .int .i64 (F : Int)), (3, .slice s.2.1 s.2.2.1 s.2.2.2), (4, .int .i64 s.1)])
    (fun s w => (∃ xs, Own wb (SlC s.2.1 s.2.2.1 s.2.2.2 3 1 xs :: R) w) ∧ s.1 ≤ 16 ∧ (s.2.2.1 : Int) = popF F 0 s.1) (fun s => 16 - s.1) (0, none, 0, 0) ⟨rfl, rfl, rfl, trivial⟩ ⟨⟨_, H⟩, by decide, rfl⟩ ?_
  clear H
  rintro ⟨i, q, k, cap⟩ e w ⟨⟨xs, H⟩, hi, hk⟩
  simp only at H hi hk ⊢
  by_cases hik : (i : Int) < 16
  · have h1 := M.popF_hi F i 0
    have hs := M.popF_snoc F i 0
    rw [Int.zero_add] at hs
    have hm63 : k + 1 ≤ maxLen := by unfold maxLen; omega
    have hby : (k + 1) * 8 ≤ 140737488355328 := by omega
    cases hh : has (F : Nat) (i : Int) with
    | true =>
      rw [hh, if_pos rfl] at hs
      refine W_seq ?_
      refine W_seq ?_
      refine W_region ?_
      refine ops_v (v_move (v := (.int _ _)) rfl rfl) ?_
      refine ops_v (v_lss true rfl rfl rfl (decide_eq_true (by first | omega | (simp only; omega) | rfl | decide))) ?_
      refine ops_nil ?_
      refine W_if_t rfl ?_
      refine W_skip ?_
      refine W_seq ?_
      refine W_block ?_
      refine W_seq ?_
      refine W_region ?_
      refine ops_v (v_move (v := (.int _ _)) rfl rfl) ?_
      refine ops_v (v_move (v := (.int _ _)) rfl rfl) ?_
      refine ops_call rfl c68 (Has13_ok H F i (i64_nat hF) true hh) ?_
      clear H; rintro _ w ⟨rfl, H⟩
      refine ops_nil ?_
      refine W_if_t rfl ?_
      refine W_region ?_
      refine ops_v (v_move (v := (.slice _ _ _)) rfl rfl) ?_
      refine ops_v (v_move (v := (.int _ _)) rfl rfl) ?_
      refine ops_buildSlice (cs := [(.int _ _)]) H rfl bs40_1 rfl ?_
      clear H; intro bn0 w H
      refine ops_append (b := bn0) (news := [.int .i64 i]) 1 0 H rfl ap40 rfl rfl rfl rfl rfl rfl hm63 hby ?_
      clear H; intro q' cap' w H
      refine ops_v (v_assign (v := (.slice _ _ _)) rfl rfl) ?_
      refine ops_nil ?_
      refine W_region ?_
      refine ops_v (v_move (v := (.int _ _)) rfl rfl) ?_
      refine ops_v (v_add _ rfl rfl rfl (wrap_in (by omega) (by omega))) ?_
      refine ops_v (v_assign (v := (.int _ _)) rfl rfl) ?_
      refine ops_nil ?_
      exact ⟨(i + 1, q', k + 1, cap'), by simp only; omega, ⟨rfl, rfl, rfl, trivial⟩, ⟨_, H.tail⟩, by simp only; omega, by simp only; omega⟩
      -- (backstayref01.List: loopend; chunks n0,s; ptr )
    | false =>
      rw [hh, if_neg (by decide), Int.add_zero] at hs
      refine W_seq ?_
      refine W_seq ?_
      refine W_region ?_
      refine ops_v (v_move (v := (.int _ _)) rfl rfl) ?_
      refine ops_v (v_lss true rfl rfl rfl (decide_eq_true (by first | omega | (simp only; omega) | rfl | decide))) ?_
      refine ops_nil ?_
      refine W_if_t rfl ?_
      refine W_skip ?_
      refine W_seq ?_
      refine W_block ?_
      refine W_seq ?_
      refine W_region ?_
      refine ops_v (v_move (v := (.int _ _)) rfl rfl) ?_
      refine ops_v (v_move (v := (.int _ _)) rfl rfl) ?_
      refine ops_call rfl c68 (Has13_ok H F i (i64_nat hF) false hh) ?_
      clear H; rintro _ w ⟨rfl, H⟩
      refine ops_nil ?_
      refine W_if_f rfl ?_
      refine W_skip ?_
      refine W_region ?_
      refine ops_v (v_move (v := (.int _ _)) rfl rfl) ?_
      refine ops_v (v_add _ rfl rfl rfl (wrap_in (by omega) (by omega))) ?_
      refine ops_v (v_assign (v := (.int _ _)) rfl rfl) ?_
      refine ops_nil ?_
      exact ⟨(i + 1, q, k, cap), by simp only; omega, ⟨rfl, rfl, rfl, trivial⟩, ⟨_, H⟩, by simp only; omega, by simp only; omega⟩
      -- (backstayref01.List: loopend; chunks s; ptr )
  · have : i = 16 := by omega
    subst this
    refine W_seq ?_
    refine W_seq ?_
    refine W_region ?_
    refine ops_v (v_move (v := (.int _ _)) rfl rfl) ?_
    refine ops_v (v_lss false rfl rfl rfl (decide_eq_false (by first | omega | (simp only; omega) | rfl | decide))) ?_
    refine ops_nil ?_
    refine W_if_f rfl ?_
    refine W_exit ?_
    refine W_seq ?_
    refine W_region ?_
    refine ops_v (v_move (v := (.slice _ _ _)) rfl rfl) ?_
    refine ops_v (v_assign (v := (.slice _ _ _)) rfl rfl) ?_
    refine ops_nil ?_
    refine W_ret ?_
    refine ⟨_, (.tmp (v := (.slice _ _ _)) rfl .nil), ?_⟩
    exact ⟨q, k, cap, xs, rfl, hk, H⟩
    -- (backstayref01.List: ret; chunks s; ptr )
theorem Size01_ok (F : Nat) (hF : F < 2 ^ 62) (H : Own wb R w) : FnC Try.prog 100 [.int .i64 (F : Int)] w (fun v w' => v = int (popF F 0 16) ∧ Own wb R w') := by
  refine FnC_of Try.func100 rfl rfl rfl rfl ?_
  refine W_seq ?_
  refine W_region ?_
  refine ops_v (v_assign (v := _) rfl rfl) ?_
  refine ops_nil ?_
  refine W_seq ?_
  refine W_region ?_
  refine ops_v (v_move (v := (.int _ _)) rfl rfl) ?_
  refine ops_call rfl c106 (List01_ok F hF H) ?_
  clear H; rintro _ w ⟨q, k, cap, xs, rfl, hk, H⟩
  refine ops_v (v_len rfl sl40 rfl) ?_
  refine ops_v (v_assign (v := (.int _ _)) rfl rfl) ?_
  refine ops_nil ?_
  refine W_ret ?_
  refine ⟨_, (.tmp (v := (.int _ _)) rfl .nil), ?_⟩
  exact ⟨by rw [← hk]; rfl, H.tail⟩
  -- (backstayref01.Size: ret; chunks s; ptr )
theorem Count01_ok (n m : Int) (H : Own wb R w) : FnC Try.prog 80 [int n, int m] w (fun v w' => v = int (if n < 0 ∨ 16 < n ∨ m < 0 then 0 else cz n.toNat m) ∧ Own wb R w') := by
  by_cases h1 : n < 0
  · refine FnC_of Try.func80 rfl rfl rfl rfl ?_
    refine W_seq ?_
    refine W_region ?_
    refine ops_v (v_assign (v := _) rfl rfl) ?_
    refine ops_nil ?_
    refine W_seq ?_
    refine W_seq ?_
    refine W_region ?_
    refine ops_v (v_move (v := (.int _ _)) rfl rfl) ?_
    refine ops_v (v_lss true rfl rfl rfl (decide_eq_true (by first | omega | (simp only; omega) | rfl | decide))) ?_
    refine ops_v (v_move (v := (.bool _)) rfl rfl) ?_
    refine ops_skip rfl rfl ?_
    refine ops_skip rfl rfl ?_
    refine ops_v (v_pick_t (v := (.bool _)) rfl rfl rfl) ?_
    refine ops_v (v_move (v := (.bool _)) rfl rfl) ?_
    refine ops_skip rfl rfl ?_
    refine ops_skip rfl rfl ?_
    refine ops_v (v_pick_t (v := (.bool _)) rfl rfl rfl) ?_
    refine ops_nil ?_
    refine W_if_t rfl ?_
    refine W_seq ?_
    refine W_region ?_
    refine ops_v (v_assign (v := _) rfl rfl) ?_
    refine ops_nil ?_
    refine W_ret ?_
    refine ⟨_, (.tmp (v := (.int _ _)) rfl .nil), ?_⟩
    exact ⟨by rw [if_pos (.inl h1)]; rfl, H⟩
    -- (backstayref01.Count: ret; chunks ; ptr )
  · by_cases h2 : 16 < n
    · refine FnC_of Try.func80 rfl rfl rfl rfl ?_
      refine W_seq ?_
      refine W_region ?_
      refine ops_v (v_assign (v := _) rfl rfl) ?_
      refine ops_nil ?_
      refine W_seq ?_
      refine W_seq ?_
      refine W_region ?_
      refine ops_v (v_move (v := (.int _ _)) rfl rfl) ?_
      refine ops_v (v_lss false rfl rfl rfl (decide_eq_false (by first | omega | (simp only; omega) | rfl | decide))) ?_
      refine ops_v (v_move (v := (.bool _)) rfl rfl) ?_
      refine ops_v (v_move (v := (.int _ _)) rfl rfl) ?_
      refine ops_v (v_gtr true rfl rfl rfl (decide_eq_true (by first | omega | (simp only; omega) | rfl | decide))) ?_
      refine ops_v (v_pick_f (v := (.bool _)) rfl rfl rfl) ?_
      refine ops_v (v_move (v := (.bool _)) rfl rfl) ?_
      refine ops_skip rfl rfl ?_
      refine ops_skip rfl rfl ?_
      refine ops_v (v_pick_t (v := (.bool _)) rfl rfl rfl) ?_
      refine ops_nil ?_
      refine W_if_t rfl ?_
      refine W_seq ?_
      refine W_region ?_
      refine ops_v (v_assign (v := _) rfl rfl) ?_
      refine ops_nil ?_
      refine W_ret ?_
      refine ⟨_, (.tmp (v := (.int _ _)) rfl .nil), ?_⟩
      exact ⟨by rw [if_pos (.inr (.inl h2))]; rfl, H⟩
      -- (backstayref01.Count: ret; chunks ; ptr )
    · by_cases h3 : m < 0
      · refine FnC_of Try.func80 rfl rfl rfl rfl ?_
        refine W_seq ?_
        refine W_region ?_
        refine ops_v (v_assign (v := _) rfl rfl) ?_
        refine ops_nil ?_
        refine W_seq ?_
        refine W_seq ?_
        refine W_region ?_
        refine ops_v (v_move (v := (.int _ _)) rfl rfl) ?_
        refine ops_v (v_lss false rfl rfl rfl (decide_eq_false (by first | omega | (simp only; omega) | rfl | decide))) ?_
        refine ops_v (v_move (v := (.bool _)) rfl rfl) ?_
        refine ops_v (v_move (v := (.int _ _)) rfl rfl) ?_
        refine ops_v (v_gtr false rfl rfl rfl (decide_eq_false (by first | omega | (simp only; omega) | rfl | decide))) ?_
        refine ops_v (v_pick_f (v := (.bool _)) rfl rfl rfl) ?_
        refine ops_v (v_move (v := (.bool _)) rfl rfl) ?_
        refine ops_v (v_move (v := (.int _ _)) rfl rfl) ?_
        refine ops_v (v_lss true rfl rfl rfl (decide_eq_true (by first | omega | (simp only; omega) | rfl | decide))) ?_
        refine ops_v (v_pick_f (v := (.bool _)) rfl rfl rfl) ?_
        refine ops_nil ?_
        refine W_if_t rfl ?_
        refine W_seq ?_
        refine W_region ?_
        refine ops_v (v_assign (v := _) rfl rfl) ?_
        refine ops_nil ?_
        refine W_ret ?_
        refine ⟨_, (.tmp (v := (.int _ _)) rfl .nil), ?_⟩
        exact ⟨by rw [if_pos (.inr (.inr h3))]; rfl, H⟩
        -- (backstayref01.Count: ret; chunks ; ptr )
      · obtain ⟨a, rfl⟩ : ∃ a : Nat, n = a := ⟨n.toNat, by omega⟩
        rw [if_neg (by omega), Int.toNat_natCast]
        have hpow : 2 ^ a ≤ 65536 := Nat.pow_le_pow_right (n := 2) (by decide) (show a ≤ 16 by omega)
        have cast2 : ((2 ^ a : Nat) : Int) = (2 : Int) ^ a := by push_cast; rfl
        refine FnC_of Try.func80 rfl rfl rfl rfl ?_
        refine W_seq ?_
        refine W_region ?_
        refine ops_v (v_assign (v := _) rfl rfl) ?_
        refine ops_nil ?_
        refine W_seq ?_
        refine W_seq ?_
        refine W_region ?_
        refine ops_v (v_move (v := (.int _ _)) rfl rfl) ?_
        refine ops_v (v_lss false rfl rfl rfl (decide_eq_false (by first | omega | (simp only; omega) | rfl | decide))) ?_
        refine ops_v (v_move (v := (.bool _)) rfl rfl) ?_
        refine ops_v (v_move (v := (.int _ _)) rfl rfl) ?_
        refine ops_v (v_gtr false rfl rfl rfl (decide_eq_false (by first | omega | (simp only; omega) | rfl | decide))) ?_
        refine ops_v (v_pick_f (v := (.bool _)) rfl rfl rfl) ?_
        refine ops_v (v_move (v := (.bool _)) rfl rfl) ?_
        refine ops_v (v_move (v := (.int _ _)) rfl rfl) ?_
        refine ops_v (v_lss false rfl rfl rfl (decide_eq_false (by first | omega | (simp only; omega) | rfl | decide))) ?_
        refine ops_v (v_pick_f (v := (.bool _)) rfl rfl rfl) ?_
        refine ops_nil ?_
        refine W_if_f rfl ?_
        refine W_skip ?_
        refine W_seq ?_
        refine W_region ?_
        refine ops_v (v_assign (v := _) rfl rfl) ?_
        refine ops_nil ?_
        refine W_seq ?_
        refine W_seq ?_
        refine W_region ?_
        refine ops_v (v_assign (v := _) rfl rfl) ?_
        refine ops_nil ?_
        refine W_block ?_
        -- (backstayref01.Count: loop; chunks ; ptr )
        refine W_loopS (fun (i : Nat) => [(0, .int .i64 (a : Int)), (1, int m), (5, int (cntF m i)), (6, .int .i64 i)]) (fun i w => Own wb R w ∧ i ≤ 2 ^ a) (fun i => 2 ^ a - i) 0 ⟨rfl, rfl, rfl, rfl, trivial⟩ ⟨H, Nat.zero_le _⟩ ?_
        clear H
        rintro i e w ⟨H, hi⟩
        have hsh : IntKind.i64.wrap (1 * 2 ^ min ((a : Int)).toNat IntKind.i64.bits) = 2 ^ a := by rw [Int.toNat_natCast]; exact shl1 a (by omega)
        by_cases hik : (i : Int) < (2 : Int) ^ a
        · have hlt : i < 2 ^ a := by omega
          have hc := M.cntF_le m i
          have hstep : cntF m (i + 1) = cntF m i + (if popF i 0 16 ≤ m then 1 else 0) := rfl
          by_cases hp : popF i 0 16 ≤ m
          · rw [if_pos hp] at hstep
            refine W_seq ?_
            refine W_seq ?_
            refine W_region ?_
            refine ops_v (v_move (v := (.int _ _)) rfl rfl) ?_
            refine ops_v (v_move (v := (.int _ _)) rfl rfl) ?_
            refine ops_v (v_shl (2 ^ a) rfl rfl rfl (by omega) hsh) ?_
            refine ops_v (v_lss true rfl rfl rfl (decide_eq_true (by first | omega | (simp only; omega) | rfl | decide))) ?_
            refine ops_nil ?_
            refine W_if_t rfl ?_
            refine W_skip ?_
            refine W_seq ?_
            refine W_block ?_
            refine W_seq ?_
            refine W_region ?_
            refine ops_v (v_move (v := (.int _ _)) rfl rfl) ?_
            refine ops_call rfl c100 (Size01_ok i (by omega) H) ?_
            clear H; rintro _ w ⟨rfl, H⟩
            refine ops_v (v_move (v := (.int _ _)) rfl rfl) ?_
            refine ops_v (v_leq true rfl rfl rfl (decide_eq_true (by first | omega | (simp only; omega) | rfl | decide))) ?_
            refine ops_nil ?_
            refine W_if_t rfl ?_
            refine W_region ?_
            refine ops_v (v_move (v := (.int _ _)) rfl rfl) ?_
            refine ops_v (v_add _ rfl rfl rfl (wrap_in (by omega) (by omega))) ?_
            refine ops_v (v_assign (v := (.int _ _)) rfl rfl) ?_
            refine ops_nil ?_
            refine W_region ?_
            refine ops_v (v_move (v := (.int _ _)) rfl rfl) ?_
            refine ops_v (v_add _ rfl rfl rfl (wrap_in (by omega) (by omega))) ?_
            refine ops_v (v_assign (v := (.int _ _)) rfl rfl) ?_
            refine ops_nil ?_
            exact ⟨i + 1, by omega, ⟨rfl, rfl, by rw [hstep]; rfl, rfl, trivial⟩, H, by omega⟩
            -- (backstayref01.Count: loopend; chunks ; ptr )
          · rw [if_neg hp, Int.add_zero] at hstep
            refine W_seq ?_
            refine W_seq ?_
            refine W_region ?_
            refine ops_v (v_move (v := (.int _ _)) rfl rfl) ?_
            refine ops_v (v_move (v := (.int _ _)) rfl rfl) ?_
            refine ops_v (v_shl (2 ^ a) rfl rfl rfl (by omega) hsh) ?_
            refine ops_v (v_lss true rfl rfl rfl (decide_eq_true (by first | omega | (simp only; omega) | rfl | decide))) ?_
            refine ops_nil ?_
            refine W_if_t rfl ?_
            refine W_skip ?_
            refine W_seq ?_
            refine W_block ?_
            refine W_seq ?_
            refine W_region ?_
            refine ops_v (v_move (v := (.int _ _)) rfl rfl) ?_
            refine ops_call rfl c100 (Size01_ok i (by omega) H) ?_
            clear H; rintro _ w ⟨rfl, H⟩
            refine ops_v (v_move (v := (.int _ _)) rfl rfl) ?_
            refine ops_v (v_leq false rfl rfl rfl (decide_eq_false (by first | omega | (simp only; omega) | rfl | decide))) ?_
            refine ops_nil ?_
            refine W_if_f rfl ?_
            refine W_skip ?_
            refine W_region ?_
            refine ops_v (v_move (v := (.int _ _)) rfl rfl) ?_
            refine ops_v (v_add _ rfl rfl rfl (wrap_in (by omega) (by omega))) ?_
            refine ops_v (v_assign (v := (.int _ _)) rfl rfl) ?_
            refine ops_nil ?_
            exact ⟨i + 1, by omega, ⟨rfl, rfl, by rw [hstep]; rfl, rfl, trivial⟩, H, by omega⟩
            -- (backstayref01.Count: loopend; chunks ; ptr )
        · have : i = 2 ^ a := by omega
          subst this
          refine W_seq ?_
          refine W_seq ?_
          refine W_region ?_
          refine ops_v (v_move (v := (.int _ _)) rfl rfl) ?_
          refine ops_v (v_move (v := (.int _ _)) rfl rfl) ?_
          refine ops_v (v_shl (2 ^ a) rfl rfl rfl (by omega) hsh) ?_
          refine ops_v (v_lss false rfl rfl rfl (decide_eq_false (by first | omega | (simp only; omega) | rfl | decide))) ?_
          refine ops_nil ?_
          refine W_if_f rfl ?_
          refine W_exit ?_
          refine W_seq ?_
          refine W_region ?_
          refine ops_v (v_move (v := (.int _ _)) rfl rfl) ?_
          refine ops_v (v_assign (v := (.int _ _)) rfl rfl) ?_
          refine ops_nil ?_
          refine W_ret ?_
          refine ⟨_, (.tmp (v := (.int _ _)) rfl .nil), ?_⟩
          exact ⟨by rw [← M.cntF_cz a (by omega)]; rfl, H⟩
          -- (backstayref01.Count: ret; chunks ; ptr )
theorem refBound_ok (n m : Int) (hm : i64 m) (H : Own wb R w) : FnC Try.prog 59 [int n, int m] w (fun v w' => v = int (M.boundI n m) ∧ Own wb R w') := by
  obtain ⟨m1, m2⟩ := hm
  rw [M.bound_same]
  by_cases h : m < 0
  · refine FnC_of Try.func59 rfl rfl rfl rfl ?_
    refine W_seq ?_
    refine W_region ?_
    refine ops_v (v_assign (v := _) rfl rfl) ?_
    refine ops_nil ?_
    refine W_seq ?_
    refine W_seq ?_
    refine W_region ?_
    refine ops_v (v_move (v := (.int _ _)) rfl rfl) ?_
    refine ops_v (v_lss true rfl rfl rfl (decide_eq_true (by first | omega | (simp only; omega) | rfl | decide))) ?_
    refine ops_nil ?_
    refine W_if_t rfl ?_
    refine W_seq ?_
    refine W_region ?_
    refine ops_v (v_assign (v := _) rfl rfl) ?_
    refine ops_nil ?_
    refine W_ret ?_
    refine ⟨_, (.tmp (v := (.int _ _)) rfl .nil), ?_⟩
    exact ⟨by unfold M.refBoundI; rw [if_pos h]; rfl, H⟩
    -- (backstayref16.Bound: ret; chunks ; ptr )
  · have hr := M.refBound_range n m
    have hmin : minI m 20 ≤ 20 ∧ 0 ≤ minI m 20 := by unfold minI; split <;> omega
    refine FnC_of Try.func59 rfl rfl rfl rfl ?_
    refine W_seq ?_
    refine W_region ?_
    refine ops_v (v_assign (v := _) rfl rfl) ?_
    refine ops_nil ?_
    refine W_seq ?_
    refine W_seq ?_
    refine W_region ?_
    refine ops_v (v_move (v := (.int _ _)) rfl rfl) ?_
    refine ops_v (v_lss false rfl rfl rfl (decide_eq_false (by first | omega | (simp only; omega) | rfl | decide))) ?_
    refine ops_nil ?_
    refine W_if_f rfl ?_
    refine W_skip ?_
    refine W_seq ?_
    refine W_region ?_
    refine ops_v (v_move (v := (.int _ _)) rfl rfl) ?_
    refine ops_v (v_move (v := (.int _ _)) rfl rfl) ?_
    refine ops_v (v_min (c := minI m 20) rfl rfl rfl rfl) ?_
    refine ops_v (v_add _ rfl rfl rfl (wrap_in (by omega) (by omega))) ?_
    refine ops_call rfl c80 (Count01_ok n (minI m 20 + 1) H) ?_
    clear H; rintro _ w ⟨rfl, H⟩
    refine ops_v (v_mul _ rfl rfl rfl (wrap_in (by omega) (by omega))) ?_
    refine ops_v (v_assign (v := (.int _ _)) rfl rfl) ?_
    refine ops_nil ?_
    refine W_ret ?_
    refine ⟨_, (.tmp (v := (.int _ _)) rfl .nil), ?_⟩
    exact ⟨by unfold M.refBoundI; rw [if_neg h]; rfl, H⟩
    -- (backstayref16.Bound: ret; chunks ; ptr )
end Go.Proofs.Ytchikjmhncojfaa.W
