/- The walk of bits.At. Conditions: none. -/
import Derived.Test.YtchikjmhncojfaaBits
import Derived.Test.YtchikjmhncojfaaAtM
import Derived.Test.YtchikjmhncojfaaOrderM
set_option linter.unusedVariables false
namespace Go.Proofs.Ytchikjmhncojfaa.W
open Go Go.Proofs Go.RowKit
open Go.Proofs.Ytchikjmhncojfaa.M (i64 chN countI cz szN szOk btN btOk atI)
variable {wb w : World} {R L : List Chunk}
theorem or_nat (F G : Nat) (hF : F < 2 ^ 62) (hG : G < 2 ^ 62) : IntKind.i64.wrap (BitVec.ofInt IntKind.i64.bits F ||| BitVec.ofInt IntKind.i64.bits G).toNat = ((F ||| G : Nat) : Int) := by
  have h : (BitVec.ofInt IntKind.i64.bits F ||| BitVec.ofInt IntKind.i64.bits G).toNat = F ||| G := by
    show (BitVec.ofInt 64 F ||| BitVec.ofInt 64 G).toNat = _
    rw [BitVec.toNat_or, BitVec.toNat_ofInt, BitVec.toNat_ofInt]
    congr 1 <;> omega
  have hx : F ||| G < 2 ^ 62 := Nat.or_lt_two_pow hF hG
  rw [h]
  exact wrap_in (by omega) (by omega)
set_option maxHeartbeats 1000000 in
theorem At_ok (n m p : Nat) (hn : n ≤ 6) (hm : m ≤ 4) (hp : (p : Int) < cz n m) (H : Own wb R w) :
    FnC Try.prog 63 [.int .i64 (n : Int), .int .i64 (m : Int), .int .i64 (p : Int)] w (fun v w' => v = .int .i64 (atI n p : Nat) ∧ Own wb R w') := by
  obtain ⟨hs, hb, hlt, _⟩ := M.at_in hn hm hp
  have hcnt : countI n m = cz n m := M.count_cz (by omega) (by omega) (by omega)
  generalize hR : szN n 18 p 0 = RR at hb
  obtain ⟨P, S⟩ := RR
  simp only at hb
  have hres : atI n p = btN n 18 0 P S 0 := by unfold atI; rw [hR]
  rw [hres]
  have hcz := M.at_len hn hm
  refine FnC_of Try.func63 rfl rfl rfl rfl ?_
  refine W_seq ?_
  refine W_region ?_
  refine ops_v (v_assign (v := _) rfl rfl) ?_
  refine ops_nil ?_
  refine W_seq ?_
  refine W_seq ?_
  refine W_region ?_
  refine ops_v (v_move (v := (.int _ _)) rfl rfl) ?_
  refine ops_v (v_move (v := (.int _ _)) rfl rfl) ?_
  refine ops_call rfl c82 (none_is (n : Int) (m : Int) (decide_eq_false (by omega)) H) ?_
  clear H; rintro _ w ⟨rfl, H⟩
  refine ops_v (v_move (v := (.bool _)) rfl rfl) ?_
  refine ops_v (v_move (v := (.int _ _)) rfl rfl) ?_
  refine ops_v (v_lss false rfl rfl rfl (decide_eq_false (by first | omega | (simp only; omega) | rfl | decide))) ?_
  refine ops_v (v_pick_f (v := (.bool _)) rfl rfl rfl) ?_
  refine ops_v (v_move (v := (.bool _)) rfl rfl) ?_
  refine ops_v (v_move (v := (.int _ _)) rfl rfl) ?_
  refine ops_v (v_move (v := (.int _ _)) rfl rfl) ?_
  refine ops_v (v_move (v := (.int _ _)) rfl rfl) ?_
  refine ops_call rfl c62 ((by have := BCount_ok (n : Int) (m : Int) H; rw [hcnt] at this; exact this)) ?_
  clear H; rintro _ w ⟨rfl, H⟩
  refine ops_v (v_geq false rfl rfl rfl (decide_eq_false (by first | omega | (simp only; omega) | rfl | decide))) ?_
  refine ops_v (v_pick_f (v := (.bool _)) rfl rfl rfl) ?_
  refine ops_nil ?_
  refine W_if_f rfl ?_
  refine W_skip ?_
  refine W_seq ?_
  refine W_region ?_
  refine ops_v (v_assign (v := _) rfl rfl) ?_
  refine ops_nil ?_
  refine W_seq ?_
  refine W_block ?_
  -- (bits.At: loop; chunks ; ptr )
  refine W_loopS (fun (s : Nat × Int × Nat) => [(0, .int .i64 (n : Int)), (2, .int .i64 s.2.1), (7, .int .i64 s.2.2)]) (fun s w => Own wb R w ∧ szOk n s.1 s.2.1 s.2.2 = true ∧ szN n s.1 s.2.1 s.2.2 = (P, S) ∧ 0 ≤ s.2.1 ∧ s.2.1 ≤ 64) (fun s => s.1) (18, (p : Int), 0) ⟨rfl, rfl, rfl, trivial⟩ ⟨H, hs, hR, by simp only; omega, by simp only; omega⟩ ?_
  clear H
  rintro ⟨f, q, s⟩ e w ⟨H, h1, h2, h3, h4⟩
  simp only at h1 h2 h3 h4 ⊢
  by_cases hq : chN n s ≤ q
  · cases f with
    | zero =>
      simp only [szOk, Bool.and_eq_true, decide_eq_true_eq] at h1
      omega
    | succ f =>
      simp only [szOk, szN, if_pos hq, Bool.and_eq_true, decide_eq_true_eq] at h1 h2
      have hr := M.ch_range (n := n) (by omega) (i := s) (by omega)
      refine W_seq ?_
      refine W_seq ?_
      refine W_region ?_
      refine ops_v (v_move (v := (.int _ _)) rfl rfl) ?_
      refine ops_v (v_move (v := (.int _ _)) rfl rfl) ?_
      refine ops_v (v_move (v := (.int _ _)) rfl rfl) ?_
      refine ops_call rfl c83 (choose_ok n s (by omega) (by omega) H) ?_
      clear H; rintro _ w ⟨rfl, H⟩
      refine ops_v (v_geq true rfl rfl rfl (decide_eq_true (by first | omega | (simp only; omega) | rfl | decide))) ?_
      refine ops_nil ?_
      refine W_if_t rfl ?_
      refine W_skip ?_
      refine W_seq ?_
      refine W_block ?_
      refine W_region ?_
      refine ops_v (v_move (v := (.int _ _)) rfl rfl) ?_
      refine ops_v (v_move (v := (.int _ _)) rfl rfl) ?_
      refine ops_v (v_move (v := (.int _ _)) rfl rfl) ?_
      refine ops_call rfl c83 (choose_ok n s (by omega) (by omega) H) ?_
      clear H; rintro _ w ⟨rfl, H⟩
      refine ops_v (v_sub _ rfl rfl rfl (wrap_in (by omega) (by omega))) ?_
      refine ops_v (v_assign (v := (.int _ _)) rfl rfl) ?_
      refine ops_nil ?_
      refine W_region ?_
      refine ops_v (v_move (v := (.int _ _)) rfl rfl) ?_
      refine ops_v (v_add _ rfl rfl rfl (wrap_in (by omega) (by omega))) ?_
      refine ops_v (v_assign (v := (.int _ _)) rfl rfl) ?_
      refine ops_nil ?_
      exact ⟨(f, q - chN n s, s + 1), by simp only; omega, ⟨rfl, rfl, rfl, trivial⟩, H, h1.2, h2, by simp only; omega, by simp only; omega⟩
      -- (bits.At: loopend; chunks ; ptr )
  · have hs16 : s ≤ 16 ∧ szN n f q s = (q, s) := by
      cases f with
      | zero => simp only [szOk, Bool.and_eq_true, decide_eq_true_eq] at h1; exact ⟨h1.2, rfl⟩
      | succ f => simp only [szOk, if_neg hq, Bool.and_eq_true, decide_eq_true_eq] at h1; exact ⟨h1.1, by simp only [szN, if_neg hq]⟩
    rw [hs16.2] at h2
    obtain ⟨rfl, rfl⟩ := Prod.mk.inj h2
    refine W_seq ?_
    refine W_seq ?_
    refine W_region ?_
    refine ops_v (v_move (v := (.int _ _)) rfl rfl) ?_
    refine ops_v (v_move (v := (.int _ _)) rfl rfl) ?_
    refine ops_v (v_move (v := (.int _ _)) rfl rfl) ?_
    refine ops_call rfl c83 (choose_ok n s (by omega) (by omega) H) ?_
    clear H; rintro _ w ⟨rfl, H⟩
    refine ops_v (v_geq false rfl rfl rfl (decide_eq_false (by first | omega | (simp only; omega) | rfl | decide))) ?_
    refine ops_nil ?_
    refine W_if_f rfl ?_
    refine W_exit ?_
    refine W_seq ?_
    refine W_region ?_
    refine ops_v (v_assign (v := _) rfl rfl) ?_
    refine ops_nil ?_
    refine W_seq ?_
    refine W_seq ?_
    refine W_region ?_
    refine ops_v (v_assign (v := _) rfl rfl) ?_
    refine ops_nil ?_
    refine W_block ?_
    -- (bits.At: loop; chunks ; ptr )
    refine W_loopS (fun (t : Nat × Nat × Int × Nat × Nat) => [(0, .int .i64 (n : Int)), (2, .int .i64 t.2.2.1), (7, .int .i64 t.2.2.2.1), (8, .int .i64 t.2.2.2.2), (9, .int .i64 t.2.1)])
      (fun t w => Own wb R w ∧ btOk n t.1 t.2.1 t.2.2.1 t.2.2.2.1 = true ∧ btN n t.1 t.2.1 t.2.2.1 t.2.2.2.1 t.2.2.2.2 = btN n 18 0 q s 0 ∧ 0 ≤ t.2.2.1 ∧ t.2.2.1 ≤ 64 ∧ t.2.1 ≤ n ∧ t.2.2.2.2 < 2 ^ 20) (fun t => t.1) (18, 0, q, s, 0) ⟨rfl, rfl, rfl, rfl, rfl, trivial⟩ ⟨H, hb, rfl, h3, h4, Nat.zero_le _, Nat.pow_pos (by decide)⟩ ?_
    clear H
    rintro ⟨f, i, q', s', F⟩ e w ⟨H, k1, k2, k3, k4, k5, k6⟩
    simp only at k1 k2 k3 k4 k5 k6 ⊢
    cases s' with
    | zero =>
      have : F = btN n 18 0 q s 0 := by rw [← k2]; cases f <;> rfl
      refine W_seq ?_
      refine W_seq ?_
      refine W_region ?_
      refine ops_v (v_move (v := (.int _ _)) rfl rfl) ?_
      refine ops_v (v_gtr false rfl rfl rfl (decide_eq_false (by first | omega | (simp only; omega) | rfl | decide))) ?_
      refine ops_nil ?_
      refine W_if_f rfl ?_
      refine W_exit ?_
      refine W_seq ?_
      refine W_region ?_
      refine ops_v (v_move (v := (.int _ _)) rfl rfl) ?_
      refine ops_v (v_assign (v := (.int _ _)) rfl rfl) ?_
      refine ops_nil ?_
      refine W_ret ?_
      refine ⟨_, (.tmp (v := (.int _ _)) rfl .nil), ?_⟩
      exact ⟨by rw [← this]; rfl, H⟩
      -- (bits.At: ret; chunks ; ptr )
    | succ s' =>
      cases f with
      | zero => simp [btOk] at k1
      | succ f =>
        simp only [btOk, btN, Bool.and_eq_true, decide_eq_true_eq] at k1 k2
        obtain ⟨⟨g1, g2⟩, k1⟩ := k1
        have hr := M.ch_range (n := n - i - 1) (by omega) (i := s') (by omega)
        have hcast : (((n - i - 1 : Nat)) : Int) = (n : Int) - i - 1 := by omega
        rw [hcast] at hr
        have hch : ∀ (R : List Chunk) (w : World), Own wb R w → FnC Try.prog 83 [.int .i64 ((n : Int) - (i : Int) - 1), .int .i64 (((s' + 1 : Nat) : Int) - 1)] w (fun v w' => v = int (chN ((n : Int) - i - 1) s') ∧ Own wb R w') := fun R w H => by
          have := choose_at (n := (n : Int) - i - 1) (k := ((s' + 1 : Nat) : Int) - 1) (by omega) (by omega) (by omega) (by omega) H
          rw [show ((((s' + 1 : Nat) : Int) - 1)).toNat = s' by omega] at this
          exact this
        have hpow : (2 : Nat) ^ i ≤ 2 ^ 6 := Nat.pow_le_pow_right (by decide) (by omega)
        have hsh : IntKind.i64.wrap (1 * 2 ^ min ((i : Int)).toNat IntKind.i64.bits) = ((2 ^ i : Nat) : Int) := by
          rw [Int.toNat_natCast, shl1 i (by omega)]; push_cast; rfl
        by_cases hc : chN ((n : Int) - i - 1) s' ≤ q'
        · rw [if_pos hc] at k1 k2
          refine W_seq ?_
          refine W_seq ?_
          refine W_region ?_
          refine ops_v (v_move (v := (.int _ _)) rfl rfl) ?_
          refine ops_v (v_gtr true rfl rfl rfl (decide_eq_true (by first | omega | (simp only; omega) | rfl | decide))) ?_
          refine ops_nil ?_
          refine W_if_t rfl ?_
          refine W_skip ?_
          refine W_seq ?_
          refine W_block ?_
          refine W_seq ?_
          refine W_region ?_
          refine ops_v (v_move (v := (.int _ _)) rfl rfl) ?_
          refine ops_v (v_move (v := (.int _ _)) rfl rfl) ?_
          refine ops_v (v_sub _ rfl rfl rfl (wrap_in (by omega) (by omega))) ?_
          refine ops_v (v_sub _ rfl rfl rfl (wrap_in (by omega) (by omega))) ?_
          refine ops_v (v_move (v := (.int _ _)) rfl rfl) ?_
          refine ops_v (v_sub _ rfl rfl rfl (wrap_in (by omega) (by omega))) ?_
          refine ops_call rfl c83 (hch _ _ H) ?_
          clear H; rintro _ w ⟨rfl, H⟩
          refine ops_v (v_assign (v := (.int _ _)) rfl rfl) ?_
          refine ops_nil ?_
          refine W_seq ?_
          refine W_seq ?_
          refine W_region ?_
          refine ops_v (v_move (v := (.int _ _)) rfl rfl) ?_
          refine ops_v (v_move (v := (.int _ _)) rfl rfl) ?_
          refine ops_v (v_geq true rfl rfl rfl (decide_eq_true (by first | omega | (simp only; omega) | rfl | decide))) ?_
          refine ops_nil ?_
          refine W_if_t rfl ?_
          refine W_seq ?_
          refine W_region ?_
          refine ops_v (v_move (v := (.int _ _)) rfl rfl) ?_
          refine ops_v (v_move (v := (.int _ _)) rfl rfl) ?_
          refine ops_v (v_sub _ rfl rfl rfl (wrap_in (by omega) (by omega))) ?_
          refine ops_v (v_assign (v := (.int _ _)) rfl rfl) ?_
          refine ops_nil ?_
          refine W_exit ?_
          refine W_region ?_
          refine ops_v (v_move (v := (.int _ _)) rfl rfl) ?_
          refine ops_v (v_add _ rfl rfl rfl (wrap_in (by omega) (by omega))) ?_
          refine ops_v (v_assign (v := (.int _ _)) rfl rfl) ?_
          refine ops_nil ?_
          exact ⟨(f, i + 1, q' - chN ((n : Int) - i - 1) s', s' + 1, F), by simp only; omega, ⟨rfl, rfl, rfl, rfl, rfl, trivial⟩, H, k1, k2, by simp only; omega, by simp only; omega, by simp only; omega, k6⟩
          -- (bits.At: loopend; chunks ; ptr )
        · rw [if_neg hc] at k1 k2
          refine W_seq ?_
          refine W_seq ?_
          refine W_region ?_
          refine ops_v (v_move (v := (.int _ _)) rfl rfl) ?_
          refine ops_v (v_gtr true rfl rfl rfl (decide_eq_true (by first | omega | (simp only; omega) | rfl | decide))) ?_
          refine ops_nil ?_
          refine W_if_t rfl ?_
          refine W_skip ?_
          refine W_seq ?_
          refine W_block ?_
          refine W_seq ?_
          refine W_region ?_
          refine ops_v (v_move (v := (.int _ _)) rfl rfl) ?_
          refine ops_v (v_move (v := (.int _ _)) rfl rfl) ?_
          refine ops_v (v_sub _ rfl rfl rfl (wrap_in (by omega) (by omega))) ?_
          refine ops_v (v_sub _ rfl rfl rfl (wrap_in (by omega) (by omega))) ?_
          refine ops_v (v_move (v := (.int _ _)) rfl rfl) ?_
          refine ops_v (v_sub _ rfl rfl rfl (wrap_in (by omega) (by omega))) ?_
          refine ops_call rfl c83 (hch _ _ H) ?_
          clear H; rintro _ w ⟨rfl, H⟩
          refine ops_v (v_assign (v := (.int _ _)) rfl rfl) ?_
          refine ops_nil ?_
          refine W_seq ?_
          refine W_seq ?_
          refine W_region ?_
          refine ops_v (v_move (v := (.int _ _)) rfl rfl) ?_
          refine ops_v (v_move (v := (.int _ _)) rfl rfl) ?_
          refine ops_v (v_geq false rfl rfl rfl (decide_eq_false (by first | omega | (simp only; omega) | rfl | decide))) ?_
          refine ops_nil ?_
          refine W_if_f rfl ?_
          refine W_skip ?_
          refine W_seq ?_
          refine W_region ?_
          refine ops_v (v_move (v := (.int _ _)) rfl rfl) ?_
          refine ops_v (v_move (v := (.int _ _)) rfl rfl) ?_
          refine ops_v (v_shl ((2 ^ i : Nat) : Int) rfl rfl rfl (by omega) hsh) ?_
          refine ops_v (v_or ((F ||| 2 ^ i : Nat) : Int) rfl rfl rfl (or_nat F (2 ^ i) (by omega) (by omega))) ?_
          refine ops_v (v_assign (v := (.int _ _)) rfl rfl) ?_
          refine ops_nil ?_
          refine W_region ?_
          refine ops_v (v_move (v := (.int _ _)) rfl rfl) ?_
          refine ops_v (v_sub ((s' : Nat) : Int) rfl rfl rfl (by rw [wrap_in (by omega) (by omega)]; omega)) ?_
          refine ops_v (v_assign (v := (.int _ _)) rfl rfl) ?_
          refine ops_nil ?_
          refine W_region ?_
          refine ops_v (v_move (v := (.int _ _)) rfl rfl) ?_
          refine ops_v (v_add _ rfl rfl rfl (wrap_in (by omega) (by omega))) ?_
          refine ops_v (v_assign (v := (.int _ _)) rfl rfl) ?_
          refine ops_nil ?_
          exact ⟨(f, i + 1, q', s', F ||| 2 ^ i), by simp only; omega, ⟨rfl, rfl, rfl, rfl, rfl, trivial⟩, H, k1, k2, k3, k4, by simp only; omega, Nat.or_lt_two_pow k6 (by omega)⟩
          -- (bits.At: loopend; chunks ; ptr )
end Go.Proofs.Ytchikjmhncojfaa.W
