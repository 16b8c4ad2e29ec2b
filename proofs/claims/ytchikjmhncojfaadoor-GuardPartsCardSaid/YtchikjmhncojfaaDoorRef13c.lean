/- backstayref01: Clean, Has. Conditions: none. -/
import Derived.Test.YtchikjmhncojfaaDoorOrderM
import Derived.Test.YtchikjmhncojfaaDoorLaw13
set_option linter.unusedVariables false
namespace Go.Proofs.YtchikjmhncojfaaDoor.W
open Go Go.Proofs Go.RowKit
open Go.Proofs.YtchikjmhncojfaaDoor.M (Br St getZ isN idx has down Wf rank i64 leafB askB)
def clean (f : Int) : Int := f % 65536
theorem Clean_ok {wb w : World} {R : List Chunk} (H : Own wb R w) (f : Int) (hf : i64 f) :
    FnC Tryd.prog 29 [int f] w (fun v w' => v = int (clean f) ∧ Own wb R w') := by
  have h1 : f.tmod 65536 = f % 65536 ∨ f.tmod 65536 = f % 65536 - 65536 := by
    rw [Int.tmod_eq_emod]
    by_cases h : 0 ≤ f ∨ (65536 : Int) ∣ f
    · left; simp [h]
    · right; simp [h]
  have h2 : (f.tmod 65536 + 65536).tmod 65536 = clean f := by
    unfold clean
    rw [Int.tmod_eq_emod_of_nonneg (by omega)]
    omega
  refine FnC_of Tryd.func29 rfl rfl rfl rfl ?_
  refine W_seq ?_
  refine W_region ?_
  refine ops_v (v_assign (v := _) rfl rfl) ?_
  refine ops_nil ?_
  refine W_seq ?_
  refine W_region ?_
  refine ops_v (v_move (v := (.int _ _)) rfl rfl) ?_
  refine ops_v (v_rem _ rfl rfl rfl (by omega) rfl) ?_
  refine ops_v (v_add _ rfl rfl rfl (wrap_in (by omega) (by omega))) ?_
  refine ops_v (v_rem (clean f) rfl rfl rfl (by decide) h2) ?_
  refine ops_v (v_assign (v := (.int _ _)) rfl rfl) ?_
  refine ops_nil ?_
  refine W_ret ?_
  refine ⟨_, (.tmp (v := (.int _ _)) rfl .nil), ?_⟩
  exact ⟨rfl, H⟩
  -- (backstayref01.Clean: ret; chunks ; ptr )
theorem clean_has (f : Int) (l : Nat) (h : l < 16) : decide (clean f / 2 ^ l % 2 = 1) = has f l := by
  unfold has clean
  rw [decide_eq_true (by omega : (0 : Int) ≤ (l : Int)), decide_eq_true (by omega : (l : Int) < 16), Int.toNat_natCast]
  simp only [Bool.true_and]
  refine decide_eq_decide.2 ?_
  rcases Nat.lt_or_ge l 8 with hl | hl
  · rcases (by omega : l = 0 ∨ l = 1 ∨ l = 2 ∨ l = 3 ∨ l = 4 ∨ l = 5 ∨ l = 6 ∨ l = 7) with rfl | rfl | rfl | rfl | rfl | rfl | rfl | rfl <;> simp only [Int.reducePow] <;> omega
  · rcases (by omega : l = 8 ∨ l = 9 ∨ l = 10 ∨ l = 11 ∨ l = 12 ∨ l = 13 ∨ l = 14 ∨ l = 15) with rfl | rfl | rfl | rfl | rfl | rfl | rfl | rfl <;> simp only [Int.reducePow] <;> omega
theorem Has13_ok {wb w : World} {R : List Chunk} (H : Own wb R w) (f l : Int) (hf : i64 f) (b : Bool) (hb : has f l = b) :
    FnC Tryd.prog 30 [int f, int l] w (fun v w' => v = .bool b ∧ Own wb R w') := by
  by_cases c1 : l < 0
  · have : b = false := by rw [← hb]; exact M.has_neg c1
    subst this
    refine FnC_of Tryd.func30 rfl rfl rfl rfl ?_
    refine W_seq ?_
    refine W_region ?_
    refine ops_v (v_assign (v := _) rfl rfl) ?_
    refine ops_nil ?_
    refine W_seq ?_
    refine W_seq ?_
    refine W_region ?_
    refine ops_v (v_move (v := (.int _ _)) rfl rfl) ?_
    refine ops_v (v_lss true rfl rfl rfl (decide_eq_true (by first | omega | (simp only; omega) | rfl | decide))) ?_
    refine ops_v (v_move (v := (.bool _)) rfl rfl) ?_
    refine ops_skip rfl rfl ?_
    refine ops_skip rfl rfl ?_
    refine ops_v (v_pick_t (v := (.bool _)) rfl rfl rfl) ?_
    refine ops_nil ?_
    refine W_if_t rfl ?_
    refine W_seq ?_
    refine W_region ?_
    refine ops_v (v_assign (v := _) rfl rfl) ?_
    refine ops_nil ?_
    refine W_ret ?_
    refine ⟨_, (.tmp (v := (.bool _)) rfl .nil), ?_⟩
    exact ⟨rfl, H⟩
    -- (backstayref01.Has: ret; chunks ; ptr )
  by_cases c2 : 16 ≤ l
  · have : b = false := by rw [← hb]; unfold has; rw [decide_eq_false (by omega : ¬ l < 16)]; simp
    subst this
    refine FnC_of Tryd.func30 rfl rfl rfl rfl ?_
    refine W_seq ?_
    refine W_region ?_
    refine ops_v (v_assign (v := _) rfl rfl) ?_
    refine ops_nil ?_
    refine W_seq ?_
    refine W_seq ?_
    refine W_region ?_
    refine ops_v (v_move (v := (.int _ _)) rfl rfl) ?_
    refine ops_v (v_lss false rfl rfl rfl (decide_eq_false (by first | omega | (simp only; omega) | rfl | decide))) ?_
    refine ops_v (v_move (v := (.bool _)) rfl rfl) ?_
    refine ops_v (v_move (v := (.int _ _)) rfl rfl) ?_
    refine ops_v (v_geq true rfl rfl rfl (decide_eq_true (by first | omega | (simp only; omega) | rfl | decide))) ?_
    refine ops_v (v_pick_f (v := (.bool _)) rfl rfl rfl) ?_
    refine ops_nil ?_
    refine W_if_t rfl ?_
    refine W_seq ?_
    refine W_region ?_
    refine ops_v (v_assign (v := _) rfl rfl) ?_
    refine ops_nil ?_
    refine W_ret ?_
    refine ⟨_, (.tmp (v := (.bool _)) rfl .nil), ?_⟩
    exact ⟨rfl, H⟩
    -- (backstayref01.Has: ret; chunks ; ptr )
  obtain ⟨m, rfl⟩ : ∃ m : Nat, l = m := ⟨l.toNat, by omega⟩
  have hm : m < 16 := by omega
  have hc0 : 0 ≤ clean f := Int.emod_nonneg _ (by decide)
  have hc1 : clean f < 65536 := Int.emod_lt_of_pos _ (by decide)
  have hp : (0 : Int) < 2 ^ m := Int.pow_pos (by decide)
  have hd0 : 0 ≤ clean f / 2 ^ m := Int.ediv_nonneg hc0 (by omega)
  have hd1 : clean f / 2 ^ m ≤ clean f := Int.ediv_le_self _ hc0
  have hq : IntKind.i64.wrap ((clean f).tdiv (2 ^ m)) = clean f / 2 ^ m := by
    rw [Int.tdiv_eq_ediv_of_nonneg hc0]
    exact wrap_in (by omega) (by omega)
  have hr : (clean f / 2 ^ m).tmod 2 = clean f / 2 ^ m % 2 := Int.tmod_eq_emod_of_nonneg hd0
  have hh := clean_has f m hm
  refine FnC_of Tryd.func30 rfl rfl rfl rfl ?_
  refine W_seq ?_
  refine W_region ?_
  refine ops_v (v_assign (v := _) rfl rfl) ?_
  refine ops_nil ?_
  refine W_seq ?_
  refine W_seq ?_
  refine W_region ?_
  refine ops_v (v_move (v := (.int _ _)) rfl rfl) ?_
  refine ops_v (v_lss false rfl rfl rfl (decide_eq_false (by first | omega | (simp only; omega) | rfl | decide))) ?_
  refine ops_v (v_move (v := (.bool _)) rfl rfl) ?_
  refine ops_v (v_move (v := (.int _ _)) rfl rfl) ?_
  refine ops_v (v_geq false rfl rfl rfl (decide_eq_false (by first | omega | (simp only; omega) | rfl | decide))) ?_
  refine ops_v (v_pick_f (v := (.bool _)) rfl rfl rfl) ?_
  refine ops_nil ?_
  refine W_if_f rfl ?_
  refine W_skip ?_
  refine W_seq ?_
  refine W_draw (is := []) mixed H ?_
  clear H; intro w H
  refine any_take 0 rfl (by kernel_rfl) (by kernel_rfl) (by kernel_rfl) (v_move (v := (.int _ _)) rfl rfl) ?_
  refine any_take 2 rfl (by kernel_rfl) (by kernel_rfl) (by kernel_rfl) (v_move (v := (.int _ _)) rfl rfl) ?_
  refine any_take 3 rfl (by kernel_rfl) (by kernel_rfl) (by kernel_rfl) (v_shl ((2 : Int) ^ m) rfl rfl rfl (Int.natCast_nonneg m) (shl1 _ (by omega))) ?_
  refine any_one 1 rfl (by kernel_rfl) ?_
  refine ops_call rfl c29 (Clean_ok H f hf) ?_
  clear H; rintro _ w ⟨rfl, H⟩
  refine ops_nil ⟨trivial, ?_⟩
  refine any_take 4 rfl (by kernel_rfl) (by kernel_rfl) (by kernel_rfl) (v_quo (clean f / 2 ^ m) rfl rfl rfl (by omega) hq) ?_
  refine any_take 5 rfl (by kernel_rfl) (by kernel_rfl) (by kernel_rfl) (v_rem (clean f / 2 ^ m % 2) rfl rfl rfl (by decide) hr) ?_
  refine any_take 6 rfl (by kernel_rfl) (by kernel_rfl) (by kernel_rfl) (v_eql _ rfl rfl rfl rfl) ?_
  refine any_take 7 rfl (by kernel_rfl) (by kernel_rfl) (by kernel_rfl) (v_assign (v := (.bool _)) rfl rfl) ?_
  refine any_done (by kernel_rfl) ?_
  refine W_ret ?_
  refine ⟨_, (.tmp (v := (.bool _)) rfl .nil), ?_⟩
  exact ⟨by rw [← hb, ← hh]; rfl, H⟩
  -- (backstayref01.Has: ret; chunks ; ptr )
end Go.Proofs.YtchikjmhncojfaaDoor.W
