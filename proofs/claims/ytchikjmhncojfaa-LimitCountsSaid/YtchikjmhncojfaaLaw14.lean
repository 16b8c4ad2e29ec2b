/- Helpers of the laws of layer 14: pick, step, comes, awake, the document's numbers. Conditions: none. -/
import Derived.Test.YtchikjmhncojfaaApply4
import Derived.Test.YtchikjmhncojfaaTellM
import Derived.Test.YtchikjmhncojfaaMade
set_option linter.unusedVariables false
namespace Go.Proofs.Ytchikjmhncojfaa.M
def stepT (r : R4) : Int := if pick r.a 4 = 0 then 1 + pick r.d 2 else if pick r.a 4 = 1 then 100 else 3 + pick r.d 6
def stepB (r : R4) (a b : Int) : Int := if pick r.a 4 = 0 then a else b
def stepC (r : R4) (a b : Int) : Int := if pick r.a 4 = 0 then a else if pick r.a 4 = 1 then a else b
theorem stepB_or (r : R4) (a b : Int) : stepB r a b = a ∨ stepB r a b = b := by unfold stepB; split <;> simp
theorem stepC_or (r : R4) (a b : Int) : stepC r a b = a ∨ stepC r a b = b := by unfold stepC; split <;> (try split) <;> simp
end Go.Proofs.Ytchikjmhncojfaa.M
namespace Go.Proofs.Ytchikjmhncojfaa.W
open Go Go.Proofs Go.RowKit
open Go.Proofs.Ytchikjmhncojfaa.M (Br St get getZ isN idx has down Wf rank i64 leafB askB Lifts lnk val sideOf linkOf Ext tr oneF twoF chooseF opF R4)
variable {wb w : World} {R L : List Chunk} {o : Option Nat} {p : Nat} {st : St}
theorem pick14_ok (H : Own wb R w) (c n : Int) (hc : i64 c) (hn : 0 < n) : FnC Try.prog 41 [int c, int n] w (fun v w' => v = int (M.pick c n) ∧ Own wb R w') := by
  obtain ⟨h1, h2⟩ := hc
  by_cases h : c < 0
  · refine FnC_of Try.func41 rfl rfl rfl rfl ?_
    refine W_seq ?_
    refine W_region ?_
    refine ops_v (v_assign (v := _) rfl rfl) ?_
    refine ops_nil ?_
    refine W_seq ?_
    refine W_seq ?_
    refine W_region ?_
    refine ops_v (v_move (v := (.int _ _)) rfl rfl) ?_
    refine ops_v (v_lss true rfl rfl rfl (decide_eq_true (by first | omega | (simp only; omega) | rfl | decide))) ?_
    refine ops_nil ?_
    refine W_if_t rfl ?_
    refine W_region ?_
    refine ops_v (v_move (v := (.int _ _)) rfl rfl) ?_
    refine ops_v (v_add _ rfl rfl rfl (wrap_in (by omega) (by omega))) ?_
    refine ops_v (v_neg _ rfl rfl (wrap_in (by omega) (by omega))) ?_
    refine ops_v (v_assign (v := (.int _ _)) rfl rfl) ?_
    refine ops_nil ?_
    refine W_seq ?_
    refine W_region ?_
    refine ops_v (v_move (v := (.int _ _)) rfl rfl) ?_
    refine ops_v (v_move (v := (.int _ _)) rfl rfl) ?_
    refine ops_v (v_rem _ rfl rfl rfl (by omega) rfl) ?_
    refine ops_v (v_assign (v := (.int _ _)) rfl rfl) ?_
    refine ops_nil ?_
    refine W_ret ?_
    refine ⟨_, (.tmp (v := (.int _ _)) rfl .nil), ?_⟩
    exact ⟨by unfold M.pick; rw [if_pos h, ← tmod_pos (by omega), show -(c + 1) = 0 - (c + 1) by omega]; rfl, H⟩
    -- (backstaylaw14.pick: ret; chunks ; ptr )
  · refine FnC_of Try.func41 rfl rfl rfl rfl ?_
    refine W_seq ?_
    refine W_region ?_
    refine ops_v (v_assign (v := _) rfl rfl) ?_
    refine ops_nil ?_
    refine W_seq ?_
    refine W_seq ?_
    refine W_region ?_
    refine ops_v (v_move (v := (.int _ _)) rfl rfl) ?_
    refine ops_v (v_lss false rfl rfl rfl (decide_eq_false (by first | omega | (simp only; omega) | rfl | decide))) ?_
    refine ops_nil ?_
    refine W_if_f rfl ?_
    refine W_skip ?_
    refine W_seq ?_
    refine W_region ?_
    refine ops_v (v_move (v := (.int _ _)) rfl rfl) ?_
    refine ops_v (v_move (v := (.int _ _)) rfl rfl) ?_
    refine ops_v (v_rem _ rfl rfl rfl (by omega) rfl) ?_
    refine ops_v (v_assign (v := (.int _ _)) rfl rfl) ?_
    refine ops_nil ?_
    refine W_ret ?_
    refine ⟨_, (.tmp (v := (.int _ _)) rfl .nil), ?_⟩
    exact ⟨by unfold M.pick; rw [if_neg h, ← tmod_pos (by omega)]; rfl, H⟩
    -- (backstaylaw14.pick: ret; chunks ; ptr )
theorem op2_ok (H : Own wb R w) (c : Int) (hc : i64 c) : FnC Try.prog 43 [int c] w (fun v w' => v = int (3 + M.pick c 6) ∧ Own wb R w') := by
  have h0 := M.pick_lo (c := c) (n := 6) (by decide)
  have h1 := M.pick_hi (c := c) (n := 6) (by decide)
  refine FnC_of Try.func43 rfl rfl rfl rfl ?_
  refine W_seq ?_
  refine W_region ?_
  refine ops_v (v_assign (v := _) rfl rfl) ?_
  refine ops_nil ?_
  refine W_seq ?_
  refine W_region ?_
  refine ops_v (v_move (v := (.int _ _)) rfl rfl) ?_
  refine ops_call rfl c41 (pick14_ok H c 6 hc (by decide)) ?_
  clear H; rintro _ w ⟨rfl, H⟩
  refine ops_v (v_add _ rfl rfl rfl (wrap_in (by omega) (by omega))) ?_
  refine ops_v (v_assign (v := (.int _ _)) rfl rfl) ?_
  refine ops_nil ?_
  refine W_ret ?_
  refine ⟨_, (.tmp (v := (.int _ _)) rfl .nil), ?_⟩
  exact ⟨rfl, H⟩
  -- (backstaylaw14.op2: ret; chunks ; ptr )
theorem flag_ok (b : Bool) (H : Own wb R w) : FnC Try.prog 78 [.bool b] w (fun v w' => v = int (tr b) ∧ Own wb R w') := by
  cases b with
  | true =>
    refine FnC_of Try.func78 rfl rfl rfl rfl ?_
    refine W_seq ?_
    refine W_region ?_
    refine ops_v (v_assign (v := _) rfl rfl) ?_
    refine ops_nil ?_
    refine W_seq ?_
    refine W_seq ?_
    refine W_region ?_
    refine ops_v (v_move (v := (.bool _)) rfl rfl) ?_
    refine ops_nil ?_
    refine W_if_t rfl ?_
    refine W_seq ?_
    refine W_region ?_
    refine ops_v (v_assign (v := _) rfl rfl) ?_
    refine ops_nil ?_
    refine W_ret ?_
    refine ⟨_, (.tmp (v := (.int _ _)) rfl .nil), ?_⟩
    exact ⟨rfl, H⟩
    -- (backstayref14.flag: ret; chunks ; ptr )
  | false =>
    refine FnC_of Try.func78 rfl rfl rfl rfl ?_
    refine W_seq ?_
    refine W_region ?_
    refine ops_v (v_assign (v := _) rfl rfl) ?_
    refine ops_nil ?_
    refine W_seq ?_
    refine W_seq ?_
    refine W_region ?_
    refine ops_v (v_move (v := (.bool _)) rfl rfl) ?_
    refine ops_nil ?_
    refine W_if_f rfl ?_
    refine W_skip ?_
    refine W_seq ?_
    refine W_region ?_
    refine ops_v (v_assign (v := _) rfl rfl) ?_
    refine ops_nil ?_
    refine W_ret ?_
    refine ⟨_, (.tmp (v := (.int _ _)) rfl .nil), ?_⟩
    exact ⟨rfl, H⟩
    -- (backstayref14.flag: ret; chunks ; ptr )
theorem refOne_ok (t a : Int) (H : Own wb R w) : FnC Try.prog 47 [int t, int a] w (fun v w' => v = int (oneF t a) ∧ Own wb R w') := by
  by_cases h : t = 1
  · refine FnC_of Try.func47 rfl rfl rfl rfl ?_
    refine W_seq ?_
    refine W_region ?_
    refine ops_v (v_assign (v := _) rfl rfl) ?_
    refine ops_nil ?_
    refine W_seq ?_
    refine W_seq ?_
    refine W_region ?_
    refine ops_v (v_move (v := (.int _ _)) rfl rfl) ?_
    refine ops_v (v_eql true rfl rfl rfl (decide_eq_true (by first | omega | (simp only; omega) | rfl | decide))) ?_
    refine ops_nil ?_
    refine W_if_t rfl ?_
    refine W_seq ?_
    refine W_region ?_
    refine ops_v (v_move (v := (.int _ _)) rfl rfl) ?_
    refine ops_v (v_eql _ rfl rfl rfl rfl) ?_
    refine ops_call rfl c78 (flag_ok _ H) ?_
    clear H; rintro _ w ⟨rfl, H⟩
    refine ops_v (v_assign (v := (.int _ _)) rfl rfl) ?_
    refine ops_nil ?_
    refine W_ret ?_
    refine ⟨_, (.tmp (v := (.int _ _)) rfl .nil), ?_⟩
    exact ⟨by unfold oneF; rw [if_pos h]; rfl, H⟩
    -- (backstayref14.One: ret; chunks ; ptr )
  · refine FnC_of Try.func47 rfl rfl rfl rfl ?_
    refine W_seq ?_
    refine W_region ?_
    refine ops_v (v_assign (v := _) rfl rfl) ?_
    refine ops_nil ?_
    refine W_seq ?_
    refine W_seq ?_
    refine W_region ?_
    refine ops_v (v_move (v := (.int _ _)) rfl rfl) ?_
    refine ops_v (v_eql false rfl rfl rfl (decide_eq_false (by first | omega | (simp only; omega) | rfl | decide))) ?_
    refine ops_nil ?_
    refine W_if_f rfl ?_
    refine W_skip ?_
    refine W_seq ?_
    refine W_region ?_
    refine ops_v (v_move (v := (.int _ _)) rfl rfl) ?_
    refine ops_v (v_add _ rfl rfl rfl rfl) ?_
    refine ops_v (v_assign (v := (.int _ _)) rfl rfl) ?_
    refine ops_nil ?_
    refine W_ret ?_
    refine ⟨_, (.tmp (v := (.int _ _)) rfl .nil), ?_⟩
    exact ⟨by unfold oneF; rw [if_neg h]; rfl, H⟩
    -- (backstayref14.One: ret; chunks ; ptr )
theorem refTwo_ok (t a b : Int) (ht : 3 ≤ t ∧ t ≤ 8) (H : Own wb R w) : FnC Try.prog 48 [int t, int a, int b] w (fun v w' => v = int (twoF t a b) ∧ Own wb R w') := by
  obtain rfl | rfl | rfl | rfl | rfl | rfl : t = 3 ∨ t = 4 ∨ t = 5 ∨ t = 6 ∨ t = 7 ∨ t = 8 := by omega
  · refine FnC_of Try.func48 rfl rfl rfl rfl ?_
    refine W_seq ?_
    refine W_region ?_
    refine ops_v (v_assign (v := _) rfl rfl) ?_
    refine ops_nil ?_
    refine W_seq ?_
    refine W_seq ?_
    refine W_region ?_
    refine ops_v (v_move (v := (.int _ _)) rfl rfl) ?_
    refine ops_nil ?_
    refine W_block ?_
    refine W_seq ?_
    refine W_region ?_
    refine ops_v (v_eql true rfl rfl rfl (decide_eq_true (by first | omega | (simp only; omega) | rfl | decide))) ?_
    refine ops_v (v_assign (v := (.bool _)) rfl rfl) ?_
    refine ops_nil ?_
    refine W_if_t rfl ?_
    refine W_seq ?_
    refine W_region ?_
    refine ops_v (v_move (v := (.int _ _)) rfl rfl) ?_
    refine ops_v (v_move (v := (.int _ _)) rfl rfl) ?_
    refine ops_v (v_min rfl rfl rfl rfl) ?_
    refine ops_v (v_assign (v := (.int _ _)) rfl rfl) ?_
    refine ops_nil ?_
    refine W_ret ?_
    refine ⟨_, (.tmp (v := (.int _ _)) rfl .nil), ?_⟩
    exact ⟨rfl, H⟩
    -- (backstayref14.Two: ret; chunks ; ptr )
  · refine FnC_of Try.func48 rfl rfl rfl rfl ?_
    refine W_seq ?_
    refine W_region ?_
    refine ops_v (v_assign (v := _) rfl rfl) ?_
    refine ops_nil ?_
    refine W_seq ?_
    refine W_seq ?_
    refine W_region ?_
    refine ops_v (v_move (v := (.int _ _)) rfl rfl) ?_
    refine ops_nil ?_
    refine W_block ?_
    refine W_seq ?_
    refine W_region ?_
    refine ops_v (v_eql false rfl rfl rfl (decide_eq_false (by first | omega | (simp only; omega) | rfl | decide))) ?_
    refine ops_v (v_assign (v := (.bool _)) rfl rfl) ?_
    refine ops_nil ?_
    refine W_if_f rfl ?_
    refine W_seq ?_
    refine W_region ?_
    refine ops_v (v_eql true rfl rfl rfl (decide_eq_true (by first | omega | (simp only; omega) | rfl | decide))) ?_
    refine ops_v (v_assign (v := (.bool _)) rfl rfl) ?_
    refine ops_nil ?_
    refine W_if_t rfl ?_
    refine W_seq ?_
    refine W_region ?_
    refine ops_v (v_move (v := (.int _ _)) rfl rfl) ?_
    refine ops_v (v_move (v := (.int _ _)) rfl rfl) ?_
    refine ops_v (v_max rfl rfl rfl rfl) ?_
    refine ops_v (v_assign (v := (.int _ _)) rfl rfl) ?_
    refine ops_nil ?_
    refine W_ret ?_
    refine ⟨_, (.tmp (v := (.int _ _)) rfl .nil), ?_⟩
    exact ⟨rfl, H⟩
    -- (backstayref14.Two: ret; chunks ; ptr )
  · refine FnC_of Try.func48 rfl rfl rfl rfl ?_
    refine W_seq ?_
    refine W_region ?_
    refine ops_v (v_assign (v := _) rfl rfl) ?_
    refine ops_nil ?_
    refine W_seq ?_
    refine W_seq ?_
    refine W_region ?_
    refine ops_v (v_move (v := (.int _ _)) rfl rfl) ?_
    refine ops_nil ?_
    refine W_block ?_
    refine W_seq ?_
    refine W_region ?_
    refine ops_v (v_eql false rfl rfl rfl (decide_eq_false (by first | omega | (simp only; omega) | rfl | decide))) ?_
    refine ops_v (v_assign (v := (.bool _)) rfl rfl) ?_
    refine ops_nil ?_
    refine W_if_f rfl ?_
    refine W_seq ?_
    refine W_region ?_
    refine ops_v (v_eql false rfl rfl rfl (decide_eq_false (by first | omega | (simp only; omega) | rfl | decide))) ?_
    refine ops_v (v_assign (v := (.bool _)) rfl rfl) ?_
    refine ops_nil ?_
    refine W_if_f rfl ?_
    refine W_seq ?_
    refine W_region ?_
    refine ops_v (v_eql true rfl rfl rfl (decide_eq_true (by first | omega | (simp only; omega) | rfl | decide))) ?_
    refine ops_v (v_assign (v := (.bool _)) rfl rfl) ?_
    refine ops_nil ?_
    refine W_if_t rfl ?_
    refine W_seq ?_
    refine W_region ?_
    refine ops_v (v_move (v := (.int _ _)) rfl rfl) ?_
    refine ops_v (v_move (v := (.int _ _)) rfl rfl) ?_
    refine ops_v (v_add _ rfl rfl rfl rfl) ?_
    refine ops_v (v_assign (v := (.int _ _)) rfl rfl) ?_
    refine ops_nil ?_
    refine W_ret ?_
    refine ⟨_, (.tmp (v := (.int _ _)) rfl .nil), ?_⟩
    exact ⟨rfl, H⟩
    -- (backstayref14.Two: ret; chunks ; ptr )
  · refine FnC_of Try.func48 rfl rfl rfl rfl ?_
    refine W_seq ?_
    refine W_region ?_
    refine ops_v (v_assign (v := _) rfl rfl) ?_
    refine ops_nil ?_
    refine W_seq ?_
    refine W_seq ?_
    refine W_region ?_
    refine ops_v (v_move (v := (.int _ _)) rfl rfl) ?_
    refine ops_nil ?_
    refine W_block ?_
    refine W_seq ?_
    refine W_region ?_
    refine ops_v (v_eql false rfl rfl rfl (decide_eq_false (by first | omega | (simp only; omega) | rfl | decide))) ?_
    refine ops_v (v_assign (v := (.bool _)) rfl rfl) ?_
    refine ops_nil ?_
    refine W_if_f rfl ?_
    refine W_seq ?_
    refine W_region ?_
    refine ops_v (v_eql false rfl rfl rfl (decide_eq_false (by first | omega | (simp only; omega) | rfl | decide))) ?_
    refine ops_v (v_assign (v := (.bool _)) rfl rfl) ?_
    refine ops_nil ?_
    refine W_if_f rfl ?_
    refine W_seq ?_
    refine W_region ?_
    refine ops_v (v_eql false rfl rfl rfl (decide_eq_false (by first | omega | (simp only; omega) | rfl | decide))) ?_
    refine ops_v (v_assign (v := (.bool _)) rfl rfl) ?_
    refine ops_nil ?_
    refine W_if_f rfl ?_
    refine W_seq ?_
    refine W_region ?_
    refine ops_v (v_eql true rfl rfl rfl (decide_eq_true (by first | omega | (simp only; omega) | rfl | decide))) ?_
    refine ops_v (v_assign (v := (.bool _)) rfl rfl) ?_
    refine ops_nil ?_
    refine W_if_t rfl ?_
    refine W_seq ?_
    refine W_region ?_
    refine ops_v (v_move (v := (.int _ _)) rfl rfl) ?_
    refine ops_v (v_move (v := (.int _ _)) rfl rfl) ?_
    refine ops_v (v_eql _ rfl rfl rfl rfl) ?_
    refine ops_call rfl c78 (flag_ok _ H) ?_
    clear H; rintro _ w ⟨rfl, H⟩
    refine ops_v (v_assign (v := (.int _ _)) rfl rfl) ?_
    refine ops_nil ?_
    refine W_ret ?_
    refine ⟨_, (.tmp (v := (.int _ _)) rfl .nil), ?_⟩
    exact ⟨rfl, H⟩
    -- (backstayref14.Two: ret; chunks ; ptr )
  · by_cases h : a = 0
    · refine FnC_of Try.func48 rfl rfl rfl rfl ?_
      refine W_seq ?_
      refine W_region ?_
      refine ops_v (v_assign (v := _) rfl rfl) ?_
      refine ops_nil ?_
      refine W_seq ?_
      refine W_seq ?_
      refine W_region ?_
      refine ops_v (v_move (v := (.int _ _)) rfl rfl) ?_
      refine ops_nil ?_
      refine W_block ?_
      refine W_seq ?_
      refine W_region ?_
      refine ops_v (v_eql false rfl rfl rfl (decide_eq_false (by first | omega | (simp only; omega) | rfl | decide))) ?_
      refine ops_v (v_assign (v := (.bool _)) rfl rfl) ?_
      refine ops_nil ?_
      refine W_if_f rfl ?_
      refine W_seq ?_
      refine W_region ?_
      refine ops_v (v_eql false rfl rfl rfl (decide_eq_false (by first | omega | (simp only; omega) | rfl | decide))) ?_
      refine ops_v (v_assign (v := (.bool _)) rfl rfl) ?_
      refine ops_nil ?_
      refine W_if_f rfl ?_
      refine W_seq ?_
      refine W_region ?_
      refine ops_v (v_eql false rfl rfl rfl (decide_eq_false (by first | omega | (simp only; omega) | rfl | decide))) ?_
      refine ops_v (v_assign (v := (.bool _)) rfl rfl) ?_
      refine ops_nil ?_
      refine W_if_f rfl ?_
      refine W_seq ?_
      refine W_region ?_
      refine ops_v (v_eql false rfl rfl rfl (decide_eq_false (by first | omega | (simp only; omega) | rfl | decide))) ?_
      refine ops_v (v_assign (v := (.bool _)) rfl rfl) ?_
      refine ops_nil ?_
      refine W_if_f rfl ?_
      refine W_seq ?_
      refine W_region ?_
      refine ops_v (v_eql true rfl rfl rfl (decide_eq_true (by first | omega | (simp only; omega) | rfl | decide))) ?_
      refine ops_v (v_assign (v := (.bool _)) rfl rfl) ?_
      refine ops_nil ?_
      refine W_if_t rfl ?_
      refine W_seq ?_
      refine W_region ?_
      refine ops_v (v_move (v := (.int _ _)) rfl rfl) ?_
      refine ops_v (v_neq false rfl rfl rfl (decide_eq_false (by first | omega | (simp only; omega) | rfl | decide))) ?_
      refine ops_v (v_move (v := (.bool _)) rfl rfl) ?_
      refine ops_skip rfl rfl ?_
      refine ops_skip rfl rfl ?_
      refine ops_v (v_pick_f (v := (.bool _)) rfl rfl rfl) ?_
      refine ops_call rfl c78 (flag_ok _ H) ?_
      clear H; rintro _ w ⟨rfl, H⟩
      refine ops_v (v_assign (v := (.int _ _)) rfl rfl) ?_
      refine ops_nil ?_
      refine W_ret ?_
      refine ⟨_, (.tmp (v := (.int _ _)) rfl .nil), ?_⟩
      exact ⟨by simp [twoF, h, tr, packV, int], H⟩
      -- (backstayref14.Two: ret; chunks ; ptr )
    · refine FnC_of Try.func48 rfl rfl rfl rfl ?_
      refine W_seq ?_
      refine W_region ?_
      refine ops_v (v_assign (v := _) rfl rfl) ?_
      refine ops_nil ?_
      refine W_seq ?_
      refine W_seq ?_
      refine W_region ?_
      refine ops_v (v_move (v := (.int _ _)) rfl rfl) ?_
      refine ops_nil ?_
      refine W_block ?_
      refine W_seq ?_
      refine W_region ?_
      refine ops_v (v_eql false rfl rfl rfl (decide_eq_false (by first | omega | (simp only; omega) | rfl | decide))) ?_
      refine ops_v (v_assign (v := (.bool _)) rfl rfl) ?_
      refine ops_nil ?_
      refine W_if_f rfl ?_
      refine W_seq ?_
      refine W_region ?_
      refine ops_v (v_eql false rfl rfl rfl (decide_eq_false (by first | omega | (simp only; omega) | rfl | decide))) ?_
      refine ops_v (v_assign (v := (.bool _)) rfl rfl) ?_
      refine ops_nil ?_
      refine W_if_f rfl ?_
      refine W_seq ?_
      refine W_region ?_
      refine ops_v (v_eql false rfl rfl rfl (decide_eq_false (by first | omega | (simp only; omega) | rfl | decide))) ?_
      refine ops_v (v_assign (v := (.bool _)) rfl rfl) ?_
      refine ops_nil ?_
      refine W_if_f rfl ?_
      refine W_seq ?_
      refine W_region ?_
      refine ops_v (v_eql false rfl rfl rfl (decide_eq_false (by first | omega | (simp only; omega) | rfl | decide))) ?_
      refine ops_v (v_assign (v := (.bool _)) rfl rfl) ?_
      refine ops_nil ?_
      refine W_if_f rfl ?_
      refine W_seq ?_
      refine W_region ?_
      refine ops_v (v_eql true rfl rfl rfl (decide_eq_true (by first | omega | (simp only; omega) | rfl | decide))) ?_
      refine ops_v (v_assign (v := (.bool _)) rfl rfl) ?_
      refine ops_nil ?_
      refine W_if_t rfl ?_
      refine W_seq ?_
      refine W_region ?_
      refine ops_v (v_move (v := (.int _ _)) rfl rfl) ?_
      refine ops_v (v_neq true rfl rfl rfl (decide_eq_true (by first | omega | (simp only; omega) | rfl | decide))) ?_
      refine ops_v (v_move (v := (.bool _)) rfl rfl) ?_
      refine ops_v (v_move (v := (.int _ _)) rfl rfl) ?_
      refine ops_v (v_neq _ rfl rfl rfl rfl) ?_
      refine ops_v (v_pick_t (v := (.bool _)) rfl rfl rfl) ?_
      refine ops_call rfl c78 (flag_ok _ H) ?_
      clear H; rintro _ w ⟨rfl, H⟩
      refine ops_v (v_assign (v := (.int _ _)) rfl rfl) ?_
      refine ops_nil ?_
      refine W_ret ?_
      refine ⟨_, (.tmp (v := (.int _ _)) rfl .nil), ?_⟩
      exact ⟨by simp [twoF, h, tr, packV, int], H⟩
      -- (backstayref14.Two: ret; chunks ; ptr )
  · by_cases h : a = 0
    · refine FnC_of Try.func48 rfl rfl rfl rfl ?_
      refine W_seq ?_
      refine W_region ?_
      refine ops_v (v_assign (v := _) rfl rfl) ?_
      refine ops_nil ?_
      refine W_seq ?_
      refine W_seq ?_
      refine W_region ?_
      refine ops_v (v_move (v := (.int _ _)) rfl rfl) ?_
      refine ops_nil ?_
      refine W_block ?_
      refine W_seq ?_
      refine W_region ?_
      refine ops_v (v_eql false rfl rfl rfl (decide_eq_false (by first | omega | (simp only; omega) | rfl | decide))) ?_
      refine ops_v (v_assign (v := (.bool _)) rfl rfl) ?_
      refine ops_nil ?_
      refine W_if_f rfl ?_
      refine W_seq ?_
      refine W_region ?_
      refine ops_v (v_eql false rfl rfl rfl (decide_eq_false (by first | omega | (simp only; omega) | rfl | decide))) ?_
      refine ops_v (v_assign (v := (.bool _)) rfl rfl) ?_
      refine ops_nil ?_
      refine W_if_f rfl ?_
      refine W_seq ?_
      refine W_region ?_
      refine ops_v (v_eql false rfl rfl rfl (decide_eq_false (by first | omega | (simp only; omega) | rfl | decide))) ?_
      refine ops_v (v_assign (v := (.bool _)) rfl rfl) ?_
      refine ops_nil ?_
      refine W_if_f rfl ?_
      refine W_seq ?_
      refine W_region ?_
      refine ops_v (v_eql false rfl rfl rfl (decide_eq_false (by first | omega | (simp only; omega) | rfl | decide))) ?_
      refine ops_v (v_assign (v := (.bool _)) rfl rfl) ?_
      refine ops_nil ?_
      refine W_if_f rfl ?_
      refine W_seq ?_
      refine W_region ?_
      refine ops_v (v_eql false rfl rfl rfl (decide_eq_false (by first | omega | (simp only; omega) | rfl | decide))) ?_
      refine ops_v (v_assign (v := (.bool _)) rfl rfl) ?_
      refine ops_nil ?_
      refine W_if_f rfl ?_
      refine W_skip ?_
      refine W_seq ?_
      refine W_region ?_
      refine ops_v (v_move (v := (.int _ _)) rfl rfl) ?_
      refine ops_v (v_neq false rfl rfl rfl (decide_eq_false (by first | omega | (simp only; omega) | rfl | decide))) ?_
      refine ops_v (v_move (v := (.bool _)) rfl rfl) ?_
      refine ops_v (v_move (v := (.int _ _)) rfl rfl) ?_
      refine ops_v (v_neq _ rfl rfl rfl rfl) ?_
      refine ops_v (v_pick_f (v := (.bool _)) rfl rfl rfl) ?_
      refine ops_call rfl c78 (flag_ok _ H) ?_
      clear H; rintro _ w ⟨rfl, H⟩
      refine ops_v (v_assign (v := (.int _ _)) rfl rfl) ?_
      refine ops_nil ?_
      refine W_ret ?_
      refine ⟨_, (.tmp (v := (.int _ _)) rfl .nil), ?_⟩
      exact ⟨by simp [twoF, h, tr, packV, int], H⟩
      -- (backstayref14.Two: ret; chunks ; ptr )
    · refine FnC_of Try.func48 rfl rfl rfl rfl ?_
      refine W_seq ?_
      refine W_region ?_
      refine ops_v (v_assign (v := _) rfl rfl) ?_
      refine ops_nil ?_
      refine W_seq ?_
      refine W_seq ?_
      refine W_region ?_
      refine ops_v (v_move (v := (.int _ _)) rfl rfl) ?_
      refine ops_nil ?_
      refine W_block ?_
      refine W_seq ?_
      refine W_region ?_
      refine ops_v (v_eql false rfl rfl rfl (decide_eq_false (by first | omega | (simp only; omega) | rfl | decide))) ?_
      refine ops_v (v_assign (v := (.bool _)) rfl rfl) ?_
      refine ops_nil ?_
      refine W_if_f rfl ?_
      refine W_seq ?_
      refine W_region ?_
      refine ops_v (v_eql false rfl rfl rfl (decide_eq_false (by first | omega | (simp only; omega) | rfl | decide))) ?_
      refine ops_v (v_assign (v := (.bool _)) rfl rfl) ?_
      refine ops_nil ?_
      refine W_if_f rfl ?_
      refine W_seq ?_
      refine W_region ?_
      refine ops_v (v_eql false rfl rfl rfl (decide_eq_false (by first | omega | (simp only; omega) | rfl | decide))) ?_
      refine ops_v (v_assign (v := (.bool _)) rfl rfl) ?_
      refine ops_nil ?_
      refine W_if_f rfl ?_
      refine W_seq ?_
      refine W_region ?_
      refine ops_v (v_eql false rfl rfl rfl (decide_eq_false (by first | omega | (simp only; omega) | rfl | decide))) ?_
      refine ops_v (v_assign (v := (.bool _)) rfl rfl) ?_
      refine ops_nil ?_
      refine W_if_f rfl ?_
      refine W_seq ?_
      refine W_region ?_
      refine ops_v (v_eql false rfl rfl rfl (decide_eq_false (by first | omega | (simp only; omega) | rfl | decide))) ?_
      refine ops_v (v_assign (v := (.bool _)) rfl rfl) ?_
      refine ops_nil ?_
      refine W_if_f rfl ?_
      refine W_skip ?_
      refine W_seq ?_
      refine W_region ?_
      refine ops_v (v_move (v := (.int _ _)) rfl rfl) ?_
      refine ops_v (v_neq true rfl rfl rfl (decide_eq_true (by first | omega | (simp only; omega) | rfl | decide))) ?_
      refine ops_v (v_move (v := (.bool _)) rfl rfl) ?_
      refine ops_skip rfl rfl ?_
      refine ops_skip rfl rfl ?_
      refine ops_v (v_pick_t (v := (.bool _)) rfl rfl rfl) ?_
      refine ops_call rfl c78 (flag_ok _ H) ?_
      clear H; rintro _ w ⟨rfl, H⟩
      refine ops_v (v_assign (v := (.int _ _)) rfl rfl) ?_
      refine ops_nil ?_
      refine W_ret ?_
      refine ⟨_, (.tmp (v := (.int _ _)) rfl .nil), ?_⟩
      exact ⟨by simp [twoF, h, tr, packV, int], H⟩
      -- (backstayref14.Two: ret; chunks ; ptr )
theorem IsOne_ok (t : Int) (H : Own wb R w) : FnC Try.prog 49 [int t] w (fun v w' => v = .bool (decide (t = 1 ∨ t = 2)) ∧ Own wb R w') := by
  by_cases h : t = 1
  · refine FnC_of Try.func49 rfl rfl rfl rfl ?_
    refine W_seq ?_
    refine W_region ?_
    refine ops_v (v_assign (v := _) rfl rfl) ?_
    refine ops_nil ?_
    refine W_seq ?_
    refine W_region ?_
    refine ops_v (v_move (v := (.int _ _)) rfl rfl) ?_
    refine ops_v (v_eql true rfl rfl rfl (decide_eq_true (by first | omega | (simp only; omega) | rfl | decide))) ?_
    refine ops_v (v_move (v := (.bool _)) rfl rfl) ?_
    refine ops_skip rfl rfl ?_
    refine ops_skip rfl rfl ?_
    refine ops_v (v_pick_t (v := (.bool _)) rfl rfl rfl) ?_
    refine ops_v (v_assign (v := (.bool _)) rfl rfl) ?_
    refine ops_nil ?_
    refine W_ret ?_
    refine ⟨_, (.tmp (v := (.bool _)) rfl .nil), ?_⟩
    exact ⟨by simp [packV, h], H⟩
    -- (backstayref14.IsOne: ret; chunks ; ptr )
  · refine FnC_of Try.func49 rfl rfl rfl rfl ?_
    refine W_seq ?_
    refine W_region ?_
    refine ops_v (v_assign (v := _) rfl rfl) ?_
    refine ops_nil ?_
    refine W_seq ?_
    refine W_region ?_
    refine ops_v (v_move (v := (.int _ _)) rfl rfl) ?_
    refine ops_v (v_eql false rfl rfl rfl (decide_eq_false (by first | omega | (simp only; omega) | rfl | decide))) ?_
    refine ops_v (v_move (v := (.bool _)) rfl rfl) ?_
    refine ops_v (v_move (v := (.int _ _)) rfl rfl) ?_
    refine ops_v (v_eql _ rfl rfl rfl rfl) ?_
    refine ops_v (v_pick_f (v := (.bool _)) rfl rfl rfl) ?_
    refine ops_v (v_assign (v := (.bool _)) rfl rfl) ?_
    refine ops_nil ?_
    refine W_ret ?_
    refine ⟨_, (.tmp (v := (.bool _)) rfl .nil), ?_⟩
    exact ⟨by simp [packV, h], H⟩
    -- (backstayref14.IsOne: ret; chunks ; ptr )
theorem IsTwo_ok (t : Int) (H : Own wb R w) : FnC Try.prog 50 [int t] w (fun v w' => v = .bool (decide (3 ≤ t ∧ t ≤ 8)) ∧ Own wb R w') := by
  by_cases h : 3 ≤ t
  · refine FnC_of Try.func50 rfl rfl rfl rfl ?_
    refine W_seq ?_
    refine W_region ?_
    refine ops_v (v_assign (v := _) rfl rfl) ?_
    refine ops_nil ?_
    refine W_seq ?_
    refine W_region ?_
    refine ops_v (v_move (v := (.int _ _)) rfl rfl) ?_
    refine ops_v (v_geq true rfl rfl rfl (decide_eq_true (by first | omega | (simp only; omega) | rfl | decide))) ?_
    refine ops_v (v_move (v := (.bool _)) rfl rfl) ?_
    refine ops_v (v_move (v := (.int _ _)) rfl rfl) ?_
    refine ops_v (v_leq _ rfl rfl rfl rfl) ?_
    refine ops_v (v_pick_t (v := (.bool _)) rfl rfl rfl) ?_
    refine ops_v (v_assign (v := (.bool _)) rfl rfl) ?_
    refine ops_nil ?_
    refine W_ret ?_
    refine ⟨_, (.tmp (v := (.bool _)) rfl .nil), ?_⟩
    exact ⟨by simp [packV, h], H⟩
    -- (backstayref14.IsTwo: ret; chunks ; ptr )
  · refine FnC_of Try.func50 rfl rfl rfl rfl ?_
    refine W_seq ?_
    refine W_region ?_
    refine ops_v (v_assign (v := _) rfl rfl) ?_
    refine ops_nil ?_
    refine W_seq ?_
    refine W_region ?_
    refine ops_v (v_move (v := (.int _ _)) rfl rfl) ?_
    refine ops_v (v_geq false rfl rfl rfl (decide_eq_false (by first | omega | (simp only; omega) | rfl | decide))) ?_
    refine ops_v (v_move (v := (.bool _)) rfl rfl) ?_
    refine ops_skip rfl rfl ?_
    refine ops_skip rfl rfl ?_
    refine ops_v (v_pick_f (v := (.bool _)) rfl rfl rfl) ?_
    refine ops_v (v_assign (v := (.bool _)) rfl rfl) ?_
    refine ops_nil ?_
    refine W_ret ?_
    refine ⟨_, (.tmp (v := (.bool _)) rfl .nil), ?_⟩
    exact ⟨by simp [packV, h], H⟩
    -- (backstayref14.IsTwo: ret; chunks ; ptr )
set_option maxHeartbeats 1000000 in
theorem step_ok {s s' : St} {r : R4} {a b i e : Int} (h : Lifts (opF (M.stepT r)) s a (M.stepB r a b) (M.stepC r a b) s' i e) (hr : r.ok) (hw : Wf s) (ia : isN s a = true) (ib : isN s b = true) (H : Own wb (StoreC p s :: CacheX opF o s :: R) w) :
    FnC Try.prog 51 [ptr p, xptr o, .agg (cells4 r).toArray, int a, int b] w (fun u w' => u = pairV i e ∧ Own wb (StoreC p s' :: CacheX opF o s' :: R) w') := by
  have h0 := M.pick_lo (c := r.d) (n := 2) (by decide)
  have h1 := M.pick_hi (c := r.d) (n := 2) (by decide)
  have h2 := M.pick_lo (c := r.d) (n := 6) (by decide)
  have h3 := M.pick_hi (c := r.d) (n := 6) (by decide)
  unfold M.stepT M.stepB M.stepC at h
  by_cases q0 : M.pick r.a 4 = 0
  · simp only [if_pos q0] at h
    refine FnC_of Try.func51 rfl rfl rfl rfl ?_
    refine W_seq ?_
    refine W_region ?_
    refine ops_box (v := (.agg _)) (cs := [_, _, _, _]) H rfl rfl rfl ?_
    clear H; intro bn0 w H
    refine ops_v (v_assign (v := _) rfl rfl) ?_
    refine ops_v (v_assign (v := _) rfl rfl) ?_
    refine ops_nil ?_
    refine W_seq ?_
    refine W_seq ?_
    refine W_region ?_
    refine ops_v (v_indexAddr_arr rfl ae39 rfl rfl (by first | omega | decide) rfl) ?_
    refine ops_load (v := (.int _ _)) 0 H rfl tc3 rfl rfl rfl ?_
    refine ops_call rfl c41 (pick14_ok H r.a 4 hr.1 (by decide)) ?_
    clear H; rintro _ w ⟨rfl, H⟩
    refine ops_nil ?_
    refine W_block ?_
    refine W_seq ?_
    refine W_region ?_
    refine ops_v (v_eql true rfl rfl rfl (decide_eq_true (by first | omega | (simp only; omega) | rfl | decide))) ?_
    refine ops_v (v_assign (v := (.bool _)) rfl rfl) ?_
    refine ops_nil ?_
    refine W_if_t rfl ?_
    refine W_seq ?_
    refine W_region ?_
    refine ops_v (v_move (v := (.pointer _)) rfl rfl) ?_
    refine ops_v (v_move (v := (.pointer _)) rfl rfl) ?_
    refine ops_v (v_indexAddr_arr rfl ae39 rfl rfl (by first | omega | decide) rfl) ?_
    refine ops_load (v := (.int _ _)) 0 H rfl tc3 rfl rfl rfl ?_
    refine ops_call rfl c41 (pick14_ok H r.d 2 hr.2.2.2 (by decide)) ?_
    clear H; rintro _ w ⟨rfl, H⟩
    refine ops_v (v_add _ rfl rfl rfl (wrap_in (by omega) (by omega))) ?_
    refine ops_v (v_move (v := (.int _ _)) rfl rfl) ?_
    refine ops_call rfl c44 (FnC.mid (A := [_]) (B := [_, _]) (B' := [_, _]) H (fun _ H => One_ok h (by omega) hw ia H)) ?_
    clear H; rintro _ w ⟨rfl, H⟩
    simp only [List.cons_append, List.nil_append] at H
    refine ops_v (v_extract (v := (.int _ _)) rfl rfl rfl) ?_
    refine ops_v (v_extract (v := (.int _ _)) rfl rfl rfl) ?_
    refine ops_v (v_assign (v := (.int _ _)) rfl rfl) ?_
    refine ops_v (v_assign (v := (.int _ _)) rfl rfl) ?_
    refine ops_nil ?_
    refine W_ret ?_
    refine ⟨_, (.tmp (v := (.int _ _)) rfl (.tmp (v := (.int _ _)) rfl .nil)), ?_⟩
    exact ⟨rfl, H.tail⟩
    -- (backstaylaw14.step: ret; chunks n0,S,C; ptr 7=n0,12=n0,19=n0)
  · by_cases q1 : M.pick r.a 4 = 1
    · simp only [if_neg q0, if_pos q1] at h
      refine FnC_of Try.func51 rfl rfl rfl rfl ?_
      refine W_seq ?_
      refine W_region ?_
      refine ops_box (v := (.agg _)) (cs := [_, _, _, _]) H rfl rfl rfl ?_
      clear H; intro bn0 w H
      refine ops_v (v_assign (v := _) rfl rfl) ?_
      refine ops_v (v_assign (v := _) rfl rfl) ?_
      refine ops_nil ?_
      refine W_seq ?_
      refine W_seq ?_
      refine W_region ?_
      refine ops_v (v_indexAddr_arr rfl ae39 rfl rfl (by first | omega | decide) rfl) ?_
      refine ops_load (v := (.int _ _)) 0 H rfl tc3 rfl rfl rfl ?_
      refine ops_call rfl c41 (pick14_ok H r.a 4 hr.1 (by decide)) ?_
      clear H; rintro _ w ⟨rfl, H⟩
      refine ops_nil ?_
      refine W_block ?_
      refine W_seq ?_
      refine W_region ?_
      refine ops_v (v_eql false rfl rfl rfl (decide_eq_false (by first | omega | (simp only; omega) | rfl | decide))) ?_
      refine ops_v (v_assign (v := (.bool _)) rfl rfl) ?_
      refine ops_nil ?_
      refine W_if_f rfl ?_
      refine W_seq ?_
      refine W_region ?_
      refine ops_v (v_eql true rfl rfl rfl (decide_eq_true (by first | omega | (simp only; omega) | rfl | decide))) ?_
      refine ops_v (v_assign (v := (.bool _)) rfl rfl) ?_
      refine ops_nil ?_
      refine W_if_t rfl ?_
      refine W_seq ?_
      refine W_region ?_
      refine ops_v (v_move (v := (.pointer _)) rfl rfl) ?_
      refine ops_v (v_move (v := (.pointer _)) rfl rfl) ?_
      refine ops_v (v_move (v := (.int _ _)) rfl rfl) ?_
      refine ops_v (v_move (v := (.int _ _)) rfl rfl) ?_
      refine ops_v (v_move (v := (.int _ _)) rfl rfl) ?_
      refine ops_call rfl c46 (FnC.mid (A := [_]) (B := [_, _]) (B' := [_, _]) H (fun _ H => Choose_ok h hw ia ib ia H)) ?_
      clear H; rintro _ w ⟨rfl, H⟩
      simp only [List.cons_append, List.nil_append] at H
      refine ops_v (v_extract (v := (.int _ _)) rfl rfl rfl) ?_
      refine ops_v (v_extract (v := (.int _ _)) rfl rfl rfl) ?_
      refine ops_v (v_assign (v := (.int _ _)) rfl rfl) ?_
      refine ops_v (v_assign (v := (.int _ _)) rfl rfl) ?_
      refine ops_nil ?_
      refine W_ret ?_
      refine ⟨_, (.tmp (v := (.int _ _)) rfl (.tmp (v := (.int _ _)) rfl .nil)), ?_⟩
      exact ⟨rfl, H.tail⟩
      -- (backstaylaw14.step: ret; chunks n0,S,C; ptr 7=n0,12=n0)
    · simp only [if_neg q0, if_neg q1] at h
      refine FnC_of Try.func51 rfl rfl rfl rfl ?_
      refine W_seq ?_
      refine W_region ?_
      refine ops_box (v := (.agg _)) (cs := [_, _, _, _]) H rfl rfl rfl ?_
      clear H; intro bn0 w H
      refine ops_v (v_assign (v := _) rfl rfl) ?_
      refine ops_v (v_assign (v := _) rfl rfl) ?_
      refine ops_nil ?_
      refine W_seq ?_
      refine W_seq ?_
      refine W_region ?_
      refine ops_v (v_indexAddr_arr rfl ae39 rfl rfl (by first | omega | decide) rfl) ?_
      refine ops_load (v := (.int _ _)) 0 H rfl tc3 rfl rfl rfl ?_
      refine ops_call rfl c41 (pick14_ok H r.a 4 hr.1 (by decide)) ?_
      clear H; rintro _ w ⟨rfl, H⟩
      refine ops_nil ?_
      refine W_block ?_
      refine W_seq ?_
      refine W_region ?_
      refine ops_v (v_eql false rfl rfl rfl (decide_eq_false (by first | omega | (simp only; omega) | rfl | decide))) ?_
      refine ops_v (v_assign (v := (.bool _)) rfl rfl) ?_
      refine ops_nil ?_
      refine W_if_f rfl ?_
      refine W_seq ?_
      refine W_region ?_
      refine ops_v (v_eql false rfl rfl rfl (decide_eq_false (by first | omega | (simp only; omega) | rfl | decide))) ?_
      refine ops_v (v_assign (v := (.bool _)) rfl rfl) ?_
      refine ops_nil ?_
      refine W_if_f rfl ?_
      refine W_skip ?_
      refine W_seq ?_
      refine W_region ?_
      refine ops_v (v_move (v := (.pointer _)) rfl rfl) ?_
      refine ops_v (v_move (v := (.pointer _)) rfl rfl) ?_
      refine ops_v (v_indexAddr_arr rfl ae39 rfl rfl (by first | omega | decide) rfl) ?_
      refine ops_load (v := (.int _ _)) 0 H rfl tc3 rfl rfl rfl ?_
      refine ops_call rfl c43 (op2_ok H r.d hr.2.2.2) ?_
      clear H; rintro _ w ⟨rfl, H⟩
      refine ops_v (v_move (v := (.int _ _)) rfl rfl) ?_
      refine ops_v (v_move (v := (.int _ _)) rfl rfl) ?_
      refine ops_call rfl c45 (FnC.mid (A := [_]) (B := [_, _]) (B' := [_, _]) H (fun _ H => Two_ok h (by omega) hw ia ib H)) ?_
      clear H; rintro _ w ⟨rfl, H⟩
      simp only [List.cons_append, List.nil_append] at H
      refine ops_v (v_extract (v := (.int _ _)) rfl rfl rfl) ?_
      refine ops_v (v_extract (v := (.int _ _)) rfl rfl rfl) ?_
      refine ops_v (v_assign (v := (.int _ _)) rfl rfl) ?_
      refine ops_v (v_assign (v := (.int _ _)) rfl rfl) ?_
      refine ops_nil ?_
      refine W_ret ?_
      refine ⟨_, (.tmp (v := (.int _ _)) rfl (.tmp (v := (.int _ _)) rfl .nil)), ?_⟩
      exact ⟨rfl, H.tail⟩
      -- (backstaylaw14.step: ret; chunks n0,S,C; ptr 7=n0,12=n0,39=n0)
theorem comes_ok (hw : Wf st) (to : Int) : ∀ (from' : Int) (w : World) (R : List Chunk), Own wb (StoreC p st :: R) w → FnC Try.prog 54 [ptr p, int from', int to] w (fun v w' => v = .bool (M.comes st from' to) ∧ Own wb (StoreC p st :: R) w') := by
  refine hw.ind fun id ih w R H => ?_
  cases hi : isN st id with
  | false =>
    have hc : M.comes st id to = false := by
      unfold isN at hi
      exact M.comes_none (by simpa using hi)
    rw [hc]
    refine FnC_of Try.func54 rfl rfl rfl rfl ?_
    refine W_seq ?_
    refine W_region ?_
    refine ops_v (v_assign (v := _) rfl rfl) ?_
    refine ops_nil ?_
    refine W_seq ?_
    refine W_region ?_
    refine ops_v (v_move (v := (.pointer _)) rfl rfl) ?_
    refine ops_v (v_move (v := (.int _ _)) rfl rfl) ?_
    refine ops_call rfl c31 (FnC.ro 0 rfl H (fun _ H => NodeIs hi H)) ?_
    clear H; rintro _ w ⟨rfl, H⟩
    refine ops_v (v_move (v := (.tuple _)) rfl rfl) ?_
    refine ops_v (v_extract (v := (.agg _)) rfl rfl rfl) ?_
    refine ops_v (v_extract (v := (.bool _)) rfl rfl rfl) ?_
    refine ops_alloc H rfl tz42 ?_
    clear H; intro bn0 w H
    refine ops_store (vs := [_, _, _, _, _]) (v := (.agg _)) (cs' := [_, _, _, _, _]) 0 H rfl ts42 rfl rfl rfl rfl rfl rfl rfl rfl ?_
    clear H; intro w H
    refine ops_v (v_assign (v := (.bool _)) rfl rfl) ?_
    refine ops_nil ?_
    refine W_seq ?_
    refine W_seq ?_
    refine W_region ?_
    refine ops_v (v_move (v := (.bool _)) rfl rfl) ?_
    refine ops_v (v_not rfl rfl _ rfl) ?_
    refine ops_v (v_move (v := (.bool _)) rfl rfl) ?_
    refine ops_skip rfl rfl ?_
    refine ops_skip rfl rfl ?_
    refine ops_skip rfl rfl ?_
    refine ops_v (v_pick_t (v := (.bool _)) rfl rfl rfl) ?_
    refine ops_nil ?_
    refine W_if_t rfl ?_
    refine W_seq ?_
    refine W_region ?_
    refine ops_v (v_move (v := (.bool _)) rfl rfl) ?_
    refine ops_v (v_assign (v := (.bool _)) rfl rfl) ?_
    refine ops_nil ?_
    refine W_ret ?_
    refine ⟨_, (.tmp (v := (.bool _)) rfl .nil), ?_⟩
    exact ⟨rfl, H.tail⟩
    -- (backstaylaw14.comes: ret; chunks n0,S; ptr 7=n0)
  | true =>
    obtain ⟨⟨lf, vl, bl, bs, bf⟩, hg⟩ := M.isN_get hi
    by_cases he : id = to
    · have hc : M.comes st id to = true := by rw [← he]; exact M.comes_self hi
      rw [hc]
      refine FnC_of Try.func54 rfl rfl rfl rfl ?_
      refine W_seq ?_
      refine W_region ?_
      refine ops_v (v_assign (v := _) rfl rfl) ?_
      refine ops_nil ?_
      refine W_seq ?_
      refine W_region ?_
      refine ops_v (v_move (v := (.pointer _)) rfl rfl) ?_
      refine ops_v (v_move (v := (.int _ _)) rfl rfl) ?_
      refine ops_call rfl c31 (FnC.ro 0 rfl H (fun _ H => NodeIs hi H)) ?_
      clear H; rintro _ w ⟨rfl, H⟩
      refine ops_v (v_move (v := (.tuple _)) rfl rfl) ?_
      refine ops_v (v_extract (v := (.agg _)) rfl rfl rfl) ?_
      refine ops_v (v_extract (v := (.bool _)) rfl rfl rfl) ?_
      refine ops_alloc H rfl tz42 ?_
      clear H; intro bn0 w H
      refine ops_store (vs := [_, _, _, _, _]) (v := (.agg _)) (cs' := [_, _, _, _, _]) 0 H rfl ts42 rfl rfl rfl rfl rfl rfl rfl rfl ?_
      clear H; intro w H
      refine ops_v (v_assign (v := (.bool _)) rfl rfl) ?_
      refine ops_nil ?_
      refine W_seq ?_
      refine W_seq ?_
      refine W_region ?_
      refine ops_v (v_move (v := (.bool _)) rfl rfl) ?_
      refine ops_v (v_not rfl rfl _ rfl) ?_
      refine ops_v (v_move (v := (.bool _)) rfl rfl) ?_
      refine ops_v (v_move (v := (.int _ _)) rfl rfl) ?_
      refine ops_v (v_move (v := (.int _ _)) rfl rfl) ?_
      refine ops_v (v_eql true rfl rfl rfl (decide_eq_true (by first | omega | (simp only; omega) | rfl | decide))) ?_
      refine ops_v (v_pick_f (v := (.bool _)) rfl rfl rfl) ?_
      refine ops_nil ?_
      refine W_if_t rfl ?_
      refine W_seq ?_
      refine W_region ?_
      refine ops_v (v_move (v := (.bool _)) rfl rfl) ?_
      refine ops_v (v_assign (v := (.bool _)) rfl rfl) ?_
      refine ops_nil ?_
      refine W_ret ?_
      refine ⟨_, (.tmp (v := (.bool _)) rfl .nil), ?_⟩
      exact ⟨rfl, H.tail⟩
      -- (backstaylaw14.comes: ret; chunks n0,S; ptr 7=n0)
    · cases lf with
      | true =>
        have hV : nodeV ⟨true, vl, bl, bs, bf⟩ true = .tuple [.agg [.bool true, .int .i64 vl, .int .i64 bl, .int .i64 bs, .int .i64 bf].toArray, .bool true].toArray := rfl
        have hc : M.comes st id to = false := by rw [M.comes_leaf hg rfl]; simpa using he
        rw [hc]
        refine FnC_of Try.func54 rfl rfl rfl rfl ?_
        refine W_seq ?_
        refine W_region ?_
        refine ops_v (v_assign (v := _) rfl rfl) ?_
        refine ops_nil ?_
        refine W_seq ?_
        refine W_region ?_
        refine ops_v (v_move (v := (.pointer _)) rfl rfl) ?_
        refine ops_v (v_move (v := (.int _ _)) rfl rfl) ?_
        refine ops_call rfl c31 (FnC.ro 0 rfl H (fun _ H' => (by have := Node_ok hg H'; rw [hV] at this; exact this))) ?_
        clear H; rintro _ w ⟨rfl, H⟩
        refine ops_v (v_move (v := (.tuple _)) rfl rfl) ?_
        refine ops_v (v_extract (v := (.agg _)) rfl rfl rfl) ?_
        refine ops_v (v_extract (v := (.bool _)) rfl rfl rfl) ?_
        refine ops_alloc H rfl tz42 ?_
        clear H; intro bn0 w H
        refine ops_store (vs := [_, _, _, _, _]) (v := (.agg _)) (cs' := [_, _, _, _, _]) 0 H rfl ts42 rfl rfl rfl rfl rfl rfl rfl rfl ?_
        clear H; intro w H
        refine ops_v (v_assign (v := (.bool _)) rfl rfl) ?_
        refine ops_nil ?_
        refine W_seq ?_
        refine W_seq ?_
        refine W_region ?_
        refine ops_v (v_move (v := (.bool _)) rfl rfl) ?_
        refine ops_v (v_not rfl rfl _ rfl) ?_
        refine ops_v (v_move (v := (.bool _)) rfl rfl) ?_
        refine ops_v (v_move (v := (.int _ _)) rfl rfl) ?_
        refine ops_v (v_move (v := (.int _ _)) rfl rfl) ?_
        refine ops_v (v_eql false rfl rfl rfl (decide_eq_false (by first | omega | (simp only; omega) | rfl | decide))) ?_
        refine ops_v (v_pick_f (v := (.bool _)) rfl rfl rfl) ?_
        refine ops_nil ?_
        refine W_if_f rfl ?_
        refine W_skip ?_
        refine W_seq ?_
        refine W_region ?_
        refine ops_v (v_fieldAddr rfl fo42_0 rfl rfl) ?_
        refine ops_load (v := (.bool _)) 0 H rfl tc4 rfl rfl rfl ?_
        refine ops_v (v_not rfl rfl _ rfl) ?_
        refine ops_v (v_move (v := (.bool _)) rfl rfl) ?_
        refine ops_skip rfl rfl ?_
        refine ops_skip rfl rfl ?_
        refine ops_skip rfl rfl ?_
        refine ops_skip rfl rfl ?_
        refine ops_skip rfl rfl ?_
        refine ops_skip rfl rfl ?_
        refine ops_skip rfl rfl ?_
        refine ops_skip rfl rfl ?_
        refine ops_skip rfl rfl ?_
        refine ops_skip rfl rfl ?_
        refine ops_skip rfl rfl ?_
        refine ops_skip rfl rfl ?_
        refine ops_v (v_pick_f (v := (.bool _)) rfl rfl rfl) ?_
        refine ops_v (v_assign (v := (.bool _)) rfl rfl) ?_
        refine ops_nil ?_
        refine W_ret ?_
        refine ⟨_, (.tmp (v := (.bool _)) rfl .nil), ?_⟩
        exact ⟨rfl, H.tail⟩
        -- (backstaylaw14.comes: ret; chunks n0,S; ptr 7=n0,23=n0)
      | false =>
        have hV : nodeV ⟨false, vl, bl, bs, bf⟩ true = .tuple [.agg [.bool false, .int .i64 vl, .int .i64 bl, .int .i64 bs, .int .i64 bf].toArray, .bool true].toArray := rfl
        have hc : M.comes st id to = (M.comes st bs to || M.comes st bf to) := by
          rw [M.comes_ask hw hg rfl, decide_eq_false he]; rfl
        have ih' := ih _ hg rfl
        cases h1 : M.comes st bs to with
        | true =>
          rw [hc, h1]
          refine FnC_of Try.func54 rfl rfl rfl rfl ?_
          refine W_seq ?_
          refine W_region ?_
          refine ops_v (v_assign (v := _) rfl rfl) ?_
          refine ops_nil ?_
          refine W_seq ?_
          refine W_region ?_
          refine ops_v (v_move (v := (.pointer _)) rfl rfl) ?_
          refine ops_v (v_move (v := (.int _ _)) rfl rfl) ?_
          refine ops_call rfl c31 (FnC.ro 0 rfl H (fun _ H' => (by have := Node_ok hg H'; rw [hV] at this; exact this))) ?_
          clear H; rintro _ w ⟨rfl, H⟩
          refine ops_v (v_move (v := (.tuple _)) rfl rfl) ?_
          refine ops_v (v_extract (v := (.agg _)) rfl rfl rfl) ?_
          refine ops_v (v_extract (v := (.bool _)) rfl rfl rfl) ?_
          refine ops_alloc H rfl tz42 ?_
          clear H; intro bn0 w H
          refine ops_store (vs := [_, _, _, _, _]) (v := (.agg _)) (cs' := [_, _, _, _, _]) 0 H rfl ts42 rfl rfl rfl rfl rfl rfl rfl rfl ?_
          clear H; intro w H
          refine ops_v (v_assign (v := (.bool _)) rfl rfl) ?_
          refine ops_nil ?_
          refine W_seq ?_
          refine W_seq ?_
          refine W_region ?_
          refine ops_v (v_move (v := (.bool _)) rfl rfl) ?_
          refine ops_v (v_not rfl rfl _ rfl) ?_
          refine ops_v (v_move (v := (.bool _)) rfl rfl) ?_
          refine ops_v (v_move (v := (.int _ _)) rfl rfl) ?_
          refine ops_v (v_move (v := (.int _ _)) rfl rfl) ?_
          refine ops_v (v_eql false rfl rfl rfl (decide_eq_false (by first | omega | (simp only; omega) | rfl | decide))) ?_
          refine ops_v (v_pick_f (v := (.bool _)) rfl rfl rfl) ?_
          refine ops_nil ?_
          refine W_if_f rfl ?_
          refine W_skip ?_
          refine W_seq ?_
          refine W_region ?_
          refine ops_v (v_fieldAddr rfl fo42_0 rfl rfl) ?_
          refine ops_load (v := (.bool _)) 0 H rfl tc4 rfl rfl rfl ?_
          refine ops_v (v_not rfl rfl _ rfl) ?_
          refine ops_v (v_move (v := (.bool _)) rfl rfl) ?_
          refine ops_v (v_move (v := (.pointer _)) rfl rfl) ?_
          refine ops_v (v_fieldAddr rfl fo42_3 rfl rfl) ?_
          refine ops_load (v := (.int _ _)) 0 H rfl tc3 rfl rfl rfl ?_
          refine ops_v (v_move (v := (.int _ _)) rfl rfl) ?_
          refine ops_call rfl c54 (FnC.ro 1 rfl H (fun _ H' => (by have := ih'.1 _ _ H'; simp only [h1] at this; exact this))) ?_
          clear H; rintro _ w ⟨rfl, H⟩
          refine ops_v (v_move (v := (.bool _)) rfl rfl) ?_
          refine ops_skip rfl rfl ?_
          refine ops_skip rfl rfl ?_
          refine ops_skip rfl rfl ?_
          refine ops_skip rfl rfl ?_
          refine ops_skip rfl rfl ?_
          refine ops_v (v_pick_t (v := (.bool _)) rfl rfl rfl) ?_
          refine ops_v (v_pick_t (v := (.bool _)) rfl rfl rfl) ?_
          refine ops_v (v_assign (v := (.bool _)) rfl rfl) ?_
          refine ops_nil ?_
          refine W_ret ?_
          refine ⟨_, (.tmp (v := (.bool _)) rfl .nil), ?_⟩
          exact ⟨rfl, H.tail⟩
          -- (backstaylaw14.comes: ret; chunks n0,S; ptr 7=n0,23=n0,28=n0)
        | false =>
          rw [hc, h1, Bool.false_or]
          refine FnC_of Try.func54 rfl rfl rfl rfl ?_
          refine W_seq ?_
          refine W_region ?_
          refine ops_v (v_assign (v := _) rfl rfl) ?_
          refine ops_nil ?_
          refine W_seq ?_
          refine W_region ?_
          refine ops_v (v_move (v := (.pointer _)) rfl rfl) ?_
          refine ops_v (v_move (v := (.int _ _)) rfl rfl) ?_
          refine ops_call rfl c31 (FnC.ro 0 rfl H (fun _ H' => (by have := Node_ok hg H'; rw [hV] at this; exact this))) ?_
          clear H; rintro _ w ⟨rfl, H⟩
          refine ops_v (v_move (v := (.tuple _)) rfl rfl) ?_
          refine ops_v (v_extract (v := (.agg _)) rfl rfl rfl) ?_
          refine ops_v (v_extract (v := (.bool _)) rfl rfl rfl) ?_
          refine ops_alloc H rfl tz42 ?_
          clear H; intro bn0 w H
          refine ops_store (vs := [_, _, _, _, _]) (v := (.agg _)) (cs' := [_, _, _, _, _]) 0 H rfl ts42 rfl rfl rfl rfl rfl rfl rfl rfl ?_
          clear H; intro w H
          refine ops_v (v_assign (v := (.bool _)) rfl rfl) ?_
          refine ops_nil ?_
          refine W_seq ?_
          refine W_seq ?_
          refine W_region ?_
          refine ops_v (v_move (v := (.bool _)) rfl rfl) ?_
          refine ops_v (v_not rfl rfl _ rfl) ?_
          refine ops_v (v_move (v := (.bool _)) rfl rfl) ?_
          refine ops_v (v_move (v := (.int _ _)) rfl rfl) ?_
          refine ops_v (v_move (v := (.int _ _)) rfl rfl) ?_
          refine ops_v (v_eql false rfl rfl rfl (decide_eq_false (by first | omega | (simp only; omega) | rfl | decide))) ?_
          refine ops_v (v_pick_f (v := (.bool _)) rfl rfl rfl) ?_
          refine ops_nil ?_
          refine W_if_f rfl ?_
          refine W_skip ?_
          refine W_seq ?_
          refine W_region ?_
          refine ops_v (v_fieldAddr rfl fo42_0 rfl rfl) ?_
          refine ops_load (v := (.bool _)) 0 H rfl tc4 rfl rfl rfl ?_
          refine ops_v (v_not rfl rfl _ rfl) ?_
          refine ops_v (v_move (v := (.bool _)) rfl rfl) ?_
          refine ops_v (v_move (v := (.pointer _)) rfl rfl) ?_
          refine ops_v (v_fieldAddr rfl fo42_3 rfl rfl) ?_
          refine ops_load (v := (.int _ _)) 0 H rfl tc3 rfl rfl rfl ?_
          refine ops_v (v_move (v := (.int _ _)) rfl rfl) ?_
          refine ops_call rfl c54 (FnC.ro 1 rfl H (fun _ H' => (by have := ih'.1 _ _ H'; simp only [h1] at this; exact this))) ?_
          clear H; rintro _ w ⟨rfl, H⟩
          refine ops_v (v_move (v := (.bool _)) rfl rfl) ?_
          refine ops_v (v_move (v := (.pointer _)) rfl rfl) ?_
          refine ops_v (v_fieldAddr rfl fo42_4 rfl rfl) ?_
          refine ops_load (v := (.int _ _)) 0 H rfl tc3 rfl rfl rfl ?_
          refine ops_v (v_move (v := (.int _ _)) rfl rfl) ?_
          refine ops_call rfl c54 (FnC.ro 1 rfl H (fun _ H' => ih'.2 _ _ H')) ?_
          clear H; rintro _ w ⟨rfl, H⟩
          refine ops_v (v_pick_f (v := (.bool _)) rfl rfl rfl) ?_
          refine ops_v (v_pick_t (v := (.bool _)) rfl rfl rfl) ?_
          refine ops_v (v_assign (v := (.bool _)) rfl rfl) ?_
          refine ops_nil ?_
          refine W_ret ?_
          refine ⟨_, (.tmp (v := (.bool _)) rfl .nil), ?_⟩
          exact ⟨rfl, H.tail⟩
          -- (backstaylaw14.comes: ret; chunks n0,S; ptr 7=n0,23=n0,28=n0,34=n0)
namespace Awake14
def s0 : St := ⟨2, 20, []⟩
def s1 : St := ⟨2, 20, [leafB 0]⟩
def s2 : St := ⟨2, 20, [leafB 0, leafB 1]⟩
def s3 : St := ⟨2, 20, [leafB 0, leafB 1, askB 0 0 1]⟩
def s4 : St := ⟨2, 20, [leafB 0, leafB 1, askB 0 0 1, askB 1 0 1]⟩
def s5 : St := ⟨2, 20, [leafB 0, leafB 1, askB 0 0 1, askB 1 0 1, askB 0 1 0]⟩
def s6 : St := ⟨2, 20, [leafB 0, leafB 1, askB 0 0 1, askB 1 0 1, askB 0 1 0, leafB 2, askB 1 1 5, askB 0 3 6]⟩
def s7 : St := ⟨2, 20, [leafB 0, leafB 1, askB 0 0 1, askB 1 0 1, askB 0 1 0, leafB 2, askB 1 1 5, askB 0 3 6, askB 0 1 3]⟩
theorem h1 : M.leaf s0 0 = (s1, 0, 0) := by decide +kernel
theorem h2 : M.leaf s1 1 = (s2, 1, 0) := by decide +kernel
theorem h3 : M.make s2 0 0 1 = (s3, 2, 0) := by decide +kernel
theorem h4 : M.make s3 1 0 1 = (s4, 3, 0) := by decide +kernel
theorem w4 : Wf s4 := by
  have w0 : Wf s0 := Wf.empty (by decide) (by decide)
  have a := M.Wf.leaf w0 0; rw [h1] at a
  have a := M.Wf.leaf a 1; rw [h2] at a
  have a := M.Wf.make a 0 0 1; rw [h3] at a
  have a := M.Wf.make a 1 0 1; rw [h4] at a
  exact a
theorem l5 : Lifts (opF 1) s4 2 2 2 s5 4 0 := M.liftN_eq w4 (by decide +kernel) (by decide +kernel) (by decide +kernel) (by decide +kernel)
theorem w5 : Wf s5 := (l5.good w4 (by decide +kernel) (by decide +kernel) (by decide +kernel)).wf
theorem l6 : Lifts (opF 5) s5 2 3 3 s6 7 0 := M.liftN_eq w5 (by decide +kernel) (by decide +kernel) (by decide +kernel) (by decide +kernel)
theorem w6 : Wf s6 := (l6.good w5 (by decide +kernel) (by decide +kernel) (by decide +kernel)).wf
theorem l7 : Lifts (opF 100) s6 2 3 1 s7 8 0 := M.liftN_eq w6 (by decide +kernel) (by decide +kernel) (by decide +kernel) (by decide +kernel)
theorem w7 : Wf s7 := (l7.good w6 (by decide +kernel) (by decide +kernel) (by decide +kernel)).wf
end Awake14
theorem Own.swap2 {A B : Chunk} (H : Own wb (A :: B :: R) w) : Own wb (B :: A :: R) w := H.perm (List.Perm.swap _ _ _)
open Awake14 in
set_option maxHeartbeats 1000000 in
theorem awake14_ok (H : Own wb R w) : FnC Try.prog 40 [] w (fun v w' => v = .bool true ∧ Own wb R w') := by
  have hm : (20 : Nat) ≤ 1073741824 := by decide
  refine FnC_of Try.func40 rfl rfl rfl rfl ?_
  refine W_seq ?_
  refine W_region ?_
  refine ops_v (v_assign (v := _) rfl rfl) ?_
  refine ops_nil ?_
  refine W_seq ?_
  refine W_region ?_
  refine ops_call rfl c26 (New_ok H 2 20 (by decide) (by decide) (by decide) (by decide)) ?_
  clear H; rintro _ w ⟨p, rfl, H⟩
  refine ops_v (v_assign (v := (.pointer _)) rfl rfl) ?_
  refine ops_nil ?_
  refine W_seq ?_
  refine W_region ?_
  refine ops_call rfl c42 (CNew_ok opF s4 H) ?_
  clear H; rintro _ w ⟨c, rfl, H⟩
  have H := H.swap2
  refine ops_v (v_assign (v := (.pointer _)) rfl rfl) ?_
  refine ops_nil ?_
  refine W_seq ?_
  refine W_region ?_
  refine ops_v (v_move (v := (.pointer _)) rfl rfl) ?_
  refine ops_call rfl c38 (FnC.at 0 rfl H (fun _ H => Leaf_ok (st := s0) hm h1 H)) ?_
  clear H; rintro _ w ⟨rfl, H⟩
  refine ops_v (v_move (v := (.tuple _)) rfl rfl) ?_
  refine ops_v (v_extract (v := (.int _ _)) rfl rfl rfl) ?_
  refine ops_v (v_extract (v := (.int _ _)) rfl rfl rfl) ?_
  refine ops_v (v_assign (v := (.int _ _)) rfl rfl) ?_
  refine ops_v (v_assign (v := (.int _ _)) rfl rfl) ?_
  refine ops_nil ?_
  refine W_seq ?_
  refine W_region ?_
  refine ops_v (v_move (v := (.pointer _)) rfl rfl) ?_
  refine ops_call rfl c38 (FnC.at 0 rfl H (fun _ H => Leaf_ok (st := s1) hm h2 H)) ?_
  clear H; rintro _ w ⟨rfl, H⟩
  refine ops_v (v_move (v := (.tuple _)) rfl rfl) ?_
  refine ops_v (v_extract (v := (.int _ _)) rfl rfl rfl) ?_
  refine ops_v (v_extract (v := (.int _ _)) rfl rfl rfl) ?_
  refine ops_v (v_assign (v := (.int _ _)) rfl rfl) ?_
  refine ops_v (v_assign (v := (.int _ _)) rfl rfl) ?_
  refine ops_nil ?_
  refine W_seq ?_
  refine W_region ?_
  refine ops_v (v_move (v := (.pointer _)) rfl rfl) ?_
  refine ops_v (v_move (v := (.int _ _)) rfl rfl) ?_
  refine ops_v (v_move (v := (.int _ _)) rfl rfl) ?_
  refine ops_call rfl c39 (FnC.at 0 rfl H (fun _ H => Make_ok (st := s2) hm h3 H)) ?_
  clear H; rintro _ w ⟨rfl, H⟩
  refine ops_v (v_move (v := (.tuple _)) rfl rfl) ?_
  refine ops_v (v_extract (v := (.int _ _)) rfl rfl rfl) ?_
  refine ops_v (v_extract (v := (.int _ _)) rfl rfl rfl) ?_
  refine ops_v (v_assign (v := (.int _ _)) rfl rfl) ?_
  refine ops_v (v_assign (v := (.int _ _)) rfl rfl) ?_
  refine ops_nil ?_
  refine W_seq ?_
  refine W_region ?_
  refine ops_v (v_move (v := (.pointer _)) rfl rfl) ?_
  refine ops_v (v_move (v := (.int _ _)) rfl rfl) ?_
  refine ops_v (v_move (v := (.int _ _)) rfl rfl) ?_
  refine ops_call rfl c39 (FnC.at 0 rfl H (fun _ H => Make_ok (st := s3) hm h4 H)) ?_
  clear H; rintro _ w ⟨rfl, H⟩
  refine ops_v (v_move (v := (.tuple _)) rfl rfl) ?_
  refine ops_v (v_extract (v := (.int _ _)) rfl rfl rfl) ?_
  refine ops_v (v_extract (v := (.int _ _)) rfl rfl rfl) ?_
  refine ops_v (v_assign (v := (.int _ _)) rfl rfl) ?_
  refine ops_v (v_assign (v := (.int _ _)) rfl rfl) ?_
  refine ops_nil ?_
  refine W_seq ?_
  refine W_region ?_
  refine ops_v (v_move (v := (.pointer _)) rfl rfl) ?_
  refine ops_v (v_move (v := (.pointer _)) rfl rfl) ?_
  refine ops_v (v_move (v := (.int _ _)) rfl rfl) ?_
  refine ops_call rfl c44 (One_ok l5 (.inl rfl) w4 (by decide +kernel) H) ?_
  clear H; rintro _ w ⟨rfl, H⟩
  refine ops_v (v_move (v := (.tuple _)) rfl rfl) ?_
  refine ops_v (v_extract (v := (.int _ _)) rfl rfl rfl) ?_
  refine ops_v (v_extract (v := (.int _ _)) rfl rfl rfl) ?_
  refine ops_v (v_assign (v := (.int _ _)) rfl rfl) ?_
  refine ops_v (v_assign (v := (.int _ _)) rfl rfl) ?_
  refine ops_nil ?_
  refine W_seq ?_
  refine W_region ?_
  refine ops_v (v_move (v := (.pointer _)) rfl rfl) ?_
  refine ops_v (v_move (v := (.pointer _)) rfl rfl) ?_
  refine ops_v (v_move (v := (.int _ _)) rfl rfl) ?_
  refine ops_v (v_move (v := (.int _ _)) rfl rfl) ?_
  refine ops_call rfl c45 (Two_ok l6 (by decide) w5 (by decide +kernel) (by decide +kernel) H) ?_
  clear H; rintro _ w ⟨rfl, H⟩
  refine ops_v (v_move (v := (.tuple _)) rfl rfl) ?_
  refine ops_v (v_extract (v := (.int _ _)) rfl rfl rfl) ?_
  refine ops_v (v_extract (v := (.int _ _)) rfl rfl rfl) ?_
  refine ops_v (v_assign (v := (.int _ _)) rfl rfl) ?_
  refine ops_v (v_assign (v := (.int _ _)) rfl rfl) ?_
  refine ops_nil ?_
  refine W_seq ?_
  refine W_region ?_
  refine ops_v (v_move (v := (.pointer _)) rfl rfl) ?_
  refine ops_v (v_move (v := (.pointer _)) rfl rfl) ?_
  refine ops_v (v_move (v := (.int _ _)) rfl rfl) ?_
  refine ops_v (v_move (v := (.int _ _)) rfl rfl) ?_
  refine ops_v (v_move (v := (.int _ _)) rfl rfl) ?_
  refine ops_call rfl c46 (Choose_ok l7 w6 (by decide +kernel) (by decide +kernel) (by decide +kernel) H) ?_
  clear H; rintro _ w ⟨rfl, H⟩
  refine ops_v (v_move (v := (.tuple _)) rfl rfl) ?_
  refine ops_v (v_extract (v := (.int _ _)) rfl rfl rfl) ?_
  refine ops_v (v_extract (v := (.int _ _)) rfl rfl rfl) ?_
  refine ops_v (v_assign (v := (.int _ _)) rfl rfl) ?_
  refine ops_v (v_assign (v := (.int _ _)) rfl rfl) ?_
  refine ops_nil ?_
  refine W_seq ?_
  refine W_region ?_
  refine ops_v (v_move (v := (.pointer _)) rfl rfl) ?_
  refine ops_v (v_move (v := (.pointer _)) rfl rfl) ?_
  refine ops_v (v_move (v := (.int _ _)) rfl rfl) ?_
  refine ops_v (v_move (v := (.int _ _)) rfl rfl) ?_
  refine ops_call rfl c45 (Two_op (s := s7) (by decide) H) ?_
  clear H; rintro _ w ⟨rfl, H⟩
  refine ops_v (v_move (v := (.tuple _)) rfl rfl) ?_
  refine ops_v (v_extract (v := (.int _ _)) rfl rfl rfl) ?_
  refine ops_v (v_extract (v := (.int _ _)) rfl rfl rfl) ?_
  refine ops_v (v_assign (v := (.int _ _)) rfl rfl) ?_
  refine ops_v (v_assign (v := (.int _ _)) rfl rfl) ?_
  refine ops_nil ?_
  refine W_seq ?_
  refine W_region ?_
  refine ops_v (v_move (v := (.pointer _)) rfl rfl) ?_
  refine ops_call rfl c53 (FnC.ro 1 rfl H (fun _ H => CSize_ok H)) ?_
  clear H; rintro _ w ⟨⟨k, rfl⟩, H⟩
  refine ops_v (v_assign (v := (.int _ _)) rfl rfl) ?_
  refine ops_nil ?_
  refine W_seq ?_
  refine W_region ?_
  refine ops_v (v_move (v := (.pointer _)) rfl rfl) ?_
  refine ops_call rfl c52 (FnC.at 1 rfl H (fun _ H => Clear_ok H)) ?_
  clear H; rintro _ w ⟨rfl, H⟩
  refine ops_nil ?_
  refine W_seq ?_
  refine W_region ?_
  refine ops_v (v_move (v := (.int _ _)) rfl rfl) ?_
  refine ops_v (v_eql true rfl rfl rfl (decide_eq_true (by first | omega | (simp only; omega) | rfl | decide))) ?_
  refine ops_v (v_move (v := (.bool _)) rfl rfl) ?_
  refine ops_v (v_move (v := (.pointer _)) rfl rfl) ?_
  refine ops_v (v_move (v := (.int _ _)) rfl rfl) ?_
  refine ops_call rfl c33 (FnC.ro 0 rfl H (fun _ => EvalV w7 4 1 0 (by decide +kernel))) ?_
  clear H; rintro _ w ⟨rfl, H⟩
  refine ops_v (v_eql true rfl rfl rfl (decide_eq_true (by first | omega | (simp only; omega) | rfl | decide))) ?_
  refine ops_v (v_pick_t (v := (.bool _)) rfl rfl rfl) ?_
  refine ops_v (v_move (v := (.bool _)) rfl rfl) ?_
  refine ops_v (v_move (v := (.pointer _)) rfl rfl) ?_
  refine ops_v (v_move (v := (.int _ _)) rfl rfl) ?_
  refine ops_call rfl c33 (FnC.ro 0 rfl H (fun _ => EvalV w7 4 2 1 (by decide +kernel))) ?_
  clear H; rintro _ w ⟨rfl, H⟩
  refine ops_v (v_eql true rfl rfl rfl (decide_eq_true (by first | omega | (simp only; omega) | rfl | decide))) ?_
  refine ops_v (v_pick_t (v := (.bool _)) rfl rfl rfl) ?_
  refine ops_v (v_move (v := (.bool _)) rfl rfl) ?_
  refine ops_v (v_move (v := (.int _ _)) rfl rfl) ?_
  refine ops_v (v_eql true rfl rfl rfl (decide_eq_true (by first | omega | (simp only; omega) | rfl | decide))) ?_
  refine ops_v (v_pick_t (v := (.bool _)) rfl rfl rfl) ?_
  refine ops_v (v_move (v := (.bool _)) rfl rfl) ?_
  refine ops_v (v_move (v := (.pointer _)) rfl rfl) ?_
  refine ops_v (v_move (v := (.int _ _)) rfl rfl) ?_
  refine ops_call rfl c33 (FnC.ro 0 rfl H (fun _ => EvalV w7 7 3 2 (by decide +kernel))) ?_
  clear H; rintro _ w ⟨rfl, H⟩
  refine ops_v (v_eql true rfl rfl rfl (decide_eq_true (by first | omega | (simp only; omega) | rfl | decide))) ?_
  refine ops_v (v_pick_t (v := (.bool _)) rfl rfl rfl) ?_
  refine ops_v (v_move (v := (.bool _)) rfl rfl) ?_
  refine ops_v (v_move (v := (.int _ _)) rfl rfl) ?_
  refine ops_v (v_eql true rfl rfl rfl (decide_eq_true (by first | omega | (simp only; omega) | rfl | decide))) ?_
  refine ops_v (v_pick_t (v := (.bool _)) rfl rfl rfl) ?_
  refine ops_v (v_move (v := (.bool _)) rfl rfl) ?_
  refine ops_v (v_move (v := (.pointer _)) rfl rfl) ?_
  refine ops_v (v_move (v := (.int _ _)) rfl rfl) ?_
  refine ops_call rfl c33 (FnC.ro 0 rfl H (fun _ => EvalV w7 8 0 1 (by decide +kernel))) ?_
  clear H; rintro _ w ⟨rfl, H⟩
  refine ops_v (v_eql true rfl rfl rfl (decide_eq_true (by first | omega | (simp only; omega) | rfl | decide))) ?_
  refine ops_v (v_pick_t (v := (.bool _)) rfl rfl rfl) ?_
  refine ops_v (v_move (v := (.bool _)) rfl rfl) ?_
  refine ops_v (v_move (v := (.pointer _)) rfl rfl) ?_
  refine ops_v (v_move (v := (.int _ _)) rfl rfl) ?_
  refine ops_call rfl c33 (FnC.ro 0 rfl H (fun _ => EvalV w7 8 1 0 (by decide +kernel))) ?_
  clear H; rintro _ w ⟨rfl, H⟩
  refine ops_v (v_eql true rfl rfl rfl (decide_eq_true (by first | omega | (simp only; omega) | rfl | decide))) ?_
  refine ops_v (v_pick_t (v := (.bool _)) rfl rfl rfl) ?_
  refine ops_v (v_move (v := (.bool _)) rfl rfl) ?_
  refine ops_v (v_move (v := (.int _ _)) rfl rfl) ?_
  refine ops_v (v_eql true rfl rfl rfl (decide_eq_true (by first | omega | (simp only; omega) | rfl | decide))) ?_
  refine ops_v (v_pick_t (v := (.bool _)) rfl rfl rfl) ?_
  refine ops_v (v_move (v := (.bool _)) rfl rfl) ?_
  refine ops_v (v_move (v := (.int _ _)) rfl rfl) ?_
  refine ops_v (v_geq true rfl rfl rfl (decide_eq_true (by first | omega | (simp only; omega) | rfl | decide))) ?_
  refine ops_v (v_pick_t (v := (.bool _)) rfl rfl rfl) ?_
  refine ops_v (v_move (v := (.bool _)) rfl rfl) ?_
  refine ops_v (v_move (v := (.pointer _)) rfl rfl) ?_
  refine ops_call rfl c53 (FnC.ro 1 rfl H (fun _ H => CSizeE_ok H)) ?_
  clear H; rintro _ w ⟨rfl, H⟩
  refine ops_v (v_eql true rfl rfl rfl (decide_eq_true (by first | omega | (simp only; omega) | rfl | decide))) ?_
  refine ops_v (v_pick_t (v := (.bool _)) rfl rfl rfl) ?_
  refine ops_v (v_assign (v := (.bool _)) rfl rfl) ?_
  refine ops_nil ?_
  refine W_ret ?_
  refine ⟨_, (.tmp (v := (.bool _)) rfl .nil), ?_⟩
  exact ⟨rfl, H.tail.tail⟩
  -- (backstaylaw14.awake: ret; chunks S,C; ptr )
end Go.Proofs.Ytchikjmhncojfaa.W
