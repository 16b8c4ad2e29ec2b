/- Helpers of the laws of layer 13: pick, awake. Conditions: none. -/
import Derived.Test.YtchikjmhncojfaaDoorNode4
import Derived.Test.YtchikjmhncojfaaDoorStoreM
import Derived.Test.YtchikjmhncojfaaDoorFrame
namespace Go.Proofs.YtchikjmhncojfaaDoor.M
/-- which of n things a raw number speaks of -/
def pick (c n : Int) : Int := (if c < 0 then -(c + 1) else c) % n
theorem pick_lo {c n : Int} (h : 0 < n) : 0 ≤ pick c n := Int.emod_nonneg _ (by omega)
theorem pick_hi {c n : Int} (h : 0 < n) : pick c n < n := Int.emod_lt_of_pos _ h
end Go.Proofs.YtchikjmhncojfaaDoor.M
namespace Go.Proofs.YtchikjmhncojfaaDoor.W
open Go Go.Proofs Go.RowKit
open Go.Proofs.YtchikjmhncojfaaDoor.M (Br St get getZ isN idx has down Wf rank i64 leafB askB)

theorem tmod_pos {a b : Int} (h : 0 ≤ a) : a.tmod b = a % b := Int.tmod_eq_emod_of_nonneg h
theorem pick13_ok {wb w : World} {R : List Chunk} (H : Own wb R w) (c n : Int) (hc : i64 c) (hn : 0 < n) :
    FnC Tryd.prog 20 [int c, int n] w (fun v w' => v = int (M.pick c n) ∧ Own wb R w') := by
  obtain ⟨h1, h2⟩ := hc
  by_cases h : c < 0
  · refine FnC_of Tryd.func20 rfl rfl rfl rfl ?_
    refine W_seq ?_
    refine W_region ?_
    refine ops_v (v_assign (v := _) rfl rfl) ?_
    refine ops_nil ?_
    refine W_seq ?_
    refine W_seq ?_
    refine W_region ?_
    refine ops_v (v_move (v := (.int _ _)) rfl rfl) ?_
    refine ops_v (v_lss true rfl rfl rfl (decide_eq_true (by first | omega | (simp only; omega) | rfl | decide))) ?_
    refine ops_nil ?_
    refine W_if_t rfl ?_
    refine W_region ?_
    refine ops_v (v_move (v := (.int _ _)) rfl rfl) ?_
    refine ops_v (v_add _ rfl rfl rfl (wrap_in (by omega) (by omega))) ?_
    refine ops_v (v_neg _ rfl rfl (wrap_in (by omega) (by omega))) ?_
    refine ops_v (v_assign (v := (.int _ _)) rfl rfl) ?_
    refine ops_nil ?_
    refine W_seq ?_
    refine W_region ?_
    refine ops_v (v_move (v := (.int _ _)) rfl rfl) ?_
    refine ops_v (v_move (v := (.int _ _)) rfl rfl) ?_
    refine ops_v (v_rem _ rfl rfl rfl (by omega) rfl) ?_
    refine ops_v (v_assign (v := (.int _ _)) rfl rfl) ?_
    refine ops_nil ?_
    refine W_ret ?_
    refine ⟨_, (.tmp (v := (.int _ _)) rfl .nil), ?_⟩
    exact ⟨by unfold M.pick; rw [if_pos h, ← tmod_pos (by omega), show -(c + 1) = 0 - (c + 1) by omega]; rfl, H⟩
    -- (backstaylaw13.pick: ret; chunks ; ptr )
  · refine FnC_of Tryd.func20 rfl rfl rfl rfl ?_
    refine W_seq ?_
    refine W_region ?_
    refine ops_v (v_assign (v := _) rfl rfl) ?_
    refine ops_nil ?_
    refine W_seq ?_
    refine W_seq ?_
    refine W_region ?_
    refine ops_v (v_move (v := (.int _ _)) rfl rfl) ?_
    refine ops_v (v_lss false rfl rfl rfl (decide_eq_false (by first | omega | (simp only; omega) | rfl | decide))) ?_
    refine ops_nil ?_
    refine W_if_f rfl ?_
    refine W_skip ?_
    refine W_seq ?_
    refine W_region ?_
    refine ops_v (v_move (v := (.int _ _)) rfl rfl) ?_
    refine ops_v (v_move (v := (.int _ _)) rfl rfl) ?_
    refine ops_v (v_rem _ rfl rfl rfl (by omega) rfl) ?_
    refine ops_v (v_assign (v := (.int _ _)) rfl rfl) ?_
    refine ops_nil ?_
    refine W_ret ?_
    refine ⟨_, (.tmp (v := (.int _ _)) rfl .nil), ?_⟩
    exact ⟨by unfold M.pick; rw [if_neg h, ← tmod_pos (by omega)]; rfl, H⟩
    -- (backstaylaw13.pick: ret; chunks ; ptr )

theorem EvalV {wb w : World} {p : Nat} {st : St} {R : List Chunk} (hw : Wf st) (id f v : Int) (hv : M.eval st id f = v) (H : Own wb (StoreC p st :: R) w) :
    FnC Tryd.prog 14 [ptr p, int id, int f] w (fun u w' => u = .int .i64 v ∧ Own wb (StoreC p st :: R) w') := by
  subst hv; exact Eval_ok hw id f H

end Go.Proofs.YtchikjmhncojfaaDoor.W
