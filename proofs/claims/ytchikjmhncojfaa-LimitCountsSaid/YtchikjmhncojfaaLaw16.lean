/- Helpers of the laws of layer 16: pick, awake; Within where there is room. Conditions: none. -/
import Derived.Test.YtchikjmhncojfaaBits
import Derived.Test.YtchikjmhncojfaaLaw14
set_option linter.unusedVariables false
namespace Go.Proofs.Ytchikjmhncojfaa.M
theorem withinF_or (a b : Int) (h : a = 1) : withinF a b = b := by unfold withinF; rw [if_neg (by omega)]
theorem win_room {s : St} {k : Nat} (h : Room6 s k) (hk : k + 183 < 1000) (m : Int) {x : Int} {g : Nat → Int} (tx : Tells s x g) :
    ∃ s1 few s2 u, AtM s 0 m s1 few 0 ∧ Lifts (opF (-1)) s1 few x x s2 u 0 ∧ Ext s s2 ∧ Ext s1 s2 ∧ Room6 s2 (k + 183) ∧ Tells s2 few (atf 0 s.links m) ∧ Tells s2 u (fun F => withinF (atf 0 s.links m F) (g F)) ∧ Wf s1 := by
  obtain ⟨s1, few, A, x1, m1, tf⟩ := at_room h (by omega) m
  obtain ⟨s2, u, L, x2, m2, tu⟩ := lift_room (opF (-1)) m1 (by omega) tf (tx.ext h.wf x1 m1.wf) (tx.ext h.wf x1 m1.wf)
  exact ⟨s1, few, s2, u, A, L, x1.trans x2, x2, m2, tf.ext m1.wf x2 m2.wf, tu.to fun F => by rw [opF_within], m1.wf⟩
end Go.Proofs.Ytchikjmhncojfaa.M
namespace Go.Proofs.Ytchikjmhncojfaa.W
open Go Go.Proofs Go.RowKit
open Go.Proofs.Ytchikjmhncojfaa.M (Br St get getZ isN idx has down Wf rank i64 leafB askB Lifts Ext opF AtM atf)
variable {wb w : World} {R L : List Chunk} {o : Option Nat} {p : Nat} {st : St}
theorem pick16_ok (H : Own wb R w) (c n : Int) (hc : i64 c) (hn : 0 < n) : FnC Try.prog 56 [int c, int n] w (fun v w' => v = int (M.pick c n) ∧ Own wb R w') := by
  obtain ⟨h1, h2⟩ := hc
  by_cases h : c < 0
  · refine FnC_of Try.func56 rfl rfl rfl rfl ?_
    refine W_seq ?_
    refine W_region ?_
    refine ops_v (v_assign (v := _) rfl rfl) ?_
    refine ops_nil ?_
    refine W_seq ?_
    refine W_seq ?_
    refine W_region ?_
    refine ops_v (v_move (v := (.int _ _)) rfl rfl) ?_
    refine ops_v (v_lss true rfl rfl rfl (decide_eq_true (by first | omega | (simp only; omega) | rfl | decide))) ?_
    refine ops_nil ?_
    refine W_if_t rfl ?_
    refine W_region ?_
    refine ops_v (v_move (v := (.int _ _)) rfl rfl) ?_
    refine ops_v (v_add _ rfl rfl rfl (wrap_in (by omega) (by omega))) ?_
    refine ops_v (v_neg _ rfl rfl (wrap_in (by omega) (by omega))) ?_
    refine ops_v (v_assign (v := (.int _ _)) rfl rfl) ?_
    refine ops_nil ?_
    refine W_seq ?_
    refine W_region ?_
    refine ops_v (v_move (v := (.int _ _)) rfl rfl) ?_
    refine ops_v (v_move (v := (.int _ _)) rfl rfl) ?_
    refine ops_v (v_rem _ rfl rfl rfl (by omega) rfl) ?_
    refine ops_v (v_assign (v := (.int _ _)) rfl rfl) ?_
    refine ops_nil ?_
    refine W_ret ?_
    refine ⟨_, (.tmp (v := (.int _ _)) rfl .nil), ?_⟩
    exact ⟨by unfold M.pick; rw [if_pos h, ← tmod_pos (by omega), show -(c + 1) = 0 - (c + 1) by omega]; rfl, H⟩
    -- (backstaylaw16.one: ret; chunks ; ptr )
  · refine FnC_of Try.func56 rfl rfl rfl rfl ?_
    refine W_seq ?_
    refine W_region ?_
    refine ops_v (v_assign (v := _) rfl rfl) ?_
    refine ops_nil ?_
    refine W_seq ?_
    refine W_seq ?_
    refine W_region ?_
    refine ops_v (v_move (v := (.int _ _)) rfl rfl) ?_
    refine ops_v (v_lss false rfl rfl rfl (decide_eq_false (by first | omega | (simp only; omega) | rfl | decide))) ?_
    refine ops_nil ?_
    refine W_if_f rfl ?_
    refine W_skip ?_
    refine W_seq ?_
    refine W_region ?_
    refine ops_v (v_move (v := (.int _ _)) rfl rfl) ?_
    refine ops_v (v_move (v := (.int _ _)) rfl rfl) ?_
    refine ops_v (v_rem _ rfl rfl rfl (by omega) rfl) ?_
    refine ops_v (v_assign (v := (.int _ _)) rfl rfl) ?_
    refine ops_nil ?_
    refine W_ret ?_
    refine ⟨_, (.tmp (v := (.int _ _)) rfl .nil), ?_⟩
    exact ⟨by unfold M.pick; rw [if_neg h, ← tmod_pos (by omega)]; rfl, H⟩
    -- (backstaylaw16.one: ret; chunks ; ptr )
namespace Awake16
def s0 : St := ⟨2, 20, []⟩
def s1 : St := ⟨2, 20, [leafB 1, leafB 0, askB 1 0 1, askB 0 0 2]⟩
def s2 : St := ⟨2, 20, [leafB 1, leafB 0, askB 1 0 1, askB 0 0 2, leafB 7]⟩
def s3 : St := ⟨2, 20, [leafB 1, leafB 0, askB 1 0 1, askB 0 0 2, leafB 7, leafB (-1), askB 1 4 5, askB 0 4 6]⟩
theorem w0 : Wf s0 := Wf.empty (by decide) (by decide)
theorem a1 : AtM s0 0 1 s1 3 0 := M.atN_eq w0 (by decide +kernel)
theorem w1 : Wf s1 := (a1.good w0 (by decide) (by decide)).wf
theorem h2 : M.leaf s1 7 = (s2, 4, 0) := by decide +kernel
theorem w2 : Wf s2 := by have a := M.Wf.leaf w1 7; rw [h2] at a; exact a
theorem a2 : AtM s2 0 1 s2 3 0 := M.atN_eq w2 (by decide +kernel)
theorem l3 : Lifts (opF (-1)) s2 3 4 4 s3 7 0 := M.liftN_eq w2 (by decide +kernel) (by decide +kernel) (by decide +kernel) (by decide +kernel)
theorem w3 : Wf s3 := (l3.good w2 (by decide +kernel) (by decide +kernel) (by decide +kernel)).wf
end Awake16
open Awake16 in
set_option maxRecDepth 4000 in
set_option maxHeartbeats 1000000 in
theorem awake16_ok (H : Own wb R w) : FnC Try.prog 55 [] w (fun v w' => v = .bool true ∧ Own wb R w') := by
  have hm : (20 : Nat) ≤ 1073741824 := by decide
  refine FnC_of Try.func55 rfl rfl rfl rfl ?_
  refine W_seq ?_
  refine W_region ?_
  refine ops_v (v_assign (v := _) rfl rfl) ?_
  refine ops_nil ?_
  refine W_seq ?_
  refine W_region ?_
  refine ops_call rfl c26 (New_ok H 2 20 (by decide) (by decide) (by decide) (by decide)) ?_
  clear H; rintro _ w ⟨p, rfl, H⟩
  refine ops_v (v_assign (v := (.pointer _)) rfl rfl) ?_
  refine ops_nil ?_
  refine W_seq ?_
  refine W_region ?_
  refine ops_v (v_move (v := (.pointer _)) rfl rfl) ?_
  refine ops_call rfl c57 (FnC.at 0 rfl H (fun _ H => AtMost_ok a1 w0 H)) ?_
  clear H; rintro _ w ⟨rfl, H⟩
  refine ops_v (v_move (v := (.tuple _)) rfl rfl) ?_
  refine ops_v (v_extract (v := (.int _ _)) rfl rfl rfl) ?_
  refine ops_v (v_extract (v := (.int _ _)) rfl rfl rfl) ?_
  refine ops_v (v_assign (v := (.int _ _)) rfl rfl) ?_
  refine ops_v (v_assign (v := (.int _ _)) rfl rfl) ?_
  refine ops_nil ?_
  refine W_seq ?_
  refine W_region ?_
  refine ops_v (v_move (v := (.pointer _)) rfl rfl) ?_
  refine ops_call rfl c30 (FnC.ro 0 rfl H (fun _ => Size_ok)) ?_
  clear H; rintro _ w ⟨rfl, H⟩
  refine ops_v (v_assign (v := (.int _ _)) rfl rfl) ?_
  refine ops_nil ?_
  refine W_seq ?_
  refine W_region ?_
  refine ops_v (v_move (v := (.pointer _)) rfl rfl) ?_
  refine ops_call rfl c38 (FnC.at 0 rfl H (fun _ H => Leaf_ok (st := s1) hm h2 H)) ?_
  clear H; rintro _ w ⟨rfl, H⟩
  refine ops_v (v_move (v := (.tuple _)) rfl rfl) ?_
  refine ops_v (v_extract (v := (.int _ _)) rfl rfl rfl) ?_
  refine ops_v (v_extract (v := (.int _ _)) rfl rfl rfl) ?_
  refine ops_v (v_assign (v := (.int _ _)) rfl rfl) ?_
  refine ops_v (v_assign (v := (.int _ _)) rfl rfl) ?_
  refine ops_nil ?_
  refine W_seq ?_
  refine W_region ?_
  refine ops_v (v_move (v := (.pointer _)) rfl rfl) ?_
  refine ops_call rfl c42 (CNew_ok opF s2 H) ?_
  clear H; rintro _ w ⟨c, rfl, H⟩
  have H := H.swapL
  refine ops_v (v_move (v := (.int _ _)) rfl rfl) ?_
  refine ops_call rfl c60 (Within_ok a2 l3 w2 (by decide +kernel) H) ?_
  clear H; rintro _ w ⟨rfl, H⟩
  refine ops_v (v_move (v := (.tuple _)) rfl rfl) ?_
  refine ops_v (v_extract (v := (.int _ _)) rfl rfl rfl) ?_
  refine ops_v (v_extract (v := (.int _ _)) rfl rfl rfl) ?_
  refine ops_v (v_assign (v := (.int _ _)) rfl rfl) ?_
  refine ops_v (v_assign (v := (.int _ _)) rfl rfl) ?_
  refine ops_nil ?_
  refine W_seq ?_
  refine W_region ?_
  refine ops_v (v_move (v := (.pointer _)) rfl rfl) ?_
  refine ops_call rfl c60 (Within_bad (o := none) (by decide +kernel) H) ?_
  clear H; rintro _ w ⟨rfl, H⟩
  refine ops_v (v_move (v := (.tuple _)) rfl rfl) ?_
  refine ops_v (v_extract (v := (.int _ _)) rfl rfl rfl) ?_
  refine ops_v (v_extract (v := (.int _ _)) rfl rfl rfl) ?_
  refine ops_v (v_assign (v := (.int _ _)) rfl rfl) ?_
  refine ops_v (v_assign (v := (.int _ _)) rfl rfl) ?_
  refine ops_nil ?_
  refine W_seq ?_
  refine W_region ?_
  refine ops_v (v_move (v := (.int _ _)) rfl rfl) ?_
  refine ops_v (v_eql true rfl rfl rfl (decide_eq_true (by first | omega | (simp only; omega) | rfl | decide))) ?_
  refine ops_v (v_move (v := (.bool _)) rfl rfl) ?_
  refine ops_v (v_move (v := (.pointer _)) rfl rfl) ?_
  refine ops_v (v_move (v := (.int _ _)) rfl rfl) ?_
  refine ops_call rfl c33 (FnC.ro 0 rfl H (fun _ => EvalV w3 3 0 1 (by decide +kernel))) ?_
  clear H; rintro _ w ⟨rfl, H⟩
  refine ops_v (v_eql true rfl rfl rfl (decide_eq_true (by first | omega | (simp only; omega) | rfl | decide))) ?_
  refine ops_v (v_pick_t (v := (.bool _)) rfl rfl rfl) ?_
  refine ops_v (v_move (v := (.bool _)) rfl rfl) ?_
  refine ops_v (v_move (v := (.pointer _)) rfl rfl) ?_
  refine ops_v (v_move (v := (.int _ _)) rfl rfl) ?_
  refine ops_call rfl c33 (FnC.ro 0 rfl H (fun _ => EvalV w3 3 2 1 (by decide +kernel))) ?_
  clear H; rintro _ w ⟨rfl, H⟩
  refine ops_v (v_eql true rfl rfl rfl (decide_eq_true (by first | omega | (simp only; omega) | rfl | decide))) ?_
  refine ops_v (v_pick_t (v := (.bool _)) rfl rfl rfl) ?_
  refine ops_v (v_move (v := (.bool _)) rfl rfl) ?_
  refine ops_v (v_move (v := (.pointer _)) rfl rfl) ?_
  refine ops_v (v_move (v := (.int _ _)) rfl rfl) ?_
  refine ops_call rfl c33 (FnC.ro 0 rfl H (fun _ => EvalV w3 3 3 0 (by decide +kernel))) ?_
  clear H; rintro _ w ⟨rfl, H⟩
  refine ops_v (v_eql true rfl rfl rfl (decide_eq_true (by first | omega | (simp only; omega) | rfl | decide))) ?_
  refine ops_v (v_pick_t (v := (.bool _)) rfl rfl rfl) ?_
  refine ops_v (v_move (v := (.bool _)) rfl rfl) ?_
  refine ops_v (v_move (v := (.pointer _)) rfl rfl) ?_
  refine ops_v (v_move (v := (.int _ _)) rfl rfl) ?_
  refine ops_call rfl c35 (FnC.ro 0 rfl H (fun _ => CountV w3 3 4 (by decide +kernel))) ?_
  clear H; rintro _ w ⟨rfl, H⟩
  refine ops_v (v_eql true rfl rfl rfl (decide_eq_true (by first | omega | (simp only; omega) | rfl | decide))) ?_
  refine ops_v (v_pick_t (v := (.bool _)) rfl rfl rfl) ?_
  refine ops_v (v_move (v := (.bool _)) rfl rfl) ?_
  refine ops_v (v_move (v := (.int _ _)) rfl rfl) ?_
  refine ops_v (v_eql true rfl rfl rfl (decide_eq_true (by first | omega | (simp only; omega) | rfl | decide))) ?_
  refine ops_v (v_pick_t (v := (.bool _)) rfl rfl rfl) ?_
  refine ops_v (v_move (v := (.bool _)) rfl rfl) ?_
  refine ops_v (v_move (v := (.int _ _)) rfl rfl) ?_
  refine ops_v (v_eql true rfl rfl rfl (decide_eq_true (by first | omega | (simp only; omega) | rfl | decide))) ?_
  refine ops_v (v_pick_t (v := (.bool _)) rfl rfl rfl) ?_
  refine ops_v (v_move (v := (.bool _)) rfl rfl) ?_
  refine ops_v (v_move (v := (.pointer _)) rfl rfl) ?_
  refine ops_v (v_move (v := (.int _ _)) rfl rfl) ?_
  refine ops_call rfl c33 (FnC.ro 0 rfl H (fun _ => EvalV w3 7 1 7 (by decide +kernel))) ?_
  clear H; rintro _ w ⟨rfl, H⟩
  refine ops_v (v_eql true rfl rfl rfl (decide_eq_true (by first | omega | (simp only; omega) | rfl | decide))) ?_
  refine ops_v (v_pick_t (v := (.bool _)) rfl rfl rfl) ?_
  refine ops_v (v_move (v := (.bool _)) rfl rfl) ?_
  refine ops_v (v_move (v := (.pointer _)) rfl rfl) ?_
  refine ops_v (v_move (v := (.int _ _)) rfl rfl) ?_
  refine ops_call rfl c33 (FnC.ro 0 rfl H (fun _ => EvalV w3 7 3 (-1) (by decide +kernel))) ?_
  clear H; rintro _ w ⟨rfl, H⟩
  refine ops_v (v_eql true rfl rfl rfl (decide_eq_true (by first | omega | (simp only; omega) | rfl | decide))) ?_
  refine ops_v (v_pick_t (v := (.bool _)) rfl rfl rfl) ?_
  refine ops_v (v_move (v := (.bool _)) rfl rfl) ?_
  refine ops_v (v_move (v := (.int _ _)) rfl rfl) ?_
  refine ops_v (v_eql true rfl rfl rfl (decide_eq_true (by first | omega | (simp only; omega) | rfl | decide))) ?_
  refine ops_v (v_pick_t (v := (.bool _)) rfl rfl rfl) ?_
  refine ops_v (v_move (v := (.bool _)) rfl rfl) ?_
  refine ops_call rfl c58 (Bound_is 2 1 (b := 8) ⟨by decide, by decide⟩ (by decide +kernel) H) ?_
  clear H; rintro _ w ⟨rfl, H⟩
  refine ops_v (v_eql true rfl rfl rfl (decide_eq_true (by first | omega | (simp only; omega) | rfl | decide))) ?_
  refine ops_v (v_pick_t (v := (.bool _)) rfl rfl rfl) ?_
  refine ops_v (v_assign (v := (.bool _)) rfl rfl) ?_
  refine ops_nil ?_
  refine W_ret ?_
  refine ⟨_, (.tmp (v := (.bool _)) rfl .nil), ?_⟩
  exact ⟨rfl, H.tail.tail⟩
  -- (backstaylaw16.awake: ret; chunks S,C; ptr )
end Go.Proofs.Ytchikjmhncojfaa.W
