/- LimitTells of layer 16: what matters is told, of all else DontCare; how many nodes there may be is as the document says. Conditions: none. -/
import Derived.Test.YtchikjmhncojfaaLaw14
import Derived.Test.YtchikjmhncojfaaOrderM
import Derived.Test.YtchikjmhncojfaaHead
import Derived.Test.YtchikjmhncojfaaLaw16
import Derived.Test.YtchikjmhncojfaaRef16
import Derived.ProofKit
import Derived.OpenShut
set_option linter.unusedVariables false
namespace Go.Proofs.Ytchikjmhncojfaa.limitTells
open Go Go.Proofs Go.RowKit Go.ChangeShapes Go.WideShapes Go.ChangeAt Go.Proofs.Ytchikjmhncojfaa.W
open Go.Proofs.Ytchikjmhncojfaa.M (Br St get getZ isN idx has down Wf rank i64 leafB askB R4 MadeOk Lifts Ext opF oneF twoF chooseF tr Tells Room6 AtM atf withinF)
variable {w wb : World} {R : List Chunk}
set_option maxRecDepth 8000 in
set_option maxHeartbeats 4000000 in
theorem law_ok (H : Own wb R w) (links id' most any : Int) (i1 : i64 links) (i2 : i64 id') (i3 : i64 most) (i4 : i64 any) (v : Value) (l : List R4) (hr : RawIs wb v l) :
    FnC Try.prog 17 [int links, v, int id', int most, int any] w (fun u w' => u = .bool true ∧ ∃ R', Own wb R' w') := by
  have lo := M.pick_lo (c := links) (n := 7) (by decide)
  have hi := M.pick_hi (c := links) (n := 7) (by decide)
  obtain ⟨rp, rcap, hv, _⟩ := id hr
  subst hv
  generalize hn : M.pick links 7 = n at lo hi
  have mo := M.pick_lo (c := most) (n := 9) (by decide)
  have mi := M.pick_hi (c := most) (n := 9) (by decide)
  generalize hmm : M.pick most 9 = m' at mo mi
  obtain ⟨m, hm'⟩ : ∃ m : Int, m' - 1 = m := ⟨_, rfl⟩
  have ao := M.pick_lo (c := any) (n := 5) (by decide)
  have ai := M.pick_hi (c := any) (n := 5) (by decide)
  have im : i64 m := ⟨by omega, by omega⟩
  refine FnC_of Try.func17 rfl rfl rfl rfl ?_
  refine W_seq ?_
  refine W_region ?_
  refine ops_v (v_assign (v := _) rfl rfl) ?_
  refine ops_nil ?_
  refine W_seq ?_
  refine W_region ?_
  refine ops_call rfl c55 (awake16_ok H) ?_
  clear H; rintro _ w ⟨rfl, H⟩
  refine ops_v (v_assign (v := (.bool _)) rfl rfl) ?_
  refine ops_nil ?_
  refine W_seq ?_
  refine W_region ?_
  refine ops_v (v_move (v := (.int _ _)) rfl rfl) ?_
  refine ops_call rfl c56 (pick16_ok H links 7 i1 (by decide)) ?_
  clear H; rintro _ w ⟨rfl, H⟩
  rw [hn]
  refine ops_v (v_assign (v := (.int _ _)) rfl rfl) ?_
  refine ops_nil ?_
  refine W_seq ?_
  refine W_region ?_
  refine ops_v (v_move (v := (.int _ _)) rfl rfl) ?_
  refine ops_v (v_move (v := (.slice _ _ _)) rfl rfl) ?_
  refine ops_call rfl c37 (Made_ok H n lo (by omega) _ l hr) ?_
  clear H; rintro _ w ⟨p, st, q, cap, ids, rfl, hm, H⟩
  refine ops_v (v_move (v := (.tuple _)) rfl rfl) ?_
  refine ops_v (v_extract (v := (.pointer _)) rfl rfl rfl) ?_
  refine ops_v (v_extract (v := (.slice _ _ _)) rfl rfl rfl) ?_
  refine ops_v (v_assign (v := (.pointer _)) rfl rfl) ?_
  refine ops_v (v_assign (v := (.slice _ _ _)) rfl rfl) ?_
  refine ops_nil ?_
  refine W_seq ?_
  refine W_region ?_
  refine ops_v (v_move (v := (.int _ _)) rfl rfl) ?_
  refine ops_call rfl c56 (pick16_ok H most 9 i3 (by decide)) ?_
  clear H; rintro _ w ⟨rfl, H⟩
  rw [hmm]
  refine ops_v (v_sub m rfl rfl rfl (by rw [hm']; exact wrap_in (by omega) (by omega))) ?_
  refine ops_v (v_assign (v := (.int _ _)) rfl rfl) ?_
  refine ops_nil ?_
  refine W_seq ?_
  -- (backstaylaw16.LimitTells: until; chunks s,S; ptr )
  have hlinks := hm.links
  have hl2 : st.links = n.toNat := by omega
  have m0 : Room6 st 40 := ⟨hm.wf, by omega, hm.most, hm.few⟩
  obtain ⟨s1, a, A1, x1, m1, ta1⟩ := M.at_room m0 (by decide) m
  rw [hl2] at ta1
  have hN : (2 : Int) ^ n.toNat ≤ 64 := by
    have : n.toNat ≤ 6 := by omega
    have : (2 : Nat) ^ n.toNat ≤ 2 ^ 6 := Nat.pow_le_pow_right (by decide) this
    have : ((2 ^ n.toNat : Nat) : Int) = (2 : Int) ^ n.toNat := by push_cast; rfl
    omega
  have cast2 : ((2 ^ n.toNat : Nat) : Int) = (2 : Int) ^ n.toNat := by push_cast; rfl
  have hnn : n = (n.toNat : Int) := by omega
  -- what follows, whatever node is looked at
  have rest : ∀ x : Int, isN st x = true → ∃ s2 b s3 c, Lifts (opF (-1)) s1 a x x s2 b 0 ∧ AtM s2 0 any s3 c 0 ∧ Room6 s3 279 ∧ Wf s1 ∧ Wf s2 ∧
      Tells s3 a (atf 0 n.toNat m) ∧ Tells s3 b (fun F => withinF (atf 0 n.toNat m F) (M.eval s3 x F)) ∧ Tells s3 c (atf 0 n.toNat any) ∧ Ext s1 s2 := by
    intro x hx
    have tx1 : Tells s1 x _ := (Tells.of hx).ext m0.wf x1 m1.wf
    obtain ⟨s2, b, L2, x2, m2, tb2⟩ := M.lift_room (opF (-1)) m1 (by decide) ta1 tx1 tx1
    obtain ⟨s3, c, A3, x3, m3, tc3⟩ := M.at_room m2 (by decide) any
    have hl3 : s2.links = n.toNat := by rw [x2.links, x1.links, hl2]
    rw [hl3] at tc3
    have tx3 := (tx1.ext m1.wf x2 m2.wf).ext m2.wf x3 m3.wf
    exact ⟨s2, b, s3, c, L2, A3, m3, m1.wf, m2.wf, (ta1.ext m1.wf x2 m2.wf).ext m2.wf x3 m3.wf, (tb2.ext m2.wf x3 m3.wf).to fun F => by rw [M.opF_within, tx3.eval], tc3, x2⟩
  have A1' : AtM s1 0 m s1 a 0 := A1.again m0.wf (by decide) (by decide) (Ext.refl _) m1.wf
  refine W_region ?_
  refine ops_v (v_move (v := (.pointer _)) rfl rfl) ?_
  refine ops_v (v_move (v := (.int _ _)) rfl rfl) ?_
  refine ops_call rfl c57 (FnC.at 1 rfl H (fun _ H => AtMost_ok A1 m0.wf H)) ?_
  clear H; rintro _ w ⟨rfl, H⟩
  refine ops_v (v_move (v := (.tuple _)) rfl rfl) ?_
  refine ops_v (v_extract (v := (.int _ _)) rfl rfl rfl) ?_
  refine ops_v (v_extract (v := (.int _ _)) rfl rfl rfl) ?_
  refine ops_v (v_assign (v := (.int _ _)) rfl rfl) ?_
  refine ops_v (v_assign (v := (.int _ _)) rfl rfl) ?_
  refine ops_nil ?_
  refine W_seq ?_
  refine W_seq ?_
  refine W_region ?_
  refine ops_v (v_move (v := (.bool _)) rfl rfl) ?_
  refine ops_v (v_not rfl rfl _ rfl) ?_
  refine ops_v (v_move (v := (.bool _)) rfl rfl) ?_
  refine ops_v (v_move (v := (.int _ _)) rfl rfl) ?_
  refine ops_v (v_neq false rfl rfl rfl (decide_eq_false (by first | omega | (simp only; omega) | rfl | decide))) ?_
  refine ops_v (v_pick_f (v := (.bool _)) rfl rfl rfl) ?_
  refine ops_v (v_move (v := (.bool _)) rfl rfl) ?_
  refine ops_v (v_move (v := (.int _ _)) rfl rfl) ?_
  refine ops_v (v_move (v := (.int _ _)) rfl rfl) ?_
  refine ops_call rfl c58 (Bound_ok links any i4 H) ?_
  clear H; rintro _ w ⟨rfl, H⟩
  refine ops_v (v_move (v := (.int _ _)) rfl rfl) ?_
  refine ops_v (v_move (v := (.int _ _)) rfl rfl) ?_
  refine ops_call rfl c59 (refBound_ok links any i4 H) ?_
  clear H; rintro _ w ⟨rfl, H⟩
  refine ops_v (v_neq false rfl rfl rfl (decide_eq_false (by first | omega | (simp only; omega) | rfl | decide))) ?_
  refine ops_v (v_pick_f (v := (.bool _)) rfl rfl rfl) ?_
  refine ops_v (v_move (v := (.bool _)) rfl rfl) ?_
  refine ops_v (v_move (v := (.int _ _)) rfl rfl) ?_
  refine ops_v (v_move (v := (.int _ _)) rfl rfl) ?_
  refine ops_call rfl c58 (Bound_ok n m im H) ?_
  clear H; rintro _ w ⟨rfl, H⟩
  refine ops_v (v_move (v := (.int _ _)) rfl rfl) ?_
  refine ops_v (v_move (v := (.int _ _)) rfl rfl) ?_
  refine ops_call rfl c59 (refBound_ok n m im H) ?_
  clear H; rintro _ w ⟨rfl, H⟩
  refine ops_v (v_neq false rfl rfl rfl (decide_eq_false (by first | omega | (simp only; omega) | rfl | decide))) ?_
  refine ops_v (v_pick_f (v := (.bool _)) rfl rfl rfl) ?_
  refine ops_nil ?_
  refine W_if_f rfl ?_
  refine W_skip ?_
  refine W_seq ?_
  refine W_region ?_
  refine ops_v (v_move (v := (.int _ _)) rfl rfl) ?_
  refine ops_v (v_assign (v := (.int _ _)) rfl rfl) ?_
  refine ops_nil ?_
  refine W_seq ?_
  refine W_seq ?_
  -- (backstaylaw16.LimitTells: until; chunks s,S; ptr )
  rcases Nat.eq_zero_or_pos ids.length with h0 | h0
  · have h0' : ¬ ((ids.length : Int) > 0) := by omega
    have h0'' : ¬ ((0 : Int) < (ids.length : Int)) := by omega
    -- a itself is looked at
    have hx1 : isN s1 a = true := ta1.here
    have rest' : ∃ s2 b s3 c, Lifts (opF (-1)) s1 a a a s2 b 0 ∧ AtM s2 0 any s3 c 0 ∧ Room6 s3 279 ∧ Wf s1 ∧ Wf s2 ∧
      Tells s3 a (atf 0 n.toNat m) ∧ Tells s3 b (fun F => withinF (atf 0 n.toNat m F) (M.eval s3 a F)) ∧ Tells s3 c (atf 0 n.toNat any) ∧ Ext s1 s2 := by
      obtain ⟨s2, b, L2, x2, m2, tb2⟩ := M.lift_room (opF (-1)) m1 (by decide) ta1 ta1 ta1
      obtain ⟨s3, c, A3, x3, m3, tc3⟩ := M.at_room m2 (by decide) any
      have hl3 : s2.links = n.toNat := by rw [x2.links, x1.links, hl2]
      rw [hl3] at tc3
      have tx3 := (ta1.ext m1.wf x2 m2.wf).ext m2.wf x3 m3.wf
      exact ⟨s2, b, s3, c, L2, A3, m3, m1.wf, m2.wf, tx3, (tb2.ext m2.wf x3 m3.wf).to fun F => by rw [M.opF_within, tx3.eval], tc3, x2⟩
    obtain ⟨s2, b, s3, c, L2, A3, m3, w1, w2, ta, tb, tc, x2⟩ := rest' 
    have hlen := m3.len
    refine W_region ?_
    refine ops_v (v_move (v := (.slice _ _ _)) rfl rfl) ?_
    refine ops_v (v_len rfl sl40 rfl) ?_
    refine ops_v (v_gtr false rfl rfl rfl (decide_eq_false (by first | omega | (simp only; omega) | rfl | decide))) ?_
    refine ops_nil ?_
    refine W_if_f rfl ?_
    refine W_skip ?_
    refine W_seq ?_
    refine W_region ?_
    refine ops_v (v_move (v := (.pointer _)) rfl rfl) ?_
    refine ops_v (v_move (v := (.int _ _)) rfl rfl) ?_
    refine ops_v (v_move (v := (.int _ _)) rfl rfl) ?_
    refine ops_call rfl c60 (FnC.at 1 rfl H (fun _ H => Within_nil A1' L2 w1 hx1 H)) ?_
    clear H; rintro _ w ⟨rfl, H⟩
    refine ops_v (v_move (v := (.tuple _)) rfl rfl) ?_
    refine ops_v (v_extract (v := (.int _ _)) rfl rfl rfl) ?_
    refine ops_v (v_extract (v := (.int _ _)) rfl rfl rfl) ?_
    refine ops_v (v_assign (v := (.int _ _)) rfl rfl) ?_
    refine ops_v (v_assign (v := (.int _ _)) rfl rfl) ?_
    refine ops_nil ?_
    refine W_seq ?_
    refine W_region ?_
    refine ops_v (v_move (v := (.pointer _)) rfl rfl) ?_
    refine ops_v (v_move (v := (.int _ _)) rfl rfl) ?_
    refine ops_call rfl c57 (FnC.at 1 rfl H (fun _ H => AtMost_ok A3 w2 H)) ?_
    clear H; rintro _ w ⟨rfl, H⟩
    refine ops_v (v_move (v := (.tuple _)) rfl rfl) ?_
    refine ops_v (v_extract (v := (.int _ _)) rfl rfl rfl) ?_
    refine ops_v (v_extract (v := (.int _ _)) rfl rfl rfl) ?_
    refine ops_v (v_assign (v := (.int _ _)) rfl rfl) ?_
    refine ops_v (v_assign (v := (.int _ _)) rfl rfl) ?_
    refine ops_nil ?_
    refine W_seq ?_
    refine W_region ?_
    refine ops_v (v_move (v := (.pointer _)) rfl rfl) ?_
    refine ops_v (v_move (v := (.pointer _)) rfl rfl) ?_
    refine ops_call rfl c30 (FnC.ro 1 rfl H (fun _ => Size_ok)) ?_
    clear H; rintro _ w ⟨rfl, H⟩
    refine ops_v (v_move (v := (.int _ _)) rfl rfl) ?_
    refine ops_call rfl c56 (pick16_ok H any 5 i4 (by decide)) ?_
    clear H; rintro _ w ⟨rfl, H⟩
    refine ops_v (v_add _ rfl rfl rfl (wrap_in (by omega) (by omega))) ?_
    refine ops_v (v_move (v := (.int _ _)) rfl rfl) ?_
    refine ops_call rfl c60 (FnC.ro 1 rfl H (fun _ H => Within_bad (o := none) (M.bad_id (.inl (by omega))) H)) ?_
    clear H; rintro _ w ⟨rfl, H⟩
    refine ops_v (v_move (v := (.tuple _)) rfl rfl) ?_
    refine ops_v (v_extract (v := (.int _ _)) rfl rfl rfl) ?_
    refine ops_v (v_extract (v := (.int _ _)) rfl rfl rfl) ?_
    refine ops_v (v_assign (v := (.int _ _)) rfl rfl) ?_
    refine ops_v (v_assign (v := (.int _ _)) rfl rfl) ?_
    refine ops_nil ?_
    refine W_seq ?_
    refine W_seq ?_
    refine W_region ?_
    refine ops_v (v_move (v := (.int _ _)) rfl rfl) ?_
    refine ops_v (v_neq false rfl rfl rfl (decide_eq_false (by first | omega | (simp only; omega) | rfl | decide))) ?_
    refine ops_v (v_move (v := (.bool _)) rfl rfl) ?_
    refine ops_v (v_move (v := (.int _ _)) rfl rfl) ?_
    refine ops_v (v_neq false rfl rfl rfl (decide_eq_false (by first | omega | (simp only; omega) | rfl | decide))) ?_
    refine ops_v (v_pick_f (v := (.bool _)) rfl rfl rfl) ?_
    refine ops_v (v_move (v := (.bool _)) rfl rfl) ?_
    refine ops_v (v_move (v := (.int _ _)) rfl rfl) ?_
    refine ops_v (v_neq false rfl rfl rfl (decide_eq_false (by first | omega | (simp only; omega) | rfl | decide))) ?_
    refine ops_v (v_pick_f (v := (.bool _)) rfl rfl rfl) ?_
    refine ops_nil ?_
    refine W_if_f rfl ?_
    refine W_skip ?_
    refine W_seq ?_
    refine W_seq ?_
    refine W_region ?_
    refine ops_v (v_assign (v := _) rfl rfl) ?_
    refine ops_nil ?_
    refine W_block ?_
    -- (backstaylaw16.LimitTells: loop; chunks s,S; ptr )
    have H := H.tail
    refine W_loopS (fun (k : Nat) => [(4, int any), (12, int n), (13, ptr p), (15, int m), (16, int a), (18, int a), (19, int b), (21, int c), (25, .int .i64 k)])
      (fun k w => Own wb (StoreC p s3 :: R) w ∧ k ≤ 2 ^ n.toNat)
      (fun k => 2 ^ n.toNat - k) 0 ⟨rfl, rfl, rfl, rfl, rfl, rfl, rfl, rfl, rfl, trivial⟩ ⟨H, Nat.zero_le _⟩ ?_
    clear H
    rintro k e w ⟨H, hle⟩
    by_cases hk : (k : Int) < 2 ^ n.toNat
    · have hk64 : (k : Int) < 64 := by omega
      have hlt : k < 2 ^ n.toNat := by omega
      have ha := ta.eval k
      have hb := tb.eval k
      have hc := tc.eval k
      have hor := M.atf_or 0 n.toNat m k
      have href : ∀ (q : Int) (R : List Chunk) (w : World), Own wb R w → FnC Try.prog 61 [int n, int q, .int .i64 (k : Int)] w (fun v w' => v = int (atf 0 n.toNat q k) ∧ Own wb R w') := fun q R w H => by
        rw [hnn]; exact refAtMost_ok n.toNat q k (by omega) (by omega) H
      by_cases hf : atf 0 n.toNat m k = 1
      · rw [M.withinF_or _ _ hf] at hb
        refine W_seq ?_
        refine W_seq ?_
        refine W_region ?_
        refine ops_v (v_move (v := (.int _ _)) rfl rfl) ?_
        refine ops_v (v_move (v := (.int _ _)) rfl rfl) ?_
        refine ops_v (v_shl (2 ^ n.toNat) rfl rfl rfl lo (shl1 _ (by omega))) ?_
        refine ops_v (v_lss true rfl rfl rfl (decide_eq_true (by first | omega | (simp only; omega) | rfl | decide))) ?_
        refine ops_nil ?_
        refine W_if_t rfl ?_
        refine W_skip ?_
        refine W_seq ?_
        refine W_block ?_
        refine W_seq ?_
        refine W_region ?_
        refine ops_v (v_move (v := (.int _ _)) rfl rfl) ?_
        refine ops_v (v_move (v := (.int _ _)) rfl rfl) ?_
        refine ops_v (v_move (v := (.int _ _)) rfl rfl) ?_
        refine ops_call rfl c61 (href m _ _ H) ?_
        clear H; rintro _ w ⟨rfl, H⟩
        refine ops_v (v_assign (v := (.int _ _)) rfl rfl) ?_
        refine ops_nil ?_
        refine W_seq ?_
        refine W_region ?_
        refine ops_v (v_assign (v := _) rfl rfl) ?_
        refine ops_nil ?_
        refine W_seq ?_
        refine W_seq ?_
        refine W_region ?_
        refine ops_v (v_move (v := (.int _ _)) rfl rfl) ?_
        refine ops_v (v_eql true rfl rfl rfl (decide_eq_true (by first | omega | (simp only; omega) | rfl | decide))) ?_
        refine ops_nil ?_
        refine W_if_t rfl ?_
        refine W_region ?_
        refine ops_v (v_move (v := (.pointer _)) rfl rfl) ?_
        refine ops_v (v_move (v := (.int _ _)) rfl rfl) ?_
        refine ops_v (v_move (v := (.int _ _)) rfl rfl) ?_
        refine ops_call rfl c33 (FnC.ro 0 rfl H (fun _ => Eval_ok m3.wf a k)) ?_
        clear H; rintro _ w ⟨rfl, H⟩
        refine ops_v (v_assign (v := (.int _ _)) rfl rfl) ?_
        refine ops_nil ?_
        refine W_seq ?_
        refine W_region ?_
        refine ops_v (v_move (v := (.pointer _)) rfl rfl) ?_
        refine ops_v (v_move (v := (.int _ _)) rfl rfl) ?_
        refine ops_v (v_move (v := (.int _ _)) rfl rfl) ?_
        refine ops_call rfl c33 (FnC.ro 0 rfl H (fun _ => Eval_ok m3.wf a k)) ?_
        clear H; rintro _ w ⟨rfl, H⟩
        refine ops_v (v_move (v := (.int _ _)) rfl rfl) ?_
        refine ops_v (v_neq false rfl rfl rfl (decide_eq_false (by first | omega | (simp only; omega) | rfl | decide))) ?_
        refine ops_v (v_move (v := (.bool _)) rfl rfl) ?_
        refine ops_v (v_move (v := (.pointer _)) rfl rfl) ?_
        refine ops_v (v_move (v := (.int _ _)) rfl rfl) ?_
        refine ops_v (v_move (v := (.int _ _)) rfl rfl) ?_
        refine ops_call rfl c33 (FnC.ro 0 rfl H (fun _ => Eval_ok m3.wf b k)) ?_
        clear H; rintro _ w ⟨rfl, H⟩
        refine ops_v (v_move (v := (.int _ _)) rfl rfl) ?_
        refine ops_v (v_neq false rfl rfl rfl (decide_eq_false (by first | omega | (simp only; omega) | rfl | decide))) ?_
        refine ops_v (v_pick_f (v := (.bool _)) rfl rfl rfl) ?_
        refine ops_v (v_move (v := (.bool _)) rfl rfl) ?_
        refine ops_v (v_move (v := (.pointer _)) rfl rfl) ?_
        refine ops_v (v_move (v := (.int _ _)) rfl rfl) ?_
        refine ops_v (v_move (v := (.int _ _)) rfl rfl) ?_
        refine ops_call rfl c33 (FnC.ro 0 rfl H (fun _ => Eval_ok m3.wf c k)) ?_
        clear H; rintro _ w ⟨rfl, H⟩
        refine ops_v (v_move (v := (.int _ _)) rfl rfl) ?_
        refine ops_v (v_move (v := (.int _ _)) rfl rfl) ?_
        refine ops_v (v_move (v := (.int _ _)) rfl rfl) ?_
        refine ops_call rfl c61 (href any _ _ H) ?_
        clear H; rintro _ w ⟨rfl, H⟩
        refine ops_v (v_neq false rfl rfl rfl (decide_eq_false (by first | omega | (simp only; omega) | rfl | decide))) ?_
        refine ops_v (v_pick_f (v := (.bool _)) rfl rfl rfl) ?_
        refine ops_nil ?_
        refine W_if_f rfl ?_
        refine W_skip ?_
        refine W_region ?_
        refine ops_v (v_move (v := (.int _ _)) rfl rfl) ?_
        refine ops_v (v_add _ rfl rfl rfl (wrap_in (by omega) (by omega))) ?_
        refine ops_v (v_assign (v := (.int _ _)) rfl rfl) ?_
        refine ops_nil ?_
        exact ⟨k + 1, by omega, ⟨rfl, rfl, rfl, rfl, rfl, rfl, rfl, rfl, rfl, trivial⟩, H, hlt⟩
        -- (backstaylaw16.LimitTells: loopend; chunks S; ptr )
      · have hb : M.eval s3 b k = -1 := by
          rw [hb]; unfold withinF; rw [if_pos (by omega)]; rfl
        refine W_seq ?_
        refine W_seq ?_
        refine W_region ?_
        refine ops_v (v_move (v := (.int _ _)) rfl rfl) ?_
        refine ops_v (v_move (v := (.int _ _)) rfl rfl) ?_
        refine ops_v (v_shl (2 ^ n.toNat) rfl rfl rfl lo (shl1 _ (by omega))) ?_
        refine ops_v (v_lss true rfl rfl rfl (decide_eq_true (by first | omega | (simp only; omega) | rfl | decide))) ?_
        refine ops_nil ?_
        refine W_if_t rfl ?_
        refine W_skip ?_
        refine W_seq ?_
        refine W_block ?_
        refine W_seq ?_
        refine W_region ?_
        refine ops_v (v_move (v := (.int _ _)) rfl rfl) ?_
        refine ops_v (v_move (v := (.int _ _)) rfl rfl) ?_
        refine ops_v (v_move (v := (.int _ _)) rfl rfl) ?_
        refine ops_call rfl c61 (href m _ _ H) ?_
        clear H; rintro _ w ⟨rfl, H⟩
        refine ops_v (v_assign (v := (.int _ _)) rfl rfl) ?_
        refine ops_nil ?_
        refine W_seq ?_
        refine W_region ?_
        refine ops_v (v_assign (v := _) rfl rfl) ?_
        refine ops_nil ?_
        refine W_seq ?_
        refine W_seq ?_
        refine W_region ?_
        refine ops_v (v_move (v := (.int _ _)) rfl rfl) ?_
        refine ops_v (v_eql false rfl rfl rfl (decide_eq_false (by first | omega | (simp only; omega) | rfl | decide))) ?_
        refine ops_nil ?_
        refine W_if_f rfl ?_
        refine W_skip ?_
        refine W_seq ?_
        refine W_region ?_
        refine ops_v (v_move (v := (.pointer _)) rfl rfl) ?_
        refine ops_v (v_move (v := (.int _ _)) rfl rfl) ?_
        refine ops_v (v_move (v := (.int _ _)) rfl rfl) ?_
        refine ops_call rfl c33 (FnC.ro 0 rfl H (fun _ => Eval_ok m3.wf a k)) ?_
        clear H; rintro _ w ⟨rfl, H⟩
        refine ops_v (v_move (v := (.int _ _)) rfl rfl) ?_
        refine ops_v (v_neq false rfl rfl rfl (decide_eq_false (by first | omega | (simp only; omega) | rfl | decide))) ?_
        refine ops_v (v_move (v := (.bool _)) rfl rfl) ?_
        refine ops_v (v_move (v := (.pointer _)) rfl rfl) ?_
        refine ops_v (v_move (v := (.int _ _)) rfl rfl) ?_
        refine ops_v (v_move (v := (.int _ _)) rfl rfl) ?_
        refine ops_call rfl c33 (FnC.ro 0 rfl H (fun _ => Eval_ok m3.wf b k)) ?_
        clear H; rintro _ w ⟨rfl, H⟩
        refine ops_v (v_move (v := (.int _ _)) rfl rfl) ?_
        refine ops_v (v_neq false rfl rfl rfl (decide_eq_false (by first | omega | (simp only; omega) | rfl | decide))) ?_
        refine ops_v (v_pick_f (v := (.bool _)) rfl rfl rfl) ?_
        refine ops_v (v_move (v := (.bool _)) rfl rfl) ?_
        refine ops_v (v_move (v := (.pointer _)) rfl rfl) ?_
        refine ops_v (v_move (v := (.int _ _)) rfl rfl) ?_
        refine ops_v (v_move (v := (.int _ _)) rfl rfl) ?_
        refine ops_call rfl c33 (FnC.ro 0 rfl H (fun _ => Eval_ok m3.wf c k)) ?_
        clear H; rintro _ w ⟨rfl, H⟩
        refine ops_v (v_move (v := (.int _ _)) rfl rfl) ?_
        refine ops_v (v_move (v := (.int _ _)) rfl rfl) ?_
        refine ops_v (v_move (v := (.int _ _)) rfl rfl) ?_
        refine ops_call rfl c61 (href any _ _ H) ?_
        clear H; rintro _ w ⟨rfl, H⟩
        refine ops_v (v_neq false rfl rfl rfl (decide_eq_false (by first | omega | (simp only; omega) | rfl | decide))) ?_
        refine ops_v (v_pick_f (v := (.bool _)) rfl rfl rfl) ?_
        refine ops_nil ?_
        refine W_if_f rfl ?_
        refine W_skip ?_
        refine W_region ?_
        refine ops_v (v_move (v := (.int _ _)) rfl rfl) ?_
        refine ops_v (v_add _ rfl rfl rfl (wrap_in (by omega) (by omega))) ?_
        refine ops_v (v_assign (v := (.int _ _)) rfl rfl) ?_
        refine ops_nil ?_
        exact ⟨k + 1, by omega, ⟨rfl, rfl, rfl, rfl, rfl, rfl, rfl, rfl, rfl, trivial⟩, H, hlt⟩
        -- (backstaylaw16.LimitTells: loopend; chunks S; ptr )
    · refine W_seq ?_
      refine W_seq ?_
      refine W_region ?_
      refine ops_v (v_move (v := (.int _ _)) rfl rfl) ?_
      refine ops_v (v_move (v := (.int _ _)) rfl rfl) ?_
      refine ops_v (v_shl (2 ^ n.toNat) rfl rfl rfl lo (shl1 _ (by omega))) ?_
      refine ops_v (v_lss false rfl rfl rfl (decide_eq_false (by first | omega | (simp only; omega) | rfl | decide))) ?_
      refine ops_nil ?_
      refine W_if_f rfl ?_
      refine W_exit ?_
      refine W_seq ?_
      refine W_region ?_
      refine ops_v (v_assign (v := _) rfl rfl) ?_
      refine ops_nil ?_
      refine W_ret ?_
      refine ⟨_, (.tmp (v := (.bool _)) rfl .nil), ?_⟩
      exact ⟨rfl, _, H⟩
      -- (backstaylaw16.LimitTells: ret; chunks S; ptr )
  · have h0' : (0 : Int) < (ids.length : Int) := by omega
    obtain ⟨g, rfl⟩ := H.slSome 0 rfl h0
    have getI : ∀ c : Int, ∃ a, ids[(M.pick c ids.length).toNat]? = some a := fun c => ⟨ids[(M.pick c ids.length).toNat]'(by have := M.pick_hi (c := c) h0'; have := M.pick_lo (c := c) h0'; omega), by simp⟩
    obtain ⟨d, hd⟩ := getI id'
    have hd' : (ints ids)[0 + (M.pick id' ids.length).toNat * 1]? = some (.int .i64 d) := by rw [Nat.zero_add, Nat.mul_one]; simp [ints, hd]
    have d1 := M.pick_lo (c := id') h0'
    have d2 := M.pick_hi (c := id') h0'
    have td : Tells st d _ := .of (hm.nodes d (List.mem_of_getElem? hd))
    have hx1 : isN s1 d = true := x1.isN td.here
    have rest' := rest d td.here
    obtain ⟨s2, b, s3, c, L2, A3, m3, w1, w2, ta, tb, tc, x2⟩ := rest' 
    have hlen := m3.len
    refine W_region ?_
    refine ops_v (v_move (v := (.slice _ _ _)) rfl rfl) ?_
    refine ops_v (v_len rfl sl40 rfl) ?_
    refine ops_v (v_gtr true rfl rfl rfl (decide_eq_true (by first | omega | (simp only; omega) | rfl | decide))) ?_
    refine ops_nil ?_
    refine W_if_t rfl ?_
    refine W_region ?_
    refine ops_v (v_move (v := (.slice _ _ _)) rfl rfl) ?_
    refine ops_v (v_move (v := (.int _ _)) rfl rfl) ?_
    refine ops_v (v_move (v := (.slice _ _ _)) rfl rfl) ?_
    refine ops_v (v_len rfl sl40 rfl) ?_
    refine ops_call rfl c56 (pick16_ok H id' ids.length i2 h0') ?_
    clear H; rintro _ w ⟨rfl, H⟩
    refine ops_v (v_indexAddr_sl rfl se40 rfl rfl (by omega) (by omega)) ?_
    refine ops_loadSl (v := .int .i64 d) 0 H rfl tc3 rfl rfl hd' ?_
    refine ops_v (v_assign (v := (.int _ _)) rfl rfl) ?_
    refine ops_nil ?_
    refine W_seq ?_
    refine W_region ?_
    refine ops_v (v_move (v := (.pointer _)) rfl rfl) ?_
    refine ops_v (v_move (v := (.int _ _)) rfl rfl) ?_
    refine ops_v (v_move (v := (.int _ _)) rfl rfl) ?_
    refine ops_call rfl c60 (FnC.at 1 rfl H (fun _ H => Within_nil A1' L2 w1 hx1 H)) ?_
    clear H; rintro _ w ⟨rfl, H⟩
    refine ops_v (v_move (v := (.tuple _)) rfl rfl) ?_
    refine ops_v (v_extract (v := (.int _ _)) rfl rfl rfl) ?_
    refine ops_v (v_extract (v := (.int _ _)) rfl rfl rfl) ?_
    refine ops_v (v_assign (v := (.int _ _)) rfl rfl) ?_
    refine ops_v (v_assign (v := (.int _ _)) rfl rfl) ?_
    refine ops_nil ?_
    refine W_seq ?_
    refine W_region ?_
    refine ops_v (v_move (v := (.pointer _)) rfl rfl) ?_
    refine ops_v (v_move (v := (.int _ _)) rfl rfl) ?_
    refine ops_call rfl c57 (FnC.at 1 rfl H (fun _ H => AtMost_ok A3 w2 H)) ?_
    clear H; rintro _ w ⟨rfl, H⟩
    refine ops_v (v_move (v := (.tuple _)) rfl rfl) ?_
    refine ops_v (v_extract (v := (.int _ _)) rfl rfl rfl) ?_
    refine ops_v (v_extract (v := (.int _ _)) rfl rfl rfl) ?_
    refine ops_v (v_assign (v := (.int _ _)) rfl rfl) ?_
    refine ops_v (v_assign (v := (.int _ _)) rfl rfl) ?_
    refine ops_nil ?_
    refine W_seq ?_
    refine W_region ?_
    refine ops_v (v_move (v := (.pointer _)) rfl rfl) ?_
    refine ops_v (v_move (v := (.pointer _)) rfl rfl) ?_
    refine ops_call rfl c30 (FnC.ro 1 rfl H (fun _ => Size_ok)) ?_
    clear H; rintro _ w ⟨rfl, H⟩
    refine ops_v (v_move (v := (.int _ _)) rfl rfl) ?_
    refine ops_call rfl c56 (pick16_ok H any 5 i4 (by decide)) ?_
    clear H; rintro _ w ⟨rfl, H⟩
    refine ops_v (v_add _ rfl rfl rfl (wrap_in (by omega) (by omega))) ?_
    refine ops_v (v_move (v := (.int _ _)) rfl rfl) ?_
    refine ops_call rfl c60 (FnC.ro 1 rfl H (fun _ H => Within_bad (o := none) (M.bad_id (.inl (by omega))) H)) ?_
    clear H; rintro _ w ⟨rfl, H⟩
    refine ops_v (v_move (v := (.tuple _)) rfl rfl) ?_
    refine ops_v (v_extract (v := (.int _ _)) rfl rfl rfl) ?_
    refine ops_v (v_extract (v := (.int _ _)) rfl rfl rfl) ?_
    refine ops_v (v_assign (v := (.int _ _)) rfl rfl) ?_
    refine ops_v (v_assign (v := (.int _ _)) rfl rfl) ?_
    refine ops_nil ?_
    refine W_seq ?_
    refine W_seq ?_
    refine W_region ?_
    refine ops_v (v_move (v := (.int _ _)) rfl rfl) ?_
    refine ops_v (v_neq false rfl rfl rfl (decide_eq_false (by first | omega | (simp only; omega) | rfl | decide))) ?_
    refine ops_v (v_move (v := (.bool _)) rfl rfl) ?_
    refine ops_v (v_move (v := (.int _ _)) rfl rfl) ?_
    refine ops_v (v_neq false rfl rfl rfl (decide_eq_false (by first | omega | (simp only; omega) | rfl | decide))) ?_
    refine ops_v (v_pick_f (v := (.bool _)) rfl rfl rfl) ?_
    refine ops_v (v_move (v := (.bool _)) rfl rfl) ?_
    refine ops_v (v_move (v := (.int _ _)) rfl rfl) ?_
    refine ops_v (v_neq false rfl rfl rfl (decide_eq_false (by first | omega | (simp only; omega) | rfl | decide))) ?_
    refine ops_v (v_pick_f (v := (.bool _)) rfl rfl rfl) ?_
    refine ops_nil ?_
    refine W_if_f rfl ?_
    refine W_skip ?_
    refine W_seq ?_
    refine W_seq ?_
    refine W_region ?_
    refine ops_v (v_assign (v := _) rfl rfl) ?_
    refine ops_nil ?_
    refine W_block ?_
    -- (backstaylaw16.LimitTells: loop; chunks s,S; ptr )
    have H := H.tail
    refine W_loopS (fun (k : Nat) => [(4, int any), (12, int n), (13, ptr p), (15, int m), (16, int a), (18, int d), (19, int b), (21, int c), (25, .int .i64 k)])
      (fun k w => Own wb (StoreC p s3 :: R) w ∧ k ≤ 2 ^ n.toNat)
      (fun k => 2 ^ n.toNat - k) 0 ⟨rfl, rfl, rfl, rfl, rfl, rfl, rfl, rfl, rfl, trivial⟩ ⟨H, Nat.zero_le _⟩ ?_
    clear H
    rintro k e w ⟨H, hle⟩
    by_cases hk : (k : Int) < 2 ^ n.toNat
    · have hk64 : (k : Int) < 64 := by omega
      have hlt : k < 2 ^ n.toNat := by omega
      have ha := ta.eval k
      have hb := tb.eval k
      have hc := tc.eval k
      have hor := M.atf_or 0 n.toNat m k
      have href : ∀ (q : Int) (R : List Chunk) (w : World), Own wb R w → FnC Try.prog 61 [int n, int q, .int .i64 (k : Int)] w (fun v w' => v = int (atf 0 n.toNat q k) ∧ Own wb R w') := fun q R w H => by
        rw [hnn]; exact refAtMost_ok n.toNat q k (by omega) (by omega) H
      by_cases hf : atf 0 n.toNat m k = 1
      · rw [M.withinF_or _ _ hf] at hb
        refine W_seq ?_
        refine W_seq ?_
        refine W_region ?_
        refine ops_v (v_move (v := (.int _ _)) rfl rfl) ?_
        refine ops_v (v_move (v := (.int _ _)) rfl rfl) ?_
        refine ops_v (v_shl (2 ^ n.toNat) rfl rfl rfl lo (shl1 _ (by omega))) ?_
        refine ops_v (v_lss true rfl rfl rfl (decide_eq_true (by first | omega | (simp only; omega) | rfl | decide))) ?_
        refine ops_nil ?_
        refine W_if_t rfl ?_
        refine W_skip ?_
        refine W_seq ?_
        refine W_block ?_
        refine W_seq ?_
        refine W_region ?_
        refine ops_v (v_move (v := (.int _ _)) rfl rfl) ?_
        refine ops_v (v_move (v := (.int _ _)) rfl rfl) ?_
        refine ops_v (v_move (v := (.int _ _)) rfl rfl) ?_
        refine ops_call rfl c61 (href m _ _ H) ?_
        clear H; rintro _ w ⟨rfl, H⟩
        refine ops_v (v_assign (v := (.int _ _)) rfl rfl) ?_
        refine ops_nil ?_
        refine W_seq ?_
        refine W_region ?_
        refine ops_v (v_assign (v := _) rfl rfl) ?_
        refine ops_nil ?_
        refine W_seq ?_
        refine W_seq ?_
        refine W_region ?_
        refine ops_v (v_move (v := (.int _ _)) rfl rfl) ?_
        refine ops_v (v_eql true rfl rfl rfl (decide_eq_true (by first | omega | (simp only; omega) | rfl | decide))) ?_
        refine ops_nil ?_
        refine W_if_t rfl ?_
        refine W_region ?_
        refine ops_v (v_move (v := (.pointer _)) rfl rfl) ?_
        refine ops_v (v_move (v := (.int _ _)) rfl rfl) ?_
        refine ops_v (v_move (v := (.int _ _)) rfl rfl) ?_
        refine ops_call rfl c33 (FnC.ro 0 rfl H (fun _ => Eval_ok m3.wf d k)) ?_
        clear H; rintro _ w ⟨rfl, H⟩
        refine ops_v (v_assign (v := (.int _ _)) rfl rfl) ?_
        refine ops_nil ?_
        refine W_seq ?_
        refine W_region ?_
        refine ops_v (v_move (v := (.pointer _)) rfl rfl) ?_
        refine ops_v (v_move (v := (.int _ _)) rfl rfl) ?_
        refine ops_v (v_move (v := (.int _ _)) rfl rfl) ?_
        refine ops_call rfl c33 (FnC.ro 0 rfl H (fun _ => Eval_ok m3.wf a k)) ?_
        clear H; rintro _ w ⟨rfl, H⟩
        refine ops_v (v_move (v := (.int _ _)) rfl rfl) ?_
        refine ops_v (v_neq false rfl rfl rfl (decide_eq_false (by first | omega | (simp only; omega) | rfl | decide))) ?_
        refine ops_v (v_move (v := (.bool _)) rfl rfl) ?_
        refine ops_v (v_move (v := (.pointer _)) rfl rfl) ?_
        refine ops_v (v_move (v := (.int _ _)) rfl rfl) ?_
        refine ops_v (v_move (v := (.int _ _)) rfl rfl) ?_
        refine ops_call rfl c33 (FnC.ro 0 rfl H (fun _ => Eval_ok m3.wf b k)) ?_
        clear H; rintro _ w ⟨rfl, H⟩
        refine ops_v (v_move (v := (.int _ _)) rfl rfl) ?_
        refine ops_v (v_neq false rfl rfl rfl (decide_eq_false (by first | omega | (simp only; omega) | rfl | decide))) ?_
        refine ops_v (v_pick_f (v := (.bool _)) rfl rfl rfl) ?_
        refine ops_v (v_move (v := (.bool _)) rfl rfl) ?_
        refine ops_v (v_move (v := (.pointer _)) rfl rfl) ?_
        refine ops_v (v_move (v := (.int _ _)) rfl rfl) ?_
        refine ops_v (v_move (v := (.int _ _)) rfl rfl) ?_
        refine ops_call rfl c33 (FnC.ro 0 rfl H (fun _ => Eval_ok m3.wf c k)) ?_
        clear H; rintro _ w ⟨rfl, H⟩
        refine ops_v (v_move (v := (.int _ _)) rfl rfl) ?_
        refine ops_v (v_move (v := (.int _ _)) rfl rfl) ?_
        refine ops_v (v_move (v := (.int _ _)) rfl rfl) ?_
        refine ops_call rfl c61 (href any _ _ H) ?_
        clear H; rintro _ w ⟨rfl, H⟩
        refine ops_v (v_neq false rfl rfl rfl (decide_eq_false (by first | omega | (simp only; omega) | rfl | decide))) ?_
        refine ops_v (v_pick_f (v := (.bool _)) rfl rfl rfl) ?_
        refine ops_nil ?_
        refine W_if_f rfl ?_
        refine W_skip ?_
        refine W_region ?_
        refine ops_v (v_move (v := (.int _ _)) rfl rfl) ?_
        refine ops_v (v_add _ rfl rfl rfl (wrap_in (by omega) (by omega))) ?_
        refine ops_v (v_assign (v := (.int _ _)) rfl rfl) ?_
        refine ops_nil ?_
        exact ⟨k + 1, by omega, ⟨rfl, rfl, rfl, rfl, rfl, rfl, rfl, rfl, rfl, trivial⟩, H, hlt⟩
        -- (backstaylaw16.LimitTells: loopend; chunks S; ptr )
      · have hb : M.eval s3 b k = -1 := by
          rw [hb]; unfold withinF; rw [if_pos (by omega)]; rfl
        refine W_seq ?_
        refine W_seq ?_
        refine W_region ?_
        refine ops_v (v_move (v := (.int _ _)) rfl rfl) ?_
        refine ops_v (v_move (v := (.int _ _)) rfl rfl) ?_
        refine ops_v (v_shl (2 ^ n.toNat) rfl rfl rfl lo (shl1 _ (by omega))) ?_
        refine ops_v (v_lss true rfl rfl rfl (decide_eq_true (by first | omega | (simp only; omega) | rfl | decide))) ?_
        refine ops_nil ?_
        refine W_if_t rfl ?_
        refine W_skip ?_
        refine W_seq ?_
        refine W_block ?_
        refine W_seq ?_
        refine W_region ?_
        refine ops_v (v_move (v := (.int _ _)) rfl rfl) ?_
        refine ops_v (v_move (v := (.int _ _)) rfl rfl) ?_
        refine ops_v (v_move (v := (.int _ _)) rfl rfl) ?_
        refine ops_call rfl c61 (href m _ _ H) ?_
        clear H; rintro _ w ⟨rfl, H⟩
        refine ops_v (v_assign (v := (.int _ _)) rfl rfl) ?_
        refine ops_nil ?_
        refine W_seq ?_
        refine W_region ?_
        refine ops_v (v_assign (v := _) rfl rfl) ?_
        refine ops_nil ?_
        refine W_seq ?_
        refine W_seq ?_
        refine W_region ?_
        refine ops_v (v_move (v := (.int _ _)) rfl rfl) ?_
        refine ops_v (v_eql false rfl rfl rfl (decide_eq_false (by first | omega | (simp only; omega) | rfl | decide))) ?_
        refine ops_nil ?_
        refine W_if_f rfl ?_
        refine W_skip ?_
        refine W_seq ?_
        refine W_region ?_
        refine ops_v (v_move (v := (.pointer _)) rfl rfl) ?_
        refine ops_v (v_move (v := (.int _ _)) rfl rfl) ?_
        refine ops_v (v_move (v := (.int _ _)) rfl rfl) ?_
        refine ops_call rfl c33 (FnC.ro 0 rfl H (fun _ => Eval_ok m3.wf a k)) ?_
        clear H; rintro _ w ⟨rfl, H⟩
        refine ops_v (v_move (v := (.int _ _)) rfl rfl) ?_
        refine ops_v (v_neq false rfl rfl rfl (decide_eq_false (by first | omega | (simp only; omega) | rfl | decide))) ?_
        refine ops_v (v_move (v := (.bool _)) rfl rfl) ?_
        refine ops_v (v_move (v := (.pointer _)) rfl rfl) ?_
        refine ops_v (v_move (v := (.int _ _)) rfl rfl) ?_
        refine ops_v (v_move (v := (.int _ _)) rfl rfl) ?_
        refine ops_call rfl c33 (FnC.ro 0 rfl H (fun _ => Eval_ok m3.wf b k)) ?_
        clear H; rintro _ w ⟨rfl, H⟩
        refine ops_v (v_move (v := (.int _ _)) rfl rfl) ?_
        refine ops_v (v_neq false rfl rfl rfl (decide_eq_false (by first | omega | (simp only; omega) | rfl | decide))) ?_
        refine ops_v (v_pick_f (v := (.bool _)) rfl rfl rfl) ?_
        refine ops_v (v_move (v := (.bool _)) rfl rfl) ?_
        refine ops_v (v_move (v := (.pointer _)) rfl rfl) ?_
        refine ops_v (v_move (v := (.int _ _)) rfl rfl) ?_
        refine ops_v (v_move (v := (.int _ _)) rfl rfl) ?_
        refine ops_call rfl c33 (FnC.ro 0 rfl H (fun _ => Eval_ok m3.wf c k)) ?_
        clear H; rintro _ w ⟨rfl, H⟩
        refine ops_v (v_move (v := (.int _ _)) rfl rfl) ?_
        refine ops_v (v_move (v := (.int _ _)) rfl rfl) ?_
        refine ops_v (v_move (v := (.int _ _)) rfl rfl) ?_
        refine ops_call rfl c61 (href any _ _ H) ?_
        clear H; rintro _ w ⟨rfl, H⟩
        refine ops_v (v_neq false rfl rfl rfl (decide_eq_false (by first | omega | (simp only; omega) | rfl | decide))) ?_
        refine ops_v (v_pick_f (v := (.bool _)) rfl rfl rfl) ?_
        refine ops_nil ?_
        refine W_if_f rfl ?_
        refine W_skip ?_
        refine W_region ?_
        refine ops_v (v_move (v := (.int _ _)) rfl rfl) ?_
        refine ops_v (v_add _ rfl rfl rfl (wrap_in (by omega) (by omega))) ?_
        refine ops_v (v_assign (v := (.int _ _)) rfl rfl) ?_
        refine ops_nil ?_
        exact ⟨k + 1, by omega, ⟨rfl, rfl, rfl, rfl, rfl, rfl, rfl, rfl, rfl, trivial⟩, H, hlt⟩
        -- (backstaylaw16.LimitTells: loopend; chunks S; ptr )
    · refine W_seq ?_
      refine W_seq ?_
      refine W_region ?_
      refine ops_v (v_move (v := (.int _ _)) rfl rfl) ?_
      refine ops_v (v_move (v := (.int _ _)) rfl rfl) ?_
      refine ops_v (v_shl (2 ^ n.toNat) rfl rfl rfl lo (shl1 _ (by omega))) ?_
      refine ops_v (v_lss false rfl rfl rfl (decide_eq_false (by first | omega | (simp only; omega) | rfl | decide))) ?_
      refine ops_nil ?_
      refine W_if_f rfl ?_
      refine W_exit ?_
      refine W_seq ?_
      refine W_region ?_
      refine ops_v (v_assign (v := _) rfl rfl) ?_
      refine ops_nil ?_
      refine W_ret ?_
      refine ⟨_, (.tmp (v := (.bool _)) rfl .nil), ?_⟩
      exact ⟨rfl, _, H⟩
      -- (backstaylaw16.LimitTells: ret; chunks S; ptr )
theorem walk (W : World) (links : Int) (i1 : i64 links) (v : Value) (l : List R4) (hr : RawIs W v l) (id' : Int) (i2 : i64 id') (most : Int) (i3 : i64 most) (any : Int) (i4 : i64 any) :
    FnC Try.prog 17 [int links, v, int id', int most, int any] W (fun v w' => v = .bool true ∧ Base W w') :=
  (law_ok (Own.start W) links id' most any i1 i2 i3 i4 v l hr).mono (fun _ _ ⟨a, _, H⟩ => ⟨a, H.base⟩)
theorem own : ownKnob Try.prog.godebug = none := by kernel_rfl
set_option maxRecDepth 100000 in
theorem lifted (os : Os) (started : os.Started) (H : Type) (enc : TypeId × Value → H) :
    ReturnsInHanded {} Try.checked os 17 .any (Rows.limitTellsSpec.pre6 enc Try.prog Try.f17 Rows.limitTellsRow.domain false) (Rows.limitTellsSpec.post enc Try.prog Try.f17 false true false false) := by
  refine returnsInHanded_of_change (C := Try.checked) own started (by kernel_rfl) Try.func17
    (ChangeSpec.witness6 (enc := enc) (C := Try.checked) false ⟨#[], #[.int .i64 0, .slice none 0 0, .int .i64 0, .int .i64 0, .int .i64 0], []⟩ 8 (by kernel_rfl) (by kernel_rfl) (by kernel_rfl) (by kernel_rfl)) ?_
  intro W base args ds gs before hval0 hW hcnd _
  have hval : ∀ (j : Nat) t v, Try.f17.params[j]? = some t → args[j]? = some v → Value.okWide Try.prog W .any base t v := hval0
  have hW' := hW
  obtain ⟨p, q, hA0, hV, rfl, hfz, hnd⟩ := hW
  have hA : DataW.TrodAll enc Try.prog W 0 (fun _ => true) true Try.f17.params.toList args.toList ds p := hA0
  rw [Try.params17] at hA hval
  obtain ⟨v0, vs0, d0, ds0, p0, q0, hargs, rfl, rfl, h0, r0⟩ := trodAll_cons hA
  obtain ⟨v1, vs1, d1, ds1, p1, q1, rfl, rfl, rfl, h1, r1⟩ := trodAll_cons r0
  obtain ⟨v2, vs2, d2, ds2, p2, q2, rfl, rfl, rfl, h2, r2⟩ := trodAll_cons r1
  obtain ⟨v3, vs3, d3, ds3, p3, q3, rfl, rfl, rfl, h3, r3⟩ := trodAll_cons r2
  obtain ⟨v4, vs4, d4, ds4, p4, q4, rfl, rfl, rfl, h4, r4⟩ := trodAll_cons r3
  obtain ⟨rfl, rfl, rfl⟩ := trodAll_nil r4
  obtain rfl : args = #[v0, v1, v2, v3, v4] := by cases args; simp_all
  obtain ⟨rfl, rfl⟩ := trodVars_none hV
  obtain ⟨a0, rfl, rfl, rfl, x0⟩ := open_int Try.underlying3 (hval 0 3 v0 rfl rfl) h0
  have k1 := h1
  have lt1 : ∀ x ∈ p1, x.block < W.heap.size := by obtain ⟨m, hm⟩ := k1; exact DataW.trod_lt m _ _ _ hm
  obtain ⟨l1, w1⟩ := raw_of_trod h1 (okWide_slice Try.underlying22 (hval 1 22 v1 rfl rfl))
  obtain ⟨a2, rfl, rfl, rfl, x2⟩ := open_int Try.underlying3 (hval 2 3 v2 rfl rfl) h2
  obtain ⟨a3, rfl, rfl, rfl, x3⟩ := open_int Try.underlying3 (hval 3 3 v3 rfl rfl) h3
  obtain ⟨a4, rfl, rfl, rfl, x4⟩ := open_int Try.underlying3 (hval 4 3 v4 rfl rfl) h4
  clear hA0 hval0
  refine Calls.mono (walk W a0 (bounds_i64 x0) v1 l1 w1 a2 (bounds_i64 x2) a3 (bounds_i64 x3) a4 (bounds_i64 x4)) ?_
  rintro e W' ⟨_, rfl, rfl, hb⟩
  have bel := hb.below
  exact ⟨_, rfl, _, _, _, [], _, [], hW', trodAll_mk1 (shut_bool Try.underlying4 _), (trodAll_cons_mk (shut_int Try.underlying3 x0) (trodAll_cons_mk (Below.trod laidOut (by kernel_rfl) (of_decide_eq_true (by kernel_rfl)) k1 bel lt1) (trodAll_cons_mk (shut_int Try.underlying3 x2) (trodAll_cons_mk (shut_int Try.underlying3 x3) (trodAll_cons_mk (shut_int Try.underlying3 x4) trodAll_mk0))))), rfl, bel.frame _, fun h => by cases h⟩
theorem closed : joinedFacts Try.prog 17 Try.f17 Rows.limitTellsSpec Rows.limitTellsRow = true := Go.Proofs.Ytchikjmhncojfaa.Head.joined (by kernel_rfl) rfl rfl (by kernel_rfl) (by kernel_rfl) (by kernel_rfl) (by kernel_rfl)
theorem over : Rows.limitTellsRow.holds Try.pinned (OpenSpec.ofChange Rows.limitTellsSpec) :=
  OpenClaim.holds_of_wide 17 Try.f17 rfl rfl rfl rfl rfl rfl rfl ⟨rfl, rfl, rfl, rfl, rfl⟩ rfl rfl rfl rfl rfl (by kernel_rfl) Try.func17 closed
    (of_decide_eq_true (by kernel_rfl)) (by unfold Func.isWrapper; first | (rw [if_pos (by decide +kernel)]; kernel_rfl) | (rw [if_neg (by decide +kernel)]; exact ⟨rfl, rfl⟩))
    (fun os started H enc _ => lifted os started H enc)
/-- The statement. -/
theorem proved : Rows.LimitTellsSaid := over
end Go.Proofs.Ytchikjmhncojfaa.limitTells
