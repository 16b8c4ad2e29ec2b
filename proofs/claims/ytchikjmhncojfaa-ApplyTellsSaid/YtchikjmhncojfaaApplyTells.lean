/- ApplyTells of layer 14: what operators make of diagrams is, set by set, what they make of numbers. Conditions: none. -/
import Derived.Test.YtchikjmhncojfaaLaw14
import Derived.Test.YtchikjmhncojfaaOrderM
import Derived.Test.YtchikjmhncojfaaHead
import Derived.ProofKit
import Derived.OpenShut
set_option linter.unusedVariables false
namespace Go.Proofs.Ytchikjmhncojfaa.applyTells
open Go Go.Proofs Go.RowKit Go.ChangeShapes Go.WideShapes Go.ChangeAt Go.Proofs.Ytchikjmhncojfaa.W
open Go.Proofs.Ytchikjmhncojfaa.M (Br St get getZ isN idx has down Wf rank i64 leafB askB R4 MadeOk Lifts Ext opF oneF twoF Tells Room6)
variable {w wb : World} {R : List Chunk}
set_option maxHeartbeats 2000000 in
theorem law_ok (H : Own wb R w) (links op one two three : Int) (i1 : i64 links) (i2 : i64 op) (i3 : i64 one) (i4 : i64 two) (i5 : i64 three) (v : Value) (l : List R4) (hr : RawIs wb v l) :
    FnC Try.prog 10 [int links, v, int op, int one, int two, int three] w (fun u w' => u = .bool true ∧ ∃ R', Own wb R' w') := by
  have lo := M.pick_lo (c := links) (n := 7) (by decide)
  have hi := M.pick_hi (c := links) (n := 7) (by decide)
  obtain ⟨rp, rcap, hv, _⟩ := id hr
  subst hv
  generalize hn : M.pick links 7 = n at lo hi
  refine FnC_of Try.func10 rfl rfl rfl rfl ?_
  refine W_seq ?_
  refine W_region ?_
  refine ops_v (v_assign (v := _) rfl rfl) ?_
  refine ops_nil ?_
  refine W_seq ?_
  refine W_region ?_
  refine ops_call rfl c40 (awake14_ok H) ?_
  clear H; rintro _ w ⟨rfl, H⟩
  refine ops_v (v_assign (v := (.bool _)) rfl rfl) ?_
  refine ops_nil ?_
  refine W_seq ?_
  refine W_region ?_
  refine ops_v (v_move (v := (.int _ _)) rfl rfl) ?_
  refine ops_call rfl c41 (pick14_ok H links 7 i1 (by decide)) ?_
  clear H; rintro _ w ⟨rfl, H⟩
  rw [hn]
  refine ops_v (v_assign (v := (.int _ _)) rfl rfl) ?_
  refine ops_nil ?_
  refine W_seq ?_
  refine W_region ?_
  refine ops_v (v_move (v := (.int _ _)) rfl rfl) ?_
  refine ops_v (v_move (v := (.slice _ _ _)) rfl rfl) ?_
  refine ops_call rfl c37 (Made_ok H n lo (by omega) _ l hr) ?_
  clear H; rintro _ w ⟨p, st, q, cap, ids, rfl, hm, H⟩
  refine ops_v (v_move (v := (.tuple _)) rfl rfl) ?_
  refine ops_v (v_extract (v := (.pointer _)) rfl rfl rfl) ?_
  refine ops_v (v_extract (v := (.slice _ _ _)) rfl rfl rfl) ?_
  refine ops_v (v_assign (v := (.pointer _)) rfl rfl) ?_
  refine ops_v (v_assign (v := (.slice _ _ _)) rfl rfl) ?_
  refine ops_nil ?_
  refine W_seq ?_
  -- (backstaylaw14.ApplyTells: until; chunks s,S; ptr )
  rcases Nat.eq_zero_or_pos ids.length with h0 | h0
  · have h0' : (ids.length : Int) = 0 := by omega
    refine W_region ?_
    refine ops_call rfl c42 (CNew_ok opF st H) ?_
    clear H; rintro _ w ⟨c, rfl, H⟩
    refine ops_v (v_assign (v := (.pointer _)) rfl rfl) ?_
    refine ops_nil ?_
    refine W_seq ?_
    refine W_seq ?_
    refine W_region ?_
    refine ops_v (v_move (v := (.slice _ _ _)) rfl rfl) ?_
    refine ops_v (v_len rfl sl40 rfl) ?_
    refine ops_v (v_eql true rfl rfl rfl (decide_eq_true (by first | omega | (simp only; omega) | rfl | decide))) ?_
    refine ops_nil ?_
    refine W_if_t rfl ?_
    refine W_seq ?_
    refine W_region ?_
    refine ops_v (v_move (v := (.bool _)) rfl rfl) ?_
    refine ops_v (v_assign (v := (.bool _)) rfl rfl) ?_
    refine ops_nil ?_
    refine W_ret ?_
    refine ⟨_, (.tmp (v := (.bool _)) rfl .nil), ?_⟩
    exact ⟨rfl, _, H⟩
    -- (backstaylaw14.ApplyTells: ret; chunks C,s,S; ptr )
  · have h0' : (0 : Int) < (ids.length : Int) := by omega
    have h0'' : ¬ ((ids.length : Int) = 0) := by omega
    obtain ⟨g, rfl⟩ := H.slSome 0 rfl h0
    have getI : ∀ c : Int, ∃ a, ids[(M.pick c ids.length).toNat]? = some a := fun c => ⟨ids[(M.pick c ids.length).toNat]'(by have := M.pick_hi (c := c) h0'; have := M.pick_lo (c := c) h0'; omega), by simp⟩
    obtain ⟨a, ha⟩ := getI one
    obtain ⟨b, hb⟩ := getI two
    obtain ⟨d, hd⟩ := getI three
    have ha' : (ints ids)[0 + (M.pick one ids.length).toNat * 1]? = some (.int .i64 a) := by rw [Nat.zero_add, Nat.mul_one]; simp [ints, ha]
    have hb' : (ints ids)[0 + (M.pick two ids.length).toNat * 1]? = some (.int .i64 b) := by rw [Nat.zero_add, Nat.mul_one]; simp [ints, hb]
    have hd' : (ints ids)[0 + (M.pick three ids.length).toNat * 1]? = some (.int .i64 d) := by rw [Nat.zero_add, Nat.mul_one]; simp [ints, hd]
    have a1 := M.pick_lo (c := one) h0'
    have a2 := M.pick_hi (c := one) h0'
    have b1 := M.pick_lo (c := two) h0'
    have b2 := M.pick_hi (c := two) h0'
    have d1 := M.pick_lo (c := three) h0'
    have d2 := M.pick_hi (c := three) h0'
    have o1 := M.pick_lo (c := op) (n := 2) (by decide)
    have o2 := M.pick_hi (c := op) (n := 2) (by decide)
    have p1 := M.pick_lo (c := op) (n := 6) (by decide)
    have p2 := M.pick_hi (c := op) (n := 6) (by decide)
    have r1 := M.pick_lo (c := three) (n := 9) (by decide)
    have r2 := M.pick_hi (c := three) (n := 9) (by decide)
    have s1' := M.pick_lo (c := two) (n := 9) (by decide)
    have s2' := M.pick_hi (c := two) (n := 9) (by decide)
    have ho : 1 + M.pick op 2 = 1 ∨ 1 + M.pick op 2 = 2 := by omega
    have hp : 3 ≤ 3 + M.pick op 6 ∧ 3 + M.pick op 6 ≤ 8 := by omega
    have hN : (2 : Int) ^ n.toNat ≤ 64 := by
      have : n.toNat ≤ 6 := by omega
      have : (2 : Nat) ^ n.toNat ≤ 2 ^ 6 := Nat.pow_le_pow_right (by decide) this
      have : ((2 ^ n.toNat : Nat) : Int) = (2 : Int) ^ n.toNat := by push_cast; rfl
      omega
    have cast2 : ((2 ^ n.toNat : Nat) : Int) = (2 : Int) ^ n.toNat := by push_cast; rfl
    -- what is made
    have ta : Tells st a _ := .of (hm.nodes a (List.mem_of_getElem? ha))
    have tb : Tells st b _ := .of (hm.nodes b (List.mem_of_getElem? hb))
    have td : Tells st d _ := .of (hm.nodes d (List.mem_of_getElem? hd))
    have m0 : Room6 st 40 := ⟨hm.wf, by have := hm.links; omega, hm.most, hm.few⟩
    obtain ⟨s1, x, L1, x1, m1, t1⟩ := M.lift_room (opF (1 + M.pick op 2)) m0 (by decide) ta ta ta
    have ta1 := ta.ext m0.wf x1 m1.wf
    have tb1 := tb.ext m0.wf x1 m1.wf
    have td1 := td.ext m0.wf x1 m1.wf
    obtain ⟨s2, y, L2, x2, m2, t2⟩ := M.lift_room (opF (3 + M.pick op 6)) m1 (by decide) ta1 tb1 tb1
    have ta2 := ta1.ext m1.wf x2 m2.wf
    have tb2 := tb1.ext m1.wf x2 m2.wf
    have td2 := td1.ext m1.wf x2 m2.wf
    obtain ⟨s3, z, L3, x3, m3, t3⟩ := M.lift_room (opF 100) m2 (by decide) ta2 tb2 td2
    have ta3 := ta2.ext m2.wf x3 m3.wf
    have tb3 := tb2.ext m2.wf x3 m3.wf
    have td3 := td2.ext m2.wf x3 m3.wf
    have tx3 := (t1.ext m1.wf x2 m2.wf).ext m2.wf x3 m3.wf
    have ty3 := t2.ext m2.wf x3 m3.wf
    have hx : ∀ F : Nat, M.eval s3 x F = oneF (1 + M.pick op 2) (M.eval s3 a F) := fun F => by rw [tx3.eval, ta3.eval, M.opF_one ho]
    have hy : ∀ F : Nat, M.eval s3 y F = twoF (3 + M.pick op 6) (M.eval s3 a F) (M.eval s3 b F) := fun F => by rw [ty3.eval, ta3.eval, tb3.eval, M.opF_two hp]
    have hz : ∀ F : Nat, M.eval s3 z F = if M.eval s3 a F ≠ 0 then M.eval s3 b F else M.eval s3 d F := fun F => by rw [t3.eval, ta3.eval, tb3.eval, td3.eval, M.opF_choose]; rfl
    have ia := ta.here
    have ib := tb.here
    have id' := td.here
    have l3 := m3.len
    refine W_region ?_
    refine ops_call rfl c42 (CNew_ok opF st H) ?_
    clear H; rintro _ w ⟨c, rfl, H⟩
    have H := H.rot3
    refine ops_v (v_assign (v := (.pointer _)) rfl rfl) ?_
    refine ops_nil ?_
    refine W_seq ?_
    refine W_seq ?_
    refine W_region ?_
    refine ops_v (v_move (v := (.slice _ _ _)) rfl rfl) ?_
    refine ops_v (v_len rfl sl40 rfl) ?_
    refine ops_v (v_eql false rfl rfl rfl (decide_eq_false (by first | omega | (simp only; omega) | rfl | decide))) ?_
    refine ops_nil ?_
    refine W_if_f rfl ?_
    refine W_skip ?_
    refine W_seq ?_
    refine W_region ?_
    refine ops_v (v_move (v := (.slice _ _ _)) rfl rfl) ?_
    refine ops_v (v_move (v := (.int _ _)) rfl rfl) ?_
    refine ops_v (v_move (v := (.slice _ _ _)) rfl rfl) ?_
    refine ops_v (v_len rfl sl40 rfl) ?_
    refine ops_call rfl c41 (pick14_ok H one ids.length i3 h0') ?_
    clear H; rintro _ w ⟨rfl, H⟩
    refine ops_v (v_indexAddr_sl rfl se40 rfl rfl (by omega) (by omega)) ?_
    refine ops_loadSl (v := .int .i64 a) 0 H rfl tc3 rfl rfl ha' ?_
    refine ops_v (v_assign (v := (.int _ _)) rfl rfl) ?_
    refine ops_nil ?_
    refine W_seq ?_
    refine W_region ?_
    refine ops_v (v_move (v := (.slice _ _ _)) rfl rfl) ?_
    refine ops_v (v_move (v := (.int _ _)) rfl rfl) ?_
    refine ops_v (v_move (v := (.slice _ _ _)) rfl rfl) ?_
    refine ops_v (v_len rfl sl40 rfl) ?_
    refine ops_call rfl c41 (pick14_ok H two ids.length i4 h0') ?_
    clear H; rintro _ w ⟨rfl, H⟩
    refine ops_v (v_indexAddr_sl rfl se40 rfl rfl (by omega) (by omega)) ?_
    refine ops_loadSl (v := .int .i64 b) 0 H rfl tc3 rfl rfl hb' ?_
    refine ops_v (v_assign (v := (.int _ _)) rfl rfl) ?_
    refine ops_nil ?_
    refine W_seq ?_
    refine W_region ?_
    refine ops_v (v_move (v := (.slice _ _ _)) rfl rfl) ?_
    refine ops_v (v_move (v := (.int _ _)) rfl rfl) ?_
    refine ops_v (v_move (v := (.slice _ _ _)) rfl rfl) ?_
    refine ops_v (v_len rfl sl40 rfl) ?_
    refine ops_call rfl c41 (pick14_ok H three ids.length i5 h0') ?_
    clear H; rintro _ w ⟨rfl, H⟩
    refine ops_v (v_indexAddr_sl rfl se40 rfl rfl (by omega) (by omega)) ?_
    refine ops_loadSl (v := .int .i64 d) 0 H rfl tc3 rfl rfl hd' ?_
    refine ops_v (v_assign (v := (.int _ _)) rfl rfl) ?_
    refine ops_nil ?_
    refine W_seq ?_
    refine W_region ?_
    refine ops_v (v_move (v := (.int _ _)) rfl rfl) ?_
    refine ops_call rfl c41 (pick14_ok H op 2 i2 (by decide)) ?_
    clear H; rintro _ w ⟨rfl, H⟩
    refine ops_v (v_add _ rfl rfl rfl (wrap_in (by omega) (by omega))) ?_
    refine ops_v (v_assign (v := (.int _ _)) rfl rfl) ?_
    refine ops_nil ?_
    refine W_seq ?_
    refine W_region ?_
    refine ops_v (v_move (v := (.int _ _)) rfl rfl) ?_
    refine ops_call rfl c43 (op2_ok H op i2) ?_
    clear H; rintro _ w ⟨rfl, H⟩
    refine ops_v (v_assign (v := (.int _ _)) rfl rfl) ?_
    refine ops_nil ?_
    refine W_seq ?_
    refine W_region ?_
    refine ops_v (v_move (v := (.pointer _)) rfl rfl) ?_
    refine ops_v (v_move (v := (.pointer _)) rfl rfl) ?_
    refine ops_v (v_move (v := (.int _ _)) rfl rfl) ?_
    refine ops_v (v_move (v := (.int _ _)) rfl rfl) ?_
    refine ops_call rfl c44 (FnC.mid (A := [_]) (B := [_, _]) (B' := [_, _]) H (fun _ H => One_ok L1 ho m0.wf ia H)) ?_
    clear H; rintro _ w ⟨rfl, H⟩
    simp only [List.cons_append, List.nil_append] at H
    refine ops_v (v_move (v := (.tuple _)) rfl rfl) ?_
    refine ops_v (v_extract (v := (.int _ _)) rfl rfl rfl) ?_
    refine ops_v (v_extract (v := (.int _ _)) rfl rfl rfl) ?_
    refine ops_v (v_assign (v := (.int _ _)) rfl rfl) ?_
    refine ops_v (v_assign (v := (.int _ _)) rfl rfl) ?_
    refine ops_nil ?_
    refine W_seq ?_
    refine W_region ?_
    refine ops_v (v_move (v := (.pointer _)) rfl rfl) ?_
    refine ops_v (v_move (v := (.pointer _)) rfl rfl) ?_
    refine ops_v (v_move (v := (.int _ _)) rfl rfl) ?_
    refine ops_v (v_move (v := (.int _ _)) rfl rfl) ?_
    refine ops_v (v_move (v := (.int _ _)) rfl rfl) ?_
    refine ops_call rfl c45 (FnC.mid (A := [_]) (B := [_, _]) (B' := [_, _]) H (fun _ H => Two_ok L2 hp m1.wf ta1.here tb1.here H)) ?_
    clear H; rintro _ w ⟨rfl, H⟩
    simp only [List.cons_append, List.nil_append] at H
    refine ops_v (v_move (v := (.tuple _)) rfl rfl) ?_
    refine ops_v (v_extract (v := (.int _ _)) rfl rfl rfl) ?_
    refine ops_v (v_extract (v := (.int _ _)) rfl rfl rfl) ?_
    refine ops_v (v_assign (v := (.int _ _)) rfl rfl) ?_
    refine ops_v (v_assign (v := (.int _ _)) rfl rfl) ?_
    refine ops_nil ?_
    refine W_seq ?_
    refine W_region ?_
    refine ops_v (v_move (v := (.pointer _)) rfl rfl) ?_
    refine ops_v (v_move (v := (.pointer _)) rfl rfl) ?_
    refine ops_v (v_move (v := (.int _ _)) rfl rfl) ?_
    refine ops_v (v_move (v := (.int _ _)) rfl rfl) ?_
    refine ops_v (v_move (v := (.int _ _)) rfl rfl) ?_
    refine ops_call rfl c46 (FnC.mid (A := [_]) (B := [_, _]) (B' := [_, _]) H (fun _ H => Choose_ok L3 m2.wf ta2.here tb2.here td2.here H)) ?_
    clear H; rintro _ w ⟨rfl, H⟩
    simp only [List.cons_append, List.nil_append] at H
    refine ops_v (v_move (v := (.tuple _)) rfl rfl) ?_
    refine ops_v (v_extract (v := (.int _ _)) rfl rfl rfl) ?_
    refine ops_v (v_extract (v := (.int _ _)) rfl rfl rfl) ?_
    refine ops_v (v_assign (v := (.int _ _)) rfl rfl) ?_
    refine ops_v (v_assign (v := (.int _ _)) rfl rfl) ?_
    refine ops_nil ?_
    refine W_seq ?_
    refine W_seq ?_
    refine W_region ?_
    refine ops_v (v_move (v := (.bool _)) rfl rfl) ?_
    refine ops_v (v_not rfl rfl _ rfl) ?_
    refine ops_v (v_move (v := (.bool _)) rfl rfl) ?_
    refine ops_v (v_move (v := (.int _ _)) rfl rfl) ?_
    refine ops_v (v_neq false rfl rfl rfl (decide_eq_false (by first | omega | (simp only; omega) | rfl | decide))) ?_
    refine ops_v (v_pick_f (v := (.bool _)) rfl rfl rfl) ?_
    refine ops_v (v_move (v := (.bool _)) rfl rfl) ?_
    refine ops_v (v_move (v := (.int _ _)) rfl rfl) ?_
    refine ops_v (v_neq false rfl rfl rfl (decide_eq_false (by first | omega | (simp only; omega) | rfl | decide))) ?_
    refine ops_v (v_pick_f (v := (.bool _)) rfl rfl rfl) ?_
    refine ops_v (v_move (v := (.bool _)) rfl rfl) ?_
    refine ops_v (v_move (v := (.int _ _)) rfl rfl) ?_
    refine ops_v (v_neq false rfl rfl rfl (decide_eq_false (by first | omega | (simp only; omega) | rfl | decide))) ?_
    refine ops_v (v_pick_f (v := (.bool _)) rfl rfl rfl) ?_
    refine ops_nil ?_
    refine W_if_f rfl ?_
    refine W_skip ?_
    refine W_seq ?_
    refine W_seq ?_
    refine W_region ?_
    refine ops_v (v_assign (v := _) rfl rfl) ?_
    refine ops_nil ?_
    refine W_block ?_
    -- (backstaylaw14.ApplyTells: loop; chunks s,S,C; ptr )
    have H := H.tail
    refine W_loopS (fun (k : Nat) => [(2, int op), (4, int two), (5, int three), (14, int n), (15, ptr p), (17, xptr (some c)), (18, int a), (19, int b), (20, int d), (21, int (1 + M.pick op 2)), (22, int (3 + M.pick op 6)), (23, int x), (25, int y), (27, int z), (29, .int .i64 k)])
      (fun k w => Own wb (StoreC p s3 :: CacheX opF (some c) s3 :: R) w ∧ k ≤ 2 ^ n.toNat)
      (fun k => 2 ^ n.toNat - k) 0 ⟨rfl, rfl, rfl, rfl, rfl, rfl, rfl, rfl, rfl, rfl, rfl, rfl, rfl, rfl, rfl, trivial⟩ ⟨H, Nat.zero_le _⟩ ?_
    clear H
    rintro k e w ⟨H, hle⟩
    by_cases hk : (k : Int) < 2 ^ n.toNat
    · have hk64 : (k : Int) < 64 := by omega
      have hlt : k < 2 ^ n.toNat := by omega
      have hx := hx k
      have hy := hy k
      have hz := hz k
      by_cases hu : M.eval s3 a k = 0
      · rw [if_neg (by simp [hu])] at hz
        refine W_seq ?_
        refine W_seq ?_
        refine W_region ?_
        refine ops_v (v_move (v := (.int _ _)) rfl rfl) ?_
        refine ops_v (v_move (v := (.int _ _)) rfl rfl) ?_
        refine ops_v (v_shl (2 ^ n.toNat) rfl rfl rfl lo (shl1 _ (by omega))) ?_
        refine ops_v (v_lss true rfl rfl rfl (decide_eq_true (by first | omega | (simp only; omega) | rfl | decide))) ?_
        refine ops_nil ?_
        refine W_if_t rfl ?_
        refine W_skip ?_
        refine W_seq ?_
        refine W_block ?_
        refine W_seq ?_
        refine W_region ?_
        refine ops_v (v_move (v := (.pointer _)) rfl rfl) ?_
        refine ops_v (v_move (v := (.int _ _)) rfl rfl) ?_
        refine ops_v (v_move (v := (.int _ _)) rfl rfl) ?_
        refine ops_call rfl c33 (FnC.ro 0 rfl H (fun _ => Eval_ok m3.wf a k)) ?_
        clear H; rintro _ w ⟨rfl, H⟩
        refine ops_v (v_assign (v := (.int _ _)) rfl rfl) ?_
        refine ops_nil ?_
        refine W_seq ?_
        refine W_region ?_
        refine ops_v (v_move (v := (.pointer _)) rfl rfl) ?_
        refine ops_v (v_move (v := (.int _ _)) rfl rfl) ?_
        refine ops_v (v_move (v := (.int _ _)) rfl rfl) ?_
        refine ops_call rfl c33 (FnC.ro 0 rfl H (fun _ => Eval_ok m3.wf b k)) ?_
        clear H; rintro _ w ⟨rfl, H⟩
        refine ops_v (v_assign (v := (.int _ _)) rfl rfl) ?_
        refine ops_nil ?_
        refine W_seq ?_
        refine W_region ?_
        refine ops_v (v_move (v := (.pointer _)) rfl rfl) ?_
        refine ops_v (v_move (v := (.int _ _)) rfl rfl) ?_
        refine ops_v (v_move (v := (.int _ _)) rfl rfl) ?_
        refine ops_call rfl c33 (FnC.ro 0 rfl H (fun _ => Eval_ok m3.wf d k)) ?_
        clear H; rintro _ w ⟨rfl, H⟩
        refine ops_v (v_assign (v := (.int _ _)) rfl rfl) ?_
        refine ops_nil ?_
        refine W_seq ?_
        refine W_seq ?_
        refine W_region ?_
        refine ops_v (v_move (v := (.int _ _)) rfl rfl) ?_
        refine ops_v (v_neq false rfl rfl rfl (decide_eq_false (by first | omega | (simp only; omega) | rfl | decide))) ?_
        refine ops_nil ?_
        refine W_if_f rfl ?_
        refine W_skip ?_
        refine W_seq ?_
        refine W_region ?_
        refine ops_v (v_move (v := (.pointer _)) rfl rfl) ?_
        refine ops_v (v_move (v := (.int _ _)) rfl rfl) ?_
        refine ops_v (v_move (v := (.int _ _)) rfl rfl) ?_
        refine ops_call rfl c33 (FnC.ro 0 rfl H (fun _ => Eval_ok m3.wf x k)) ?_
        clear H; rintro _ w ⟨rfl, H⟩
        refine ops_v (v_move (v := (.int _ _)) rfl rfl) ?_
        refine ops_v (v_move (v := (.int _ _)) rfl rfl) ?_
        refine ops_call rfl c47 (refOne_ok _ _ H) ?_
        clear H; rintro _ w ⟨rfl, H⟩
        refine ops_v (v_neq false rfl rfl rfl (decide_eq_false (by first | omega | (simp only; omega) | rfl | decide))) ?_
        refine ops_v (v_move (v := (.bool _)) rfl rfl) ?_
        refine ops_v (v_move (v := (.pointer _)) rfl rfl) ?_
        refine ops_v (v_move (v := (.int _ _)) rfl rfl) ?_
        refine ops_v (v_move (v := (.int _ _)) rfl rfl) ?_
        refine ops_call rfl c33 (FnC.ro 0 rfl H (fun _ => Eval_ok m3.wf y k)) ?_
        clear H; rintro _ w ⟨rfl, H⟩
        refine ops_v (v_move (v := (.int _ _)) rfl rfl) ?_
        refine ops_v (v_move (v := (.int _ _)) rfl rfl) ?_
        refine ops_v (v_move (v := (.int _ _)) rfl rfl) ?_
        refine ops_call rfl c48 (refTwo_ok _ _ _ hp H) ?_
        clear H; rintro _ w ⟨rfl, H⟩
        refine ops_v (v_neq false rfl rfl rfl (decide_eq_false (by first | omega | (simp only; omega) | rfl | decide))) ?_
        refine ops_v (v_pick_f (v := (.bool _)) rfl rfl rfl) ?_
        refine ops_v (v_move (v := (.bool _)) rfl rfl) ?_
        refine ops_v (v_move (v := (.pointer _)) rfl rfl) ?_
        refine ops_v (v_move (v := (.int _ _)) rfl rfl) ?_
        refine ops_v (v_move (v := (.int _ _)) rfl rfl) ?_
        refine ops_call rfl c33 (FnC.ro 0 rfl H (fun _ => Eval_ok m3.wf z k)) ?_
        clear H; rintro _ w ⟨rfl, H⟩
        refine ops_v (v_move (v := (.int _ _)) rfl rfl) ?_
        refine ops_v (v_neq false rfl rfl rfl (decide_eq_false (by first | omega | (simp only; omega) | rfl | decide))) ?_
        refine ops_v (v_pick_f (v := (.bool _)) rfl rfl rfl) ?_
        refine ops_nil ?_
        refine W_if_f rfl ?_
        refine W_skip ?_
        refine W_region ?_
        refine ops_v (v_move (v := (.int _ _)) rfl rfl) ?_
        refine ops_v (v_add _ rfl rfl rfl (wrap_in (by omega) (by omega))) ?_
        refine ops_v (v_assign (v := (.int _ _)) rfl rfl) ?_
        refine ops_nil ?_
        exact ⟨k + 1, by omega, ⟨rfl, rfl, rfl, rfl, rfl, rfl, rfl, rfl, rfl, rfl, rfl, rfl, rfl, rfl, rfl, trivial⟩, H, hlt⟩
        -- (backstaylaw14.ApplyTells: loopend; chunks S,C; ptr )
      · rw [if_pos (by simpa using hu)] at hz
        refine W_seq ?_
        refine W_seq ?_
        refine W_region ?_
        refine ops_v (v_move (v := (.int _ _)) rfl rfl) ?_
        refine ops_v (v_move (v := (.int _ _)) rfl rfl) ?_
        refine ops_v (v_shl (2 ^ n.toNat) rfl rfl rfl lo (shl1 _ (by omega))) ?_
        refine ops_v (v_lss true rfl rfl rfl (decide_eq_true (by first | omega | (simp only; omega) | rfl | decide))) ?_
        refine ops_nil ?_
        refine W_if_t rfl ?_
        refine W_skip ?_
        refine W_seq ?_
        refine W_block ?_
        refine W_seq ?_
        refine W_region ?_
        refine ops_v (v_move (v := (.pointer _)) rfl rfl) ?_
        refine ops_v (v_move (v := (.int _ _)) rfl rfl) ?_
        refine ops_v (v_move (v := (.int _ _)) rfl rfl) ?_
        refine ops_call rfl c33 (FnC.ro 0 rfl H (fun _ => Eval_ok m3.wf a k)) ?_
        clear H; rintro _ w ⟨rfl, H⟩
        refine ops_v (v_assign (v := (.int _ _)) rfl rfl) ?_
        refine ops_nil ?_
        refine W_seq ?_
        refine W_region ?_
        refine ops_v (v_move (v := (.pointer _)) rfl rfl) ?_
        refine ops_v (v_move (v := (.int _ _)) rfl rfl) ?_
        refine ops_v (v_move (v := (.int _ _)) rfl rfl) ?_
        refine ops_call rfl c33 (FnC.ro 0 rfl H (fun _ => Eval_ok m3.wf b k)) ?_
        clear H; rintro _ w ⟨rfl, H⟩
        refine ops_v (v_assign (v := (.int _ _)) rfl rfl) ?_
        refine ops_nil ?_
        refine W_seq ?_
        refine W_region ?_
        refine ops_v (v_move (v := (.pointer _)) rfl rfl) ?_
        refine ops_v (v_move (v := (.int _ _)) rfl rfl) ?_
        refine ops_v (v_move (v := (.int _ _)) rfl rfl) ?_
        refine ops_call rfl c33 (FnC.ro 0 rfl H (fun _ => Eval_ok m3.wf d k)) ?_
        clear H; rintro _ w ⟨rfl, H⟩
        refine ops_v (v_assign (v := (.int _ _)) rfl rfl) ?_
        refine ops_nil ?_
        refine W_seq ?_
        refine W_seq ?_
        refine W_region ?_
        refine ops_v (v_move (v := (.int _ _)) rfl rfl) ?_
        refine ops_v (v_neq true rfl rfl rfl (decide_eq_true (by first | omega | (simp only; omega) | rfl | decide))) ?_
        refine ops_nil ?_
        refine W_if_t rfl ?_
        refine W_region ?_
        refine ops_v (v_move (v := (.int _ _)) rfl rfl) ?_
        refine ops_v (v_assign (v := (.int _ _)) rfl rfl) ?_
        refine ops_nil ?_
        refine W_seq ?_
        refine W_region ?_
        refine ops_v (v_move (v := (.pointer _)) rfl rfl) ?_
        refine ops_v (v_move (v := (.int _ _)) rfl rfl) ?_
        refine ops_v (v_move (v := (.int _ _)) rfl rfl) ?_
        refine ops_call rfl c33 (FnC.ro 0 rfl H (fun _ => Eval_ok m3.wf x k)) ?_
        clear H; rintro _ w ⟨rfl, H⟩
        refine ops_v (v_move (v := (.int _ _)) rfl rfl) ?_
        refine ops_v (v_move (v := (.int _ _)) rfl rfl) ?_
        refine ops_call rfl c47 (refOne_ok _ _ H) ?_
        clear H; rintro _ w ⟨rfl, H⟩
        refine ops_v (v_neq false rfl rfl rfl (decide_eq_false (by first | omega | (simp only; omega) | rfl | decide))) ?_
        refine ops_v (v_move (v := (.bool _)) rfl rfl) ?_
        refine ops_v (v_move (v := (.pointer _)) rfl rfl) ?_
        refine ops_v (v_move (v := (.int _ _)) rfl rfl) ?_
        refine ops_v (v_move (v := (.int _ _)) rfl rfl) ?_
        refine ops_call rfl c33 (FnC.ro 0 rfl H (fun _ => Eval_ok m3.wf y k)) ?_
        clear H; rintro _ w ⟨rfl, H⟩
        refine ops_v (v_move (v := (.int _ _)) rfl rfl) ?_
        refine ops_v (v_move (v := (.int _ _)) rfl rfl) ?_
        refine ops_v (v_move (v := (.int _ _)) rfl rfl) ?_
        refine ops_call rfl c48 (refTwo_ok _ _ _ hp H) ?_
        clear H; rintro _ w ⟨rfl, H⟩
        refine ops_v (v_neq false rfl rfl rfl (decide_eq_false (by first | omega | (simp only; omega) | rfl | decide))) ?_
        refine ops_v (v_pick_f (v := (.bool _)) rfl rfl rfl) ?_
        refine ops_v (v_move (v := (.bool _)) rfl rfl) ?_
        refine ops_v (v_move (v := (.pointer _)) rfl rfl) ?_
        refine ops_v (v_move (v := (.int _ _)) rfl rfl) ?_
        refine ops_v (v_move (v := (.int _ _)) rfl rfl) ?_
        refine ops_call rfl c33 (FnC.ro 0 rfl H (fun _ => Eval_ok m3.wf z k)) ?_
        clear H; rintro _ w ⟨rfl, H⟩
        refine ops_v (v_move (v := (.int _ _)) rfl rfl) ?_
        refine ops_v (v_neq false rfl rfl rfl (decide_eq_false (by first | omega | (simp only; omega) | rfl | decide))) ?_
        refine ops_v (v_pick_f (v := (.bool _)) rfl rfl rfl) ?_
        refine ops_nil ?_
        refine W_if_f rfl ?_
        refine W_skip ?_
        refine W_region ?_
        refine ops_v (v_move (v := (.int _ _)) rfl rfl) ?_
        refine ops_v (v_add _ rfl rfl rfl (wrap_in (by omega) (by omega))) ?_
        refine ops_v (v_assign (v := (.int _ _)) rfl rfl) ?_
        refine ops_nil ?_
        exact ⟨k + 1, by omega, ⟨rfl, rfl, rfl, rfl, rfl, rfl, rfl, rfl, rfl, rfl, rfl, rfl, rfl, rfl, rfl, trivial⟩, H, hlt⟩
        -- (backstaylaw14.ApplyTells: loopend; chunks S,C; ptr )
    · by_cases q1 : op = 1 ∨ op = 2
      · have q2 : ¬(3 ≤ op ∧ op ≤ 8) := by omega
        obtain ⟨s4, x4, L4, y4, m4, t4⟩ := M.lift_room (opF op) m3 (by decide) ta3 ta3 ta3
        have l4 := m4.len
        refine W_seq ?_
        refine W_seq ?_
        refine W_region ?_
        refine ops_v (v_move (v := (.int _ _)) rfl rfl) ?_
        refine ops_v (v_move (v := (.int _ _)) rfl rfl) ?_
        refine ops_v (v_shl (2 ^ n.toNat) rfl rfl rfl lo (shl1 _ (by omega))) ?_
        refine ops_v (v_lss false rfl rfl rfl (decide_eq_false (by first | omega | (simp only; omega) | rfl | decide))) ?_
        refine ops_nil ?_
        refine W_if_f rfl ?_
        refine W_exit ?_
        refine W_seq ?_
        refine W_region ?_
        refine ops_v (v_move (v := (.pointer _)) rfl rfl) ?_
        refine ops_v (v_move (v := (.pointer _)) rfl rfl) ?_
        refine ops_v (v_move (v := (.int _ _)) rfl rfl) ?_
        refine ops_v (v_move (v := (.int _ _)) rfl rfl) ?_
        refine ops_call rfl c44 (One_ok L4 q1 m3.wf ta3.here H) ?_
        clear H; rintro _ w ⟨rfl, H⟩
        refine ops_v (v_move (v := (.tuple _)) rfl rfl) ?_
        refine ops_v (v_extract (v := (.int _ _)) rfl rfl rfl) ?_
        refine ops_v (v_extract (v := (.int _ _)) rfl rfl rfl) ?_
        refine ops_v (v_assign (v := (.int _ _)) rfl rfl) ?_
        refine ops_v (v_assign (v := (.int _ _)) rfl rfl) ?_
        refine ops_nil ?_
        refine W_seq ?_
        refine W_region ?_
        refine ops_v (v_move (v := (.pointer _)) rfl rfl) ?_
        refine ops_v (v_move (v := (.pointer _)) rfl rfl) ?_
        refine ops_v (v_move (v := (.int _ _)) rfl rfl) ?_
        refine ops_v (v_move (v := (.int _ _)) rfl rfl) ?_
        refine ops_v (v_move (v := (.int _ _)) rfl rfl) ?_
        refine ops_call rfl c45 (Two_op (s := s4) q2 H) ?_
        clear H; rintro _ w ⟨rfl, H⟩
        refine ops_v (v_move (v := (.tuple _)) rfl rfl) ?_
        refine ops_v (v_extract (v := (.int _ _)) rfl rfl rfl) ?_
        refine ops_v (v_extract (v := (.int _ _)) rfl rfl rfl) ?_
        refine ops_v (v_assign (v := (.int _ _)) rfl rfl) ?_
        refine ops_v (v_assign (v := (.int _ _)) rfl rfl) ?_
        refine ops_nil ?_
        refine W_seq ?_
        refine W_region ?_
        refine ops_v (v_move (v := (.pointer _)) rfl rfl) ?_
        refine ops_v (v_move (v := (.pointer _)) rfl rfl) ?_
        refine ops_v (v_move (v := (.int _ _)) rfl rfl) ?_
        refine ops_v (v_move (v := (.int _ _)) rfl rfl) ?_
        refine ops_v (v_move (v := (.pointer _)) rfl rfl) ?_
        refine ops_call rfl c30 (FnC.ro 0 rfl H (fun _ => Size_ok)) ?_
        clear H; rintro _ w ⟨rfl, H⟩
        refine ops_v (v_move (v := (.int _ _)) rfl rfl) ?_
        refine ops_call rfl c41 (pick14_ok H three 9 i5 (by decide)) ?_
        clear H; rintro _ w ⟨rfl, H⟩
        refine ops_v (v_add _ rfl rfl rfl (wrap_in (by omega) (by omega))) ?_
        refine ops_call rfl c45 (Two_bad hp (M.bad_id (.inl (by omega))) H) ?_
        clear H; rintro _ w ⟨rfl, H⟩
        refine ops_v (v_move (v := (.tuple _)) rfl rfl) ?_
        refine ops_v (v_extract (v := (.int _ _)) rfl rfl rfl) ?_
        refine ops_v (v_extract (v := (.int _ _)) rfl rfl rfl) ?_
        refine ops_v (v_assign (v := (.int _ _)) rfl rfl) ?_
        refine ops_v (v_assign (v := (.int _ _)) rfl rfl) ?_
        refine ops_nil ?_
        refine W_seq ?_
        refine W_region ?_
        refine ops_v (v_move (v := (.pointer _)) rfl rfl) ?_
        refine ops_v (v_move (v := (.pointer _)) rfl rfl) ?_
        refine ops_v (v_move (v := (.int _ _)) rfl rfl) ?_
        refine ops_v (v_move (v := (.int _ _)) rfl rfl) ?_
        refine ops_call rfl c41 (pick14_ok H two 9 i4 (by decide)) ?_
        clear H; rintro _ w ⟨rfl, H⟩
        refine ops_v (v_sub _ rfl rfl rfl (wrap_in (by omega) (by omega))) ?_
        refine ops_call rfl c44 (One_bad ho (M.bad_id (.inr (by omega))) H) ?_
        clear H; rintro _ w ⟨rfl, H⟩
        refine ops_v (v_move (v := (.tuple _)) rfl rfl) ?_
        refine ops_v (v_extract (v := (.int _ _)) rfl rfl rfl) ?_
        refine ops_v (v_extract (v := (.int _ _)) rfl rfl rfl) ?_
        refine ops_v (v_assign (v := (.int _ _)) rfl rfl) ?_
        refine ops_v (v_assign (v := (.int _ _)) rfl rfl) ?_
        refine ops_nil ?_
        refine W_seq ?_
        refine W_region ?_
        refine ops_v (v_move (v := (.pointer _)) rfl rfl) ?_
        refine ops_v (v_move (v := (.pointer _)) rfl rfl) ?_
        refine ops_v (v_move (v := (.int _ _)) rfl rfl) ?_
        refine ops_v (v_move (v := (.int _ _)) rfl rfl) ?_
        refine ops_call rfl c46 (Choose_bad (M.bad_id (.inr (by decide))) H) ?_
        clear H; rintro _ w ⟨rfl, H⟩
        refine ops_v (v_move (v := (.tuple _)) rfl rfl) ?_
        refine ops_v (v_extract (v := (.int _ _)) rfl rfl rfl) ?_
        refine ops_v (v_extract (v := (.int _ _)) rfl rfl rfl) ?_
        refine ops_v (v_assign (v := (.int _ _)) rfl rfl) ?_
        refine ops_v (v_assign (v := (.int _ _)) rfl rfl) ?_
        refine ops_nil ?_
        refine W_seq ?_
        refine W_region ?_
        refine ops_v (v_move (v := (.int _ _)) rfl rfl) ?_
        refine ops_v (v_eql _ rfl rfl rfl rfl) ?_
        refine ops_v (v_move (v := (.int _ _)) rfl rfl) ?_
        refine ops_call rfl c49 ((by have := IsOne_ok op H; rw [decide_eq_true q1] at this; exact this)) ?_
        clear H; rintro _ w ⟨rfl, H⟩
        refine ops_v (v_eql_bool _ rfl ib4 rfl rfl rfl) ?_
        refine ops_v (v_move (v := (.bool _)) rfl rfl) ?_
        refine ops_v (v_move (v := (.int _ _)) rfl rfl) ?_
        refine ops_v (v_eql _ rfl rfl rfl rfl) ?_
        refine ops_v (v_move (v := (.int _ _)) rfl rfl) ?_
        refine ops_call rfl c50 ((by have := IsTwo_ok op H; rw [decide_eq_false q2] at this; exact this)) ?_
        clear H; rintro _ w ⟨rfl, H⟩
        refine ops_v (v_eql_bool _ rfl ib4 rfl rfl rfl) ?_
        refine ops_v (v_pick_t (v := (.bool _)) rfl rfl rfl) ?_
        refine ops_v (v_move (v := (.bool _)) rfl rfl) ?_
        refine ops_v (v_move (v := (.int _ _)) rfl rfl) ?_
        refine ops_v (v_eql true rfl rfl rfl (decide_eq_true (by first | omega | (simp only; omega) | rfl | decide))) ?_
        refine ops_v (v_pick_t (v := (.bool _)) rfl rfl rfl) ?_
        refine ops_v (v_move (v := (.bool _)) rfl rfl) ?_
        refine ops_v (v_move (v := (.int _ _)) rfl rfl) ?_
        refine ops_v (v_eql true rfl rfl rfl (decide_eq_true (by first | omega | (simp only; omega) | rfl | decide))) ?_
        refine ops_v (v_pick_t (v := (.bool _)) rfl rfl rfl) ?_
        refine ops_v (v_move (v := (.bool _)) rfl rfl) ?_
        refine ops_v (v_move (v := (.int _ _)) rfl rfl) ?_
        refine ops_v (v_eql _ rfl rfl rfl rfl) ?_
        refine ops_v (v_pick_t (v := (.bool _)) rfl rfl rfl) ?_
        refine ops_v (v_assign (v := (.bool _)) rfl rfl) ?_
        refine ops_nil ?_
        refine W_ret ?_
        refine ⟨_, (.tmp (v := (.bool _)) rfl .nil), ?_⟩
        exact ⟨rfl, _, H⟩
        -- (backstaylaw14.ApplyTells: ret; chunks S,C; ptr )
      · by_cases q2 : 3 ≤ op ∧ op ≤ 8
        · obtain ⟨s4, x4, L4, y4, m4, t4⟩ := M.lift_room (opF op) m3 (by decide) ta3 tb3 tb3
          have l4 := m4.len
          refine W_seq ?_
          refine W_seq ?_
          refine W_region ?_
          refine ops_v (v_move (v := (.int _ _)) rfl rfl) ?_
          refine ops_v (v_move (v := (.int _ _)) rfl rfl) ?_
          refine ops_v (v_shl (2 ^ n.toNat) rfl rfl rfl lo (shl1 _ (by omega))) ?_
          refine ops_v (v_lss false rfl rfl rfl (decide_eq_false (by first | omega | (simp only; omega) | rfl | decide))) ?_
          refine ops_nil ?_
          refine W_if_f rfl ?_
          refine W_exit ?_
          refine W_seq ?_
          refine W_region ?_
          refine ops_v (v_move (v := (.pointer _)) rfl rfl) ?_
          refine ops_v (v_move (v := (.pointer _)) rfl rfl) ?_
          refine ops_v (v_move (v := (.int _ _)) rfl rfl) ?_
          refine ops_v (v_move (v := (.int _ _)) rfl rfl) ?_
          refine ops_call rfl c44 (One_op (s := s3) q1 H) ?_
          clear H; rintro _ w ⟨rfl, H⟩
          refine ops_v (v_move (v := (.tuple _)) rfl rfl) ?_
          refine ops_v (v_extract (v := (.int _ _)) rfl rfl rfl) ?_
          refine ops_v (v_extract (v := (.int _ _)) rfl rfl rfl) ?_
          refine ops_v (v_assign (v := (.int _ _)) rfl rfl) ?_
          refine ops_v (v_assign (v := (.int _ _)) rfl rfl) ?_
          refine ops_nil ?_
          refine W_seq ?_
          refine W_region ?_
          refine ops_v (v_move (v := (.pointer _)) rfl rfl) ?_
          refine ops_v (v_move (v := (.pointer _)) rfl rfl) ?_
          refine ops_v (v_move (v := (.int _ _)) rfl rfl) ?_
          refine ops_v (v_move (v := (.int _ _)) rfl rfl) ?_
          refine ops_v (v_move (v := (.int _ _)) rfl rfl) ?_
          refine ops_call rfl c45 (Two_ok L4 q2 m3.wf ta3.here tb3.here H) ?_
          clear H; rintro _ w ⟨rfl, H⟩
          refine ops_v (v_move (v := (.tuple _)) rfl rfl) ?_
          refine ops_v (v_extract (v := (.int _ _)) rfl rfl rfl) ?_
          refine ops_v (v_extract (v := (.int _ _)) rfl rfl rfl) ?_
          refine ops_v (v_assign (v := (.int _ _)) rfl rfl) ?_
          refine ops_v (v_assign (v := (.int _ _)) rfl rfl) ?_
          refine ops_nil ?_
          refine W_seq ?_
          refine W_region ?_
          refine ops_v (v_move (v := (.pointer _)) rfl rfl) ?_
          refine ops_v (v_move (v := (.pointer _)) rfl rfl) ?_
          refine ops_v (v_move (v := (.int _ _)) rfl rfl) ?_
          refine ops_v (v_move (v := (.int _ _)) rfl rfl) ?_
          refine ops_v (v_move (v := (.pointer _)) rfl rfl) ?_
          refine ops_call rfl c30 (FnC.ro 0 rfl H (fun _ => Size_ok)) ?_
          clear H; rintro _ w ⟨rfl, H⟩
          refine ops_v (v_move (v := (.int _ _)) rfl rfl) ?_
          refine ops_call rfl c41 (pick14_ok H three 9 i5 (by decide)) ?_
          clear H; rintro _ w ⟨rfl, H⟩
          refine ops_v (v_add _ rfl rfl rfl (wrap_in (by omega) (by omega))) ?_
          refine ops_call rfl c45 (Two_bad hp (M.bad_id (.inl (by omega))) H) ?_
          clear H; rintro _ w ⟨rfl, H⟩
          refine ops_v (v_move (v := (.tuple _)) rfl rfl) ?_
          refine ops_v (v_extract (v := (.int _ _)) rfl rfl rfl) ?_
          refine ops_v (v_extract (v := (.int _ _)) rfl rfl rfl) ?_
          refine ops_v (v_assign (v := (.int _ _)) rfl rfl) ?_
          refine ops_v (v_assign (v := (.int _ _)) rfl rfl) ?_
          refine ops_nil ?_
          refine W_seq ?_
          refine W_region ?_
          refine ops_v (v_move (v := (.pointer _)) rfl rfl) ?_
          refine ops_v (v_move (v := (.pointer _)) rfl rfl) ?_
          refine ops_v (v_move (v := (.int _ _)) rfl rfl) ?_
          refine ops_v (v_move (v := (.int _ _)) rfl rfl) ?_
          refine ops_call rfl c41 (pick14_ok H two 9 i4 (by decide)) ?_
          clear H; rintro _ w ⟨rfl, H⟩
          refine ops_v (v_sub _ rfl rfl rfl (wrap_in (by omega) (by omega))) ?_
          refine ops_call rfl c44 (One_bad ho (M.bad_id (.inr (by omega))) H) ?_
          clear H; rintro _ w ⟨rfl, H⟩
          refine ops_v (v_move (v := (.tuple _)) rfl rfl) ?_
          refine ops_v (v_extract (v := (.int _ _)) rfl rfl rfl) ?_
          refine ops_v (v_extract (v := (.int _ _)) rfl rfl rfl) ?_
          refine ops_v (v_assign (v := (.int _ _)) rfl rfl) ?_
          refine ops_v (v_assign (v := (.int _ _)) rfl rfl) ?_
          refine ops_nil ?_
          refine W_seq ?_
          refine W_region ?_
          refine ops_v (v_move (v := (.pointer _)) rfl rfl) ?_
          refine ops_v (v_move (v := (.pointer _)) rfl rfl) ?_
          refine ops_v (v_move (v := (.int _ _)) rfl rfl) ?_
          refine ops_v (v_move (v := (.int _ _)) rfl rfl) ?_
          refine ops_call rfl c46 (Choose_bad (M.bad_id (.inr (by decide))) H) ?_
          clear H; rintro _ w ⟨rfl, H⟩
          refine ops_v (v_move (v := (.tuple _)) rfl rfl) ?_
          refine ops_v (v_extract (v := (.int _ _)) rfl rfl rfl) ?_
          refine ops_v (v_extract (v := (.int _ _)) rfl rfl rfl) ?_
          refine ops_v (v_assign (v := (.int _ _)) rfl rfl) ?_
          refine ops_v (v_assign (v := (.int _ _)) rfl rfl) ?_
          refine ops_nil ?_
          refine W_seq ?_
          refine W_region ?_
          refine ops_v (v_move (v := (.int _ _)) rfl rfl) ?_
          refine ops_v (v_eql _ rfl rfl rfl rfl) ?_
          refine ops_v (v_move (v := (.int _ _)) rfl rfl) ?_
          refine ops_call rfl c49 ((by have := IsOne_ok op H; rw [decide_eq_false q1] at this; exact this)) ?_
          clear H; rintro _ w ⟨rfl, H⟩
          refine ops_v (v_eql_bool _ rfl ib4 rfl rfl rfl) ?_
          refine ops_v (v_move (v := (.bool _)) rfl rfl) ?_
          refine ops_v (v_move (v := (.int _ _)) rfl rfl) ?_
          refine ops_v (v_eql _ rfl rfl rfl rfl) ?_
          refine ops_v (v_move (v := (.int _ _)) rfl rfl) ?_
          refine ops_call rfl c50 ((by have := IsTwo_ok op H; rw [decide_eq_true q2] at this; exact this)) ?_
          clear H; rintro _ w ⟨rfl, H⟩
          refine ops_v (v_eql_bool _ rfl ib4 rfl rfl rfl) ?_
          refine ops_v (v_pick_t (v := (.bool _)) rfl rfl rfl) ?_
          refine ops_v (v_move (v := (.bool _)) rfl rfl) ?_
          refine ops_v (v_move (v := (.int _ _)) rfl rfl) ?_
          refine ops_v (v_eql true rfl rfl rfl (decide_eq_true (by first | omega | (simp only; omega) | rfl | decide))) ?_
          refine ops_v (v_pick_t (v := (.bool _)) rfl rfl rfl) ?_
          refine ops_v (v_move (v := (.bool _)) rfl rfl) ?_
          refine ops_v (v_move (v := (.int _ _)) rfl rfl) ?_
          refine ops_v (v_eql true rfl rfl rfl (decide_eq_true (by first | omega | (simp only; omega) | rfl | decide))) ?_
          refine ops_v (v_pick_t (v := (.bool _)) rfl rfl rfl) ?_
          refine ops_v (v_move (v := (.bool _)) rfl rfl) ?_
          refine ops_v (v_move (v := (.int _ _)) rfl rfl) ?_
          refine ops_v (v_eql _ rfl rfl rfl rfl) ?_
          refine ops_v (v_pick_t (v := (.bool _)) rfl rfl rfl) ?_
          refine ops_v (v_assign (v := (.bool _)) rfl rfl) ?_
          refine ops_nil ?_
          refine W_ret ?_
          refine ⟨_, (.tmp (v := (.bool _)) rfl .nil), ?_⟩
          exact ⟨rfl, _, H⟩
          -- (backstaylaw14.ApplyTells: ret; chunks S,C; ptr )
        · refine W_seq ?_
          refine W_seq ?_
          refine W_region ?_
          refine ops_v (v_move (v := (.int _ _)) rfl rfl) ?_
          refine ops_v (v_move (v := (.int _ _)) rfl rfl) ?_
          refine ops_v (v_shl (2 ^ n.toNat) rfl rfl rfl lo (shl1 _ (by omega))) ?_
          refine ops_v (v_lss false rfl rfl rfl (decide_eq_false (by first | omega | (simp only; omega) | rfl | decide))) ?_
          refine ops_nil ?_
          refine W_if_f rfl ?_
          refine W_exit ?_
          refine W_seq ?_
          refine W_region ?_
          refine ops_v (v_move (v := (.pointer _)) rfl rfl) ?_
          refine ops_v (v_move (v := (.pointer _)) rfl rfl) ?_
          refine ops_v (v_move (v := (.int _ _)) rfl rfl) ?_
          refine ops_v (v_move (v := (.int _ _)) rfl rfl) ?_
          refine ops_call rfl c44 (One_op (s := s3) q1 H) ?_
          clear H; rintro _ w ⟨rfl, H⟩
          refine ops_v (v_move (v := (.tuple _)) rfl rfl) ?_
          refine ops_v (v_extract (v := (.int _ _)) rfl rfl rfl) ?_
          refine ops_v (v_extract (v := (.int _ _)) rfl rfl rfl) ?_
          refine ops_v (v_assign (v := (.int _ _)) rfl rfl) ?_
          refine ops_v (v_assign (v := (.int _ _)) rfl rfl) ?_
          refine ops_nil ?_
          refine W_seq ?_
          refine W_region ?_
          refine ops_v (v_move (v := (.pointer _)) rfl rfl) ?_
          refine ops_v (v_move (v := (.pointer _)) rfl rfl) ?_
          refine ops_v (v_move (v := (.int _ _)) rfl rfl) ?_
          refine ops_v (v_move (v := (.int _ _)) rfl rfl) ?_
          refine ops_v (v_move (v := (.int _ _)) rfl rfl) ?_
          refine ops_call rfl c45 (Two_op (s := s3) q2 H) ?_
          clear H; rintro _ w ⟨rfl, H⟩
          refine ops_v (v_move (v := (.tuple _)) rfl rfl) ?_
          refine ops_v (v_extract (v := (.int _ _)) rfl rfl rfl) ?_
          refine ops_v (v_extract (v := (.int _ _)) rfl rfl rfl) ?_
          refine ops_v (v_assign (v := (.int _ _)) rfl rfl) ?_
          refine ops_v (v_assign (v := (.int _ _)) rfl rfl) ?_
          refine ops_nil ?_
          refine W_seq ?_
          refine W_region ?_
          refine ops_v (v_move (v := (.pointer _)) rfl rfl) ?_
          refine ops_v (v_move (v := (.pointer _)) rfl rfl) ?_
          refine ops_v (v_move (v := (.int _ _)) rfl rfl) ?_
          refine ops_v (v_move (v := (.int _ _)) rfl rfl) ?_
          refine ops_v (v_move (v := (.pointer _)) rfl rfl) ?_
          refine ops_call rfl c30 (FnC.ro 0 rfl H (fun _ => Size_ok)) ?_
          clear H; rintro _ w ⟨rfl, H⟩
          refine ops_v (v_move (v := (.int _ _)) rfl rfl) ?_
          refine ops_call rfl c41 (pick14_ok H three 9 i5 (by decide)) ?_
          clear H; rintro _ w ⟨rfl, H⟩
          refine ops_v (v_add _ rfl rfl rfl (wrap_in (by omega) (by omega))) ?_
          refine ops_call rfl c45 (Two_bad hp (M.bad_id (.inl (by omega))) H) ?_
          clear H; rintro _ w ⟨rfl, H⟩
          refine ops_v (v_move (v := (.tuple _)) rfl rfl) ?_
          refine ops_v (v_extract (v := (.int _ _)) rfl rfl rfl) ?_
          refine ops_v (v_extract (v := (.int _ _)) rfl rfl rfl) ?_
          refine ops_v (v_assign (v := (.int _ _)) rfl rfl) ?_
          refine ops_v (v_assign (v := (.int _ _)) rfl rfl) ?_
          refine ops_nil ?_
          refine W_seq ?_
          refine W_region ?_
          refine ops_v (v_move (v := (.pointer _)) rfl rfl) ?_
          refine ops_v (v_move (v := (.pointer _)) rfl rfl) ?_
          refine ops_v (v_move (v := (.int _ _)) rfl rfl) ?_
          refine ops_v (v_move (v := (.int _ _)) rfl rfl) ?_
          refine ops_call rfl c41 (pick14_ok H two 9 i4 (by decide)) ?_
          clear H; rintro _ w ⟨rfl, H⟩
          refine ops_v (v_sub _ rfl rfl rfl (wrap_in (by omega) (by omega))) ?_
          refine ops_call rfl c44 (One_bad ho (M.bad_id (.inr (by omega))) H) ?_
          clear H; rintro _ w ⟨rfl, H⟩
          refine ops_v (v_move (v := (.tuple _)) rfl rfl) ?_
          refine ops_v (v_extract (v := (.int _ _)) rfl rfl rfl) ?_
          refine ops_v (v_extract (v := (.int _ _)) rfl rfl rfl) ?_
          refine ops_v (v_assign (v := (.int _ _)) rfl rfl) ?_
          refine ops_v (v_assign (v := (.int _ _)) rfl rfl) ?_
          refine ops_nil ?_
          refine W_seq ?_
          refine W_region ?_
          refine ops_v (v_move (v := (.pointer _)) rfl rfl) ?_
          refine ops_v (v_move (v := (.pointer _)) rfl rfl) ?_
          refine ops_v (v_move (v := (.int _ _)) rfl rfl) ?_
          refine ops_v (v_move (v := (.int _ _)) rfl rfl) ?_
          refine ops_call rfl c46 (Choose_bad (M.bad_id (.inr (by decide))) H) ?_
          clear H; rintro _ w ⟨rfl, H⟩
          refine ops_v (v_move (v := (.tuple _)) rfl rfl) ?_
          refine ops_v (v_extract (v := (.int _ _)) rfl rfl rfl) ?_
          refine ops_v (v_extract (v := (.int _ _)) rfl rfl rfl) ?_
          refine ops_v (v_assign (v := (.int _ _)) rfl rfl) ?_
          refine ops_v (v_assign (v := (.int _ _)) rfl rfl) ?_
          refine ops_nil ?_
          refine W_seq ?_
          refine W_region ?_
          refine ops_v (v_move (v := (.int _ _)) rfl rfl) ?_
          refine ops_v (v_eql _ rfl rfl rfl rfl) ?_
          refine ops_v (v_move (v := (.int _ _)) rfl rfl) ?_
          refine ops_call rfl c49 ((by have := IsOne_ok op H; rw [decide_eq_false q1] at this; exact this)) ?_
          clear H; rintro _ w ⟨rfl, H⟩
          refine ops_v (v_eql_bool _ rfl ib4 rfl rfl rfl) ?_
          refine ops_v (v_move (v := (.bool _)) rfl rfl) ?_
          refine ops_v (v_move (v := (.int _ _)) rfl rfl) ?_
          refine ops_v (v_eql _ rfl rfl rfl rfl) ?_
          refine ops_v (v_move (v := (.int _ _)) rfl rfl) ?_
          refine ops_call rfl c50 ((by have := IsTwo_ok op H; rw [decide_eq_false q2] at this; exact this)) ?_
          clear H; rintro _ w ⟨rfl, H⟩
          refine ops_v (v_eql_bool _ rfl ib4 rfl rfl rfl) ?_
          refine ops_v (v_pick_t (v := (.bool _)) rfl rfl rfl) ?_
          refine ops_v (v_move (v := (.bool _)) rfl rfl) ?_
          refine ops_v (v_move (v := (.int _ _)) rfl rfl) ?_
          refine ops_v (v_eql true rfl rfl rfl (decide_eq_true (by first | omega | (simp only; omega) | rfl | decide))) ?_
          refine ops_v (v_pick_t (v := (.bool _)) rfl rfl rfl) ?_
          refine ops_v (v_move (v := (.bool _)) rfl rfl) ?_
          refine ops_v (v_move (v := (.int _ _)) rfl rfl) ?_
          refine ops_v (v_eql true rfl rfl rfl (decide_eq_true (by first | omega | (simp only; omega) | rfl | decide))) ?_
          refine ops_v (v_pick_t (v := (.bool _)) rfl rfl rfl) ?_
          refine ops_v (v_move (v := (.bool _)) rfl rfl) ?_
          refine ops_v (v_move (v := (.int _ _)) rfl rfl) ?_
          refine ops_v (v_eql _ rfl rfl rfl rfl) ?_
          refine ops_v (v_pick_t (v := (.bool _)) rfl rfl rfl) ?_
          refine ops_v (v_assign (v := (.bool _)) rfl rfl) ?_
          refine ops_nil ?_
          refine W_ret ?_
          refine ⟨_, (.tmp (v := (.bool _)) rfl .nil), ?_⟩
          exact ⟨rfl, _, H⟩
          -- (backstaylaw14.ApplyTells: ret; chunks S,C; ptr )
theorem walk (W : World) (links : Int) (i1 : i64 links) (v : Value) (l : List R4) (hr : RawIs W v l) (op : Int) (i2 : i64 op) (one : Int) (i3 : i64 one) (two : Int) (i4 : i64 two) (three : Int) (i5 : i64 three) :
    FnC Try.prog 10 [int links, v, int op, int one, int two, int three] W (fun v w' => v = .bool true ∧ Base W w') :=
  (law_ok (Own.start W) links op one two three i1 i2 i3 i4 i5 v l hr).mono (fun _ _ ⟨a, _, H⟩ => ⟨a, H.base⟩)
theorem own : ownKnob Try.prog.godebug = none := by kernel_rfl
set_option maxRecDepth 100000 in
theorem lifted (os : Os) (started : os.Started) (H : Type) (enc : TypeId × Value → H) :
    ReturnsInHanded {} Try.checked os 10 .any (Rows.applyTellsSpec.pre6 enc Try.prog Try.f10 Rows.applyTellsRow.domain false) (Rows.applyTellsSpec.post enc Try.prog Try.f10 false true false false) := by
  refine returnsInHanded_of_change (C := Try.checked) own started (by kernel_rfl) Try.func10
    (ChangeSpec.witness6 (enc := enc) (C := Try.checked) false ⟨#[], #[.int .i64 0, .slice none 0 0, .int .i64 0, .int .i64 0, .int .i64 0, .int .i64 0], []⟩ 8 (by kernel_rfl) (by kernel_rfl) (by kernel_rfl) (by kernel_rfl)) ?_
  intro W base args ds gs before hval0 hW hcnd _
  have hval : ∀ (j : Nat) t v, Try.f10.params[j]? = some t → args[j]? = some v → Value.okWide Try.prog W .any base t v := hval0
  have hW' := hW
  obtain ⟨p, q, hA0, hV, rfl, hfz, hnd⟩ := hW
  have hA : DataW.TrodAll enc Try.prog W 0 (fun _ => true) true Try.f10.params.toList args.toList ds p := hA0
  rw [Try.params10] at hA hval
  obtain ⟨v0, vs0, d0, ds0, p0, q0, hargs, rfl, rfl, h0, r0⟩ := trodAll_cons hA
  obtain ⟨v1, vs1, d1, ds1, p1, q1, rfl, rfl, rfl, h1, r1⟩ := trodAll_cons r0
  obtain ⟨v2, vs2, d2, ds2, p2, q2, rfl, rfl, rfl, h2, r2⟩ := trodAll_cons r1
  obtain ⟨v3, vs3, d3, ds3, p3, q3, rfl, rfl, rfl, h3, r3⟩ := trodAll_cons r2
  obtain ⟨v4, vs4, d4, ds4, p4, q4, rfl, rfl, rfl, h4, r4⟩ := trodAll_cons r3
  obtain ⟨v5, vs5, d5, ds5, p5, q5, rfl, rfl, rfl, h5, r5⟩ := trodAll_cons r4
  obtain ⟨rfl, rfl, rfl⟩ := trodAll_nil r5
  obtain rfl : args = #[v0, v1, v2, v3, v4, v5] := by cases args; simp_all
  obtain ⟨rfl, rfl⟩ := trodVars_none hV
  obtain ⟨a0, rfl, rfl, rfl, x0⟩ := open_int Try.underlying3 (hval 0 3 v0 rfl rfl) h0
  have k1 := h1
  have lt1 : ∀ x ∈ p1, x.block < W.heap.size := by obtain ⟨m, hm⟩ := k1; exact DataW.trod_lt m _ _ _ hm
  obtain ⟨l1, w1⟩ := raw_of_trod h1 (okWide_slice Try.underlying22 (hval 1 22 v1 rfl rfl))
  obtain ⟨a2, rfl, rfl, rfl, x2⟩ := open_int Try.underlying3 (hval 2 3 v2 rfl rfl) h2
  obtain ⟨a3, rfl, rfl, rfl, x3⟩ := open_int Try.underlying3 (hval 3 3 v3 rfl rfl) h3
  obtain ⟨a4, rfl, rfl, rfl, x4⟩ := open_int Try.underlying3 (hval 4 3 v4 rfl rfl) h4
  obtain ⟨a5, rfl, rfl, rfl, x5⟩ := open_int Try.underlying3 (hval 5 3 v5 rfl rfl) h5
  clear hA0 hval0
  refine Calls.mono (walk W a0 (bounds_i64 x0) v1 l1 w1 a2 (bounds_i64 x2) a3 (bounds_i64 x3) a4 (bounds_i64 x4) a5 (bounds_i64 x5)) ?_
  rintro e W' ⟨_, rfl, rfl, hb⟩
  have bel := hb.below
  exact ⟨_, rfl, _, _, _, [], _, [], hW', trodAll_mk1 (shut_bool Try.underlying4 _), (trodAll_cons_mk (shut_int Try.underlying3 x0) (trodAll_cons_mk (Below.trod laidOut (by kernel_rfl) (of_decide_eq_true (by kernel_rfl)) k1 bel lt1) (trodAll_cons_mk (shut_int Try.underlying3 x2) (trodAll_cons_mk (shut_int Try.underlying3 x3) (trodAll_cons_mk (shut_int Try.underlying3 x4) (trodAll_cons_mk (shut_int Try.underlying3 x5) trodAll_mk0)))))), rfl, bel.frame _, fun h => by cases h⟩
theorem closed : joinedFacts Try.prog 10 Try.f10 Rows.applyTellsSpec Rows.applyTellsRow = true := Go.Proofs.Ytchikjmhncojfaa.Head.joined (by kernel_rfl) rfl rfl (by kernel_rfl) (by kernel_rfl) (by kernel_rfl) (by kernel_rfl)
theorem over : Rows.applyTellsRow.holds Try.pinned (OpenSpec.ofChange Rows.applyTellsSpec) :=
  OpenClaim.holds_of_wide 10 Try.f10 rfl rfl rfl rfl rfl rfl rfl ⟨rfl, rfl, rfl, rfl, rfl⟩ rfl rfl rfl rfl rfl (by kernel_rfl) Try.func10 closed
    (of_decide_eq_true (by kernel_rfl)) (by unfold Func.isWrapper; first | (rw [if_pos (by decide +kernel)]; kernel_rfl) | (rw [if_neg (by decide +kernel)]; exact ⟨rfl, rfl⟩))
    (fun os started H enc _ => lifted os started H enc)
/-- The statement. -/
theorem proved : Rows.ApplyTellsSaid := over
end Go.Proofs.Ytchikjmhncojfaa.applyTells
