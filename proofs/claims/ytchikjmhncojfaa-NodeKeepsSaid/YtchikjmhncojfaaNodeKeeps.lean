/- NodeKeeps of layer 13: what is there does not change; made again it is the same. Conditions: none. -/
import Derived.Test.YtchikjmhncojfaaMade
import Derived.Test.YtchikjmhncojfaaKeepsM
import Derived.Test.YtchikjmhncojfaaHead
import Derived.ProofKit
import Derived.OpenShut
set_option linter.unusedVariables false
namespace Go.Proofs.Ytchikjmhncojfaa.nodeKeeps
open Go Go.Proofs Go.RowKit Go.ChangeShapes Go.WideShapes Go.ChangeAt Go.Proofs.Ytchikjmhncojfaa.W
open Go.Proofs.Ytchikjmhncojfaa.M (Br St get getZ isN idx has down Wf rank i64 leafB askB R4 MadeOk Ext)
variable {w wb : World} {R : List Chunk}
set_option maxHeartbeats 2000000 in
theorem law_ok (H : Own wb R w) (links f : Int) (i1 : i64 links) (i4 : i64 f) (v mv : Value) (l ml : List R4) (hr : RawIs wb v l) (hmr : RawIs wb mv ml) :
    FnC Try.prog 6 [int links, v, mv, int f] w (fun u w' => u = .bool true ∧ ∃ R', Own wb R' w') := by
  have lo := M.pick_lo (c := links) (n := 7) (by decide)
  have hi := M.pick_hi (c := links) (n := 7) (by decide)
  obtain ⟨rp, rcap, hv, _⟩ := id hr
  subst hv
  obtain ⟨mp, mcap, rfl, hml, hmore⟩ := hmr
  generalize hX : M.pick f 64 = X
  refine FnC_of Try.func6 rfl rfl rfl rfl ?_
  refine W_seq ?_
  refine W_region ?_
  refine ops_v (v_assign (v := _) rfl rfl) ?_
  refine ops_nil ?_
  refine W_seq ?_
  refine W_region ?_
  refine ops_call rfl c24 (awake13_ok H) ?_
  clear H; rintro _ w ⟨rfl, H⟩
  refine ops_v (v_assign (v := (.bool _)) rfl rfl) ?_
  refine ops_nil ?_
  refine W_seq ?_
  refine W_region ?_
  refine ops_v (v_move (v := (.int _ _)) rfl rfl) ?_
  refine ops_call rfl c25 (pick13_ok H links 7 i1 (by decide)) ?_
  clear H; rintro _ w ⟨rfl, H⟩
  refine ops_v (v_assign (v := (.int _ _)) rfl rfl) ?_
  refine ops_nil ?_
  refine W_seq ?_
  refine W_region ?_
  refine ops_v (v_move (v := (.int _ _)) rfl rfl) ?_
  refine ops_v (v_move (v := (.slice _ _ _)) rfl rfl) ?_
  refine ops_call rfl c37 (Made_ok H _ lo (by omega) _ l hr) ?_
  clear H; rintro _ w ⟨p, st, q, cap, ids, rfl, hm, H⟩
  refine ops_v (v_move (v := (.tuple _)) rfl rfl) ?_
  refine ops_v (v_extract (v := (.pointer _)) rfl rfl rfl) ?_
  refine ops_v (v_extract (v := (.slice _ _ _)) rfl rfl rfl) ?_
  refine ops_v (v_assign (v := (.pointer _)) rfl rfl) ?_
  refine ops_v (v_assign (v := (.slice _ _ _)) rfl rfl) ?_
  refine ops_nil ?_
  refine W_seq ?_
  refine W_region ?_
  refine ops_v (v_move (v := (.int _ _)) rfl rfl) ?_
  refine ops_call rfl c25 (pick13_ok H f 64 i4 (by decide)) ?_
  clear H; rintro _ w ⟨rfl, H⟩
  rw [hX]
  refine ops_v (v_assign (v := (.int _ _)) rfl rfl) ?_
  refine ops_nil ?_
  refine W_seq ?_
  refine W_region ?_
  refine ops_v (v_assign (v := _) rfl rfl) ?_
  refine ops_nil ?_
  refine W_seq ?_
  refine W_seq ?_
  refine W_region ?_
  refine ops_v (v_assign (v := _) rfl rfl) ?_
  refine ops_nil ?_
  refine W_block ?_
  -- (backstaylaw13.NodeKeeps: loop; chunks s,S; ptr )
  have hw := hm.wf
  have hsh := hm.short
  have hfew := hm.few
  have H := sl_nil 3 1 H
  refine W_loopS (fun (s : Nat × Option Addr × Nat) => [(2, .slice mp ml.length mcap), (9, .bool true), (11, ptr p), (12, .slice q ids.length cap), (13, int X), (14, .slice s.2.1 s.1 s.2.2), (15, .int .i64 s.1)])
    (fun s w => Own wb (SlC s.2.1 s.1 s.2.2 3 1 (ints ((ids.take s.1).map fun a => M.eval st a X)) :: SlC q ids.length cap 3 1 (ints ids) :: StoreC p st :: R) w ∧ s.1 ≤ ids.length)
    (fun s => ids.length - s.1) (0, none, 0) ⟨rfl, rfl, rfl, rfl, rfl, rfl, rfl, trivial⟩ ⟨H, Nat.zero_le _⟩ ?_
  clear H
  rintro ⟨i, q2, cap2⟩ e w ⟨H, hle⟩
  simp only at H hle ⊢
  by_cases hil : (i : Int) < (ids.length : Int)
  · obtain ⟨g, rfl⟩ := H.slSome 1 rfl (by omega)
    obtain ⟨a, ha⟩ : ∃ a, ids[i]? = some a := ⟨ids[i]'(by omega), by simp⟩
    have ha' : (ints ids)[0 + ((i : Int)).toNat * 1]? = some (.int .i64 a) := by rw [Nat.zero_add, Nat.mul_one]; simp [ints, ha]
    have hm63 : i + 1 ≤ maxLen := by unfold maxLen; omega
    have hby : (i + 1) * 8 ≤ 140737488355328 := by omega
    have hints : ints ((ids.take i).map fun a => M.eval st a X) ++ [.int .i64 (M.eval st a X)] = ints ((ids.take (i + 1)).map fun a => M.eval st a X) := by
      rw [List.take_add_one, ha]; simp [ints]
    refine W_seq ?_
    refine W_seq ?_
    refine W_region ?_
    refine ops_v (v_move (v := (.int _ _)) rfl rfl) ?_
    refine ops_v (v_move (v := (.slice _ _ _)) rfl rfl) ?_
    refine ops_v (v_len rfl sl40 rfl) ?_
    refine ops_v (v_lss true rfl rfl rfl (decide_eq_true (by first | omega | (simp only; omega) | rfl | decide))) ?_
    refine ops_nil ?_
    refine W_if_t rfl ?_
    refine W_skip ?_
    refine W_seq ?_
    refine W_block ?_
    refine W_region ?_
    refine ops_v (v_move (v := (.slice _ _ _)) rfl rfl) ?_
    refine ops_v (v_move (v := (.pointer _)) rfl rfl) ?_
    refine ops_v (v_move (v := (.slice _ _ _)) rfl rfl) ?_
    refine ops_v (v_move (v := (.int _ _)) rfl rfl) ?_
    refine ops_v (v_indexAddr_sl rfl se40 rfl rfl (by omega) (by omega)) ?_
    refine ops_loadSl (v := .int .i64 a) 1 H rfl tc3 rfl rfl ha' ?_
    refine ops_v (v_move (v := (.int _ _)) rfl rfl) ?_
    refine ops_call rfl c33 (FnC.ro 2 rfl H (fun _ => Eval_ok hw a X)) ?_
    clear H; rintro _ w ⟨rfl, H⟩
    refine ops_buildSlice (cs := [(.int _ _)]) H rfl bs40_1 rfl ?_
    clear H; intro bn0 w H
    refine ops_append (b := bn0) (news := [.int .i64 (M.eval st a X)]) 1 0 H rfl ap40 rfl rfl rfl rfl rfl rfl hm63 hby ?_
    clear H; intro q' cap' w H
    rw [hints] at H
    refine ops_v (v_assign (v := (.slice _ _ _)) rfl rfl) ?_
    refine ops_nil ?_
    refine W_region ?_
    refine ops_v (v_move (v := (.int _ _)) rfl rfl) ?_
    refine ops_v (v_add _ rfl rfl rfl (wrap_in (by omega) (by omega))) ?_
    refine ops_v (v_assign (v := (.int _ _)) rfl rfl) ?_
    refine ops_nil ?_
    refine ⟨(i + 1, q', cap'), ?_, ⟨rfl, rfl, rfl, rfl, rfl, rfl, rfl, trivial⟩, H.tail, ?_⟩
    · show ids.length - (i + 1) < ids.length - i; omega
    · show i + 1 ≤ ids.length; omega
    -- (backstaylaw13.NodeKeeps: loopend; chunks n0,w,s,S; ptr )
  · have hie : i = ids.length := by omega
    subst hie
    rw [List.take_length] at H
    refine W_seq ?_
    refine W_seq ?_
    refine W_region ?_
    refine ops_v (v_move (v := (.int _ _)) rfl rfl) ?_
    refine ops_v (v_move (v := (.slice _ _ _)) rfl rfl) ?_
    refine ops_v (v_len rfl sl40 rfl) ?_
    refine ops_v (v_lss false rfl rfl rfl (decide_eq_false (by first | omega | (simp only; omega) | rfl | decide))) ?_
    refine ops_nil ?_
    refine W_if_f rfl ?_
    refine W_exit ?_
    refine W_seq ?_
    refine W_region ?_
    refine ops_v (v_move (v := (.pointer _)) rfl rfl) ?_
    refine ops_call rfl c30 (FnC.ro 2 rfl H (fun _ => Size_ok)) ?_
    clear H; rintro _ w ⟨rfl, H⟩
    refine ops_v (v_assign (v := (.int _ _)) rfl rfl) ?_
    refine ops_nil ?_
    refine W_seq ?_
    refine W_seq ?_
    refine W_region ?_
    refine ops_v (v_assign (v := _) rfl rfl) ?_
    refine ops_nil ?_
    refine W_block ?_
    -- (backstaylaw13.NodeKeeps: loop; chunks w,s,S; ptr )
    refine W_loopS (fun (s : Nat) => [(2, .slice mp ml.length mcap), (9, .bool true), (11, ptr p), (12, .slice q ids.length cap), (13, int X), (14, .slice q2 ids.length cap2), (16, .int .i64 st.nodes.length), (17, .int .i64 s)])
      (fun s w => Own wb (SlC q2 ids.length cap2 3 1 (ints (ids.map fun a => M.eval st a X)) :: SlC q ids.length cap 3 1 (ints ids) :: StoreC p st :: R) w ∧ s ≤ st.nodes.length)
      (fun s => st.nodes.length - s) 0 ⟨rfl, rfl, rfl, rfl, rfl, rfl, rfl, rfl, trivial⟩ ⟨H, Nat.zero_le _⟩ ?_
    clear H
    rintro i e w ⟨H, hle⟩
    by_cases hil : (i : Int) < (st.nodes.length : Int)
    · obtain ⟨b, hb⟩ : ∃ b, st.nodes[i]? = some b := ⟨st.nodes[i]'(by omega), by simp⟩
      have hg : get st (i : Int) = some b := by rw [M.get_nat]; exact hb
      have hmm := hw.most
      have A1 := M.leaf_again hw hb
      have A2 := M.make_again hw hb
      rcases b with ⟨_ | _, bv, bl, bs, bf⟩
      · have A := A2 rfl
        simp only at A
        refine W_seq ?_
        refine W_seq ?_
        refine W_region ?_
        refine ops_v (v_move (v := (.int _ _)) rfl rfl) ?_
        refine ops_v (v_move (v := (.int _ _)) rfl rfl) ?_
        refine ops_v (v_lss true rfl rfl rfl (decide_eq_true (by first | omega | (simp only; omega) | rfl | decide))) ?_
        refine ops_nil ?_
        refine W_if_t rfl ?_
        refine W_skip ?_
        refine W_seq ?_
        refine W_block ?_
        refine W_seq ?_
        refine W_region ?_
        refine ops_v (v_move (v := (.pointer _)) rfl rfl) ?_
        refine ops_v (v_move (v := (.int _ _)) rfl rfl) ?_
        refine ops_call rfl c31 (FnC.ro 2 rfl H (fun _ => Node_ok hg)) ?_
        clear H; rintro _ w ⟨rfl, H⟩
        refine ops_v (v_move (v := (.tuple _)) rfl rfl) ?_
        refine ops_v (v_extract (v := (.agg _)) rfl rfl rfl) ?_
        refine ops_v (v_extract (v := (.bool _)) rfl rfl rfl) ?_
        refine ops_alloc H rfl tz42 ?_
        clear H; intro bn0 w H
        refine ops_store (vs := [_, _, _, _, _]) (v := (.agg _)) (cs' := [_, _, _, _, _]) 0 H rfl ts42 rfl rfl rfl rfl rfl rfl rfl rfl ?_
        clear H; intro w H
        refine ops_v (v_assign (v := (.bool _)) rfl rfl) ?_
        refine ops_nil ?_
        refine W_seq ?_
        refine W_region ?_
        refine ops_v (v_assign (v := _) rfl rfl) ?_
        refine ops_nil ?_
        refine W_seq ?_
        refine W_seq ?_
        refine W_region ?_
        refine ops_v (v_fieldAddr rfl fo42_0 rfl rfl) ?_
        refine ops_load (v := (.bool _)) 0 H rfl tc4 rfl rfl rfl ?_
        refine ops_nil ?_
        refine W_if_f rfl ?_
        refine W_region ?_
        refine ops_v (v_move (v := (.pointer _)) rfl rfl) ?_
        refine ops_v (v_fieldAddr rfl fo42_2 rfl rfl) ?_
        refine ops_load (v := (.int _ _)) 0 H rfl tc3 rfl rfl rfl ?_
        refine ops_v (v_fieldAddr rfl fo42_3 rfl rfl) ?_
        refine ops_load (v := (.int _ _)) 0 H rfl tc3 rfl rfl rfl ?_
        refine ops_v (v_fieldAddr rfl fo42_4 rfl rfl) ?_
        refine ops_load (v := (.int _ _)) 0 H rfl tc3 rfl rfl rfl ?_
        refine ops_call rfl c39 (FnC.at 3 rfl H (fun _ H => Make_ok hmm A H)) ?_
        clear H; rintro _ w ⟨rfl, H⟩
        refine ops_v (v_move (v := (.tuple _)) rfl rfl) ?_
        refine ops_v (v_extract (v := (.int _ _)) rfl rfl rfl) ?_
        refine ops_v (v_extract (v := (.int _ _)) rfl rfl rfl) ?_
        refine ops_v (v_assign (v := (.int _ _)) rfl rfl) ?_
        refine ops_nil ?_
        refine W_seq ?_
        refine W_region ?_
        refine ops_v (v_move (v := (.bool _)) rfl rfl) ?_
        refine ops_v (v_not rfl rfl _ rfl) ?_
        refine ops_v (v_move (v := (.bool _)) rfl rfl) ?_
        refine ops_v (v_move (v := (.int _ _)) rfl rfl) ?_
        refine ops_v (v_move (v := (.int _ _)) rfl rfl) ?_
        refine ops_v (v_neq false rfl rfl rfl (decide_eq_false (by first | omega | (simp only; omega) | rfl | decide))) ?_
        refine ops_v (v_pick_f (v := (.bool _)) rfl rfl rfl) ?_
        refine ops_v (v_move (v := (.bool _)) rfl rfl) ?_
        refine ops_v (v_move (v := (.pointer _)) rfl rfl) ?_
        refine ops_call rfl c30 (FnC.ro 3 rfl H (fun _ => Size_ok)) ?_
        clear H; rintro _ w ⟨rfl, H⟩
        refine ops_v (v_move (v := (.int _ _)) rfl rfl) ?_
        refine ops_v (v_neq false rfl rfl rfl (decide_eq_false (by first | omega | (simp only; omega) | rfl | decide))) ?_
        refine ops_v (v_pick_f (v := (.bool _)) rfl rfl rfl) ?_
        refine ops_nil ?_
        refine W_if_f rfl ?_
        refine W_skip ?_
        refine W_region ?_
        refine ops_v (v_move (v := (.int _ _)) rfl rfl) ?_
        refine ops_v (v_add _ rfl rfl rfl (wrap_in (by omega) (by omega))) ?_
        refine ops_v (v_assign (v := (.int _ _)) rfl rfl) ?_
        refine ops_nil ?_
        refine ⟨i + 1, ?_, ⟨rfl, rfl, rfl, rfl, rfl, rfl, rfl, rfl, trivial⟩, H.tail, ?_⟩
        · show st.nodes.length - (i + 1) < st.nodes.length - i; omega
        · show i + 1 ≤ st.nodes.length; omega
        -- (backstaylaw13.NodeKeeps: loopend; chunks n0,w,s,S; ptr 18=n0)
      · have A := A1 rfl
        simp only at A
        refine W_seq ?_
        refine W_seq ?_
        refine W_region ?_
        refine ops_v (v_move (v := (.int _ _)) rfl rfl) ?_
        refine ops_v (v_move (v := (.int _ _)) rfl rfl) ?_
        refine ops_v (v_lss true rfl rfl rfl (decide_eq_true (by first | omega | (simp only; omega) | rfl | decide))) ?_
        refine ops_nil ?_
        refine W_if_t rfl ?_
        refine W_skip ?_
        refine W_seq ?_
        refine W_block ?_
        refine W_seq ?_
        refine W_region ?_
        refine ops_v (v_move (v := (.pointer _)) rfl rfl) ?_
        refine ops_v (v_move (v := (.int _ _)) rfl rfl) ?_
        refine ops_call rfl c31 (FnC.ro 2 rfl H (fun _ => Node_ok hg)) ?_
        clear H; rintro _ w ⟨rfl, H⟩
        refine ops_v (v_move (v := (.tuple _)) rfl rfl) ?_
        refine ops_v (v_extract (v := (.agg _)) rfl rfl rfl) ?_
        refine ops_v (v_extract (v := (.bool _)) rfl rfl rfl) ?_
        refine ops_alloc H rfl tz42 ?_
        clear H; intro bn0 w H
        refine ops_store (vs := [_, _, _, _, _]) (v := (.agg _)) (cs' := [_, _, _, _, _]) 0 H rfl ts42 rfl rfl rfl rfl rfl rfl rfl rfl ?_
        clear H; intro w H
        refine ops_v (v_assign (v := (.bool _)) rfl rfl) ?_
        refine ops_nil ?_
        refine W_seq ?_
        refine W_region ?_
        refine ops_v (v_assign (v := _) rfl rfl) ?_
        refine ops_nil ?_
        refine W_seq ?_
        refine W_seq ?_
        refine W_region ?_
        refine ops_v (v_fieldAddr rfl fo42_0 rfl rfl) ?_
        refine ops_load (v := (.bool _)) 0 H rfl tc4 rfl rfl rfl ?_
        refine ops_nil ?_
        refine W_if_t rfl ?_
        refine W_region ?_
        refine ops_v (v_move (v := (.pointer _)) rfl rfl) ?_
        refine ops_v (v_fieldAddr rfl fo42_1 rfl rfl) ?_
        refine ops_load (v := (.int _ _)) 0 H rfl tc3 rfl rfl rfl ?_
        refine ops_call rfl c38 (FnC.at 3 rfl H (fun _ H => Leaf_ok hmm A H)) ?_
        clear H; rintro _ w ⟨rfl, H⟩
        refine ops_v (v_move (v := (.tuple _)) rfl rfl) ?_
        refine ops_v (v_extract (v := (.int _ _)) rfl rfl rfl) ?_
        refine ops_v (v_extract (v := (.int _ _)) rfl rfl rfl) ?_
        refine ops_v (v_assign (v := (.int _ _)) rfl rfl) ?_
        refine ops_nil ?_
        refine W_seq ?_
        refine W_region ?_
        refine ops_v (v_move (v := (.bool _)) rfl rfl) ?_
        refine ops_v (v_not rfl rfl _ rfl) ?_
        refine ops_v (v_move (v := (.bool _)) rfl rfl) ?_
        refine ops_v (v_move (v := (.int _ _)) rfl rfl) ?_
        refine ops_v (v_move (v := (.int _ _)) rfl rfl) ?_
        refine ops_v (v_neq false rfl rfl rfl (decide_eq_false (by first | omega | (simp only; omega) | rfl | decide))) ?_
        refine ops_v (v_pick_f (v := (.bool _)) rfl rfl rfl) ?_
        refine ops_v (v_move (v := (.bool _)) rfl rfl) ?_
        refine ops_v (v_move (v := (.pointer _)) rfl rfl) ?_
        refine ops_call rfl c30 (FnC.ro 3 rfl H (fun _ => Size_ok)) ?_
        clear H; rintro _ w ⟨rfl, H⟩
        refine ops_v (v_move (v := (.int _ _)) rfl rfl) ?_
        refine ops_v (v_neq false rfl rfl rfl (decide_eq_false (by first | omega | (simp only; omega) | rfl | decide))) ?_
        refine ops_v (v_pick_f (v := (.bool _)) rfl rfl rfl) ?_
        refine ops_nil ?_
        refine W_if_f rfl ?_
        refine W_skip ?_
        refine W_region ?_
        refine ops_v (v_move (v := (.int _ _)) rfl rfl) ?_
        refine ops_v (v_add _ rfl rfl rfl (wrap_in (by omega) (by omega))) ?_
        refine ops_v (v_assign (v := (.int _ _)) rfl rfl) ?_
        refine ops_nil ?_
        refine ⟨i + 1, ?_, ⟨rfl, rfl, rfl, rfl, rfl, rfl, rfl, rfl, trivial⟩, H.tail, ?_⟩
        · show st.nodes.length - (i + 1) < st.nodes.length - i; omega
        · show i + 1 ≤ st.nodes.length; omega
        -- (backstaylaw13.NodeKeeps: loopend; chunks n0,w,s,S; ptr 18=n0)
    · refine W_seq ?_
      refine W_seq ?_
      refine W_region ?_
      refine ops_v (v_move (v := (.int _ _)) rfl rfl) ?_
      refine ops_v (v_move (v := (.int _ _)) rfl rfl) ?_
      refine ops_v (v_lss false rfl rfl rfl (decide_eq_false (by first | omega | (simp only; omega) | rfl | decide))) ?_
      refine ops_nil ?_
      refine W_if_f rfl ?_
      refine W_exit ?_
      refine W_seq ?_
      refine W_seq ?_
      refine W_region ?_
      refine ops_v (v_assign (v := _) rfl rfl) ?_
      refine ops_nil ?_
      refine W_block ?_
      -- (backstaylaw13.NodeKeeps: loop; chunks w,s,S; ptr )
      refine W_loopS (fun (s : Nat × St) => [(2, .slice mp ml.length mcap), (9, .bool true), (11, ptr p), (12, .slice q ids.length cap), (13, int X), (14, .slice q2 ids.length cap2), (16, .int .i64 st.nodes.length), (21, .int .i64 s.1)])
        (fun s w => Own wb (SlC q2 ids.length cap2 3 1 (ints (ids.map fun a => M.eval st a X)) :: SlC q ids.length cap 3 1 (ints ids) :: StoreC p s.2 :: R) w ∧ s.1 ≤ 30 ∧ Ext st s.2 ∧ Wf s.2)
        (fun s => 30 - s.1) (0, st) ⟨rfl, rfl, rfl, rfl, rfl, rfl, rfl, rfl, trivial⟩ ⟨H, Nat.zero_le _, Ext.refl st, hw⟩ ?_
      clear H hil hle i
      rintro ⟨i, s1⟩ e w ⟨H, hle, hext, hw1⟩
      simp only at H hle hext hw1 ⊢
      by_cases hil : (i : Int) < (ml.length : Int)
      · by_cases hi30 : (i : Int) < 30
        · obtain ⟨r, hri⟩ : ∃ r, ml[i]? = some r := ⟨ml[i]'(by omega), by simp⟩
          obtain ⟨⟨rb, ro, rfl, hcell⟩, hok⟩ := hmore i r hri
          obtain ⟨s2, k2, e2, hl2, w2, x2⟩ := M.leaf_any hw1 r.b
          obtain ⟨s3, k3, e3, hl3, w3, x3⟩ := M.make_any' w2 (M.pick r.b 7) (M.pick r.c (st.nodes.length + 1)) (M.pick r.d (st.nodes.length + 1))
          have m1 := hw1.most
          have m2 := w2.most
          have hp0 : (0 : Int) < (st.nodes.length : Int) + 1 := by omega
          refine W_seq ?_
          refine W_seq ?_
          refine W_region ?_
          refine ops_v (v_move (v := (.int _ _)) rfl rfl) ?_
          refine ops_v (v_move (v := (.slice _ _ _)) rfl rfl) ?_
          refine ops_v (v_len rfl sl22 rfl) ?_
          refine ops_v (v_lss true rfl rfl rfl (decide_eq_true (by first | omega | (simp only; omega) | rfl | decide))) ?_
          refine ops_v (v_move (v := (.bool _)) rfl rfl) ?_
          refine ops_v (v_move (v := (.int _ _)) rfl rfl) ?_
          refine ops_v (v_lss true rfl rfl rfl (decide_eq_true (by first | omega | (simp only; omega) | rfl | decide))) ?_
          refine ops_v (v_pick_t (v := (.bool _)) rfl rfl rfl) ?_
          refine ops_nil ?_
          refine W_if_t rfl ?_
          refine W_skip ?_
          refine W_seq ?_
          refine W_block ?_
          refine W_seq ?_
          refine W_region ?_
          refine ops_v (v_move (v := (.pointer _)) rfl rfl) ?_
          refine ops_v (v_move (v := (.slice _ _ _)) rfl rfl) ?_
          refine ops_v (v_move (v := (.int _ _)) rfl rfl) ?_
          refine ops_v (v_indexAddr_sl rfl se22 rfl rfl (by omega) (by omega)) ?_
          refine ops_v (v_indexAddr_arr rfl ae39 rfl rfl (by first | omega | decide) rfl) ?_
          refine ops_v (v_loadBase1 (v := .int .i64 r.b) rfl tc3 (fun w' hw' => by rw [hw']; exact H.base.cell (hcell 1 _ rfl)) rfl) ?_
          refine ops_call rfl c38 (FnC.at 2 rfl H (fun _ H => Leaf_ok m1 hl2 H)) ?_
          clear H; rintro _ w ⟨rfl, H⟩
          refine ops_v (v_move (v := (.tuple _)) rfl rfl) ?_
          refine ops_v (v_extract (v := (.int _ _)) rfl rfl rfl) ?_
          refine ops_v (v_extract (v := (.int _ _)) rfl rfl rfl) ?_
          refine ops_nil ?_
          refine W_drawB (is := []) mixed H ?_
          clear H; intro w H
          refine any_take 0 rfl (by kernel_rfl) (by kernel_rfl) (by kernel_rfl) (v_move (v := (.pointer _)) rfl rfl) ?_
          refine any_take 1 rfl (by kernel_rfl) (by kernel_rfl) (by kernel_rfl) (v_move (v := (.slice _ _ _)) rfl rfl) ?_
          refine any_take 2 rfl (by kernel_rfl) (by kernel_rfl) (by kernel_rfl) (v_move (v := (.int _ _)) rfl rfl) ?_
          refine any_take 3 rfl (by kernel_rfl) (by kernel_rfl) (by kernel_rfl) (v_indexAddr_sl rfl se22 rfl rfl (by omega) (by omega)) ?_
          refine any_take 4 rfl (by kernel_rfl) (by kernel_rfl) (by kernel_rfl) (v_indexAddr_arr rfl ae39 rfl rfl (by first | omega | decide) rfl) ?_
          refine any_take 5 rfl (by kernel_rfl) (by kernel_rfl) (by kernel_rfl) (v_loadBase1 (v := .int .i64 r.b) rfl tc3 (fun w' hw' => hw'.1.cell (hcell 1 _ rfl)) rfl) ?_
          refine any_take 7 rfl (by kernel_rfl) (by kernel_rfl) (by kernel_rfl) (v_move (v := (.slice _ _ _)) rfl rfl) ?_
          refine any_take 8 rfl (by kernel_rfl) (by kernel_rfl) (by kernel_rfl) (v_move (v := (.int _ _)) rfl rfl) ?_
          refine any_take 9 rfl (by kernel_rfl) (by kernel_rfl) (by kernel_rfl) (v_indexAddr_sl rfl se22 rfl rfl (by omega) (by omega)) ?_
          refine any_take 10 rfl (by kernel_rfl) (by kernel_rfl) (by kernel_rfl) (v_indexAddr_arr rfl ae39 rfl rfl (by first | omega | decide) rfl) ?_
          refine any_take 11 rfl (by kernel_rfl) (by kernel_rfl) (by kernel_rfl) (v_loadBase1 (v := .int .i64 r.c) rfl tc3 (fun w' hw' => hw'.1.cell (hcell 2 _ rfl)) rfl) ?_
          refine any_take 12 rfl (by kernel_rfl) (by kernel_rfl) (by kernel_rfl) (v_move (v := (.int _ _)) rfl rfl) ?_
          refine any_take 13 rfl (by kernel_rfl) (by kernel_rfl) (by kernel_rfl) (v_add _ rfl rfl rfl (wrap_in (by omega) (by omega))) ?_
          refine any_take 15 rfl (by kernel_rfl) (by kernel_rfl) (by kernel_rfl) (v_move (v := (.slice _ _ _)) rfl rfl) ?_
          refine any_take 16 rfl (by kernel_rfl) (by kernel_rfl) (by kernel_rfl) (v_move (v := (.int _ _)) rfl rfl) ?_
          refine any_take 17 rfl (by kernel_rfl) (by kernel_rfl) (by kernel_rfl) (v_indexAddr_sl rfl se22 rfl rfl (by omega) (by omega)) ?_
          refine any_take 18 rfl (by kernel_rfl) (by kernel_rfl) (by kernel_rfl) (v_indexAddr_arr rfl ae39 rfl rfl (by first | omega | decide) rfl) ?_
          refine any_take 19 rfl (by kernel_rfl) (by kernel_rfl) (by kernel_rfl) (v_loadBase1 (v := .int .i64 r.d) rfl tc3 (fun w' hw' => hw'.1.cell (hcell 3 _ rfl)) rfl) ?_
          refine any_take 20 rfl (by kernel_rfl) (by kernel_rfl) (by kernel_rfl) (v_move (v := (.int _ _)) rfl rfl) ?_
          refine any_take 21 rfl (by kernel_rfl) (by kernel_rfl) (by kernel_rfl) (v_add _ rfl rfl rfl (wrap_in (by omega) (by omega))) ?_
          refine any_one 6 rfl (by kernel_rfl) ?_
          refine ops_call rfl c25 (pick13_ok H r.b 7 hok.2.1 (by decide)) ?_
          clear H; rintro _ w ⟨rfl, H⟩
          refine ops_nil ⟨⟨H.base, trivial⟩, ?_⟩
          refine any_one 14 rfl (by kernel_rfl) ?_
          refine ops_call rfl c25 (pick13_ok H r.c (st.nodes.length + 1) hok.2.2.1 hp0) ?_
          clear H; rintro _ w ⟨rfl, H⟩
          refine ops_nil ⟨⟨H.base, trivial⟩, ?_⟩
          refine any_one 22 rfl (by kernel_rfl) ?_
          refine ops_call rfl c25 (pick13_ok H r.d (st.nodes.length + 1) hok.2.2.2 hp0) ?_
          clear H; rintro _ w ⟨rfl, H⟩
          refine ops_nil ⟨⟨H.base, trivial⟩, ?_⟩
          refine any_one 23 rfl (by kernel_rfl) ?_
          refine ops_call rfl c39 (FnC.at 2 rfl H (fun _ H => Make_ok m2 hl3 H)) ?_
          clear H; rintro _ w ⟨rfl, H⟩
          refine ops_nil ⟨⟨H.base, trivial⟩, ?_⟩
          refine any_take 24 rfl (by kernel_rfl) (by kernel_rfl) (by kernel_rfl) (v_move (v := (.tuple _)) rfl rfl) ?_
          refine any_take 25 rfl (by kernel_rfl) (by kernel_rfl) (by kernel_rfl) (v_extract (v := (.int _ _)) rfl rfl rfl) ?_
          refine any_take 26 rfl (by kernel_rfl) (by kernel_rfl) (by kernel_rfl) (v_extract (v := (.int _ _)) rfl rfl rfl) ?_
          refine any_done (by kernel_rfl) ?_
          refine W_region ?_
          refine ops_v (v_move (v := (.int _ _)) rfl rfl) ?_
          refine ops_v (v_add _ rfl rfl rfl (wrap_in (by omega) (by omega))) ?_
          refine ops_v (v_assign (v := (.int _ _)) rfl rfl) ?_
          refine ops_nil ?_
          refine ⟨(i + 1, s3), ?_, ⟨rfl, rfl, rfl, rfl, rfl, rfl, rfl, rfl, trivial⟩, H, ?_, hext.trans (x2.trans x3), w3⟩
          · show 30 - (i + 1) < 30 - i; omega
          · show i + 1 ≤ 30; omega
          -- (backstaylaw13.NodeKeeps: loopend; chunks w,s,S; ptr )
        · refine W_seq ?_
          refine W_seq ?_
          refine W_region ?_
          refine ops_v (v_move (v := (.int _ _)) rfl rfl) ?_
          refine ops_v (v_move (v := (.slice _ _ _)) rfl rfl) ?_
          refine ops_v (v_len rfl sl22 rfl) ?_
          refine ops_v (v_lss true rfl rfl rfl (decide_eq_true (by first | omega | (simp only; omega) | rfl | decide))) ?_
          refine ops_v (v_move (v := (.bool _)) rfl rfl) ?_
          refine ops_v (v_move (v := (.int _ _)) rfl rfl) ?_
          refine ops_v (v_lss false rfl rfl rfl (decide_eq_false (by first | omega | (simp only; omega) | rfl | decide))) ?_
          refine ops_v (v_pick_t (v := (.bool _)) rfl rfl rfl) ?_
          refine ops_nil ?_
          refine W_if_f rfl ?_
          refine W_exit ?_
          refine W_seq ?_
          refine W_seq ?_
          refine W_region ?_
          refine ops_v (v_assign (v := _) rfl rfl) ?_
          refine ops_nil ?_
          refine W_block ?_
          -- (backstaylaw13.NodeKeeps: loop; chunks w,s,S; ptr )
          refine W_loopS (fun (s : Nat) => [(9, .bool true), (11, ptr p), (12, .slice q ids.length cap), (13, int X), (14, .slice q2 ids.length cap2), (22, .int .i64 s)])
            (fun s w => Own wb (SlC q2 ids.length cap2 3 1 (ints (ids.map fun a => M.eval st a X)) :: SlC q ids.length cap 3 1 (ints ids) :: StoreC p s1 :: R) w ∧ s ≤ ids.length)
            (fun s => ids.length - s) 0 ⟨rfl, rfl, rfl, rfl, rfl, rfl, trivial⟩ ⟨H, Nat.zero_le _⟩ ?_
          clear H hil hle hi30 i
          rintro i e w ⟨H, hle⟩
          by_cases hil : (i : Int) < (ids.length : Int)
          · obtain ⟨g, rfl⟩ := H.slSome 1 rfl (by omega)
            obtain ⟨g2, rfl⟩ := H.slSome 0 rfl (by omega)
            obtain ⟨a, ha⟩ : ∃ a, ids[i]? = some a := ⟨ids[i]'(by omega), by simp⟩
            have ha' : (ints ids)[0 + ((i : Int)).toNat * 1]? = some (.int .i64 a) := by rw [Nat.zero_add, Nat.mul_one]; simp [ints, ha]
            have hb' : (ints (ids.map fun a => M.eval st a X))[0 + ((i : Int)).toNat * 1]? = some (.int .i64 (M.eval st a X)) := by rw [Nat.zero_add, Nat.mul_one]; simp [ints, ha]
            have hsame := hext.eval hw hw1 X a (hm.nodes a (List.mem_of_getElem? ha))
            refine W_seq ?_
            refine W_seq ?_
            refine W_region ?_
            refine ops_v (v_move (v := (.int _ _)) rfl rfl) ?_
            refine ops_v (v_move (v := (.slice _ _ _)) rfl rfl) ?_
            refine ops_v (v_len rfl sl40 rfl) ?_
            refine ops_v (v_lss true rfl rfl rfl (decide_eq_true (by first | omega | (simp only; omega) | rfl | decide))) ?_
            refine ops_nil ?_
            refine W_if_t rfl ?_
            refine W_skip ?_
            refine W_seq ?_
            refine W_block ?_
            refine W_seq ?_
            obtain ⟨cs1, t1, t2, t3, t4, H⟩ := H.slToBlk 0 rfl
            obtain ⟨cs2, u1, u2, u3, u4, H⟩ := H.slToBlk 1 rfl
            refine W_draw (is := [0, 1]) mixed H ?_
            clear H; intro w H
            refine any_take 0 rfl (by kernel_rfl) (by kernel_rfl) (by kernel_rfl) (v_move (v := (.pointer _)) rfl rfl) ?_
            refine any_take 1 rfl (by kernel_rfl) (by kernel_rfl) (by kernel_rfl) (v_move (v := (.slice _ _ _)) rfl rfl) ?_
            refine any_take 2 rfl (by kernel_rfl) (by kernel_rfl) (by kernel_rfl) (v_move (v := (.int _ _)) rfl rfl) ?_
            refine any_take 3 rfl (by kernel_rfl) (by kernel_rfl) (by kernel_rfl) (v_indexAddr_sl rfl se40 rfl rfl (by omega) (by omega)) ?_
            refine any_take 4 rfl (by kernel_rfl) (by kernel_rfl) (by kernel_rfl) (v_load (v := .int .i64 a) rfl tc3 (fun _ hS => hS.2.1 _ _ _ rfl) rfl (take_get u1 ha')) ?_
            refine any_take 5 rfl (by kernel_rfl) (by kernel_rfl) (by kernel_rfl) (v_move (v := (.int _ _)) rfl rfl) ?_
            refine any_take 7 rfl (by kernel_rfl) (by kernel_rfl) (by kernel_rfl) (v_move (v := (.slice _ _ _)) rfl rfl) ?_
            refine any_take 8 rfl (by kernel_rfl) (by kernel_rfl) (by kernel_rfl) (v_move (v := (.int _ _)) rfl rfl) ?_
            refine any_take 9 rfl (by kernel_rfl) (by kernel_rfl) (by kernel_rfl) (v_indexAddr_sl rfl se40 rfl rfl (by omega) (by omega)) ?_
            refine any_take 10 rfl (by kernel_rfl) (by kernel_rfl) (by kernel_rfl) (v_load (v := .int .i64 (M.eval st a X)) rfl tc3 (fun _ hS => hS.1 _ _ _ rfl) rfl (take_get t1 hb')) ?_
            refine any_one 6 rfl (by kernel_rfl) ?_
            refine ops_call rfl c33 (FnC.ro 2 rfl H (fun _ => EvalV hw1 a X _ hsame)) ?_
            clear H; rintro _ w ⟨rfl, H⟩
            refine ops_nil ⟨H.stab [(0, 0), (1, 1)] ⟨rfl, rfl, trivial⟩, ?_⟩
            refine any_take 11 rfl (by kernel_rfl) (by kernel_rfl) (by kernel_rfl) (v_neq false rfl rfl rfl (decide_eq_false (by first | omega | (simp only; omega) | rfl | decide))) ?_
            refine any_done (by kernel_rfl) ?_
            refine W_if_f rfl ?_
            refine W_skip ?_
            refine W_region ?_
            refine ops_v (v_move (v := (.int _ _)) rfl rfl) ?_
            refine ops_v (v_add _ rfl rfl rfl (wrap_in (by omega) (by omega))) ?_
            refine ops_v (v_assign (v := (.int _ _)) rfl rfl) ?_
            refine ops_nil ?_
            have H := (H.blkToSlAt 0 rfl t1 t2 t3 t4).blkToSlAt 1 rfl u1 u2 u3 u4
            refine ⟨i + 1, ?_, ⟨rfl, rfl, rfl, rfl, rfl, rfl, trivial⟩, H, ?_⟩
            · show ids.length - (i + 1) < ids.length - i; omega
            · show i + 1 ≤ ids.length; omega
            -- (backstaylaw13.NodeKeeps: loopend; chunks w,s,S; ptr )
          · refine W_seq ?_
            refine W_seq ?_
            refine W_region ?_
            refine ops_v (v_move (v := (.int _ _)) rfl rfl) ?_
            refine ops_v (v_move (v := (.slice _ _ _)) rfl rfl) ?_
            refine ops_v (v_len rfl sl40 rfl) ?_
            refine ops_v (v_lss false rfl rfl rfl (decide_eq_false (by first | omega | (simp only; omega) | rfl | decide))) ?_
            refine ops_nil ?_
            refine W_if_f rfl ?_
            refine W_exit ?_
            refine W_seq ?_
            refine W_region ?_
            refine ops_v (v_move (v := (.bool _)) rfl rfl) ?_
            refine ops_v (v_assign (v := (.bool _)) rfl rfl) ?_
            refine ops_nil ?_
            refine W_ret ?_
            refine ⟨_, (.tmp (v := (.bool _)) rfl .nil), ?_⟩
            exact ⟨rfl, _, H⟩
            -- (backstaylaw13.NodeKeeps: ret; chunks w,s,S; ptr )
      · refine W_seq ?_
        refine W_seq ?_
        refine W_region ?_
        refine ops_v (v_move (v := (.int _ _)) rfl rfl) ?_
        refine ops_v (v_move (v := (.slice _ _ _)) rfl rfl) ?_
        refine ops_v (v_len rfl sl22 rfl) ?_
        refine ops_v (v_lss false rfl rfl rfl (decide_eq_false (by first | omega | (simp only; omega) | rfl | decide))) ?_
        refine ops_v (v_move (v := (.bool _)) rfl rfl) ?_
        refine ops_skip rfl rfl ?_
        refine ops_skip rfl rfl ?_
        refine ops_v (v_pick_f (v := (.bool _)) rfl rfl rfl) ?_
        refine ops_nil ?_
        refine W_if_f rfl ?_
        refine W_exit ?_
        refine W_seq ?_
        refine W_seq ?_
        refine W_region ?_
        refine ops_v (v_assign (v := _) rfl rfl) ?_
        refine ops_nil ?_
        refine W_block ?_
        -- (backstaylaw13.NodeKeeps: loop; chunks w,s,S; ptr )
        refine W_loopS (fun (s : Nat) => [(9, .bool true), (11, ptr p), (12, .slice q ids.length cap), (13, int X), (14, .slice q2 ids.length cap2), (22, .int .i64 s)])
          (fun s w => Own wb (SlC q2 ids.length cap2 3 1 (ints (ids.map fun a => M.eval st a X)) :: SlC q ids.length cap 3 1 (ints ids) :: StoreC p s1 :: R) w ∧ s ≤ ids.length)
          (fun s => ids.length - s) 0 ⟨rfl, rfl, rfl, rfl, rfl, rfl, trivial⟩ ⟨H, Nat.zero_le _⟩ ?_
        clear H hil hle i
        rintro i e w ⟨H, hle⟩
        by_cases hil : (i : Int) < (ids.length : Int)
        · obtain ⟨g, rfl⟩ := H.slSome 1 rfl (by omega)
          obtain ⟨g2, rfl⟩ := H.slSome 0 rfl (by omega)
          obtain ⟨a, ha⟩ : ∃ a, ids[i]? = some a := ⟨ids[i]'(by omega), by simp⟩
          have ha' : (ints ids)[0 + ((i : Int)).toNat * 1]? = some (.int .i64 a) := by rw [Nat.zero_add, Nat.mul_one]; simp [ints, ha]
          have hb' : (ints (ids.map fun a => M.eval st a X))[0 + ((i : Int)).toNat * 1]? = some (.int .i64 (M.eval st a X)) := by rw [Nat.zero_add, Nat.mul_one]; simp [ints, ha]
          have hsame := hext.eval hw hw1 X a (hm.nodes a (List.mem_of_getElem? ha))
          refine W_seq ?_
          refine W_seq ?_
          refine W_region ?_
          refine ops_v (v_move (v := (.int _ _)) rfl rfl) ?_
          refine ops_v (v_move (v := (.slice _ _ _)) rfl rfl) ?_
          refine ops_v (v_len rfl sl40 rfl) ?_
          refine ops_v (v_lss true rfl rfl rfl (decide_eq_true (by first | omega | (simp only; omega) | rfl | decide))) ?_
          refine ops_nil ?_
          refine W_if_t rfl ?_
          refine W_skip ?_
          refine W_seq ?_
          refine W_block ?_
          refine W_seq ?_
          obtain ⟨cs1, t1, t2, t3, t4, H⟩ := H.slToBlk 0 rfl
          obtain ⟨cs2, u1, u2, u3, u4, H⟩ := H.slToBlk 1 rfl
          refine W_draw (is := [0, 1]) mixed H ?_
          clear H; intro w H
          refine any_take 0 rfl (by kernel_rfl) (by kernel_rfl) (by kernel_rfl) (v_move (v := (.pointer _)) rfl rfl) ?_
          refine any_take 1 rfl (by kernel_rfl) (by kernel_rfl) (by kernel_rfl) (v_move (v := (.slice _ _ _)) rfl rfl) ?_
          refine any_take 2 rfl (by kernel_rfl) (by kernel_rfl) (by kernel_rfl) (v_move (v := (.int _ _)) rfl rfl) ?_
          refine any_take 3 rfl (by kernel_rfl) (by kernel_rfl) (by kernel_rfl) (v_indexAddr_sl rfl se40 rfl rfl (by omega) (by omega)) ?_
          refine any_take 4 rfl (by kernel_rfl) (by kernel_rfl) (by kernel_rfl) (v_load (v := .int .i64 a) rfl tc3 (fun _ hS => hS.2.1 _ _ _ rfl) rfl (take_get u1 ha')) ?_
          refine any_take 5 rfl (by kernel_rfl) (by kernel_rfl) (by kernel_rfl) (v_move (v := (.int _ _)) rfl rfl) ?_
          refine any_take 7 rfl (by kernel_rfl) (by kernel_rfl) (by kernel_rfl) (v_move (v := (.slice _ _ _)) rfl rfl) ?_
          refine any_take 8 rfl (by kernel_rfl) (by kernel_rfl) (by kernel_rfl) (v_move (v := (.int _ _)) rfl rfl) ?_
          refine any_take 9 rfl (by kernel_rfl) (by kernel_rfl) (by kernel_rfl) (v_indexAddr_sl rfl se40 rfl rfl (by omega) (by omega)) ?_
          refine any_take 10 rfl (by kernel_rfl) (by kernel_rfl) (by kernel_rfl) (v_load (v := .int .i64 (M.eval st a X)) rfl tc3 (fun _ hS => hS.1 _ _ _ rfl) rfl (take_get t1 hb')) ?_
          refine any_one 6 rfl (by kernel_rfl) ?_
          refine ops_call rfl c33 (FnC.ro 2 rfl H (fun _ => EvalV hw1 a X _ hsame)) ?_
          clear H; rintro _ w ⟨rfl, H⟩
          refine ops_nil ⟨H.stab [(0, 0), (1, 1)] ⟨rfl, rfl, trivial⟩, ?_⟩
          refine any_take 11 rfl (by kernel_rfl) (by kernel_rfl) (by kernel_rfl) (v_neq false rfl rfl rfl (decide_eq_false (by first | omega | (simp only; omega) | rfl | decide))) ?_
          refine any_done (by kernel_rfl) ?_
          refine W_if_f rfl ?_
          refine W_skip ?_
          refine W_region ?_
          refine ops_v (v_move (v := (.int _ _)) rfl rfl) ?_
          refine ops_v (v_add _ rfl rfl rfl (wrap_in (by omega) (by omega))) ?_
          refine ops_v (v_assign (v := (.int _ _)) rfl rfl) ?_
          refine ops_nil ?_
          have H := (H.blkToSlAt 0 rfl t1 t2 t3 t4).blkToSlAt 1 rfl u1 u2 u3 u4
          refine ⟨i + 1, ?_, ⟨rfl, rfl, rfl, rfl, rfl, rfl, trivial⟩, H, ?_⟩
          · show ids.length - (i + 1) < ids.length - i; omega
          · show i + 1 ≤ ids.length; omega
          -- (backstaylaw13.NodeKeeps: loopend; chunks w,s,S; ptr )
        · refine W_seq ?_
          refine W_seq ?_
          refine W_region ?_
          refine ops_v (v_move (v := (.int _ _)) rfl rfl) ?_
          refine ops_v (v_move (v := (.slice _ _ _)) rfl rfl) ?_
          refine ops_v (v_len rfl sl40 rfl) ?_
          refine ops_v (v_lss false rfl rfl rfl (decide_eq_false (by first | omega | (simp only; omega) | rfl | decide))) ?_
          refine ops_nil ?_
          refine W_if_f rfl ?_
          refine W_exit ?_
          refine W_seq ?_
          refine W_region ?_
          refine ops_v (v_move (v := (.bool _)) rfl rfl) ?_
          refine ops_v (v_assign (v := (.bool _)) rfl rfl) ?_
          refine ops_nil ?_
          refine W_ret ?_
          refine ⟨_, (.tmp (v := (.bool _)) rfl .nil), ?_⟩
          exact ⟨rfl, _, H⟩
          -- (backstaylaw13.NodeKeeps: ret; chunks w,s,S; ptr )
theorem walk (W : World) (links : Int) (i1 : i64 links) (v : Value) (l : List R4) (hr : RawIs W v l) (mv : Value) (ml : List R4) (hmr : RawIs W mv ml) (f : Int) (i4 : i64 f) :
    FnC Try.prog 6 [int links, v, mv, int f] W (fun v w' => v = .bool true ∧ Base W w') :=
  (law_ok (Own.start W) links f i1 i4 v mv l ml hr hmr).mono (fun _ _ ⟨a, _, H⟩ => ⟨a, H.base⟩)
theorem own : ownKnob Try.prog.godebug = none := by kernel_rfl
set_option maxRecDepth 100000 in
theorem lifted (os : Os) (started : os.Started) (H : Type) (enc : TypeId × Value → H) :
    ReturnsInHanded {} Try.checked os 6 .any (Rows.nodeKeepsSpec.pre6 enc Try.prog Try.f6 Rows.nodeKeepsRow.domain false) (Rows.nodeKeepsSpec.post enc Try.prog Try.f6 false true false false) := by
  refine returnsInHanded_of_change (C := Try.checked) own started (by kernel_rfl) Try.func6
    (ChangeSpec.witness6 (enc := enc) (C := Try.checked) false ⟨#[], #[.int .i64 0, .slice none 0 0, .slice none 0 0, .int .i64 0], []⟩ 8 (by kernel_rfl) (by kernel_rfl) (by kernel_rfl) (by kernel_rfl)) ?_
  intro W base args ds gs before hval0 hW hcnd _
  have hval : ∀ (j : Nat) t v, Try.f6.params[j]? = some t → args[j]? = some v → Value.okWide Try.prog W .any base t v := hval0
  have hW' := hW
  obtain ⟨p, q, hA0, hV, rfl, hfz, hnd⟩ := hW
  have hA : DataW.TrodAll enc Try.prog W 0 (fun _ => true) true Try.f6.params.toList args.toList ds p := hA0
  rw [Try.params6] at hA hval
  obtain ⟨v0, vs0, d0, ds0, p0, q0, hargs, rfl, rfl, h0, r0⟩ := trodAll_cons hA
  obtain ⟨v1, vs1, d1, ds1, p1, q1, rfl, rfl, rfl, h1, r1⟩ := trodAll_cons r0
  obtain ⟨v2, vs2, d2, ds2, p2, q2, rfl, rfl, rfl, h2, r2⟩ := trodAll_cons r1
  obtain ⟨v3, vs3, d3, ds3, p3, q3, rfl, rfl, rfl, h3, r3⟩ := trodAll_cons r2
  obtain ⟨rfl, rfl, rfl⟩ := trodAll_nil r3
  obtain rfl : args = #[v0, v1, v2, v3] := by cases args; simp_all
  obtain ⟨rfl, rfl⟩ := trodVars_none hV
  obtain ⟨a0, rfl, rfl, rfl, x0⟩ := open_int Try.underlying3 (hval 0 3 v0 rfl rfl) h0
  have k1 := h1
  have lt1 : ∀ x ∈ p1, x.block < W.heap.size := by obtain ⟨m, hm⟩ := k1; exact DataW.trod_lt m _ _ _ hm
  obtain ⟨l1, w1⟩ := raw_of_trod h1 (okWide_slice Try.underlying22 (hval 1 22 v1 rfl rfl))
  have k2 := h2
  have lt2 : ∀ x ∈ p2, x.block < W.heap.size := by obtain ⟨m, hm⟩ := k2; exact DataW.trod_lt m _ _ _ hm
  obtain ⟨l2, w2⟩ := raw_of_trod h2 (okWide_slice Try.underlying22 (hval 2 22 v2 rfl rfl))
  obtain ⟨a3, rfl, rfl, rfl, x3⟩ := open_int Try.underlying3 (hval 3 3 v3 rfl rfl) h3
  clear hA0 hval0
  refine Calls.mono (walk W a0 (bounds_i64 x0) v1 l1 w1 v2 l2 w2 a3 (bounds_i64 x3)) ?_
  rintro e W' ⟨_, rfl, rfl, hb⟩
  have bel := hb.below
  exact ⟨_, rfl, _, _, _, [], _, [], hW', trodAll_mk1 (shut_bool Try.underlying4 _), (trodAll_cons_mk (shut_int Try.underlying3 x0) (trodAll_cons_mk (Below.trod laidOut (by kernel_rfl) (of_decide_eq_true (by kernel_rfl)) k1 bel lt1) (trodAll_cons_mk (Below.trod laidOut (by kernel_rfl) (of_decide_eq_true (by kernel_rfl)) k2 bel lt2) (trodAll_cons_mk (shut_int Try.underlying3 x3) trodAll_mk0)))), rfl, bel.frame _, fun h => by cases h⟩
theorem closed : joinedFacts Try.prog 6 Try.f6 Rows.nodeKeepsSpec Rows.nodeKeepsRow = true := Go.Proofs.Ytchikjmhncojfaa.Head.joined (by kernel_rfl) rfl rfl (by kernel_rfl) (by kernel_rfl) (by kernel_rfl) (by kernel_rfl)
theorem over : Rows.nodeKeepsRow.holds Try.pinned (OpenSpec.ofChange Rows.nodeKeepsSpec) :=
  OpenClaim.holds_of_wide 6 Try.f6 rfl rfl rfl rfl rfl rfl rfl ⟨rfl, rfl, rfl, rfl, rfl⟩ rfl rfl rfl rfl rfl (by kernel_rfl) Try.func6 closed
    (of_decide_eq_true (by kernel_rfl)) (by unfold Func.isWrapper; first | (rw [if_pos (by decide +kernel)]; kernel_rfl) | (rw [if_neg (by decide +kernel)]; exact ⟨rfl, rfl⟩))
    (fun os started H enc _ => lifted os started H enc)
/-- The statement. -/
theorem proved : Rows.NodeKeepsSaid := over
end Go.Proofs.Ytchikjmhncojfaa.nodeKeeps
