/- The walks of package node, third part: Eval. Conditions: none. -/
import Derived.Test.YtchikjmhncojfaaDoorNode2
namespace Go.Proofs.YtchikjmhncojfaaDoor.W
open Go Go.Proofs Go.RowKit
open Go.Proofs.YtchikjmhncojfaaDoor.M (Br St get getZ isN idx has down Wf rank)

theorem NodeZ_ok {wb w : World} {p : Nat} {st : St} {R : List Chunk} (id : Int) (H : Own wb (StoreC p st :: R) w) :
    FnC Tryd.prog 27 [ptr p, int id] w (fun v w' => v = nodeV (getZ st id) (isN st id) ∧ Own wb (StoreC p st :: R) w') := by
  unfold getZ isN
  cases hg : get st id with
  | none => exact Node_bad hg H
  | some b => exact Node_ok hg H

set_option maxHeartbeats 1000000 in
theorem Eval_ok {wb w : World} {p : Nat} {st : St} {R : List Chunk} (hw : Wf st) (id f : Int) (H : Own wb (StoreC p st :: R) w) :
    FnC Tryd.prog 14 [ptr p, int id, int f] w (fun v w' => v = .int .i64 (M.eval st id f) ∧ Own wb (StoreC p st :: R) w') := by
  refine FnC_of Tryd.func14 rfl rfl rfl rfl ?_
  refine W_seq ?_
  refine W_region ?_
  refine ops_v (v_assign (v := _) rfl rfl) ?_
  refine ops_nil ?_
  refine W_seq ?_
  refine W_region ?_
  refine ops_v (v_move (v := (.pointer _)) rfl rfl) ?_
  refine ops_v (v_move (v := (.int _ _)) rfl rfl) ?_
  refine ops_call rfl c27 (NodeZ_ok id H) ?_
  clear H; rintro _ w ⟨rfl, H⟩
  refine ops_v (v_move (v := (.tuple _)) rfl rfl) ?_
  refine ops_v (v_extract (v := (.agg _)) rfl rfl rfl) ?_
  refine ops_v (v_extract (v := (.bool _)) rfl rfl rfl) ?_
  refine ops_alloc H rfl tz56 ?_
  clear H; intro bn0 w H
  refine ops_store (vs := [_, _, _, _, _]) (v := (.agg _)) (cs' := [_, _, _, _, _]) 0 H rfl ts56 rfl rfl rfl rfl rfl rfl rfl rfl ?_
  clear H; intro w H
  refine ops_v (v_assign (v := (.bool _)) rfl rfl) ?_
  refine ops_nil ?_
  refine W_seq ?_
  refine W_block ?_
  -- ((*node.Store).Eval: loop; chunks n0,S; ptr 7=n0)
  refine W_loopS (fun (i : Int) => [(0, ptr p), (2, int f), (7, ptr bn0), (8, .bool (isN st i))]) (fun i w => Own wb (Blk bn0 (cellsB (getZ st i)) 56 :: StoreC p st :: R) w ∧ M.eval st i f = M.eval st id f) (fun i => rank st i) id ⟨rfl, rfl, rfl, rfl, trivial⟩ ⟨H, rfl⟩ ?_
  clear H
  rintro i e w ⟨H, hi⟩
  cases hg : get st i with
  | none =>
    have e1 : isN st i = false := by simp [isN, hg]
    have e2 : getZ st i = Br.zero := by simp [getZ, hg]
    rw [e2] at H
    rw [e1]
    refine W_seq ?_
    refine W_seq ?_
    refine W_region ?_
    refine ops_v (v_move (v := (.bool _)) rfl rfl) ?_
    refine ops_v (v_move (v := (.bool _)) rfl rfl) ?_
    refine ops_skip rfl rfl ?_
    refine ops_skip rfl rfl ?_
    refine ops_skip rfl rfl ?_
    refine ops_v (v_pick_f (v := (.bool _)) rfl rfl rfl) ?_
    refine ops_nil ?_
    refine W_if_f rfl ?_
    refine W_exit ?_
    refine W_seq ?_
    refine W_region ?_
    refine ops_v (v_fieldAddr rfl fo56_1 rfl rfl) ?_
    refine ops_load (v := (.int _ _)) 0 H rfl tc3 rfl rfl rfl ?_
    refine ops_v (v_assign (v := (.int _ _)) rfl rfl) ?_
    refine ops_nil ?_
    refine W_ret ?_
    refine ⟨_, (.tmp (v := (.int _ _)) rfl .nil), ?_⟩
    exact ⟨by rw [← hi, M.eval_none hg]; rfl, H.tail⟩
    -- ((*node.Store).Eval: ret; chunks n0,S; ptr 7=n0,39=n0)
  | some b =>
    have e1 : isN st i = true := by simp [isN, hg]
    have e2 : getZ st i = b := by simp [getZ, hg]
    rw [e2] at H
    rw [e1]
    cases hl : b.leaf with
    | true =>
      have e3 : cellsB b = [.bool true, .int .i64 b.value, .int .i64 b.link, .int .i64 b.stands, .int .i64 b.fails] := by unfold cellsB; rw [hl]
      rw [e3] at H
      refine W_seq ?_
      refine W_seq ?_
      refine W_region ?_
      refine ops_v (v_move (v := (.bool _)) rfl rfl) ?_
      refine ops_v (v_move (v := (.bool _)) rfl rfl) ?_
      refine ops_v (v_fieldAddr rfl fo56_0 rfl rfl) ?_
      refine ops_load (v := (.bool _)) 0 H rfl tc4 rfl rfl rfl ?_
      refine ops_v (v_not rfl rfl _ rfl) ?_
      refine ops_v (v_pick_t (v := (.bool _)) rfl rfl rfl) ?_
      refine ops_nil ?_
      refine W_if_f rfl ?_
      refine W_exit ?_
      refine W_seq ?_
      refine W_region ?_
      refine ops_v (v_fieldAddr rfl fo56_1 rfl rfl) ?_
      refine ops_load (v := (.int _ _)) 0 H rfl tc3 rfl rfl rfl ?_
      refine ops_v (v_assign (v := (.int _ _)) rfl rfl) ?_
      refine ops_nil ?_
      refine W_ret ?_
      refine ⟨_, (.tmp (v := (.int _ _)) rfl .nil), ?_⟩
      exact ⟨by rw [← hi, M.eval_leaf hg hl]; rfl, H.tail⟩
      -- ((*node.Store).Eval: ret; chunks n0,S; ptr 7=n0,17=n0,39=n0)
    | false =>
      have e3 : cellsB b = [.bool false, .int .i64 b.value, .int .i64 b.link, .int .i64 b.stands, .int .i64 b.fails] := by unfold cellsB; rw [hl]
      rw [e3] at H
      have hr := hw.rank_down (f := f) hg hl
      have he := M.eval_ask hw (f := f) hg hl
      cases hh : has f b.link with
      | true =>
        have hd : down b f = b.fails := by simp [down, hh]
        rw [hd] at hr he
        refine W_seq ?_
        refine W_seq ?_
        refine W_region ?_
        refine ops_v (v_move (v := (.bool _)) rfl rfl) ?_
        refine ops_v (v_move (v := (.bool _)) rfl rfl) ?_
        refine ops_v (v_fieldAddr rfl fo56_0 rfl rfl) ?_
        refine ops_load (v := (.bool _)) 0 H rfl tc4 rfl rfl rfl ?_
        refine ops_v (v_not rfl rfl _ rfl) ?_
        refine ops_v (v_pick_t (v := (.bool _)) rfl rfl rfl) ?_
        refine ops_nil ?_
        refine W_if_t rfl ?_
        refine W_skip ?_
        refine W_block ?_
        refine W_seq ?_
        refine W_region ?_
        refine ops_v (v_move (v := (.int _ _)) rfl rfl) ?_
        refine ops_v (v_fieldAddr rfl fo56_2 rfl rfl) ?_
        refine ops_load (v := (.int _ _)) 0 H rfl tc3 rfl rfl rfl ?_
        refine ops_call rfl c28 (Has_ok H f b.link true hh) ?_
        clear H; rintro _ w ⟨rfl, H⟩
        refine ops_nil ?_
        refine W_if_t rfl ?_
        refine W_region ?_
        refine ops_v (v_move (v := (.pointer _)) rfl rfl) ?_
        refine ops_v (v_fieldAddr rfl fo56_4 rfl rfl) ?_
        refine ops_load (v := (.int _ _)) 0 H rfl tc3 rfl rfl rfl ?_
        refine ops_call rfl c27 (FnC.ro 1 rfl H (fun _ => NodeZ_ok b.fails)) ?_
        clear H; rintro _ w ⟨rfl, H⟩
        refine ops_v (v_move (v := (.tuple _)) rfl rfl) ?_
        refine ops_v (v_extract (v := (.agg _)) rfl rfl rfl) ?_
        refine ops_v (v_extract (v := (.bool _)) rfl rfl rfl) ?_
        refine ops_store (vs := [_, _, _, _, _]) (v := (.agg _)) (cs' := [_, _, _, _, _]) 0 H rfl ts56 rfl rfl rfl rfl rfl rfl rfl rfl ?_
        clear H; intro w H
        refine ops_v (v_assign (v := (.bool _)) rfl rfl) ?_
        refine ops_nil ?_
        exact ⟨b.fails, hr, ⟨rfl, rfl, rfl, rfl, trivial⟩, H, by rw [← hi, he]⟩
        -- ((*node.Store).Eval: loopend; chunks n0,S; ptr 7=n0,17=n0,22=n0,27=n0)
      | false =>
        have hd : down b f = b.stands := by simp [down, hh]
        rw [hd] at hr he
        refine W_seq ?_
        refine W_seq ?_
        refine W_region ?_
        refine ops_v (v_move (v := (.bool _)) rfl rfl) ?_
        refine ops_v (v_move (v := (.bool _)) rfl rfl) ?_
        refine ops_v (v_fieldAddr rfl fo56_0 rfl rfl) ?_
        refine ops_load (v := (.bool _)) 0 H rfl tc4 rfl rfl rfl ?_
        refine ops_v (v_not rfl rfl _ rfl) ?_
        refine ops_v (v_pick_t (v := (.bool _)) rfl rfl rfl) ?_
        refine ops_nil ?_
        refine W_if_t rfl ?_
        refine W_skip ?_
        refine W_block ?_
        refine W_seq ?_
        refine W_region ?_
        refine ops_v (v_move (v := (.int _ _)) rfl rfl) ?_
        refine ops_v (v_fieldAddr rfl fo56_2 rfl rfl) ?_
        refine ops_load (v := (.int _ _)) 0 H rfl tc3 rfl rfl rfl ?_
        refine ops_call rfl c28 (Has_ok H f b.link false hh) ?_
        clear H; rintro _ w ⟨rfl, H⟩
        refine ops_nil ?_
        refine W_if_f rfl ?_
        refine W_region ?_
        refine ops_v (v_move (v := (.pointer _)) rfl rfl) ?_
        refine ops_v (v_fieldAddr rfl fo56_3 rfl rfl) ?_
        refine ops_load (v := (.int _ _)) 0 H rfl tc3 rfl rfl rfl ?_
        refine ops_call rfl c27 (FnC.ro 1 rfl H (fun _ => NodeZ_ok b.stands)) ?_
        clear H; rintro _ w ⟨rfl, H⟩
        refine ops_v (v_move (v := (.tuple _)) rfl rfl) ?_
        refine ops_v (v_extract (v := (.agg _)) rfl rfl rfl) ?_
        refine ops_v (v_extract (v := (.bool _)) rfl rfl rfl) ?_
        refine ops_store (vs := [_, _, _, _, _]) (v := (.agg _)) (cs' := [_, _, _, _, _]) 0 H rfl ts56 rfl rfl rfl rfl rfl rfl rfl rfl ?_
        clear H; intro w H
        refine ops_v (v_assign (v := (.bool _)) rfl rfl) ?_
        refine ops_nil ?_
        exact ⟨b.stands, hr, ⟨rfl, rfl, rfl, rfl, trivial⟩, H, by rw [← hi, he]⟩
        -- ((*node.Store).Eval: loopend; chunks n0,S; ptr 7=n0,17=n0,22=n0,34=n0)
end Go.Proofs.YtchikjmhncojfaaDoor.W
