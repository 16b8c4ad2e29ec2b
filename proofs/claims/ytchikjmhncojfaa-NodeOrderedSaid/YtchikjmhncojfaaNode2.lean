/- The walks of package node, second part: under, put, Leaf, Make, Eval. Conditions: none. -/
import Derived.Test.YtchikjmhncojfaaNode
namespace Go.Proofs.Ytchikjmhncojfaa.W
open Go Go.Proofs Go.RowKit
open Go.Proofs.Ytchikjmhncojfaa.M (Br St get getZ isN idx has down)

theorem under_ok {wb w : World} {p : Nat} {st : St} {R : List Chunk} {k id : Int} (c : Bool) (hc : M.under st k id = c) (H : Own wb (StoreC p st :: R) w) :
    FnC Try.prog 71 [ptr p, int k, int id] w (fun v w' => v = .bool c ∧ Own wb (StoreC p st :: R) w') := by
  cases hg : get st id with
  | none =>
    have hf : c = false := by rw [← hc]; exact M.under_none hg
    subst hf
    refine FnC_of Try.func71 rfl rfl rfl rfl ?_
    refine W_seq ?_
    refine W_region ?_
    refine ops_v (v_assign (v := _) rfl rfl) ?_
    refine ops_nil ?_
    refine W_seq ?_
    refine W_region ?_
    refine ops_v (v_move (v := (.pointer _)) rfl rfl) ?_
    refine ops_v (v_move (v := (.int _ _)) rfl rfl) ?_
    refine ops_call rfl c31 (FnC.ro 0 rfl H (fun _ => Node_bad hg)) ?_
    clear H; rintro _ w ⟨rfl, H⟩
    refine ops_v (v_move (v := (.tuple _)) rfl rfl) ?_
    refine ops_v (v_extract (v := (.agg _)) rfl rfl rfl) ?_
    refine ops_v (v_extract (v := (.bool _)) rfl rfl rfl) ?_
    refine ops_alloc H rfl tz42 ?_
    clear H; intro bn0 w H
    refine ops_store (vs := [_, _, _, _, _]) (v := (.agg _)) (cs' := [_, _, _, _, _]) 0 H rfl ts42 rfl rfl rfl rfl rfl rfl rfl rfl ?_
    clear H; intro w H
    refine ops_v (v_assign (v := (.bool _)) rfl rfl) ?_
    refine ops_nil ?_
    refine W_seq ?_
    refine W_region ?_
    refine ops_v (v_move (v := (.bool _)) rfl rfl) ?_
    refine ops_v (v_move (v := (.bool _)) rfl rfl) ?_
    refine ops_skip rfl rfl ?_
    refine ops_skip rfl rfl ?_
    refine ops_skip rfl rfl ?_
    refine ops_skip rfl rfl ?_
    refine ops_skip rfl rfl ?_
    refine ops_skip rfl rfl ?_
    refine ops_skip rfl rfl ?_
    refine ops_skip rfl rfl ?_
    refine ops_v (v_pick_f (v := (.bool _)) rfl rfl rfl) ?_
    refine ops_v (v_assign (v := (.bool _)) rfl rfl) ?_
    refine ops_nil ?_
    refine W_ret ?_
    refine ⟨_, (.tmp (v := (.bool _)) rfl .nil), ?_⟩
    exact ⟨rfl, H.tail⟩
    -- ((*node.Store).under: ret; chunks n0,S; ptr 7=n0)
  | some b =>
    have hu := M.under_eq (k := k) hg
    rw [hc] at hu
    cases hl : b.leaf with
    | true =>
      have hf : c = true := by rw [hu, hl]; rfl
      subst hf
      have hV : nodeV b true = .tuple [.agg [.bool true, .int .i64 b.value, .int .i64 b.link, .int .i64 b.stands, .int .i64 b.fails].toArray, .bool true].toArray := by unfold nodeV encB cellsB; rw [hl]
      have hn := Node_ok (wb := wb) (w := w) (p := p) (st := st) (R := R) hg
      rw [hV] at hn
      refine FnC_of Try.func71 rfl rfl rfl rfl ?_
      refine W_seq ?_
      refine W_region ?_
      refine ops_v (v_assign (v := _) rfl rfl) ?_
      refine ops_nil ?_
      refine W_seq ?_
      refine W_region ?_
      refine ops_v (v_move (v := (.pointer _)) rfl rfl) ?_
      refine ops_v (v_move (v := (.int _ _)) rfl rfl) ?_
      refine ops_call rfl c31 (FnC.ro 0 rfl H (fun R' H' => (by have := Node_ok hg H'; rw [hV] at this; exact this))) ?_
      clear H; rintro _ w ⟨rfl, H⟩
      refine ops_v (v_move (v := (.tuple _)) rfl rfl) ?_
      refine ops_v (v_extract (v := (.agg _)) rfl rfl rfl) ?_
      refine ops_v (v_extract (v := (.bool _)) rfl rfl rfl) ?_
      refine ops_alloc H rfl tz42 ?_
      clear H; intro bn0 w H
      refine ops_store (vs := [_, _, _, _, _]) (v := (.agg _)) (cs' := [_, _, _, _, _]) 0 H rfl ts42 rfl rfl rfl rfl rfl rfl rfl rfl ?_
      clear H; intro w H
      refine ops_v (v_assign (v := (.bool _)) rfl rfl) ?_
      refine ops_nil ?_
      refine W_seq ?_
      refine W_region ?_
      refine ops_v (v_move (v := (.bool _)) rfl rfl) ?_
      refine ops_v (v_move (v := (.bool _)) rfl rfl) ?_
      refine ops_v (v_fieldAddr rfl fo42_0 rfl rfl) ?_
      refine ops_load (v := (.bool _)) 0 H rfl tc4 rfl rfl rfl ?_
      refine ops_v (v_move (v := (.bool _)) rfl rfl) ?_
      refine ops_skip rfl rfl ?_
      refine ops_skip rfl rfl ?_
      refine ops_skip rfl rfl ?_
      refine ops_skip rfl rfl ?_
      refine ops_v (v_pick_t (v := (.bool _)) rfl rfl rfl) ?_
      refine ops_v (v_pick_t (v := (.bool _)) rfl rfl rfl) ?_
      refine ops_v (v_assign (v := (.bool _)) rfl rfl) ?_
      refine ops_nil ?_
      refine W_ret ?_
      refine ⟨_, (.tmp (v := (.bool _)) rfl .nil), ?_⟩
      exact ⟨rfl, H.tail⟩
      -- ((*node.Store).under: ret; chunks n0,S; ptr 7=n0,17=n0)
    | false =>
      have hf : c = decide (k < b.link) := by rw [hu, hl]; rfl
      subst hf
      have hV : nodeV b true = .tuple [.agg [.bool false, .int .i64 b.value, .int .i64 b.link, .int .i64 b.stands, .int .i64 b.fails].toArray, .bool true].toArray := by unfold nodeV encB cellsB; rw [hl]
      refine FnC_of Try.func71 rfl rfl rfl rfl ?_
      refine W_seq ?_
      refine W_region ?_
      refine ops_v (v_assign (v := _) rfl rfl) ?_
      refine ops_nil ?_
      refine W_seq ?_
      refine W_region ?_
      refine ops_v (v_move (v := (.pointer _)) rfl rfl) ?_
      refine ops_v (v_move (v := (.int _ _)) rfl rfl) ?_
      refine ops_call rfl c31 (FnC.ro 0 rfl H (fun R' H' => (by have := Node_ok hg H'; rw [hV] at this; exact this))) ?_
      clear H; rintro _ w ⟨rfl, H⟩
      refine ops_v (v_move (v := (.tuple _)) rfl rfl) ?_
      refine ops_v (v_extract (v := (.agg _)) rfl rfl rfl) ?_
      refine ops_v (v_extract (v := (.bool _)) rfl rfl rfl) ?_
      refine ops_alloc H rfl tz42 ?_
      clear H; intro bn0 w H
      refine ops_store (vs := [_, _, _, _, _]) (v := (.agg _)) (cs' := [_, _, _, _, _]) 0 H rfl ts42 rfl rfl rfl rfl rfl rfl rfl rfl ?_
      clear H; intro w H
      refine ops_v (v_assign (v := (.bool _)) rfl rfl) ?_
      refine ops_nil ?_
      refine W_seq ?_
      refine W_region ?_
      refine ops_v (v_move (v := (.bool _)) rfl rfl) ?_
      refine ops_v (v_move (v := (.bool _)) rfl rfl) ?_
      refine ops_v (v_fieldAddr rfl fo42_0 rfl rfl) ?_
      refine ops_load (v := (.bool _)) 0 H rfl tc4 rfl rfl rfl ?_
      refine ops_v (v_move (v := (.bool _)) rfl rfl) ?_
      refine ops_v (v_fieldAddr rfl fo42_2 rfl rfl) ?_
      refine ops_load (v := (.int _ _)) 0 H rfl tc3 rfl rfl rfl ?_
      refine ops_v (v_move (v := (.int _ _)) rfl rfl) ?_
      refine ops_v (v_gtr _ rfl rfl rfl rfl) ?_
      refine ops_v (v_pick_f (v := (.bool _)) rfl rfl rfl) ?_
      refine ops_v (v_pick_t (v := (.bool _)) rfl rfl rfl) ?_
      refine ops_v (v_assign (v := (.bool _)) rfl rfl) ?_
      refine ops_nil ?_
      refine W_ret ?_
      refine ⟨_, (.tmp (v := (.bool _)) rfl .nil), ?_⟩
      exact ⟨rfl, H.tail⟩
      -- ((*node.Store).under: ret; chunks n0,S; ptr 7=n0,17=n0,20=n0)

def pairV (a e : Int) : Value := .tuple [.int .i64 a, .int .i64 e].toArray
theorem put_ok {wb w : World} {p : Nat} {st : St} {R : List Chunk} {b : Br} (hm : st.most ≤ 1073741824) {st' : St} {n e : Int} (hp : M.put st b = (st', n, e)) (H : Own wb (StoreC p st :: R) w) :
    FnC Try.prog 70 [ptr p, encB b] w (fun v w' => v = pairV n e ∧ Own wb (StoreC p st' :: R) w') := by
  obtain ⟨a, cap, m, H⟩ := H.openS
  cases hi : idx st.nodes b with
  | some i =>
    have hlk : look (mapB st.nodes) b = some (.int .i64 (i : Int)) := by rw [look_mapB, hi]; rfl
    have he : M.put st b = (st, (i : Int), 0) := by simp [M.put, hi]
    rw [hp] at he
    cases he
    refine FnC_of Try.func70 rfl rfl rfl rfl ?_
    refine W_seq ?_
    refine W_region ?_
    refine ops_box (v := (.agg _)) (cs := [_, _, _, _, _]) H rfl rfl rfl ?_
    clear H; intro bn0 w H
    refine ops_v (v_assign (v := _) rfl rfl) ?_
    refine ops_v (v_assign (v := _) rfl rfl) ?_
    refine ops_nil ?_
    refine W_seq ?_
    refine W_seq ?_
    refine W_region ?_
    refine ops_v (v_move (v := (.pointer _)) rfl rfl) ?_
    refine ops_v (v_eql_nil _ rfl ip27 rfl rfl rfl) ?_
    refine ops_nil ?_
    refine W_if_f rfl ?_
    refine W_skip ?_
    refine W_seq ?_
    refine W_seq ?_
    refine W_draw (is := [1, 0]) mixed H ?_
    clear H; intro w H
    refine any_take 0 rfl (by kernel_rfl) (by kernel_rfl) (by kernel_rfl) (v_move (v := (.pointer _)) rfl rfl) ?_
    refine any_take 1 rfl (by kernel_rfl) (by kernel_rfl) (by kernel_rfl) (v_nilCheck rfl rfl) ?_
    refine any_take 2 rfl (by kernel_rfl) (by kernel_rfl) (by kernel_rfl) (v_fieldAddr rfl fo74_3 rfl rfl) ?_
    refine any_take 3 rfl (by kernel_rfl) (by kernel_rfl) (by kernel_rfl) (v_load (v := (.map _)) rfl tc72 (fun _ hS => hS.1 _ _ _ rfl) rfl rfl) ?_
    refine any_take 4 rfl (by kernel_rfl) (by kernel_rfl) (by kernel_rfl) (v_loadA (vs := [_, _, _, _, _]) rfl ta42 (fun _ hS => hS.2.1 _ _ _ rfl) rfl rfl rfl) ?_
    refine any_one 5 rfl (by kernel_rfl) ?_
    refine ops_lookup 3 H keyB Try.underlying72 zeroInt rfl rfl rfl rfl hlk ?_
    refine ops_nil ⟨H.stab [(1, 1), (0, 0)] ⟨rfl, rfl, trivial⟩, ?_⟩
    refine any_take 6 rfl (by kernel_rfl) (by kernel_rfl) (by kernel_rfl) (v_move (v := (.tuple _)) rfl rfl) ?_
    refine any_take 7 rfl (by kernel_rfl) (by kernel_rfl) (by kernel_rfl) (v_extract (v := (.int _ _)) rfl rfl rfl) ?_
    refine any_take 8 rfl (by kernel_rfl) (by kernel_rfl) (by kernel_rfl) (v_extract (v := (.bool _)) rfl rfl rfl) ?_
    refine any_take 9 rfl (by kernel_rfl) (by kernel_rfl) (by kernel_rfl) (v_assign (v := (.int _ _)) rfl rfl) ?_
    refine any_take 10 rfl (by kernel_rfl) (by kernel_rfl) (by kernel_rfl) (v_assign (v := (.bool _)) rfl rfl) ?_
    refine any_done (by kernel_rfl) ?_
    refine W_seq ?_
    refine W_region ?_
    refine ops_v (v_move (v := (.bool _)) rfl rfl) ?_
    refine ops_nil ?_
    refine W_if_t rfl ?_
    refine W_seq ?_
    refine W_region ?_
    refine ops_v (v_move (v := (.int _ _)) rfl rfl) ?_
    refine ops_v (v_assign (v := (.int _ _)) rfl rfl) ?_
    refine ops_v (v_assign (v := _) rfl rfl) ?_
    refine ops_nil ?_
    refine W_ret ?_
    refine ⟨_, (.tmp (v := (.int _ _)) rfl (.tmp (v := (.int _ _)) rfl .nil)), ?_⟩
    exact ⟨rfl, H.tail.shutS⟩
    -- ((*node.Store).put: ret; chunks n0,p,s,m; ptr 0=p,3=n0,9=p,12=p,13=p,14=p)
  | none =>
    have hlk : look (mapB st.nodes) b = none := by rw [look_mapB, hi]; rfl
    by_cases hfull : st.most ≤ st.nodes.length
    · have he : M.put st b = (st, 0, 60) := by simp [M.put, hi, hfull]
      rw [hp] at he
      cases he
      refine FnC_of Try.func70 rfl rfl rfl rfl ?_
      refine W_seq ?_
      refine W_region ?_
      refine ops_box (v := (.agg _)) (cs := [_, _, _, _, _]) H rfl rfl rfl ?_
      clear H; intro bn0 w H
      refine ops_v (v_assign (v := _) rfl rfl) ?_
      refine ops_v (v_assign (v := _) rfl rfl) ?_
      refine ops_nil ?_
      refine W_seq ?_
      refine W_seq ?_
      refine W_region ?_
      refine ops_v (v_move (v := (.pointer _)) rfl rfl) ?_
      refine ops_v (v_eql_nil _ rfl ip27 rfl rfl rfl) ?_
      refine ops_nil ?_
      refine W_if_f rfl ?_
      refine W_skip ?_
      refine W_seq ?_
      refine W_seq ?_
      refine W_draw (is := [1, 0]) mixed H ?_
      clear H; intro w H
      refine any_take 0 rfl (by kernel_rfl) (by kernel_rfl) (by kernel_rfl) (v_move (v := (.pointer _)) rfl rfl) ?_
      refine any_take 1 rfl (by kernel_rfl) (by kernel_rfl) (by kernel_rfl) (v_nilCheck rfl rfl) ?_
      refine any_take 2 rfl (by kernel_rfl) (by kernel_rfl) (by kernel_rfl) (v_fieldAddr rfl fo74_3 rfl rfl) ?_
      refine any_take 3 rfl (by kernel_rfl) (by kernel_rfl) (by kernel_rfl) (v_load (v := (.map _)) rfl tc72 (fun _ hS => hS.1 _ _ _ rfl) rfl rfl) ?_
      refine any_take 4 rfl (by kernel_rfl) (by kernel_rfl) (by kernel_rfl) (v_loadA (vs := [_, _, _, _, _]) rfl ta42 (fun _ hS => hS.2.1 _ _ _ rfl) rfl rfl rfl) ?_
      refine any_one 5 rfl (by kernel_rfl) ?_
      refine ops_lookup 3 H keyB Try.underlying72 zeroInt rfl rfl rfl rfl hlk ?_
      refine ops_nil ⟨H.stab [(1, 1), (0, 0)] ⟨rfl, rfl, trivial⟩, ?_⟩
      refine any_take 6 rfl (by kernel_rfl) (by kernel_rfl) (by kernel_rfl) (v_move (v := (.tuple _)) rfl rfl) ?_
      refine any_take 7 rfl (by kernel_rfl) (by kernel_rfl) (by kernel_rfl) (v_extract (v := (.int _ _)) rfl rfl rfl) ?_
      refine any_take 8 rfl (by kernel_rfl) (by kernel_rfl) (by kernel_rfl) (v_extract (v := (.bool _)) rfl rfl rfl) ?_
      refine any_take 9 rfl (by kernel_rfl) (by kernel_rfl) (by kernel_rfl) (v_assign (v := (.int _ _)) rfl rfl) ?_
      refine any_take 10 rfl (by kernel_rfl) (by kernel_rfl) (by kernel_rfl) (v_assign (v := (.bool _)) rfl rfl) ?_
      refine any_done (by kernel_rfl) ?_
      refine W_seq ?_
      refine W_region ?_
      refine ops_v (v_move (v := (.bool _)) rfl rfl) ?_
      refine ops_nil ?_
      refine W_if_f rfl ?_
      refine W_skip ?_
      refine W_seq ?_
      refine W_region ?_
      refine ops_v (v_move (v := (.pointer _)) rfl rfl) ?_
      refine ops_v (v_nilCheck rfl rfl) ?_
      refine ops_v (v_fieldAddr rfl fo74_2 rfl rfl) ?_
      refine ops_load (v := (.slice _ _ _)) 1 H rfl tc29 rfl rfl rfl ?_
      refine ops_v (v_len rfl sl29 rfl) ?_
      refine ops_v (v_assign (v := (.int _ _)) rfl rfl) ?_
      refine ops_nil ?_
      refine W_seq ?_
      refine W_seq ?_
      refine W_region ?_
      refine ops_v (v_move (v := (.int _ _)) rfl rfl) ?_
      refine ops_v (v_move (v := (.pointer _)) rfl rfl) ?_
      refine ops_v (v_nilCheck rfl rfl) ?_
      refine ops_v (v_fieldAddr rfl fo74_1 rfl rfl) ?_
      refine ops_load (v := (.int _ _)) 1 H rfl tc3 rfl rfl rfl ?_
      refine ops_v (v_geq true rfl rfl rfl (decide_eq_true (by first | omega | (simp only; omega) | rfl | decide))) ?_
      refine ops_nil ?_
      refine W_if_t rfl ?_
      refine W_seq ?_
      refine W_region ?_
      refine ops_v (v_assign (v := _) rfl rfl) ?_
      refine ops_v (v_assign (v := _) rfl rfl) ?_
      refine ops_nil ?_
      refine W_ret ?_
      refine ⟨_, (.tmp (v := (.int _ _)) rfl (.tmp (v := (.int _ _)) rfl .nil)), ?_⟩
      exact ⟨rfl, H.tail.shutS⟩
      -- ((*node.Store).put: ret; chunks n0,p,s,m; ptr 0=p,3=n0,9=p,12=p,13=p,14=p,22=p,23=p,24=p,28=p,29=p,30=p)
    · have he : M.put st b = ({ st with nodes := st.nodes ++ [b] }, (st.nodes.length : Int), 0) := by simp [M.put, hi, hfull]
      rw [hp] at he
      cases he
      have hml : st.nodes.length + 1 ≤ maxLen := by unfold maxLen; omega
      have hby : (st.nodes.length + 1) * 40 ≤ 140737488355328 := by omega
      have hput : putL (mapB st.nodes) b (.int .i64 (st.nodes.length : Int)) = mapB (st.nodes ++ [b]) := by rw [putL_none hlk, mapB_snoc]
      have hfl : flatB st.nodes ++ cellsB b = flatB (st.nodes ++ [b]) := (flatB_snoc _ _).symm
      refine FnC_of Try.func70 rfl rfl rfl rfl ?_
      refine W_seq ?_
      refine W_region ?_
      refine ops_box (v := (.agg _)) (cs := [_, _, _, _, _]) H rfl rfl rfl ?_
      clear H; intro bn0 w H
      refine ops_v (v_assign (v := _) rfl rfl) ?_
      refine ops_v (v_assign (v := _) rfl rfl) ?_
      refine ops_nil ?_
      refine W_seq ?_
      refine W_seq ?_
      refine W_region ?_
      refine ops_v (v_move (v := (.pointer _)) rfl rfl) ?_
      refine ops_v (v_eql_nil _ rfl ip27 rfl rfl rfl) ?_
      refine ops_nil ?_
      refine W_if_f rfl ?_
      refine W_skip ?_
      refine W_seq ?_
      refine W_seq ?_
      refine W_draw (is := [1, 0]) mixed H ?_
      clear H; intro w H
      refine any_take 0 rfl (by kernel_rfl) (by kernel_rfl) (by kernel_rfl) (v_move (v := (.pointer _)) rfl rfl) ?_
      refine any_take 1 rfl (by kernel_rfl) (by kernel_rfl) (by kernel_rfl) (v_nilCheck rfl rfl) ?_
      refine any_take 2 rfl (by kernel_rfl) (by kernel_rfl) (by kernel_rfl) (v_fieldAddr rfl fo74_3 rfl rfl) ?_
      refine any_take 3 rfl (by kernel_rfl) (by kernel_rfl) (by kernel_rfl) (v_load (v := (.map _)) rfl tc72 (fun _ hS => hS.1 _ _ _ rfl) rfl rfl) ?_
      refine any_take 4 rfl (by kernel_rfl) (by kernel_rfl) (by kernel_rfl) (v_loadA (vs := [_, _, _, _, _]) rfl ta42 (fun _ hS => hS.2.1 _ _ _ rfl) rfl rfl rfl) ?_
      refine any_one 5 rfl (by kernel_rfl) ?_
      refine ops_lookup 3 H keyB Try.underlying72 zeroInt rfl rfl rfl rfl hlk ?_
      refine ops_nil ⟨H.stab [(1, 1), (0, 0)] ⟨rfl, rfl, trivial⟩, ?_⟩
      refine any_take 6 rfl (by kernel_rfl) (by kernel_rfl) (by kernel_rfl) (v_move (v := (.tuple _)) rfl rfl) ?_
      refine any_take 7 rfl (by kernel_rfl) (by kernel_rfl) (by kernel_rfl) (v_extract (v := (.int _ _)) rfl rfl rfl) ?_
      refine any_take 8 rfl (by kernel_rfl) (by kernel_rfl) (by kernel_rfl) (v_extract (v := (.bool _)) rfl rfl rfl) ?_
      refine any_take 9 rfl (by kernel_rfl) (by kernel_rfl) (by kernel_rfl) (v_assign (v := (.int _ _)) rfl rfl) ?_
      refine any_take 10 rfl (by kernel_rfl) (by kernel_rfl) (by kernel_rfl) (v_assign (v := (.bool _)) rfl rfl) ?_
      refine any_done (by kernel_rfl) ?_
      refine W_seq ?_
      refine W_region ?_
      refine ops_v (v_move (v := (.bool _)) rfl rfl) ?_
      refine ops_nil ?_
      refine W_if_f rfl ?_
      refine W_skip ?_
      refine W_seq ?_
      refine W_region ?_
      refine ops_v (v_move (v := (.pointer _)) rfl rfl) ?_
      refine ops_v (v_nilCheck rfl rfl) ?_
      refine ops_v (v_fieldAddr rfl fo74_2 rfl rfl) ?_
      refine ops_load (v := (.slice _ _ _)) 1 H rfl tc29 rfl rfl rfl ?_
      refine ops_v (v_len rfl sl29 rfl) ?_
      refine ops_v (v_assign (v := (.int _ _)) rfl rfl) ?_
      refine ops_nil ?_
      refine W_seq ?_
      refine W_seq ?_
      refine W_region ?_
      refine ops_v (v_move (v := (.int _ _)) rfl rfl) ?_
      refine ops_v (v_move (v := (.pointer _)) rfl rfl) ?_
      refine ops_v (v_nilCheck rfl rfl) ?_
      refine ops_v (v_fieldAddr rfl fo74_1 rfl rfl) ?_
      refine ops_load (v := (.int _ _)) 1 H rfl tc3 rfl rfl rfl ?_
      refine ops_v (v_geq false rfl rfl rfl (decide_eq_false (by first | omega | (simp only; omega) | rfl | decide))) ?_
      refine ops_nil ?_
      refine W_if_f rfl ?_
      refine W_skip ?_
      refine W_seq ?_
      refine W_draw (is := [0]) mixed H ?_
      clear H; intro w H
      refine any_take 0 rfl (by kernel_rfl) (by kernel_rfl) (by kernel_rfl) (v_move (v := (.pointer _)) rfl rfl) ?_
      refine any_take 1 rfl (by kernel_rfl) (by kernel_rfl) (by kernel_rfl) (v_move (v := (.pointer _)) rfl rfl) ?_
      refine any_take 2 rfl (by kernel_rfl) (by kernel_rfl) (by kernel_rfl) (v_nilCheck rfl rfl) ?_
      refine any_take 3 rfl (by kernel_rfl) (by kernel_rfl) (by kernel_rfl) (v_fieldAddr rfl fo74_2 rfl rfl) ?_
      refine any_take 5 rfl (by kernel_rfl) (by kernel_rfl) (by kernel_rfl) (v_loadA (vs := [_, _, _, _, _]) rfl ta42 (fun _ hS => hS.1 _ _ _ rfl) rfl rfl rfl) ?_
      refine any_two 4 6 rfl rfl (by kernel_rfl) ?_ ?_
      · refine ops_load (v := (.slice _ _ _)) 1 H rfl tc29 rfl rfl rfl ?_
        refine ops_nil ⟨H.stab [(0, 0)] ⟨rfl, trivial⟩, ?_⟩
        refine any_one 6 rfl (by kernel_rfl) ?_
        refine ops_buildSlice (cs := [(.bool _), (.int _ _), (.int _ _), (.int _ _), (.int _ _)]) H rfl bs29_1 rfl ?_
        clear H; intro bn1 w H
        refine ops_nil ⟨H.stab [(1, 0)] ⟨rfl, trivial⟩, ?_⟩
        refine any_one 7 rfl (by kernel_rfl) ?_
        refine ops_append 3 0 H rfl ap29 rfl rfl rfl rfl rfl rfl hml hby ?_
        clear H; intro a' cap' w H
        refine ops_nil ⟨H.stab [(1, 0)] ⟨rfl, trivial⟩, ?_⟩
        refine any_take 8 rfl (by kernel_rfl) (by kernel_rfl) (by kernel_rfl) (v_nilCheck rfl rfl) ?_
        refine any_take 9 rfl (by kernel_rfl) (by kernel_rfl) (by kernel_rfl) (v_fieldAddr rfl fo74_2 rfl rfl) ?_
        refine any_one 10 rfl (by kernel_rfl) ?_
        refine ops_store (vs := [_]) (v := (.slice _ _ _)) (cs' := [_, _, _, _]) 2 H rfl ts29 rfl rfl rfl rfl rfl rfl rfl rfl ?_
        clear H; intro w H
        refine ops_nil ⟨H.stab [(1, 0)] ⟨rfl, trivial⟩, ?_⟩
        refine any_done (by kernel_rfl) ?_
        refine W_seq ?_
        refine W_draw (is := [2, 1]) mixed H ?_
        clear H; intro w H
        refine any_take 0 rfl (by kernel_rfl) (by kernel_rfl) (by kernel_rfl) (v_move (v := (.pointer _)) rfl rfl) ?_
        refine any_take 1 rfl (by kernel_rfl) (by kernel_rfl) (by kernel_rfl) (v_nilCheck rfl rfl) ?_
        refine any_take 2 rfl (by kernel_rfl) (by kernel_rfl) (by kernel_rfl) (v_fieldAddr rfl fo74_3 rfl rfl) ?_
        refine any_take 3 rfl (by kernel_rfl) (by kernel_rfl) (by kernel_rfl) (v_load (v := (.map _)) rfl tc72 (fun _ hS => hS.1 _ _ _ rfl) rfl rfl) ?_
        refine any_take 4 rfl (by kernel_rfl) (by kernel_rfl) (by kernel_rfl) (v_loadA (vs := [_, _, _, _, _]) rfl ta42 (fun _ hS => hS.2.1 _ _ _ rfl) rfl rfl rfl) ?_
        refine any_take 5 rfl (by kernel_rfl) (by kernel_rfl) (by kernel_rfl) (v_move (v := (.int _ _)) rfl rfl) ?_
        refine any_one 6 rfl (by kernel_rfl) ?_
        refine ops_mapUpdate (v := .int .i64 _) 4 H keyB Try.underlying72 rfl rfl rfl rfl rfl ?_
        clear H; intro w H
        refine ops_nil ⟨H.stab [(2, 2), (1, 1)] ⟨rfl, rfl, trivial⟩, ?_⟩
        refine any_done (by kernel_rfl) ?_
        refine W_seq ?_
        refine W_region ?_
        refine ops_v (v_move (v := (.int _ _)) rfl rfl) ?_
        refine ops_v (v_assign (v := (.int _ _)) rfl rfl) ?_
        refine ops_v (v_assign (v := _) rfl rfl) ?_
        refine ops_nil ?_
        refine W_ret ?_
        refine ⟨_, (.tmp (v := (.int _ _)) rfl (.tmp (v := (.int _ _)) rfl .nil)), ?_⟩
        have H := ((H.tail).tail)
        change Own wb (Blk p _ _ :: SlC _ _ _ _ _ (flatB st.nodes ++ cellsB b) :: MapC encB m (putL (mapB st.nodes) b _) :: R) w at H
        rw [hput, hfl] at H
        refine ⟨rfl, Own.shutS (st := { st with nodes := st.nodes ++ [b] }) (a := a') (cap := cap') (m := m) ?_⟩
        have e1 : (st.nodes ++ [b]).length = st.nodes.length + 1 := by simp
        simp only [e1]
        exact H
      · refine ops_buildSlice (cs := [(.bool _), (.int _ _), (.int _ _), (.int _ _), (.int _ _)]) H rfl bs29_1 rfl ?_
        clear H; intro bn1 w H
        refine ops_nil ⟨H.stab [(1, 0)] ⟨rfl, trivial⟩, ?_⟩
        refine any_one 4 rfl (by kernel_rfl) ?_
        refine ops_load (v := (.slice _ _ _)) 2 H rfl tc29 rfl rfl rfl ?_
        refine ops_nil ⟨H.stab [(1, 0)] ⟨rfl, trivial⟩, ?_⟩
        refine any_one 7 rfl (by kernel_rfl) ?_
        refine ops_append 3 0 H rfl ap29 rfl rfl rfl rfl rfl rfl hml hby ?_
        clear H; intro a' cap' w H
        refine ops_nil ⟨H.stab [(1, 0)] ⟨rfl, trivial⟩, ?_⟩
        refine any_take 8 rfl (by kernel_rfl) (by kernel_rfl) (by kernel_rfl) (v_nilCheck rfl rfl) ?_
        refine any_take 9 rfl (by kernel_rfl) (by kernel_rfl) (by kernel_rfl) (v_fieldAddr rfl fo74_2 rfl rfl) ?_
        refine any_one 10 rfl (by kernel_rfl) ?_
        refine ops_store (vs := [_]) (v := (.slice _ _ _)) (cs' := [_, _, _, _]) 2 H rfl ts29 rfl rfl rfl rfl rfl rfl rfl rfl ?_
        clear H; intro w H
        refine ops_nil ⟨H.stab [(1, 0)] ⟨rfl, trivial⟩, ?_⟩
        refine any_done (by kernel_rfl) ?_
        refine W_seq ?_
        refine W_draw (is := [2, 1]) mixed H ?_
        clear H; intro w H
        refine any_take 0 rfl (by kernel_rfl) (by kernel_rfl) (by kernel_rfl) (v_move (v := (.pointer _)) rfl rfl) ?_
        refine any_take 1 rfl (by kernel_rfl) (by kernel_rfl) (by kernel_rfl) (v_nilCheck rfl rfl) ?_
        refine any_take 2 rfl (by kernel_rfl) (by kernel_rfl) (by kernel_rfl) (v_fieldAddr rfl fo74_3 rfl rfl) ?_
        refine any_take 3 rfl (by kernel_rfl) (by kernel_rfl) (by kernel_rfl) (v_load (v := (.map _)) rfl tc72 (fun _ hS => hS.1 _ _ _ rfl) rfl rfl) ?_
        refine any_take 4 rfl (by kernel_rfl) (by kernel_rfl) (by kernel_rfl) (v_loadA (vs := [_, _, _, _, _]) rfl ta42 (fun _ hS => hS.2.1 _ _ _ rfl) rfl rfl rfl) ?_
        refine any_take 5 rfl (by kernel_rfl) (by kernel_rfl) (by kernel_rfl) (v_move (v := (.int _ _)) rfl rfl) ?_
        refine any_one 6 rfl (by kernel_rfl) ?_
        refine ops_mapUpdate (v := .int .i64 _) 4 H keyB Try.underlying72 rfl rfl rfl rfl rfl ?_
        clear H; intro w H
        refine ops_nil ⟨H.stab [(2, 2), (1, 1)] ⟨rfl, rfl, trivial⟩, ?_⟩
        refine any_done (by kernel_rfl) ?_
        refine W_seq ?_
        refine W_region ?_
        refine ops_v (v_move (v := (.int _ _)) rfl rfl) ?_
        refine ops_v (v_assign (v := (.int _ _)) rfl rfl) ?_
        refine ops_v (v_assign (v := _) rfl rfl) ?_
        refine ops_nil ?_
        refine W_ret ?_
        refine ⟨_, (.tmp (v := (.int _ _)) rfl (.tmp (v := (.int _ _)) rfl .nil)), ?_⟩
        have H := ((H.tail).tail)
        change Own wb (Blk p _ _ :: SlC _ _ _ _ _ (flatB st.nodes ++ cellsB b) :: MapC encB m (putL (mapB st.nodes) b _) :: R) w at H
        rw [hput, hfl] at H
        refine ⟨rfl, Own.shutS (st := { st with nodes := st.nodes ++ [b] }) (a := a') (cap := cap') (m := m) ?_⟩
        have e1 : (st.nodes ++ [b]).length = st.nodes.length + 1 := by simp
        simp only [e1]
        exact H
      -- ((*node.Store).put: forked; chunks n0,p,s,m; ptr 0=p,3=n0,9=p,12=p,13=p,14=p,22=p,23=p,24=p,28=p,29=p,30=p,33=p,34=p,35=p,36=p)

theorem Leaf_ok {wb w : World} {p : Nat} {st : St} {R : List Chunk} {x : Int} (hm : st.most ≤ 1073741824) {st' : St} {n e : Int} (hp : M.leaf st x = (st', n, e)) (H : Own wb (StoreC p st :: R) w) :
    FnC Try.prog 38 [ptr p, int x] w (fun v w' => v = pairV n e ∧ Own wb (StoreC p st' :: R) w') := by
  refine FnC_of Try.func38 rfl rfl rfl rfl ?_
  refine W_seq ?_
  refine W_region ?_
  refine ops_v (v_assign (v := _) rfl rfl) ?_
  refine ops_v (v_assign (v := _) rfl rfl) ?_
  refine ops_nil ?_
  refine W_seq ?_
  refine W_region ?_
  refine ops_v (v_move (v := (.pointer _)) rfl rfl) ?_
  refine ops_v (v_move (v := (.int _ _)) rfl rfl) ?_
  refine ops_v (v_build (cs := [(.bool _), (.int _ _), (.int _ _), (.int _ _), (.int _ _)]) rfl bp42 rfl) ?_
  refine ops_call rfl c70 (put_ok (b := M.leafB x) hm hp H) ?_
  clear H; rintro _ w ⟨rfl, H⟩
  refine ops_v (v_extract (v := (.int _ _)) rfl rfl rfl) ?_
  refine ops_v (v_extract (v := (.int _ _)) rfl rfl rfl) ?_
  refine ops_v (v_assign (v := (.int _ _)) rfl rfl) ?_
  refine ops_v (v_assign (v := (.int _ _)) rfl rfl) ?_
  refine ops_nil ?_
  refine W_ret ?_
  refine ⟨_, (.tmp (v := (.int _ _)) rfl (.tmp (v := (.int _ _)) rfl .nil)), ?_⟩
  exact ⟨rfl, H⟩
  -- ((*node.Store).Leaf: ret; chunks S; ptr )
theorem Make_ok {wb w : World} {p : Nat} {st : St} {R : List Chunk} {k a b : Int} (hm : st.most ≤ 1073741824) {st' : St} {n e : Int} (hp : M.make st k a b = (st', n, e)) (H : Own wb (StoreC p st :: R) w) :
    FnC Try.prog 39 [ptr p, int k, int a, int b] w (fun v w' => v = pairV n e ∧ Own wb (StoreC p st' :: R) w') := by
  have bad : M.makeOk st k a b = false → st' = st ∧ n = 0 ∧ e = 1 := by
    intro h; rw [M.make, h] at hp; cases hp; exact ⟨rfl, rfl, rfl⟩
  by_cases c1 : k < 0
  · obtain ⟨rfl, rfl, rfl⟩ := bad (by have : ¬ 0 ≤ k := by omega
                                      simp [M.makeOk, this])
    refine FnC_of Try.func39 rfl rfl rfl rfl ?_
    refine W_seq ?_
    refine W_region ?_
    refine ops_v (v_assign (v := _) rfl rfl) ?_
    refine ops_v (v_assign (v := _) rfl rfl) ?_
    refine ops_nil ?_
    refine W_seq ?_
    refine W_block ?_
    refine W_seq ?_
    refine W_seq ?_
    refine W_region ?_
    refine ops_v (v_move (v := (.int _ _)) rfl rfl) ?_
    refine ops_v (v_lss true rfl rfl rfl (decide_eq_true (by first | omega | (simp only; omega) | rfl | decide))) ?_
    refine ops_v (v_assign (v := (.bool _)) rfl rfl) ?_
    refine ops_nil ?_
    refine W_if_t rfl ?_
    refine W_skip ?_
    refine W_if_t rfl ?_
    refine W_seq ?_
    refine W_region ?_
    refine ops_v (v_assign (v := _) rfl rfl) ?_
    refine ops_v (v_assign (v := _) rfl rfl) ?_
    refine ops_nil ?_
    refine W_ret ?_
    refine ⟨_, (.tmp (v := (.int _ _)) rfl (.tmp (v := (.int _ _)) rfl .nil)), ?_⟩
    exact ⟨rfl, H⟩
    -- ((*node.Store).Make: ret; chunks S; ptr )
  by_cases c2 : (st.links : Int) ≤ k
  · obtain ⟨rfl, rfl, rfl⟩ := bad (by have : ¬ k < st.links := by omega
                                      simp [M.makeOk, this])
    refine FnC_of Try.func39 rfl rfl rfl rfl ?_
    refine W_seq ?_
    refine W_region ?_
    refine ops_v (v_assign (v := _) rfl rfl) ?_
    refine ops_v (v_assign (v := _) rfl rfl) ?_
    refine ops_nil ?_
    refine W_seq ?_
    refine W_block ?_
    refine W_seq ?_
    refine W_seq ?_
    refine W_region ?_
    refine ops_v (v_move (v := (.int _ _)) rfl rfl) ?_
    refine ops_v (v_lss false rfl rfl rfl (decide_eq_false (by first | omega | (simp only; omega) | rfl | decide))) ?_
    refine ops_v (v_assign (v := (.bool _)) rfl rfl) ?_
    refine ops_nil ?_
    refine W_if_f rfl ?_
    refine W_seq ?_
    refine W_region ?_
    refine ops_v (v_move (v := (.int _ _)) rfl rfl) ?_
    refine ops_v (v_move (v := (.pointer _)) rfl rfl) ?_
    refine ops_call rfl c28 (Links_ok H) ?_
    clear H; rintro _ w ⟨rfl, H⟩
    refine ops_v (v_geq true rfl rfl rfl (decide_eq_true (by first | omega | (simp only; omega) | rfl | decide))) ?_
    refine ops_v (v_assign (v := (.bool _)) rfl rfl) ?_
    refine ops_nil ?_
    refine W_if_t rfl ?_
    refine W_skip ?_
    refine W_if_t rfl ?_
    refine W_seq ?_
    refine W_region ?_
    refine ops_v (v_assign (v := _) rfl rfl) ?_
    refine ops_v (v_assign (v := _) rfl rfl) ?_
    refine ops_nil ?_
    refine W_ret ?_
    refine ⟨_, (.tmp (v := (.int _ _)) rfl (.tmp (v := (.int _ _)) rfl .nil)), ?_⟩
    exact ⟨rfl, H⟩
    -- ((*node.Store).Make: ret; chunks S; ptr )
  cases c3 : M.under st k a with
  | false =>
    obtain ⟨rfl, rfl, rfl⟩ := bad (by simp [M.makeOk, c3])
    refine FnC_of Try.func39 rfl rfl rfl rfl ?_
    refine W_seq ?_
    refine W_region ?_
    refine ops_v (v_assign (v := _) rfl rfl) ?_
    refine ops_v (v_assign (v := _) rfl rfl) ?_
    refine ops_nil ?_
    refine W_seq ?_
    refine W_block ?_
    refine W_seq ?_
    refine W_seq ?_
    refine W_region ?_
    refine ops_v (v_move (v := (.int _ _)) rfl rfl) ?_
    refine ops_v (v_lss false rfl rfl rfl (decide_eq_false (by first | omega | (simp only; omega) | rfl | decide))) ?_
    refine ops_v (v_assign (v := (.bool _)) rfl rfl) ?_
    refine ops_nil ?_
    refine W_if_f rfl ?_
    refine W_seq ?_
    refine W_region ?_
    refine ops_v (v_move (v := (.int _ _)) rfl rfl) ?_
    refine ops_v (v_move (v := (.pointer _)) rfl rfl) ?_
    refine ops_call rfl c28 (Links_ok H) ?_
    clear H; rintro _ w ⟨rfl, H⟩
    refine ops_v (v_geq false rfl rfl rfl (decide_eq_false (by first | omega | (simp only; omega) | rfl | decide))) ?_
    refine ops_v (v_assign (v := (.bool _)) rfl rfl) ?_
    refine ops_nil ?_
    refine W_if_f rfl ?_
    refine W_seq ?_
    refine W_region ?_
    refine ops_v (v_move (v := (.pointer _)) rfl rfl) ?_
    refine ops_v (v_move (v := (.int _ _)) rfl rfl) ?_
    refine ops_v (v_move (v := (.int _ _)) rfl rfl) ?_
    refine ops_call rfl c71 (under_ok false c3 H) ?_
    clear H; rintro _ w ⟨rfl, H⟩
    refine ops_v (v_not rfl rfl _ rfl) ?_
    refine ops_v (v_assign (v := (.bool _)) rfl rfl) ?_
    refine ops_nil ?_
    refine W_if_t rfl ?_
    refine W_skip ?_
    refine W_if_t rfl ?_
    refine W_seq ?_
    refine W_region ?_
    refine ops_v (v_assign (v := _) rfl rfl) ?_
    refine ops_v (v_assign (v := _) rfl rfl) ?_
    refine ops_nil ?_
    refine W_ret ?_
    refine ⟨_, (.tmp (v := (.int _ _)) rfl (.tmp (v := (.int _ _)) rfl .nil)), ?_⟩
    exact ⟨rfl, H⟩
    -- ((*node.Store).Make: ret; chunks S; ptr )
  | true =>
  cases c4 : M.under st k b with
  | false =>
    obtain ⟨rfl, rfl, rfl⟩ := bad (by simp [M.makeOk, c4])
    refine FnC_of Try.func39 rfl rfl rfl rfl ?_
    refine W_seq ?_
    refine W_region ?_
    refine ops_v (v_assign (v := _) rfl rfl) ?_
    refine ops_v (v_assign (v := _) rfl rfl) ?_
    refine ops_nil ?_
    refine W_seq ?_
    refine W_block ?_
    refine W_seq ?_
    refine W_seq ?_
    refine W_region ?_
    refine ops_v (v_move (v := (.int _ _)) rfl rfl) ?_
    refine ops_v (v_lss false rfl rfl rfl (decide_eq_false (by first | omega | (simp only; omega) | rfl | decide))) ?_
    refine ops_v (v_assign (v := (.bool _)) rfl rfl) ?_
    refine ops_nil ?_
    refine W_if_f rfl ?_
    refine W_seq ?_
    refine W_region ?_
    refine ops_v (v_move (v := (.int _ _)) rfl rfl) ?_
    refine ops_v (v_move (v := (.pointer _)) rfl rfl) ?_
    refine ops_call rfl c28 (Links_ok H) ?_
    clear H; rintro _ w ⟨rfl, H⟩
    refine ops_v (v_geq false rfl rfl rfl (decide_eq_false (by first | omega | (simp only; omega) | rfl | decide))) ?_
    refine ops_v (v_assign (v := (.bool _)) rfl rfl) ?_
    refine ops_nil ?_
    refine W_if_f rfl ?_
    refine W_seq ?_
    refine W_region ?_
    refine ops_v (v_move (v := (.pointer _)) rfl rfl) ?_
    refine ops_v (v_move (v := (.int _ _)) rfl rfl) ?_
    refine ops_v (v_move (v := (.int _ _)) rfl rfl) ?_
    refine ops_call rfl c71 (under_ok true c3 H) ?_
    clear H; rintro _ w ⟨rfl, H⟩
    refine ops_v (v_not rfl rfl _ rfl) ?_
    refine ops_v (v_assign (v := (.bool _)) rfl rfl) ?_
    refine ops_nil ?_
    refine W_if_f rfl ?_
    refine W_region ?_
    refine ops_v (v_move (v := (.pointer _)) rfl rfl) ?_
    refine ops_v (v_move (v := (.int _ _)) rfl rfl) ?_
    refine ops_v (v_move (v := (.int _ _)) rfl rfl) ?_
    refine ops_call rfl c71 (under_ok false c4 H) ?_
    clear H; rintro _ w ⟨rfl, H⟩
    refine ops_v (v_not rfl rfl _ rfl) ?_
    refine ops_v (v_assign (v := (.bool _)) rfl rfl) ?_
    refine ops_nil ?_
    refine W_if_t rfl ?_
    refine W_seq ?_
    refine W_region ?_
    refine ops_v (v_assign (v := _) rfl rfl) ?_
    refine ops_v (v_assign (v := _) rfl rfl) ?_
    refine ops_nil ?_
    refine W_ret ?_
    refine ⟨_, (.tmp (v := (.int _ _)) rfl (.tmp (v := (.int _ _)) rfl .nil)), ?_⟩
    exact ⟨rfl, H⟩
    -- ((*node.Store).Make: ret; chunks S; ptr )
  | true =>
  have hok : M.makeOk st k a b = true := by
    have h1 : 0 ≤ k := by omega
    have h2 : k < st.links := by omega
    simp [M.makeOk, h1, h2, c3, c4]
  rw [M.make, if_pos hok] at hp
  by_cases c5 : a = b
  · rw [if_pos c5] at hp
    cases hp
    refine FnC_of Try.func39 rfl rfl rfl rfl ?_
    refine W_seq ?_
    refine W_region ?_
    refine ops_v (v_assign (v := _) rfl rfl) ?_
    refine ops_v (v_assign (v := _) rfl rfl) ?_
    refine ops_nil ?_
    refine W_seq ?_
    refine W_block ?_
    refine W_seq ?_
    refine W_seq ?_
    refine W_region ?_
    refine ops_v (v_move (v := (.int _ _)) rfl rfl) ?_
    refine ops_v (v_lss false rfl rfl rfl (decide_eq_false (by first | omega | (simp only; omega) | rfl | decide))) ?_
    refine ops_v (v_assign (v := (.bool _)) rfl rfl) ?_
    refine ops_nil ?_
    refine W_if_f rfl ?_
    refine W_seq ?_
    refine W_region ?_
    refine ops_v (v_move (v := (.int _ _)) rfl rfl) ?_
    refine ops_v (v_move (v := (.pointer _)) rfl rfl) ?_
    refine ops_call rfl c28 (Links_ok H) ?_
    clear H; rintro _ w ⟨rfl, H⟩
    refine ops_v (v_geq false rfl rfl rfl (decide_eq_false (by first | omega | (simp only; omega) | rfl | decide))) ?_
    refine ops_v (v_assign (v := (.bool _)) rfl rfl) ?_
    refine ops_nil ?_
    refine W_if_f rfl ?_
    refine W_seq ?_
    refine W_region ?_
    refine ops_v (v_move (v := (.pointer _)) rfl rfl) ?_
    refine ops_v (v_move (v := (.int _ _)) rfl rfl) ?_
    refine ops_v (v_move (v := (.int _ _)) rfl rfl) ?_
    refine ops_call rfl c71 (under_ok true c3 H) ?_
    clear H; rintro _ w ⟨rfl, H⟩
    refine ops_v (v_not rfl rfl _ rfl) ?_
    refine ops_v (v_assign (v := (.bool _)) rfl rfl) ?_
    refine ops_nil ?_
    refine W_if_f rfl ?_
    refine W_region ?_
    refine ops_v (v_move (v := (.pointer _)) rfl rfl) ?_
    refine ops_v (v_move (v := (.int _ _)) rfl rfl) ?_
    refine ops_v (v_move (v := (.int _ _)) rfl rfl) ?_
    refine ops_call rfl c71 (under_ok true c4 H) ?_
    clear H; rintro _ w ⟨rfl, H⟩
    refine ops_v (v_not rfl rfl _ rfl) ?_
    refine ops_v (v_assign (v := (.bool _)) rfl rfl) ?_
    refine ops_nil ?_
    refine W_if_f rfl ?_
    refine W_seq ?_
    refine W_region ?_
    refine ops_v (v_move (v := (.int _ _)) rfl rfl) ?_
    refine ops_v (v_move (v := (.int _ _)) rfl rfl) ?_
    refine ops_v (v_eql true rfl rfl rfl (decide_eq_true (by first | omega | (simp only; omega) | rfl | decide))) ?_
    refine ops_v (v_assign (v := (.bool _)) rfl rfl) ?_
    refine ops_nil ?_
    refine W_if_t rfl ?_
    refine W_seq ?_
    refine W_region ?_
    refine ops_v (v_move (v := (.int _ _)) rfl rfl) ?_
    refine ops_v (v_assign (v := (.int _ _)) rfl rfl) ?_
    refine ops_v (v_assign (v := _) rfl rfl) ?_
    refine ops_nil ?_
    refine W_ret ?_
    refine ⟨_, (.tmp (v := (.int _ _)) rfl (.tmp (v := (.int _ _)) rfl .nil)), ?_⟩
    exact ⟨rfl, H⟩
    -- ((*node.Store).Make: ret; chunks S; ptr )
  rw [if_neg c5] at hp
  refine FnC_of Try.func39 rfl rfl rfl rfl ?_
  refine W_seq ?_
  refine W_region ?_
  refine ops_v (v_assign (v := _) rfl rfl) ?_
  refine ops_v (v_assign (v := _) rfl rfl) ?_
  refine ops_nil ?_
  refine W_seq ?_
  refine W_block ?_
  refine W_seq ?_
  refine W_seq ?_
  refine W_region ?_
  refine ops_v (v_move (v := (.int _ _)) rfl rfl) ?_
  refine ops_v (v_lss false rfl rfl rfl (decide_eq_false (by first | omega | (simp only; omega) | rfl | decide))) ?_
  refine ops_v (v_assign (v := (.bool _)) rfl rfl) ?_
  refine ops_nil ?_
  refine W_if_f rfl ?_
  refine W_seq ?_
  refine W_region ?_
  refine ops_v (v_move (v := (.int _ _)) rfl rfl) ?_
  refine ops_v (v_move (v := (.pointer _)) rfl rfl) ?_
  refine ops_call rfl c28 (Links_ok H) ?_
  clear H; rintro _ w ⟨rfl, H⟩
  refine ops_v (v_geq false rfl rfl rfl (decide_eq_false (by first | omega | (simp only; omega) | rfl | decide))) ?_
  refine ops_v (v_assign (v := (.bool _)) rfl rfl) ?_
  refine ops_nil ?_
  refine W_if_f rfl ?_
  refine W_seq ?_
  refine W_region ?_
  refine ops_v (v_move (v := (.pointer _)) rfl rfl) ?_
  refine ops_v (v_move (v := (.int _ _)) rfl rfl) ?_
  refine ops_v (v_move (v := (.int _ _)) rfl rfl) ?_
  refine ops_call rfl c71 (under_ok true c3 H) ?_
  clear H; rintro _ w ⟨rfl, H⟩
  refine ops_v (v_not rfl rfl _ rfl) ?_
  refine ops_v (v_assign (v := (.bool _)) rfl rfl) ?_
  refine ops_nil ?_
  refine W_if_f rfl ?_
  refine W_region ?_
  refine ops_v (v_move (v := (.pointer _)) rfl rfl) ?_
  refine ops_v (v_move (v := (.int _ _)) rfl rfl) ?_
  refine ops_v (v_move (v := (.int _ _)) rfl rfl) ?_
  refine ops_call rfl c71 (under_ok true c4 H) ?_
  clear H; rintro _ w ⟨rfl, H⟩
  refine ops_v (v_not rfl rfl _ rfl) ?_
  refine ops_v (v_assign (v := (.bool _)) rfl rfl) ?_
  refine ops_nil ?_
  refine W_if_f rfl ?_
  refine W_seq ?_
  refine W_region ?_
  refine ops_v (v_move (v := (.int _ _)) rfl rfl) ?_
  refine ops_v (v_move (v := (.int _ _)) rfl rfl) ?_
  refine ops_v (v_eql false rfl rfl rfl (decide_eq_false (by first | omega | (simp only; omega) | rfl | decide))) ?_
  refine ops_v (v_assign (v := (.bool _)) rfl rfl) ?_
  refine ops_nil ?_
  refine W_if_f rfl ?_
  refine W_skip ?_
  refine W_seq ?_
  refine W_region ?_
  refine ops_v (v_move (v := (.pointer _)) rfl rfl) ?_
  refine ops_v (v_move (v := (.int _ _)) rfl rfl) ?_
  refine ops_v (v_move (v := (.int _ _)) rfl rfl) ?_
  refine ops_v (v_move (v := (.int _ _)) rfl rfl) ?_
  refine ops_v (v_build (cs := [(.bool _), (.int _ _), (.int _ _), (.int _ _), (.int _ _)]) rfl bp42 rfl) ?_
  refine ops_call rfl c70 (put_ok (b := M.askB k a b) hm hp H) ?_
  clear H; rintro _ w ⟨rfl, H⟩
  refine ops_v (v_extract (v := (.int _ _)) rfl rfl rfl) ?_
  refine ops_v (v_extract (v := (.int _ _)) rfl rfl rfl) ?_
  refine ops_v (v_assign (v := (.int _ _)) rfl rfl) ?_
  refine ops_v (v_assign (v := (.int _ _)) rfl rfl) ?_
  refine ops_nil ?_
  refine W_ret ?_
  refine ⟨_, (.tmp (v := (.int _ _)) rfl (.tmp (v := (.int _ _)) rfl .nil)), ?_⟩
  exact ⟨rfl, H⟩
  -- ((*node.Store).Make: ret; chunks S; ptr )
end Go.Proofs.Ytchikjmhncojfaa.W
