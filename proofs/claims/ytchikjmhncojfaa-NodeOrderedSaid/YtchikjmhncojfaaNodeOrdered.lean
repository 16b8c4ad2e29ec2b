/- NodeOrdered of layer 13: each node's links rise downwards, its two sides are unlike. Conditions: none. -/
import Derived.Test.YtchikjmhncojfaaMade
import Derived.Test.YtchikjmhncojfaaOrderM
import Derived.Test.YtchikjmhncojfaaHead
import Derived.ProofKit
import Derived.OpenShut
set_option linter.unusedVariables false
namespace Go.Proofs.Ytchikjmhncojfaa.nodeOrdered
open Go Go.Proofs Go.RowKit Go.ChangeShapes Go.WideShapes Go.ChangeAt Go.Proofs.Ytchikjmhncojfaa.W
open Go.Proofs.Ytchikjmhncojfaa.M (Br St get getZ isN idx has down Wf rank i64 leafB askB R4 MadeOk)
variable {w wb : World} {R : List Chunk}
set_option maxHeartbeats 2000000 in
theorem law_ok (H : Own wb R w) (links f link : Int) (i1 : i64 links) (i2 : i64 f) (i3 : i64 link) (v : Value) (l : List R4) (hr : RawIs wb v l) :
    FnC Try.prog 5 [int links, v, int f, int link] w (fun u w' => u = .bool true ∧ ∃ R', Own wb R' w') := by
  have lo := M.pick_lo (c := links) (n := 7) (by decide)
  have hi := M.pick_hi (c := links) (n := 7) (by decide)
  obtain ⟨rp, rcap, hv, _⟩ := id hr
  subst hv
  generalize hn : M.pick links 7 = n at lo hi
  refine FnC_of Try.func5 rfl rfl rfl rfl ?_
  refine W_seq ?_
  refine W_region ?_
  refine ops_v (v_assign (v := _) rfl rfl) ?_
  refine ops_nil ?_
  refine W_seq ?_
  refine W_region ?_
  refine ops_call rfl c24 (awake13_ok H) ?_
  clear H; rintro _ w ⟨rfl, H⟩
  refine ops_v (v_assign (v := (.bool _)) rfl rfl) ?_
  refine ops_nil ?_
  refine W_seq ?_
  refine W_region ?_
  refine ops_v (v_move (v := (.int _ _)) rfl rfl) ?_
  refine ops_call rfl c25 (pick13_ok H links 7 i1 (by decide)) ?_
  clear H; rintro _ w ⟨rfl, H⟩
  rw [hn]
  refine ops_v (v_assign (v := (.int _ _)) rfl rfl) ?_
  refine ops_nil ?_
  refine W_seq ?_
  refine W_region ?_
  refine ops_v (v_move (v := (.int _ _)) rfl rfl) ?_
  refine ops_v (v_move (v := (.slice _ _ _)) rfl rfl) ?_
  refine ops_call rfl c37 (Made_ok H n lo (by omega) _ l hr) ?_
  clear H; rintro _ w ⟨p, st, q, cap, ids, rfl, hm, H⟩
  refine ops_v (v_move (v := (.tuple _)) rfl rfl) ?_
  refine ops_v (v_extract (v := (.pointer _)) rfl rfl rfl) ?_
  refine ops_v (v_extract (v := (.slice _ _ _)) rfl rfl rfl) ?_
  refine ops_v (v_assign (v := (.pointer _)) rfl rfl) ?_
  refine ops_v (v_assign (v := (.slice _ _ _)) rfl rfl) ?_
  refine ops_nil ?_
  refine W_seq ?_
  refine W_seq ?_
  refine W_region ?_
  refine ops_v (v_assign (v := _) rfl rfl) ?_
  refine ops_nil ?_
  refine W_block ?_
  -- (backstaylaw13.NodeOrdered: loop; chunks s,S; ptr )
  have hw := hm.wf
  have hln := hm.links
  have hfew := hm.few
  have hsh := hm.short
  refine W_loopS (fun (s : Nat) => [(2, int f), (3, int link), (9, .bool true), (10, int n), (11, ptr p), (12, .slice q ids.length cap), (13, .int .i64 s)])
    (fun s w => ∃ R', Own wb (SlC q ids.length cap 3 1 (ints ids) :: StoreC p st :: R') w ∧ s ≤ st.nodes.length)
    (fun s => st.nodes.length - s) 0 ⟨rfl, rfl, rfl, rfl, rfl, rfl, rfl, trivial⟩ ⟨R, H, Nat.zero_le _⟩ ?_
  clear H
  rintro i e w ⟨R', H, hle⟩
  by_cases hil : (i : Int) < (st.nodes.length : Int)
  · obtain ⟨b, hb⟩ : ∃ b, st.nodes[i]? = some b := ⟨st.nodes[i]'(by omega), by simp⟩
    have hg : get st (i : Int) = some b := by rw [M.get_nat]; exact hb
    rcases b with ⟨_ | _, bv, bl, bs, bf⟩
    · obtain ⟨_, a1, a2, a3, a4, a5, a6, a7⟩ := hw.ask hg rfl
      simp only at a1 a2 a3 a4 a5 a6 a7
      obtain ⟨x, hx⟩ := Option.isSome_iff_exists.1 (M.under_isN a4)
      obtain ⟨y, hy⟩ := Option.isSome_iff_exists.1 (M.under_isN a5)
      rw [M.under_eq hx] at a4
      rw [M.under_eq hy] at a5
      have a8 : ¬ bs = bf := a3
      rcases x with ⟨xb, xv, xl, xs, xf⟩
      rcases y with ⟨yb, yv, yl, ys, yf⟩
      simp only at a4 a5
      cases xb with
      | true =>
        cases yb with
        | true =>
          refine W_seq ?_
          refine W_seq ?_
          refine W_region ?_
          refine ops_v (v_move (v := (.int _ _)) rfl rfl) ?_
          refine ops_v (v_move (v := (.pointer _)) rfl rfl) ?_
          refine ops_call rfl c30 (FnC.ro 1 rfl H (fun _ => Size_ok)) ?_
          clear H; rintro _ w ⟨rfl, H⟩
          refine ops_v (v_lss true rfl rfl rfl (decide_eq_true (by first | omega | (simp only; omega) | rfl | decide))) ?_
          refine ops_nil ?_
          refine W_if_t rfl ?_
          refine W_skip ?_
          refine W_seq ?_
          refine W_block ?_
          refine W_seq ?_
          refine W_region ?_
          refine ops_v (v_move (v := (.pointer _)) rfl rfl) ?_
          refine ops_v (v_move (v := (.int _ _)) rfl rfl) ?_
          refine ops_call rfl c31 (FnC.ro 1 rfl H (fun _ => Node_ok hg)) ?_
          clear H; rintro _ w ⟨rfl, H⟩
          refine ops_v (v_move (v := (.tuple _)) rfl rfl) ?_
          refine ops_v (v_extract (v := (.agg _)) rfl rfl rfl) ?_
          refine ops_v (v_extract (v := (.bool _)) rfl rfl rfl) ?_
          refine ops_alloc H rfl tz42 ?_
          clear H; intro bn0 w H
          refine ops_store (vs := [_, _, _, _, _]) (v := (.agg _)) (cs' := [_, _, _, _, _]) 0 H rfl ts42 rfl rfl rfl rfl rfl rfl rfl rfl ?_
          clear H; intro w H
          refine ops_v (v_assign (v := (.bool _)) rfl rfl) ?_
          refine ops_nil ?_
          refine W_seq ?_
          refine W_seq ?_
          refine W_region ?_
          refine ops_v (v_move (v := (.bool _)) rfl rfl) ?_
          refine ops_v (v_not rfl rfl _ rfl) ?_
          refine ops_nil ?_
          refine W_if_f rfl ?_
          refine W_skip ?_
          refine W_seq ?_
          refine W_seq ?_
          refine W_region ?_
          refine ops_v (v_fieldAddr rfl fo42_0 rfl rfl) ?_
          refine ops_load (v := (.bool _)) 0 H rfl tc4 rfl rfl rfl ?_
          refine ops_nil ?_
          refine W_if_f rfl ?_
          refine W_skip ?_
          refine W_seq ?_
          refine W_region ?_
          refine ops_v (v_move (v := (.pointer _)) rfl rfl) ?_
          refine ops_v (v_fieldAddr rfl fo42_3 rfl rfl) ?_
          refine ops_load (v := (.int _ _)) 0 H rfl tc3 rfl rfl rfl ?_
          refine ops_call rfl c31 (FnC.ro 2 rfl H (fun _ => Node_ok hx)) ?_
          clear H; rintro _ w ⟨rfl, H⟩
          refine ops_v (v_move (v := (.tuple _)) rfl rfl) ?_
          refine ops_v (v_extract (v := (.agg _)) rfl rfl rfl) ?_
          refine ops_v (v_extract (v := (.bool _)) rfl rfl rfl) ?_
          refine ops_alloc H rfl tz42 ?_
          clear H; intro bn1 w H
          refine ops_store (vs := [_, _, _, _, _]) (v := (.agg _)) (cs' := [_, _, _, _, _]) 0 H rfl ts42 rfl rfl rfl rfl rfl rfl rfl rfl ?_
          clear H; intro w H
          refine ops_v (v_assign (v := (.bool _)) rfl rfl) ?_
          refine ops_nil ?_
          refine W_seq ?_
          refine W_region ?_
          refine ops_v (v_move (v := (.pointer _)) rfl rfl) ?_
          refine ops_v (v_fieldAddr rfl fo42_4 rfl rfl) ?_
          refine ops_load (v := (.int _ _)) 1 H rfl tc3 rfl rfl rfl ?_
          refine ops_call rfl c31 (FnC.ro 3 rfl H (fun _ => Node_ok hy)) ?_
          clear H; rintro _ w ⟨rfl, H⟩
          refine ops_v (v_move (v := (.tuple _)) rfl rfl) ?_
          refine ops_v (v_extract (v := (.agg _)) rfl rfl rfl) ?_
          refine ops_v (v_extract (v := (.bool _)) rfl rfl rfl) ?_
          refine ops_alloc H rfl tz42 ?_
          clear H; intro bn2 w H
          refine ops_store (vs := [_, _, _, _, _]) (v := (.agg _)) (cs' := [_, _, _, _, _]) 0 H rfl ts42 rfl rfl rfl rfl rfl rfl rfl rfl ?_
          clear H; intro w H
          refine ops_v (v_assign (v := (.bool _)) rfl rfl) ?_
          refine ops_nil ?_
          refine W_seq ?_
          refine W_region ?_
          refine ops_v (v_move (v := (.bool _)) rfl rfl) ?_
          refine ops_v (v_not rfl rfl _ rfl) ?_
          refine ops_v (v_move (v := (.bool _)) rfl rfl) ?_
          refine ops_v (v_move (v := (.bool _)) rfl rfl) ?_
          refine ops_v (v_not rfl rfl _ rfl) ?_
          refine ops_v (v_pick_f (v := (.bool _)) rfl rfl rfl) ?_
          refine ops_v (v_move (v := (.bool _)) rfl rfl) ?_
          refine ops_v (v_fieldAddr rfl fo42_3 rfl rfl) ?_
          refine ops_load (v := (.int _ _)) 2 H rfl tc3 rfl rfl rfl ?_
          refine ops_v (v_fieldAddr rfl fo42_4 rfl rfl) ?_
          refine ops_load (v := (.int _ _)) 2 H rfl tc3 rfl rfl rfl ?_
          refine ops_v (v_eql false rfl rfl rfl (decide_eq_false (by first | omega | (simp only; omega) | rfl | decide))) ?_
          refine ops_v (v_pick_f (v := (.bool _)) rfl rfl rfl) ?_
          refine ops_v (v_move (v := (.bool _)) rfl rfl) ?_
          refine ops_v (v_fieldAddr rfl fo42_2 rfl rfl) ?_
          refine ops_load (v := (.int _ _)) 2 H rfl tc3 rfl rfl rfl ?_
          refine ops_v (v_lss false rfl rfl rfl (decide_eq_false (by first | omega | (simp only; omega) | rfl | decide))) ?_
          refine ops_v (v_pick_f (v := (.bool _)) rfl rfl rfl) ?_
          refine ops_v (v_move (v := (.bool _)) rfl rfl) ?_
          refine ops_v (v_fieldAddr rfl fo42_2 rfl rfl) ?_
          refine ops_load (v := (.int _ _)) 2 H rfl tc3 rfl rfl rfl ?_
          refine ops_v (v_move (v := (.int _ _)) rfl rfl) ?_
          refine ops_v (v_geq false rfl rfl rfl (decide_eq_false (by first | omega | (simp only; omega) | rfl | decide))) ?_
          refine ops_v (v_pick_f (v := (.bool _)) rfl rfl rfl) ?_
          refine ops_v (v_move (v := (.bool _)) rfl rfl) ?_
          refine ops_v (v_fieldAddr rfl fo42_0 rfl rfl) ?_
          refine ops_load (v := (.bool _)) 1 H rfl tc4 rfl rfl rfl ?_
          refine ops_v (v_not rfl rfl _ rfl) ?_
          refine ops_v (v_move (v := (.bool _)) rfl rfl) ?_
          refine ops_skip rfl rfl ?_
          refine ops_skip rfl rfl ?_
          refine ops_skip rfl rfl ?_
          refine ops_skip rfl rfl ?_
          refine ops_skip rfl rfl ?_
          refine ops_v (v_pick_f (v := (.bool _)) rfl rfl rfl) ?_
          refine ops_v (v_pick_f (v := (.bool _)) rfl rfl rfl) ?_
          refine ops_v (v_move (v := (.bool _)) rfl rfl) ?_
          refine ops_v (v_fieldAddr rfl fo42_0 rfl rfl) ?_
          refine ops_load (v := (.bool _)) 0 H rfl tc4 rfl rfl rfl ?_
          refine ops_v (v_not rfl rfl _ rfl) ?_
          refine ops_v (v_move (v := (.bool _)) rfl rfl) ?_
          refine ops_skip rfl rfl ?_
          refine ops_skip rfl rfl ?_
          refine ops_skip rfl rfl ?_
          refine ops_skip rfl rfl ?_
          refine ops_skip rfl rfl ?_
          refine ops_v (v_pick_f (v := (.bool _)) rfl rfl rfl) ?_
          refine ops_v (v_pick_f (v := (.bool _)) rfl rfl rfl) ?_
          refine ops_nil ?_
          refine W_if_f rfl ?_
          refine W_skip ?_
          refine W_region ?_
          refine ops_v (v_move (v := (.int _ _)) rfl rfl) ?_
          refine ops_v (v_add _ rfl rfl rfl (wrap_in (by omega) (by omega))) ?_
          refine ops_v (v_assign (v := (.int _ _)) rfl rfl) ?_
          refine ops_nil ?_
          refine ⟨i + 1, ?_, ⟨rfl, rfl, rfl, rfl, rfl, rfl, rfl, trivial⟩, R', H.tail.tail.tail, ?_⟩
          · show st.nodes.length - (i + 1) < st.nodes.length - i; omega
          · show i + 1 ≤ st.nodes.length; omega
          -- (backstaylaw13.NodeOrdered: loopend; chunks n2,n1,n0,s,S; ptr 14=n0,47=n0,51=n0,16=n1,58=n0,18=n2)
        | false =>
          have y0 : bl < yl := by simpa using a5
          refine W_seq ?_
          refine W_seq ?_
          refine W_region ?_
          refine ops_v (v_move (v := (.int _ _)) rfl rfl) ?_
          refine ops_v (v_move (v := (.pointer _)) rfl rfl) ?_
          refine ops_call rfl c30 (FnC.ro 1 rfl H (fun _ => Size_ok)) ?_
          clear H; rintro _ w ⟨rfl, H⟩
          refine ops_v (v_lss true rfl rfl rfl (decide_eq_true (by first | omega | (simp only; omega) | rfl | decide))) ?_
          refine ops_nil ?_
          refine W_if_t rfl ?_
          refine W_skip ?_
          refine W_seq ?_
          refine W_block ?_
          refine W_seq ?_
          refine W_region ?_
          refine ops_v (v_move (v := (.pointer _)) rfl rfl) ?_
          refine ops_v (v_move (v := (.int _ _)) rfl rfl) ?_
          refine ops_call rfl c31 (FnC.ro 1 rfl H (fun _ => Node_ok hg)) ?_
          clear H; rintro _ w ⟨rfl, H⟩
          refine ops_v (v_move (v := (.tuple _)) rfl rfl) ?_
          refine ops_v (v_extract (v := (.agg _)) rfl rfl rfl) ?_
          refine ops_v (v_extract (v := (.bool _)) rfl rfl rfl) ?_
          refine ops_alloc H rfl tz42 ?_
          clear H; intro bn0 w H
          refine ops_store (vs := [_, _, _, _, _]) (v := (.agg _)) (cs' := [_, _, _, _, _]) 0 H rfl ts42 rfl rfl rfl rfl rfl rfl rfl rfl ?_
          clear H; intro w H
          refine ops_v (v_assign (v := (.bool _)) rfl rfl) ?_
          refine ops_nil ?_
          refine W_seq ?_
          refine W_seq ?_
          refine W_region ?_
          refine ops_v (v_move (v := (.bool _)) rfl rfl) ?_
          refine ops_v (v_not rfl rfl _ rfl) ?_
          refine ops_nil ?_
          refine W_if_f rfl ?_
          refine W_skip ?_
          refine W_seq ?_
          refine W_seq ?_
          refine W_region ?_
          refine ops_v (v_fieldAddr rfl fo42_0 rfl rfl) ?_
          refine ops_load (v := (.bool _)) 0 H rfl tc4 rfl rfl rfl ?_
          refine ops_nil ?_
          refine W_if_f rfl ?_
          refine W_skip ?_
          refine W_seq ?_
          refine W_region ?_
          refine ops_v (v_move (v := (.pointer _)) rfl rfl) ?_
          refine ops_v (v_fieldAddr rfl fo42_3 rfl rfl) ?_
          refine ops_load (v := (.int _ _)) 0 H rfl tc3 rfl rfl rfl ?_
          refine ops_call rfl c31 (FnC.ro 2 rfl H (fun _ => Node_ok hx)) ?_
          clear H; rintro _ w ⟨rfl, H⟩
          refine ops_v (v_move (v := (.tuple _)) rfl rfl) ?_
          refine ops_v (v_extract (v := (.agg _)) rfl rfl rfl) ?_
          refine ops_v (v_extract (v := (.bool _)) rfl rfl rfl) ?_
          refine ops_alloc H rfl tz42 ?_
          clear H; intro bn1 w H
          refine ops_store (vs := [_, _, _, _, _]) (v := (.agg _)) (cs' := [_, _, _, _, _]) 0 H rfl ts42 rfl rfl rfl rfl rfl rfl rfl rfl ?_
          clear H; intro w H
          refine ops_v (v_assign (v := (.bool _)) rfl rfl) ?_
          refine ops_nil ?_
          refine W_seq ?_
          refine W_region ?_
          refine ops_v (v_move (v := (.pointer _)) rfl rfl) ?_
          refine ops_v (v_fieldAddr rfl fo42_4 rfl rfl) ?_
          refine ops_load (v := (.int _ _)) 1 H rfl tc3 rfl rfl rfl ?_
          refine ops_call rfl c31 (FnC.ro 3 rfl H (fun _ => Node_ok hy)) ?_
          clear H; rintro _ w ⟨rfl, H⟩
          refine ops_v (v_move (v := (.tuple _)) rfl rfl) ?_
          refine ops_v (v_extract (v := (.agg _)) rfl rfl rfl) ?_
          refine ops_v (v_extract (v := (.bool _)) rfl rfl rfl) ?_
          refine ops_alloc H rfl tz42 ?_
          clear H; intro bn2 w H
          refine ops_store (vs := [_, _, _, _, _]) (v := (.agg _)) (cs' := [_, _, _, _, _]) 0 H rfl ts42 rfl rfl rfl rfl rfl rfl rfl rfl ?_
          clear H; intro w H
          refine ops_v (v_assign (v := (.bool _)) rfl rfl) ?_
          refine ops_nil ?_
          refine W_seq ?_
          refine W_region ?_
          refine ops_v (v_move (v := (.bool _)) rfl rfl) ?_
          refine ops_v (v_not rfl rfl _ rfl) ?_
          refine ops_v (v_move (v := (.bool _)) rfl rfl) ?_
          refine ops_v (v_move (v := (.bool _)) rfl rfl) ?_
          refine ops_v (v_not rfl rfl _ rfl) ?_
          refine ops_v (v_pick_f (v := (.bool _)) rfl rfl rfl) ?_
          refine ops_v (v_move (v := (.bool _)) rfl rfl) ?_
          refine ops_v (v_fieldAddr rfl fo42_3 rfl rfl) ?_
          refine ops_load (v := (.int _ _)) 2 H rfl tc3 rfl rfl rfl ?_
          refine ops_v (v_fieldAddr rfl fo42_4 rfl rfl) ?_
          refine ops_load (v := (.int _ _)) 2 H rfl tc3 rfl rfl rfl ?_
          refine ops_v (v_eql false rfl rfl rfl (decide_eq_false (by first | omega | (simp only; omega) | rfl | decide))) ?_
          refine ops_v (v_pick_f (v := (.bool _)) rfl rfl rfl) ?_
          refine ops_v (v_move (v := (.bool _)) rfl rfl) ?_
          refine ops_v (v_fieldAddr rfl fo42_2 rfl rfl) ?_
          refine ops_load (v := (.int _ _)) 2 H rfl tc3 rfl rfl rfl ?_
          refine ops_v (v_lss false rfl rfl rfl (decide_eq_false (by first | omega | (simp only; omega) | rfl | decide))) ?_
          refine ops_v (v_pick_f (v := (.bool _)) rfl rfl rfl) ?_
          refine ops_v (v_move (v := (.bool _)) rfl rfl) ?_
          refine ops_v (v_fieldAddr rfl fo42_2 rfl rfl) ?_
          refine ops_load (v := (.int _ _)) 2 H rfl tc3 rfl rfl rfl ?_
          refine ops_v (v_move (v := (.int _ _)) rfl rfl) ?_
          refine ops_v (v_geq false rfl rfl rfl (decide_eq_false (by first | omega | (simp only; omega) | rfl | decide))) ?_
          refine ops_v (v_pick_f (v := (.bool _)) rfl rfl rfl) ?_
          refine ops_v (v_move (v := (.bool _)) rfl rfl) ?_
          refine ops_v (v_fieldAddr rfl fo42_0 rfl rfl) ?_
          refine ops_load (v := (.bool _)) 1 H rfl tc4 rfl rfl rfl ?_
          refine ops_v (v_not rfl rfl _ rfl) ?_
          refine ops_v (v_move (v := (.bool _)) rfl rfl) ?_
          refine ops_skip rfl rfl ?_
          refine ops_skip rfl rfl ?_
          refine ops_skip rfl rfl ?_
          refine ops_skip rfl rfl ?_
          refine ops_skip rfl rfl ?_
          refine ops_v (v_pick_f (v := (.bool _)) rfl rfl rfl) ?_
          refine ops_v (v_pick_f (v := (.bool _)) rfl rfl rfl) ?_
          refine ops_v (v_move (v := (.bool _)) rfl rfl) ?_
          refine ops_v (v_fieldAddr rfl fo42_0 rfl rfl) ?_
          refine ops_load (v := (.bool _)) 0 H rfl tc4 rfl rfl rfl ?_
          refine ops_v (v_not rfl rfl _ rfl) ?_
          refine ops_v (v_move (v := (.bool _)) rfl rfl) ?_
          refine ops_v (v_fieldAddr rfl fo42_2 rfl rfl) ?_
          refine ops_load (v := (.int _ _)) 0 H rfl tc3 rfl rfl rfl ?_
          refine ops_v (v_fieldAddr rfl fo42_2 rfl rfl) ?_
          refine ops_load (v := (.int _ _)) 2 H rfl tc3 rfl rfl rfl ?_
          refine ops_v (v_leq false rfl rfl rfl (decide_eq_false (by first | omega | (simp only; omega) | rfl | decide))) ?_
          refine ops_v (v_pick_t (v := (.bool _)) rfl rfl rfl) ?_
          refine ops_v (v_pick_f (v := (.bool _)) rfl rfl rfl) ?_
          refine ops_nil ?_
          refine W_if_f rfl ?_
          refine W_skip ?_
          refine W_region ?_
          refine ops_v (v_move (v := (.int _ _)) rfl rfl) ?_
          refine ops_v (v_add _ rfl rfl rfl (wrap_in (by omega) (by omega))) ?_
          refine ops_v (v_assign (v := (.int _ _)) rfl rfl) ?_
          refine ops_nil ?_
          refine ⟨i + 1, ?_, ⟨rfl, rfl, rfl, rfl, rfl, rfl, rfl, trivial⟩, R', H.tail.tail.tail, ?_⟩
          · show st.nodes.length - (i + 1) < st.nodes.length - i; omega
          · show i + 1 ≤ st.nodes.length; omega
          -- (backstaylaw13.NodeOrdered: loopend; chunks n2,n1,n0,s,S; ptr 14=n0,47=n0,51=n0,16=n1,58=n0,18=n2)
      | false =>
        have x0 : bl < xl := by simpa using a4
        cases yb with
        | true =>
          refine W_seq ?_
          refine W_seq ?_
          refine W_region ?_
          refine ops_v (v_move (v := (.int _ _)) rfl rfl) ?_
          refine ops_v (v_move (v := (.pointer _)) rfl rfl) ?_
          refine ops_call rfl c30 (FnC.ro 1 rfl H (fun _ => Size_ok)) ?_
          clear H; rintro _ w ⟨rfl, H⟩
          refine ops_v (v_lss true rfl rfl rfl (decide_eq_true (by first | omega | (simp only; omega) | rfl | decide))) ?_
          refine ops_nil ?_
          refine W_if_t rfl ?_
          refine W_skip ?_
          refine W_seq ?_
          refine W_block ?_
          refine W_seq ?_
          refine W_region ?_
          refine ops_v (v_move (v := (.pointer _)) rfl rfl) ?_
          refine ops_v (v_move (v := (.int _ _)) rfl rfl) ?_
          refine ops_call rfl c31 (FnC.ro 1 rfl H (fun _ => Node_ok hg)) ?_
          clear H; rintro _ w ⟨rfl, H⟩
          refine ops_v (v_move (v := (.tuple _)) rfl rfl) ?_
          refine ops_v (v_extract (v := (.agg _)) rfl rfl rfl) ?_
          refine ops_v (v_extract (v := (.bool _)) rfl rfl rfl) ?_
          refine ops_alloc H rfl tz42 ?_
          clear H; intro bn0 w H
          refine ops_store (vs := [_, _, _, _, _]) (v := (.agg _)) (cs' := [_, _, _, _, _]) 0 H rfl ts42 rfl rfl rfl rfl rfl rfl rfl rfl ?_
          clear H; intro w H
          refine ops_v (v_assign (v := (.bool _)) rfl rfl) ?_
          refine ops_nil ?_
          refine W_seq ?_
          refine W_seq ?_
          refine W_region ?_
          refine ops_v (v_move (v := (.bool _)) rfl rfl) ?_
          refine ops_v (v_not rfl rfl _ rfl) ?_
          refine ops_nil ?_
          refine W_if_f rfl ?_
          refine W_skip ?_
          refine W_seq ?_
          refine W_seq ?_
          refine W_region ?_
          refine ops_v (v_fieldAddr rfl fo42_0 rfl rfl) ?_
          refine ops_load (v := (.bool _)) 0 H rfl tc4 rfl rfl rfl ?_
          refine ops_nil ?_
          refine W_if_f rfl ?_
          refine W_skip ?_
          refine W_seq ?_
          refine W_region ?_
          refine ops_v (v_move (v := (.pointer _)) rfl rfl) ?_
          refine ops_v (v_fieldAddr rfl fo42_3 rfl rfl) ?_
          refine ops_load (v := (.int _ _)) 0 H rfl tc3 rfl rfl rfl ?_
          refine ops_call rfl c31 (FnC.ro 2 rfl H (fun _ => Node_ok hx)) ?_
          clear H; rintro _ w ⟨rfl, H⟩
          refine ops_v (v_move (v := (.tuple _)) rfl rfl) ?_
          refine ops_v (v_extract (v := (.agg _)) rfl rfl rfl) ?_
          refine ops_v (v_extract (v := (.bool _)) rfl rfl rfl) ?_
          refine ops_alloc H rfl tz42 ?_
          clear H; intro bn1 w H
          refine ops_store (vs := [_, _, _, _, _]) (v := (.agg _)) (cs' := [_, _, _, _, _]) 0 H rfl ts42 rfl rfl rfl rfl rfl rfl rfl rfl ?_
          clear H; intro w H
          refine ops_v (v_assign (v := (.bool _)) rfl rfl) ?_
          refine ops_nil ?_
          refine W_seq ?_
          refine W_region ?_
          refine ops_v (v_move (v := (.pointer _)) rfl rfl) ?_
          refine ops_v (v_fieldAddr rfl fo42_4 rfl rfl) ?_
          refine ops_load (v := (.int _ _)) 1 H rfl tc3 rfl rfl rfl ?_
          refine ops_call rfl c31 (FnC.ro 3 rfl H (fun _ => Node_ok hy)) ?_
          clear H; rintro _ w ⟨rfl, H⟩
          refine ops_v (v_move (v := (.tuple _)) rfl rfl) ?_
          refine ops_v (v_extract (v := (.agg _)) rfl rfl rfl) ?_
          refine ops_v (v_extract (v := (.bool _)) rfl rfl rfl) ?_
          refine ops_alloc H rfl tz42 ?_
          clear H; intro bn2 w H
          refine ops_store (vs := [_, _, _, _, _]) (v := (.agg _)) (cs' := [_, _, _, _, _]) 0 H rfl ts42 rfl rfl rfl rfl rfl rfl rfl rfl ?_
          clear H; intro w H
          refine ops_v (v_assign (v := (.bool _)) rfl rfl) ?_
          refine ops_nil ?_
          refine W_seq ?_
          refine W_region ?_
          refine ops_v (v_move (v := (.bool _)) rfl rfl) ?_
          refine ops_v (v_not rfl rfl _ rfl) ?_
          refine ops_v (v_move (v := (.bool _)) rfl rfl) ?_
          refine ops_v (v_move (v := (.bool _)) rfl rfl) ?_
          refine ops_v (v_not rfl rfl _ rfl) ?_
          refine ops_v (v_pick_f (v := (.bool _)) rfl rfl rfl) ?_
          refine ops_v (v_move (v := (.bool _)) rfl rfl) ?_
          refine ops_v (v_fieldAddr rfl fo42_3 rfl rfl) ?_
          refine ops_load (v := (.int _ _)) 2 H rfl tc3 rfl rfl rfl ?_
          refine ops_v (v_fieldAddr rfl fo42_4 rfl rfl) ?_
          refine ops_load (v := (.int _ _)) 2 H rfl tc3 rfl rfl rfl ?_
          refine ops_v (v_eql false rfl rfl rfl (decide_eq_false (by first | omega | (simp only; omega) | rfl | decide))) ?_
          refine ops_v (v_pick_f (v := (.bool _)) rfl rfl rfl) ?_
          refine ops_v (v_move (v := (.bool _)) rfl rfl) ?_
          refine ops_v (v_fieldAddr rfl fo42_2 rfl rfl) ?_
          refine ops_load (v := (.int _ _)) 2 H rfl tc3 rfl rfl rfl ?_
          refine ops_v (v_lss false rfl rfl rfl (decide_eq_false (by first | omega | (simp only; omega) | rfl | decide))) ?_
          refine ops_v (v_pick_f (v := (.bool _)) rfl rfl rfl) ?_
          refine ops_v (v_move (v := (.bool _)) rfl rfl) ?_
          refine ops_v (v_fieldAddr rfl fo42_2 rfl rfl) ?_
          refine ops_load (v := (.int _ _)) 2 H rfl tc3 rfl rfl rfl ?_
          refine ops_v (v_move (v := (.int _ _)) rfl rfl) ?_
          refine ops_v (v_geq false rfl rfl rfl (decide_eq_false (by first | omega | (simp only; omega) | rfl | decide))) ?_
          refine ops_v (v_pick_f (v := (.bool _)) rfl rfl rfl) ?_
          refine ops_v (v_move (v := (.bool _)) rfl rfl) ?_
          refine ops_v (v_fieldAddr rfl fo42_0 rfl rfl) ?_
          refine ops_load (v := (.bool _)) 1 H rfl tc4 rfl rfl rfl ?_
          refine ops_v (v_not rfl rfl _ rfl) ?_
          refine ops_v (v_move (v := (.bool _)) rfl rfl) ?_
          refine ops_v (v_fieldAddr rfl fo42_2 rfl rfl) ?_
          refine ops_load (v := (.int _ _)) 1 H rfl tc3 rfl rfl rfl ?_
          refine ops_v (v_fieldAddr rfl fo42_2 rfl rfl) ?_
          refine ops_load (v := (.int _ _)) 2 H rfl tc3 rfl rfl rfl ?_
          refine ops_v (v_leq false rfl rfl rfl (decide_eq_false (by first | omega | (simp only; omega) | rfl | decide))) ?_
          refine ops_v (v_pick_t (v := (.bool _)) rfl rfl rfl) ?_
          refine ops_v (v_pick_f (v := (.bool _)) rfl rfl rfl) ?_
          refine ops_v (v_move (v := (.bool _)) rfl rfl) ?_
          refine ops_v (v_fieldAddr rfl fo42_0 rfl rfl) ?_
          refine ops_load (v := (.bool _)) 0 H rfl tc4 rfl rfl rfl ?_
          refine ops_v (v_not rfl rfl _ rfl) ?_
          refine ops_v (v_move (v := (.bool _)) rfl rfl) ?_
          refine ops_skip rfl rfl ?_
          refine ops_skip rfl rfl ?_
          refine ops_skip rfl rfl ?_
          refine ops_skip rfl rfl ?_
          refine ops_skip rfl rfl ?_
          refine ops_v (v_pick_f (v := (.bool _)) rfl rfl rfl) ?_
          refine ops_v (v_pick_f (v := (.bool _)) rfl rfl rfl) ?_
          refine ops_nil ?_
          refine W_if_f rfl ?_
          refine W_skip ?_
          refine W_region ?_
          refine ops_v (v_move (v := (.int _ _)) rfl rfl) ?_
          refine ops_v (v_add _ rfl rfl rfl (wrap_in (by omega) (by omega))) ?_
          refine ops_v (v_assign (v := (.int _ _)) rfl rfl) ?_
          refine ops_nil ?_
          refine ⟨i + 1, ?_, ⟨rfl, rfl, rfl, rfl, rfl, rfl, rfl, trivial⟩, R', H.tail.tail.tail, ?_⟩
          · show st.nodes.length - (i + 1) < st.nodes.length - i; omega
          · show i + 1 ≤ st.nodes.length; omega
          -- (backstaylaw13.NodeOrdered: loopend; chunks n2,n1,n0,s,S; ptr 14=n0,47=n0,51=n0,16=n1,58=n0,18=n2)
        | false =>
          have y0 : bl < yl := by simpa using a5
          refine W_seq ?_
          refine W_seq ?_
          refine W_region ?_
          refine ops_v (v_move (v := (.int _ _)) rfl rfl) ?_
          refine ops_v (v_move (v := (.pointer _)) rfl rfl) ?_
          refine ops_call rfl c30 (FnC.ro 1 rfl H (fun _ => Size_ok)) ?_
          clear H; rintro _ w ⟨rfl, H⟩
          refine ops_v (v_lss true rfl rfl rfl (decide_eq_true (by first | omega | (simp only; omega) | rfl | decide))) ?_
          refine ops_nil ?_
          refine W_if_t rfl ?_
          refine W_skip ?_
          refine W_seq ?_
          refine W_block ?_
          refine W_seq ?_
          refine W_region ?_
          refine ops_v (v_move (v := (.pointer _)) rfl rfl) ?_
          refine ops_v (v_move (v := (.int _ _)) rfl rfl) ?_
          refine ops_call rfl c31 (FnC.ro 1 rfl H (fun _ => Node_ok hg)) ?_
          clear H; rintro _ w ⟨rfl, H⟩
          refine ops_v (v_move (v := (.tuple _)) rfl rfl) ?_
          refine ops_v (v_extract (v := (.agg _)) rfl rfl rfl) ?_
          refine ops_v (v_extract (v := (.bool _)) rfl rfl rfl) ?_
          refine ops_alloc H rfl tz42 ?_
          clear H; intro bn0 w H
          refine ops_store (vs := [_, _, _, _, _]) (v := (.agg _)) (cs' := [_, _, _, _, _]) 0 H rfl ts42 rfl rfl rfl rfl rfl rfl rfl rfl ?_
          clear H; intro w H
          refine ops_v (v_assign (v := (.bool _)) rfl rfl) ?_
          refine ops_nil ?_
          refine W_seq ?_
          refine W_seq ?_
          refine W_region ?_
          refine ops_v (v_move (v := (.bool _)) rfl rfl) ?_
          refine ops_v (v_not rfl rfl _ rfl) ?_
          refine ops_nil ?_
          refine W_if_f rfl ?_
          refine W_skip ?_
          refine W_seq ?_
          refine W_seq ?_
          refine W_region ?_
          refine ops_v (v_fieldAddr rfl fo42_0 rfl rfl) ?_
          refine ops_load (v := (.bool _)) 0 H rfl tc4 rfl rfl rfl ?_
          refine ops_nil ?_
          refine W_if_f rfl ?_
          refine W_skip ?_
          refine W_seq ?_
          refine W_region ?_
          refine ops_v (v_move (v := (.pointer _)) rfl rfl) ?_
          refine ops_v (v_fieldAddr rfl fo42_3 rfl rfl) ?_
          refine ops_load (v := (.int _ _)) 0 H rfl tc3 rfl rfl rfl ?_
          refine ops_call rfl c31 (FnC.ro 2 rfl H (fun _ => Node_ok hx)) ?_
          clear H; rintro _ w ⟨rfl, H⟩
          refine ops_v (v_move (v := (.tuple _)) rfl rfl) ?_
          refine ops_v (v_extract (v := (.agg _)) rfl rfl rfl) ?_
          refine ops_v (v_extract (v := (.bool _)) rfl rfl rfl) ?_
          refine ops_alloc H rfl tz42 ?_
          clear H; intro bn1 w H
          refine ops_store (vs := [_, _, _, _, _]) (v := (.agg _)) (cs' := [_, _, _, _, _]) 0 H rfl ts42 rfl rfl rfl rfl rfl rfl rfl rfl ?_
          clear H; intro w H
          refine ops_v (v_assign (v := (.bool _)) rfl rfl) ?_
          refine ops_nil ?_
          refine W_seq ?_
          refine W_region ?_
          refine ops_v (v_move (v := (.pointer _)) rfl rfl) ?_
          refine ops_v (v_fieldAddr rfl fo42_4 rfl rfl) ?_
          refine ops_load (v := (.int _ _)) 1 H rfl tc3 rfl rfl rfl ?_
          refine ops_call rfl c31 (FnC.ro 3 rfl H (fun _ => Node_ok hy)) ?_
          clear H; rintro _ w ⟨rfl, H⟩
          refine ops_v (v_move (v := (.tuple _)) rfl rfl) ?_
          refine ops_v (v_extract (v := (.agg _)) rfl rfl rfl) ?_
          refine ops_v (v_extract (v := (.bool _)) rfl rfl rfl) ?_
          refine ops_alloc H rfl tz42 ?_
          clear H; intro bn2 w H
          refine ops_store (vs := [_, _, _, _, _]) (v := (.agg _)) (cs' := [_, _, _, _, _]) 0 H rfl ts42 rfl rfl rfl rfl rfl rfl rfl rfl ?_
          clear H; intro w H
          refine ops_v (v_assign (v := (.bool _)) rfl rfl) ?_
          refine ops_nil ?_
          refine W_seq ?_
          refine W_region ?_
          refine ops_v (v_move (v := (.bool _)) rfl rfl) ?_
          refine ops_v (v_not rfl rfl _ rfl) ?_
          refine ops_v (v_move (v := (.bool _)) rfl rfl) ?_
          refine ops_v (v_move (v := (.bool _)) rfl rfl) ?_
          refine ops_v (v_not rfl rfl _ rfl) ?_
          refine ops_v (v_pick_f (v := (.bool _)) rfl rfl rfl) ?_
          refine ops_v (v_move (v := (.bool _)) rfl rfl) ?_
          refine ops_v (v_fieldAddr rfl fo42_3 rfl rfl) ?_
          refine ops_load (v := (.int _ _)) 2 H rfl tc3 rfl rfl rfl ?_
          refine ops_v (v_fieldAddr rfl fo42_4 rfl rfl) ?_
          refine ops_load (v := (.int _ _)) 2 H rfl tc3 rfl rfl rfl ?_
          refine ops_v (v_eql false rfl rfl rfl (decide_eq_false (by first | omega | (simp only; omega) | rfl | decide))) ?_
          refine ops_v (v_pick_f (v := (.bool _)) rfl rfl rfl) ?_
          refine ops_v (v_move (v := (.bool _)) rfl rfl) ?_
          refine ops_v (v_fieldAddr rfl fo42_2 rfl rfl) ?_
          refine ops_load (v := (.int _ _)) 2 H rfl tc3 rfl rfl rfl ?_
          refine ops_v (v_lss false rfl rfl rfl (decide_eq_false (by first | omega | (simp only; omega) | rfl | decide))) ?_
          refine ops_v (v_pick_f (v := (.bool _)) rfl rfl rfl) ?_
          refine ops_v (v_move (v := (.bool _)) rfl rfl) ?_
          refine ops_v (v_fieldAddr rfl fo42_2 rfl rfl) ?_
          refine ops_load (v := (.int _ _)) 2 H rfl tc3 rfl rfl rfl ?_
          refine ops_v (v_move (v := (.int _ _)) rfl rfl) ?_
          refine ops_v (v_geq false rfl rfl rfl (decide_eq_false (by first | omega | (simp only; omega) | rfl | decide))) ?_
          refine ops_v (v_pick_f (v := (.bool _)) rfl rfl rfl) ?_
          refine ops_v (v_move (v := (.bool _)) rfl rfl) ?_
          refine ops_v (v_fieldAddr rfl fo42_0 rfl rfl) ?_
          refine ops_load (v := (.bool _)) 1 H rfl tc4 rfl rfl rfl ?_
          refine ops_v (v_not rfl rfl _ rfl) ?_
          refine ops_v (v_move (v := (.bool _)) rfl rfl) ?_
          refine ops_v (v_fieldAddr rfl fo42_2 rfl rfl) ?_
          refine ops_load (v := (.int _ _)) 1 H rfl tc3 rfl rfl rfl ?_
          refine ops_v (v_fieldAddr rfl fo42_2 rfl rfl) ?_
          refine ops_load (v := (.int _ _)) 2 H rfl tc3 rfl rfl rfl ?_
          refine ops_v (v_leq false rfl rfl rfl (decide_eq_false (by first | omega | (simp only; omega) | rfl | decide))) ?_
          refine ops_v (v_pick_t (v := (.bool _)) rfl rfl rfl) ?_
          refine ops_v (v_pick_f (v := (.bool _)) rfl rfl rfl) ?_
          refine ops_v (v_move (v := (.bool _)) rfl rfl) ?_
          refine ops_v (v_fieldAddr rfl fo42_0 rfl rfl) ?_
          refine ops_load (v := (.bool _)) 0 H rfl tc4 rfl rfl rfl ?_
          refine ops_v (v_not rfl rfl _ rfl) ?_
          refine ops_v (v_move (v := (.bool _)) rfl rfl) ?_
          refine ops_v (v_fieldAddr rfl fo42_2 rfl rfl) ?_
          refine ops_load (v := (.int _ _)) 0 H rfl tc3 rfl rfl rfl ?_
          refine ops_v (v_fieldAddr rfl fo42_2 rfl rfl) ?_
          refine ops_load (v := (.int _ _)) 2 H rfl tc3 rfl rfl rfl ?_
          refine ops_v (v_leq false rfl rfl rfl (decide_eq_false (by first | omega | (simp only; omega) | rfl | decide))) ?_
          refine ops_v (v_pick_t (v := (.bool _)) rfl rfl rfl) ?_
          refine ops_v (v_pick_f (v := (.bool _)) rfl rfl rfl) ?_
          refine ops_nil ?_
          refine W_if_f rfl ?_
          refine W_skip ?_
          refine W_region ?_
          refine ops_v (v_move (v := (.int _ _)) rfl rfl) ?_
          refine ops_v (v_add _ rfl rfl rfl (wrap_in (by omega) (by omega))) ?_
          refine ops_v (v_assign (v := (.int _ _)) rfl rfl) ?_
          refine ops_nil ?_
          refine ⟨i + 1, ?_, ⟨rfl, rfl, rfl, rfl, rfl, rfl, rfl, trivial⟩, R', H.tail.tail.tail, ?_⟩
          · show st.nodes.length - (i + 1) < st.nodes.length - i; omega
          · show i + 1 ≤ st.nodes.length; omega
          -- (backstaylaw13.NodeOrdered: loopend; chunks n2,n1,n0,s,S; ptr 14=n0,47=n0,51=n0,16=n1,58=n0,18=n2)
    · refine W_seq ?_
      refine W_seq ?_
      refine W_region ?_
      refine ops_v (v_move (v := (.int _ _)) rfl rfl) ?_
      refine ops_v (v_move (v := (.pointer _)) rfl rfl) ?_
      refine ops_call rfl c30 (FnC.ro 1 rfl H (fun _ => Size_ok)) ?_
      clear H; rintro _ w ⟨rfl, H⟩
      refine ops_v (v_lss true rfl rfl rfl (decide_eq_true (by first | omega | (simp only; omega) | rfl | decide))) ?_
      refine ops_nil ?_
      refine W_if_t rfl ?_
      refine W_skip ?_
      refine W_seq ?_
      refine W_block ?_
      refine W_seq ?_
      refine W_region ?_
      refine ops_v (v_move (v := (.pointer _)) rfl rfl) ?_
      refine ops_v (v_move (v := (.int _ _)) rfl rfl) ?_
      refine ops_call rfl c31 (FnC.ro 1 rfl H (fun _ => Node_ok hg)) ?_
      clear H; rintro _ w ⟨rfl, H⟩
      refine ops_v (v_move (v := (.tuple _)) rfl rfl) ?_
      refine ops_v (v_extract (v := (.agg _)) rfl rfl rfl) ?_
      refine ops_v (v_extract (v := (.bool _)) rfl rfl rfl) ?_
      refine ops_alloc H rfl tz42 ?_
      clear H; intro bn0 w H
      refine ops_store (vs := [_, _, _, _, _]) (v := (.agg _)) (cs' := [_, _, _, _, _]) 0 H rfl ts42 rfl rfl rfl rfl rfl rfl rfl rfl ?_
      clear H; intro w H
      refine ops_v (v_assign (v := (.bool _)) rfl rfl) ?_
      refine ops_nil ?_
      refine W_seq ?_
      refine W_seq ?_
      refine W_region ?_
      refine ops_v (v_move (v := (.bool _)) rfl rfl) ?_
      refine ops_v (v_not rfl rfl _ rfl) ?_
      refine ops_nil ?_
      refine W_if_f rfl ?_
      refine W_skip ?_
      refine W_seq ?_
      refine W_seq ?_
      refine W_region ?_
      refine ops_v (v_fieldAddr rfl fo42_0 rfl rfl) ?_
      refine ops_load (v := (.bool _)) 0 H rfl tc4 rfl rfl rfl ?_
      refine ops_nil ?_
      refine W_if_t rfl ?_
      refine W_exit ?_
      refine W_region ?_
      refine ops_v (v_move (v := (.int _ _)) rfl rfl) ?_
      refine ops_v (v_add _ rfl rfl rfl (wrap_in (by omega) (by omega))) ?_
      refine ops_v (v_assign (v := (.int _ _)) rfl rfl) ?_
      refine ops_nil ?_
      refine ⟨i + 1, ?_, ⟨rfl, rfl, rfl, rfl, rfl, rfl, rfl, trivial⟩, R', H.tail, ?_⟩
      · show st.nodes.length - (i + 1) < st.nodes.length - i; omega
      · show i + 1 ≤ st.nodes.length; omega
      -- (backstaylaw13.NodeOrdered: loopend; chunks n0,s,S; ptr 14=n0,47=n0)
  · rcases Nat.eq_zero_or_pos ids.length with h0 | h0
    · have h0' : (ids.length : Int) = 0 := by omega
      refine W_seq ?_
      refine W_seq ?_
      refine W_region ?_
      refine ops_v (v_move (v := (.int _ _)) rfl rfl) ?_
      refine ops_v (v_move (v := (.pointer _)) rfl rfl) ?_
      refine ops_call rfl c30 (FnC.ro 1 rfl H (fun _ => Size_ok)) ?_
      clear H; rintro _ w ⟨rfl, H⟩
      refine ops_v (v_lss false rfl rfl rfl (decide_eq_false (by first | omega | (simp only; omega) | rfl | decide))) ?_
      refine ops_nil ?_
      refine W_if_f rfl ?_
      refine W_exit ?_
      refine W_seq ?_
      refine W_seq ?_
      refine W_region ?_
      refine ops_v (v_move (v := (.slice _ _ _)) rfl rfl) ?_
      refine ops_v (v_len rfl sl40 rfl) ?_
      refine ops_v (v_eql true rfl rfl rfl (decide_eq_true (by first | omega | (simp only; omega) | rfl | decide))) ?_
      refine ops_nil ?_
      refine W_if_t rfl ?_
      refine W_seq ?_
      refine W_region ?_
      refine ops_v (v_move (v := (.bool _)) rfl rfl) ?_
      refine ops_v (v_assign (v := (.bool _)) rfl rfl) ?_
      refine ops_nil ?_
      refine W_ret ?_
      refine ⟨_, (.tmp (v := (.bool _)) rfl .nil), ?_⟩
      exact ⟨rfl, _, H⟩
      -- (backstaylaw13.NodeOrdered: ret; chunks s,S; ptr )
    · have h0' : (0 : Int) < (ids.length : Int) := by omega
      have h0'' : ¬ ((ids.length : Int) = 0) := by omega
      obtain ⟨g, rfl⟩ := H.slSome 0 rfl h0
      obtain ⟨k, hk⟩ : ∃ k, ids[ids.length - 1]? = some k := ⟨ids[ids.length - 1]'(by omega), by simp⟩
      have hk' : (ints ids)[0 + ((ids.length : Int) - 1).toNat * 1]? = some (.int .i64 k) := by
        have : ((ids.length : Int) - 1).toNat = ids.length - 1 := by omega
        rw [this, Nat.zero_add, Nat.mul_one]; simp [ints, hk]
      have ik := hm.nodes k (List.mem_of_getElem? hk)
      obtain ⟨b, hb⟩ := Option.isSome_iff_exists.1 ik
      obtain ⟨J, hJ⟩ : ∃ J : Nat, M.pick link 16 = J := ⟨(M.pick link 16).toNat, by have := M.pick_lo (c := link) (n := 16) (by decide); omega⟩
      have hJ16 : J < 16 := by have := M.pick_hi (c := link) (n := 16) (by decide); omega
      obtain ⟨F, hF⟩ : ∃ F : Nat, M.pick f 65536 = F := ⟨(M.pick f 65536).toNat, by have := M.pick_lo (c := f) (n := 65536) (by decide); omega⟩
      have hF16 : F < 65536 := by have := M.pick_hi (c := f) (n := 65536) (by decide); omega
      have cp := M.count_pos ik
      have cl := M.count_le st k
      have hJp : (2 : Nat) ^ J < 2 ^ 62 := Nat.pow_lt_pow_right (by decide) (by omega)
      have hxor := xor_nat F (2 ^ J) (by omega) hJp
      have hpow : ((2 ^ J : Nat) : Int) = (2 : Int) ^ J := by push_cast; rfl
      rw [hpow] at hxor
      have hflip := M.flip_same hw hb F J
      generalize hG : ((F ^^^ 2 ^ J : Nat) : Int) = G at hxor hflip
      rcases b with ⟨bb, bv, bl, bs, bf⟩
      simp only at hflip
      cases bb with
      | true =>
        have hfl := hflip (.inl rfl)
        refine W_seq ?_
        refine W_seq ?_
        refine W_region ?_
        refine ops_v (v_move (v := (.int _ _)) rfl rfl) ?_
        refine ops_v (v_move (v := (.pointer _)) rfl rfl) ?_
        refine ops_call rfl c30 (FnC.ro 1 rfl H (fun _ => Size_ok)) ?_
        clear H; rintro _ w ⟨rfl, H⟩
        refine ops_v (v_lss false rfl rfl rfl (decide_eq_false (by first | omega | (simp only; omega) | rfl | decide))) ?_
        refine ops_nil ?_
        refine W_if_f rfl ?_
        refine W_exit ?_
        refine W_seq ?_
        refine W_seq ?_
        refine W_region ?_
        refine ops_v (v_move (v := (.slice _ _ _)) rfl rfl) ?_
        refine ops_v (v_len rfl sl40 rfl) ?_
        refine ops_v (v_eql false rfl rfl rfl (decide_eq_false (by first | omega | (simp only; omega) | rfl | decide))) ?_
        refine ops_nil ?_
        refine W_if_f rfl ?_
        refine W_skip ?_
        refine W_seq ?_
        refine W_region ?_
        refine ops_v (v_move (v := (.slice _ _ _)) rfl rfl) ?_
        refine ops_v (v_move (v := (.slice _ _ _)) rfl rfl) ?_
        refine ops_v (v_len rfl sl40 rfl) ?_
        refine ops_v (v_sub _ rfl rfl rfl (wrap_in (by omega) (by omega))) ?_
        refine ops_v (v_indexAddr_sl rfl se40 rfl rfl (by omega) (by omega)) ?_
        refine ops_loadSl (v := .int .i64 k) 0 H rfl tc3 rfl rfl hk' ?_
        refine ops_v (v_assign (v := (.int _ _)) rfl rfl) ?_
        refine ops_nil ?_
        refine W_seq ?_
        refine W_region ?_
        refine ops_v (v_move (v := (.pointer _)) rfl rfl) ?_
        refine ops_v (v_move (v := (.int _ _)) rfl rfl) ?_
        refine ops_call rfl c31 (FnC.ro 1 rfl H (fun _ => Node_ok hb)) ?_
        clear H; rintro _ w ⟨rfl, H⟩
        refine ops_v (v_move (v := (.tuple _)) rfl rfl) ?_
        refine ops_v (v_extract (v := (.agg _)) rfl rfl rfl) ?_
        refine ops_v (v_extract (v := (.bool _)) rfl rfl rfl) ?_
        refine ops_alloc H rfl tz42 ?_
        clear H; intro bn0 w H
        refine ops_store (vs := [_, _, _, _, _]) (v := (.agg _)) (cs' := [_, _, _, _, _]) 0 H rfl ts42 rfl rfl rfl rfl rfl rfl rfl rfl ?_
        clear H; intro w H
        refine ops_v (v_assign (v := (.bool _)) rfl rfl) ?_
        refine ops_nil ?_
        refine W_seq ?_
        refine W_region ?_
        refine ops_v (v_move (v := (.int _ _)) rfl rfl) ?_
        refine ops_call rfl c25 (pick13_ok H link 16 i3 (by decide)) ?_
        clear H; rintro _ w ⟨rfl, H⟩
        rw [hJ]
        refine ops_v (v_assign (v := (.int _ _)) rfl rfl) ?_
        refine ops_nil ?_
        refine W_seq ?_
        refine W_seq ?_
        refine W_region ?_
        refine ops_v (v_fieldAddr rfl fo42_0 rfl rfl) ?_
        refine ops_load (v := (.bool _)) 0 H rfl tc4 rfl rfl rfl ?_
        refine ops_v (v_not rfl rfl _ rfl) ?_
        refine ops_v (v_move (v := (.bool _)) rfl rfl) ?_
        refine ops_skip rfl rfl ?_
        refine ops_skip rfl rfl ?_
        refine ops_skip rfl rfl ?_
        refine ops_skip rfl rfl ?_
        refine ops_v (v_pick_f (v := (.bool _)) rfl rfl rfl) ?_
        refine ops_v (v_move (v := (.bool _)) rfl rfl) ?_
        refine ops_skip rfl rfl ?_
        refine ops_skip rfl rfl ?_
        refine ops_skip rfl rfl ?_
        refine ops_v (v_pick_f (v := (.bool _)) rfl rfl rfl) ?_
        refine ops_nil ?_
        refine W_if_f rfl ?_
        refine W_skip ?_
        refine W_seq ?_
        refine W_draw (is := []) mixed H ?_
        clear H; intro w H
        refine any_take 0 rfl (by kernel_rfl) (by kernel_rfl) (by kernel_rfl) (v_move (v := (.bool _)) rfl rfl) ?_
        refine any_take 1 rfl (by kernel_rfl) (by kernel_rfl) (by kernel_rfl) (v_move (v := (.bool _)) rfl rfl) ?_
        refine any_take 2 rfl (by kernel_rfl) (by kernel_rfl) (by kernel_rfl) (v_move (v := (.pointer _)) rfl rfl) ?_
        refine any_take 3 rfl (by kernel_rfl) (by kernel_rfl) (by kernel_rfl) (v_move (v := (.int _ _)) rfl rfl) ?_
        refine any_take 4 rfl (by kernel_rfl) (by kernel_rfl) (by kernel_rfl) (v_move (v := (.int _ _)) rfl rfl) ?_
        refine any_take 7 rfl (by kernel_rfl) (by kernel_rfl) (by kernel_rfl) (v_move (v := (.pointer _)) rfl rfl) ?_
        refine any_take 8 rfl (by kernel_rfl) (by kernel_rfl) (by kernel_rfl) (v_move (v := (.int _ _)) rfl rfl) ?_
        refine any_take 9 rfl (by kernel_rfl) (by kernel_rfl) (by kernel_rfl) (v_move (v := (.int _ _)) rfl rfl) ?_
        refine any_take 11 rfl (by kernel_rfl) (by kernel_rfl) (by kernel_rfl) (v_move (v := (.int _ _)) rfl rfl) ?_
        refine any_take 12 rfl (by kernel_rfl) (by kernel_rfl) (by kernel_rfl) (v_shl ((2 : Int) ^ J) rfl rfl rfl (Int.natCast_nonneg J) (shl1 _ (by omega))) ?_
        refine any_one 5 rfl (by kernel_rfl) ?_
        refine ops_call rfl c25 (pick13_ok H f 65536 i2 (by decide)) ?_
        clear H; rintro _ w ⟨rfl, H⟩
        rw [hF]
        refine ops_nil ⟨trivial, ?_⟩
        refine any_one 6 rfl (by kernel_rfl) ?_
        refine ops_call rfl c33 (FnC.ro 2 rfl H (fun _ => Eval_ok hw k F)) ?_
        clear H; rintro _ w ⟨rfl, H⟩
        refine ops_nil ⟨trivial, ?_⟩
        refine any_one 10 rfl (by kernel_rfl) ?_
        refine ops_call rfl c25 (pick13_ok H f 65536 i2 (by decide)) ?_
        clear H; rintro _ w ⟨rfl, H⟩
        rw [hF]
        refine ops_nil ⟨trivial, ?_⟩
        refine any_take 13 rfl (by kernel_rfl) (by kernel_rfl) (by kernel_rfl) (v_xor G rfl rfl rfl hxor) ?_
        refine any_one 14 rfl (by kernel_rfl) ?_
        refine ops_call rfl c33 (FnC.ro 2 rfl H (fun _ => Eval_ok hw k G)) ?_
        clear H; rintro _ w ⟨rfl, H⟩
        refine ops_nil ⟨trivial, ?_⟩
        refine any_take 15 rfl (by kernel_rfl) (by kernel_rfl) (by kernel_rfl) (v_eql true rfl rfl rfl (decide_eq_true (by first | omega | (simp only; omega) | rfl | decide))) ?_
        refine any_take 16 rfl (by kernel_rfl) (by kernel_rfl) (by kernel_rfl) (v_pick_t (v := (.bool _)) rfl rfl rfl) ?_
        refine any_take 17 rfl (by kernel_rfl) (by kernel_rfl) (by kernel_rfl) (v_move (v := (.bool _)) rfl rfl) ?_
        refine any_take 18 rfl (by kernel_rfl) (by kernel_rfl) (by kernel_rfl) (v_move (v := (.pointer _)) rfl rfl) ?_
        refine any_take 19 rfl (by kernel_rfl) (by kernel_rfl) (by kernel_rfl) (v_move (v := (.int _ _)) rfl rfl) ?_
        refine any_one 20 rfl (by kernel_rfl) ?_
        refine ops_call rfl c35 (FnC.ro 2 rfl H (fun _ => Count_ok hw k)) ?_
        clear H; rintro _ w ⟨rfl, H⟩
        refine ops_nil ⟨trivial, ?_⟩
        refine any_take 21 rfl (by kernel_rfl) (by kernel_rfl) (by kernel_rfl) (v_geq true rfl rfl rfl (decide_eq_true (by first | omega | (simp only; omega) | rfl | decide))) ?_
        refine any_take 22 rfl (by kernel_rfl) (by kernel_rfl) (by kernel_rfl) (v_pick_t (v := (.bool _)) rfl rfl rfl) ?_
        refine any_take 23 rfl (by kernel_rfl) (by kernel_rfl) (by kernel_rfl) (v_move (v := (.bool _)) rfl rfl) ?_
        refine any_take 24 rfl (by kernel_rfl) (by kernel_rfl) (by kernel_rfl) (v_move (v := (.pointer _)) rfl rfl) ?_
        refine any_take 25 rfl (by kernel_rfl) (by kernel_rfl) (by kernel_rfl) (v_move (v := (.int _ _)) rfl rfl) ?_
        refine any_take 27 rfl (by kernel_rfl) (by kernel_rfl) (by kernel_rfl) (v_move (v := (.pointer _)) rfl rfl) ?_
        refine any_one 26 rfl (by kernel_rfl) ?_
        refine ops_call rfl c35 (FnC.ro 2 rfl H (fun _ => Count_ok hw k)) ?_
        clear H; rintro _ w ⟨rfl, H⟩
        refine ops_nil ⟨trivial, ?_⟩
        refine any_one 28 rfl (by kernel_rfl) ?_
        refine ops_call rfl c30 (FnC.ro 2 rfl H (fun _ => Size_ok)) ?_
        clear H; rintro _ w ⟨rfl, H⟩
        refine ops_nil ⟨trivial, ?_⟩
        refine any_take 29 rfl (by kernel_rfl) (by kernel_rfl) (by kernel_rfl) (v_leq true rfl rfl rfl (decide_eq_true (by first | omega | (simp only; omega) | rfl | decide))) ?_
        refine any_take 30 rfl (by kernel_rfl) (by kernel_rfl) (by kernel_rfl) (v_pick_t (v := (.bool _)) rfl rfl rfl) ?_
        refine any_take 31 rfl (by kernel_rfl) (by kernel_rfl) (by kernel_rfl) (v_assign (v := (.bool _)) rfl rfl) ?_
        refine any_done (by kernel_rfl) ?_
        refine W_ret ?_
        refine ⟨_, (.tmp (v := (.bool _)) rfl .nil), ?_⟩
        exact ⟨rfl, _, H⟩
        -- (backstaylaw13.NodeOrdered: ret; chunks n0,s,S; ptr 21=n0)
      | false =>
        by_cases hjl : (J : Int) < bl
        · have hfl := hflip (.inr (.inl hjl))
          have hjl' : ¬ (bl ≤ (J : Int)) := by omega
          refine W_seq ?_
          refine W_seq ?_
          refine W_region ?_
          refine ops_v (v_move (v := (.int _ _)) rfl rfl) ?_
          refine ops_v (v_move (v := (.pointer _)) rfl rfl) ?_
          refine ops_call rfl c30 (FnC.ro 1 rfl H (fun _ => Size_ok)) ?_
          clear H; rintro _ w ⟨rfl, H⟩
          refine ops_v (v_lss false rfl rfl rfl (decide_eq_false (by first | omega | (simp only; omega) | rfl | decide))) ?_
          refine ops_nil ?_
          refine W_if_f rfl ?_
          refine W_exit ?_
          refine W_seq ?_
          refine W_seq ?_
          refine W_region ?_
          refine ops_v (v_move (v := (.slice _ _ _)) rfl rfl) ?_
          refine ops_v (v_len rfl sl40 rfl) ?_
          refine ops_v (v_eql false rfl rfl rfl (decide_eq_false (by first | omega | (simp only; omega) | rfl | decide))) ?_
          refine ops_nil ?_
          refine W_if_f rfl ?_
          refine W_skip ?_
          refine W_seq ?_
          refine W_region ?_
          refine ops_v (v_move (v := (.slice _ _ _)) rfl rfl) ?_
          refine ops_v (v_move (v := (.slice _ _ _)) rfl rfl) ?_
          refine ops_v (v_len rfl sl40 rfl) ?_
          refine ops_v (v_sub _ rfl rfl rfl (wrap_in (by omega) (by omega))) ?_
          refine ops_v (v_indexAddr_sl rfl se40 rfl rfl (by omega) (by omega)) ?_
          refine ops_loadSl (v := .int .i64 k) 0 H rfl tc3 rfl rfl hk' ?_
          refine ops_v (v_assign (v := (.int _ _)) rfl rfl) ?_
          refine ops_nil ?_
          refine W_seq ?_
          refine W_region ?_
          refine ops_v (v_move (v := (.pointer _)) rfl rfl) ?_
          refine ops_v (v_move (v := (.int _ _)) rfl rfl) ?_
          refine ops_call rfl c31 (FnC.ro 1 rfl H (fun _ => Node_ok hb)) ?_
          clear H; rintro _ w ⟨rfl, H⟩
          refine ops_v (v_move (v := (.tuple _)) rfl rfl) ?_
          refine ops_v (v_extract (v := (.agg _)) rfl rfl rfl) ?_
          refine ops_v (v_extract (v := (.bool _)) rfl rfl rfl) ?_
          refine ops_alloc H rfl tz42 ?_
          clear H; intro bn0 w H
          refine ops_store (vs := [_, _, _, _, _]) (v := (.agg _)) (cs' := [_, _, _, _, _]) 0 H rfl ts42 rfl rfl rfl rfl rfl rfl rfl rfl ?_
          clear H; intro w H
          refine ops_v (v_assign (v := (.bool _)) rfl rfl) ?_
          refine ops_nil ?_
          refine W_seq ?_
          refine W_region ?_
          refine ops_v (v_move (v := (.int _ _)) rfl rfl) ?_
          refine ops_call rfl c25 (pick13_ok H link 16 i3 (by decide)) ?_
          clear H; rintro _ w ⟨rfl, H⟩
          rw [hJ]
          refine ops_v (v_assign (v := (.int _ _)) rfl rfl) ?_
          refine ops_nil ?_
          refine W_seq ?_
          refine W_seq ?_
          refine W_region ?_
          refine ops_v (v_fieldAddr rfl fo42_0 rfl rfl) ?_
          refine ops_load (v := (.bool _)) 0 H rfl tc4 rfl rfl rfl ?_
          refine ops_v (v_not rfl rfl _ rfl) ?_
          refine ops_v (v_move (v := (.bool _)) rfl rfl) ?_
          refine ops_v (v_move (v := (.int _ _)) rfl rfl) ?_
          refine ops_v (v_fieldAddr rfl fo42_2 rfl rfl) ?_
          refine ops_load (v := (.int _ _)) 0 H rfl tc3 rfl rfl rfl ?_
          refine ops_v (v_geq false rfl rfl rfl (decide_eq_false (by first | omega | (simp only; omega) | rfl | decide))) ?_
          refine ops_v (v_pick_t (v := (.bool _)) rfl rfl rfl) ?_
          refine ops_v (v_move (v := (.bool _)) rfl rfl) ?_
          refine ops_skip rfl rfl ?_
          refine ops_skip rfl rfl ?_
          refine ops_skip rfl rfl ?_
          refine ops_v (v_pick_f (v := (.bool _)) rfl rfl rfl) ?_
          refine ops_nil ?_
          refine W_if_f rfl ?_
          refine W_skip ?_
          refine W_seq ?_
          refine W_draw (is := []) mixed H ?_
          clear H; intro w H
          refine any_take 0 rfl (by kernel_rfl) (by kernel_rfl) (by kernel_rfl) (v_move (v := (.bool _)) rfl rfl) ?_
          refine any_take 1 rfl (by kernel_rfl) (by kernel_rfl) (by kernel_rfl) (v_move (v := (.bool _)) rfl rfl) ?_
          refine any_take 2 rfl (by kernel_rfl) (by kernel_rfl) (by kernel_rfl) (v_move (v := (.pointer _)) rfl rfl) ?_
          refine any_take 3 rfl (by kernel_rfl) (by kernel_rfl) (by kernel_rfl) (v_move (v := (.int _ _)) rfl rfl) ?_
          refine any_take 4 rfl (by kernel_rfl) (by kernel_rfl) (by kernel_rfl) (v_move (v := (.int _ _)) rfl rfl) ?_
          refine any_take 7 rfl (by kernel_rfl) (by kernel_rfl) (by kernel_rfl) (v_move (v := (.pointer _)) rfl rfl) ?_
          refine any_take 8 rfl (by kernel_rfl) (by kernel_rfl) (by kernel_rfl) (v_move (v := (.int _ _)) rfl rfl) ?_
          refine any_take 9 rfl (by kernel_rfl) (by kernel_rfl) (by kernel_rfl) (v_move (v := (.int _ _)) rfl rfl) ?_
          refine any_take 11 rfl (by kernel_rfl) (by kernel_rfl) (by kernel_rfl) (v_move (v := (.int _ _)) rfl rfl) ?_
          refine any_take 12 rfl (by kernel_rfl) (by kernel_rfl) (by kernel_rfl) (v_shl ((2 : Int) ^ J) rfl rfl rfl (Int.natCast_nonneg J) (shl1 _ (by omega))) ?_
          refine any_one 5 rfl (by kernel_rfl) ?_
          refine ops_call rfl c25 (pick13_ok H f 65536 i2 (by decide)) ?_
          clear H; rintro _ w ⟨rfl, H⟩
          rw [hF]
          refine ops_nil ⟨trivial, ?_⟩
          refine any_one 6 rfl (by kernel_rfl) ?_
          refine ops_call rfl c33 (FnC.ro 2 rfl H (fun _ => Eval_ok hw k F)) ?_
          clear H; rintro _ w ⟨rfl, H⟩
          refine ops_nil ⟨trivial, ?_⟩
          refine any_one 10 rfl (by kernel_rfl) ?_
          refine ops_call rfl c25 (pick13_ok H f 65536 i2 (by decide)) ?_
          clear H; rintro _ w ⟨rfl, H⟩
          rw [hF]
          refine ops_nil ⟨trivial, ?_⟩
          refine any_take 13 rfl (by kernel_rfl) (by kernel_rfl) (by kernel_rfl) (v_xor G rfl rfl rfl hxor) ?_
          refine any_one 14 rfl (by kernel_rfl) ?_
          refine ops_call rfl c33 (FnC.ro 2 rfl H (fun _ => Eval_ok hw k G)) ?_
          clear H; rintro _ w ⟨rfl, H⟩
          refine ops_nil ⟨trivial, ?_⟩
          refine any_take 15 rfl (by kernel_rfl) (by kernel_rfl) (by kernel_rfl) (v_eql true rfl rfl rfl (decide_eq_true (by first | omega | (simp only; omega) | rfl | decide))) ?_
          refine any_take 16 rfl (by kernel_rfl) (by kernel_rfl) (by kernel_rfl) (v_pick_t (v := (.bool _)) rfl rfl rfl) ?_
          refine any_take 17 rfl (by kernel_rfl) (by kernel_rfl) (by kernel_rfl) (v_move (v := (.bool _)) rfl rfl) ?_
          refine any_take 18 rfl (by kernel_rfl) (by kernel_rfl) (by kernel_rfl) (v_move (v := (.pointer _)) rfl rfl) ?_
          refine any_take 19 rfl (by kernel_rfl) (by kernel_rfl) (by kernel_rfl) (v_move (v := (.int _ _)) rfl rfl) ?_
          refine any_one 20 rfl (by kernel_rfl) ?_
          refine ops_call rfl c35 (FnC.ro 2 rfl H (fun _ => Count_ok hw k)) ?_
          clear H; rintro _ w ⟨rfl, H⟩
          refine ops_nil ⟨trivial, ?_⟩
          refine any_take 21 rfl (by kernel_rfl) (by kernel_rfl) (by kernel_rfl) (v_geq true rfl rfl rfl (decide_eq_true (by first | omega | (simp only; omega) | rfl | decide))) ?_
          refine any_take 22 rfl (by kernel_rfl) (by kernel_rfl) (by kernel_rfl) (v_pick_t (v := (.bool _)) rfl rfl rfl) ?_
          refine any_take 23 rfl (by kernel_rfl) (by kernel_rfl) (by kernel_rfl) (v_move (v := (.bool _)) rfl rfl) ?_
          refine any_take 24 rfl (by kernel_rfl) (by kernel_rfl) (by kernel_rfl) (v_move (v := (.pointer _)) rfl rfl) ?_
          refine any_take 25 rfl (by kernel_rfl) (by kernel_rfl) (by kernel_rfl) (v_move (v := (.int _ _)) rfl rfl) ?_
          refine any_take 27 rfl (by kernel_rfl) (by kernel_rfl) (by kernel_rfl) (v_move (v := (.pointer _)) rfl rfl) ?_
          refine any_one 26 rfl (by kernel_rfl) ?_
          refine ops_call rfl c35 (FnC.ro 2 rfl H (fun _ => Count_ok hw k)) ?_
          clear H; rintro _ w ⟨rfl, H⟩
          refine ops_nil ⟨trivial, ?_⟩
          refine any_one 28 rfl (by kernel_rfl) ?_
          refine ops_call rfl c30 (FnC.ro 2 rfl H (fun _ => Size_ok)) ?_
          clear H; rintro _ w ⟨rfl, H⟩
          refine ops_nil ⟨trivial, ?_⟩
          refine any_take 29 rfl (by kernel_rfl) (by kernel_rfl) (by kernel_rfl) (v_leq true rfl rfl rfl (decide_eq_true (by first | omega | (simp only; omega) | rfl | decide))) ?_
          refine any_take 30 rfl (by kernel_rfl) (by kernel_rfl) (by kernel_rfl) (v_pick_t (v := (.bool _)) rfl rfl rfl) ?_
          refine any_take 31 rfl (by kernel_rfl) (by kernel_rfl) (by kernel_rfl) (v_assign (v := (.bool _)) rfl rfl) ?_
          refine any_done (by kernel_rfl) ?_
          refine W_ret ?_
          refine ⟨_, (.tmp (v := (.bool _)) rfl .nil), ?_⟩
          exact ⟨rfl, _, H⟩
          -- (backstaylaw13.NodeOrdered: ret; chunks n0,s,S; ptr 21=n0)
        · by_cases hjn : (J : Int) < n
          · refine W_seq ?_
            refine W_seq ?_
            refine W_region ?_
            refine ops_v (v_move (v := (.int _ _)) rfl rfl) ?_
            refine ops_v (v_move (v := (.pointer _)) rfl rfl) ?_
            refine ops_call rfl c30 (FnC.ro 1 rfl H (fun _ => Size_ok)) ?_
            clear H; rintro _ w ⟨rfl, H⟩
            refine ops_v (v_lss false rfl rfl rfl (decide_eq_false (by first | omega | (simp only; omega) | rfl | decide))) ?_
            refine ops_nil ?_
            refine W_if_f rfl ?_
            refine W_exit ?_
            refine W_seq ?_
            refine W_seq ?_
            refine W_region ?_
            refine ops_v (v_move (v := (.slice _ _ _)) rfl rfl) ?_
            refine ops_v (v_len rfl sl40 rfl) ?_
            refine ops_v (v_eql false rfl rfl rfl (decide_eq_false (by first | omega | (simp only; omega) | rfl | decide))) ?_
            refine ops_nil ?_
            refine W_if_f rfl ?_
            refine W_skip ?_
            refine W_seq ?_
            refine W_region ?_
            refine ops_v (v_move (v := (.slice _ _ _)) rfl rfl) ?_
            refine ops_v (v_move (v := (.slice _ _ _)) rfl rfl) ?_
            refine ops_v (v_len rfl sl40 rfl) ?_
            refine ops_v (v_sub _ rfl rfl rfl (wrap_in (by omega) (by omega))) ?_
            refine ops_v (v_indexAddr_sl rfl se40 rfl rfl (by omega) (by omega)) ?_
            refine ops_loadSl (v := .int .i64 k) 0 H rfl tc3 rfl rfl hk' ?_
            refine ops_v (v_assign (v := (.int _ _)) rfl rfl) ?_
            refine ops_nil ?_
            refine W_seq ?_
            refine W_region ?_
            refine ops_v (v_move (v := (.pointer _)) rfl rfl) ?_
            refine ops_v (v_move (v := (.int _ _)) rfl rfl) ?_
            refine ops_call rfl c31 (FnC.ro 1 rfl H (fun _ => Node_ok hb)) ?_
            clear H; rintro _ w ⟨rfl, H⟩
            refine ops_v (v_move (v := (.tuple _)) rfl rfl) ?_
            refine ops_v (v_extract (v := (.agg _)) rfl rfl rfl) ?_
            refine ops_v (v_extract (v := (.bool _)) rfl rfl rfl) ?_
            refine ops_alloc H rfl tz42 ?_
            clear H; intro bn0 w H
            refine ops_store (vs := [_, _, _, _, _]) (v := (.agg _)) (cs' := [_, _, _, _, _]) 0 H rfl ts42 rfl rfl rfl rfl rfl rfl rfl rfl ?_
            clear H; intro w H
            refine ops_v (v_assign (v := (.bool _)) rfl rfl) ?_
            refine ops_nil ?_
            refine W_seq ?_
            refine W_region ?_
            refine ops_v (v_move (v := (.int _ _)) rfl rfl) ?_
            refine ops_call rfl c25 (pick13_ok H link 16 i3 (by decide)) ?_
            clear H; rintro _ w ⟨rfl, H⟩
            rw [hJ]
            refine ops_v (v_assign (v := (.int _ _)) rfl rfl) ?_
            refine ops_nil ?_
            refine W_seq ?_
            refine W_seq ?_
            refine W_region ?_
            refine ops_v (v_fieldAddr rfl fo42_0 rfl rfl) ?_
            refine ops_load (v := (.bool _)) 0 H rfl tc4 rfl rfl rfl ?_
            refine ops_v (v_not rfl rfl _ rfl) ?_
            refine ops_v (v_move (v := (.bool _)) rfl rfl) ?_
            refine ops_v (v_move (v := (.int _ _)) rfl rfl) ?_
            refine ops_v (v_fieldAddr rfl fo42_2 rfl rfl) ?_
            refine ops_load (v := (.int _ _)) 0 H rfl tc3 rfl rfl rfl ?_
            refine ops_v (v_geq true rfl rfl rfl (decide_eq_true (by first | omega | (simp only; omega) | rfl | decide))) ?_
            refine ops_v (v_pick_t (v := (.bool _)) rfl rfl rfl) ?_
            refine ops_v (v_move (v := (.bool _)) rfl rfl) ?_
            refine ops_v (v_move (v := (.int _ _)) rfl rfl) ?_
            refine ops_v (v_move (v := (.int _ _)) rfl rfl) ?_
            refine ops_v (v_lss true rfl rfl rfl (decide_eq_true (by first | omega | (simp only; omega) | rfl | decide))) ?_
            refine ops_v (v_pick_t (v := (.bool _)) rfl rfl rfl) ?_
            refine ops_nil ?_
            refine W_if_t rfl ?_
            refine W_seq ?_
            refine W_region ?_
            refine ops_v (v_move (v := (.bool _)) rfl rfl) ?_
            refine ops_v (v_assign (v := (.bool _)) rfl rfl) ?_
            refine ops_nil ?_
            refine W_ret ?_
            refine ⟨_, (.tmp (v := (.bool _)) rfl .nil), ?_⟩
            exact ⟨rfl, _, H⟩
            -- (backstaylaw13.NodeOrdered: ret; chunks n0,s,S; ptr 21=n0)
          · have hfl := hflip (.inr (.inr (by omega)))
            refine W_seq ?_
            refine W_seq ?_
            refine W_region ?_
            refine ops_v (v_move (v := (.int _ _)) rfl rfl) ?_
            refine ops_v (v_move (v := (.pointer _)) rfl rfl) ?_
            refine ops_call rfl c30 (FnC.ro 1 rfl H (fun _ => Size_ok)) ?_
            clear H; rintro _ w ⟨rfl, H⟩
            refine ops_v (v_lss false rfl rfl rfl (decide_eq_false (by first | omega | (simp only; omega) | rfl | decide))) ?_
            refine ops_nil ?_
            refine W_if_f rfl ?_
            refine W_exit ?_
            refine W_seq ?_
            refine W_seq ?_
            refine W_region ?_
            refine ops_v (v_move (v := (.slice _ _ _)) rfl rfl) ?_
            refine ops_v (v_len rfl sl40 rfl) ?_
            refine ops_v (v_eql false rfl rfl rfl (decide_eq_false (by first | omega | (simp only; omega) | rfl | decide))) ?_
            refine ops_nil ?_
            refine W_if_f rfl ?_
            refine W_skip ?_
            refine W_seq ?_
            refine W_region ?_
            refine ops_v (v_move (v := (.slice _ _ _)) rfl rfl) ?_
            refine ops_v (v_move (v := (.slice _ _ _)) rfl rfl) ?_
            refine ops_v (v_len rfl sl40 rfl) ?_
            refine ops_v (v_sub _ rfl rfl rfl (wrap_in (by omega) (by omega))) ?_
            refine ops_v (v_indexAddr_sl rfl se40 rfl rfl (by omega) (by omega)) ?_
            refine ops_loadSl (v := .int .i64 k) 0 H rfl tc3 rfl rfl hk' ?_
            refine ops_v (v_assign (v := (.int _ _)) rfl rfl) ?_
            refine ops_nil ?_
            refine W_seq ?_
            refine W_region ?_
            refine ops_v (v_move (v := (.pointer _)) rfl rfl) ?_
            refine ops_v (v_move (v := (.int _ _)) rfl rfl) ?_
            refine ops_call rfl c31 (FnC.ro 1 rfl H (fun _ => Node_ok hb)) ?_
            clear H; rintro _ w ⟨rfl, H⟩
            refine ops_v (v_move (v := (.tuple _)) rfl rfl) ?_
            refine ops_v (v_extract (v := (.agg _)) rfl rfl rfl) ?_
            refine ops_v (v_extract (v := (.bool _)) rfl rfl rfl) ?_
            refine ops_alloc H rfl tz42 ?_
            clear H; intro bn0 w H
            refine ops_store (vs := [_, _, _, _, _]) (v := (.agg _)) (cs' := [_, _, _, _, _]) 0 H rfl ts42 rfl rfl rfl rfl rfl rfl rfl rfl ?_
            clear H; intro w H
            refine ops_v (v_assign (v := (.bool _)) rfl rfl) ?_
            refine ops_nil ?_
            refine W_seq ?_
            refine W_region ?_
            refine ops_v (v_move (v := (.int _ _)) rfl rfl) ?_
            refine ops_call rfl c25 (pick13_ok H link 16 i3 (by decide)) ?_
            clear H; rintro _ w ⟨rfl, H⟩
            rw [hJ]
            refine ops_v (v_assign (v := (.int _ _)) rfl rfl) ?_
            refine ops_nil ?_
            refine W_seq ?_
            refine W_seq ?_
            refine W_region ?_
            refine ops_v (v_fieldAddr rfl fo42_0 rfl rfl) ?_
            refine ops_load (v := (.bool _)) 0 H rfl tc4 rfl rfl rfl ?_
            refine ops_v (v_not rfl rfl _ rfl) ?_
            refine ops_v (v_move (v := (.bool _)) rfl rfl) ?_
            refine ops_v (v_move (v := (.int _ _)) rfl rfl) ?_
            refine ops_v (v_fieldAddr rfl fo42_2 rfl rfl) ?_
            refine ops_load (v := (.int _ _)) 0 H rfl tc3 rfl rfl rfl ?_
            refine ops_v (v_geq true rfl rfl rfl (decide_eq_true (by first | omega | (simp only; omega) | rfl | decide))) ?_
            refine ops_v (v_pick_t (v := (.bool _)) rfl rfl rfl) ?_
            refine ops_v (v_move (v := (.bool _)) rfl rfl) ?_
            refine ops_v (v_move (v := (.int _ _)) rfl rfl) ?_
            refine ops_v (v_move (v := (.int _ _)) rfl rfl) ?_
            refine ops_v (v_lss false rfl rfl rfl (decide_eq_false (by first | omega | (simp only; omega) | rfl | decide))) ?_
            refine ops_v (v_pick_t (v := (.bool _)) rfl rfl rfl) ?_
            refine ops_nil ?_
            refine W_if_f rfl ?_
            refine W_skip ?_
            refine W_seq ?_
            refine W_draw (is := []) mixed H ?_
            clear H; intro w H
            refine any_take 0 rfl (by kernel_rfl) (by kernel_rfl) (by kernel_rfl) (v_move (v := (.bool _)) rfl rfl) ?_
            refine any_take 1 rfl (by kernel_rfl) (by kernel_rfl) (by kernel_rfl) (v_move (v := (.bool _)) rfl rfl) ?_
            refine any_take 2 rfl (by kernel_rfl) (by kernel_rfl) (by kernel_rfl) (v_move (v := (.pointer _)) rfl rfl) ?_
            refine any_take 3 rfl (by kernel_rfl) (by kernel_rfl) (by kernel_rfl) (v_move (v := (.int _ _)) rfl rfl) ?_
            refine any_take 4 rfl (by kernel_rfl) (by kernel_rfl) (by kernel_rfl) (v_move (v := (.int _ _)) rfl rfl) ?_
            refine any_take 7 rfl (by kernel_rfl) (by kernel_rfl) (by kernel_rfl) (v_move (v := (.pointer _)) rfl rfl) ?_
            refine any_take 8 rfl (by kernel_rfl) (by kernel_rfl) (by kernel_rfl) (v_move (v := (.int _ _)) rfl rfl) ?_
            refine any_take 9 rfl (by kernel_rfl) (by kernel_rfl) (by kernel_rfl) (v_move (v := (.int _ _)) rfl rfl) ?_
            refine any_take 11 rfl (by kernel_rfl) (by kernel_rfl) (by kernel_rfl) (v_move (v := (.int _ _)) rfl rfl) ?_
            refine any_take 12 rfl (by kernel_rfl) (by kernel_rfl) (by kernel_rfl) (v_shl ((2 : Int) ^ J) rfl rfl rfl (Int.natCast_nonneg J) (shl1 _ (by omega))) ?_
            refine any_one 5 rfl (by kernel_rfl) ?_
            refine ops_call rfl c25 (pick13_ok H f 65536 i2 (by decide)) ?_
            clear H; rintro _ w ⟨rfl, H⟩
            rw [hF]
            refine ops_nil ⟨trivial, ?_⟩
            refine any_one 6 rfl (by kernel_rfl) ?_
            refine ops_call rfl c33 (FnC.ro 2 rfl H (fun _ => Eval_ok hw k F)) ?_
            clear H; rintro _ w ⟨rfl, H⟩
            refine ops_nil ⟨trivial, ?_⟩
            refine any_one 10 rfl (by kernel_rfl) ?_
            refine ops_call rfl c25 (pick13_ok H f 65536 i2 (by decide)) ?_
            clear H; rintro _ w ⟨rfl, H⟩
            rw [hF]
            refine ops_nil ⟨trivial, ?_⟩
            refine any_take 13 rfl (by kernel_rfl) (by kernel_rfl) (by kernel_rfl) (v_xor G rfl rfl rfl hxor) ?_
            refine any_one 14 rfl (by kernel_rfl) ?_
            refine ops_call rfl c33 (FnC.ro 2 rfl H (fun _ => Eval_ok hw k G)) ?_
            clear H; rintro _ w ⟨rfl, H⟩
            refine ops_nil ⟨trivial, ?_⟩
            refine any_take 15 rfl (by kernel_rfl) (by kernel_rfl) (by kernel_rfl) (v_eql true rfl rfl rfl (decide_eq_true (by first | omega | (simp only; omega) | rfl | decide))) ?_
            refine any_take 16 rfl (by kernel_rfl) (by kernel_rfl) (by kernel_rfl) (v_pick_t (v := (.bool _)) rfl rfl rfl) ?_
            refine any_take 17 rfl (by kernel_rfl) (by kernel_rfl) (by kernel_rfl) (v_move (v := (.bool _)) rfl rfl) ?_
            refine any_take 18 rfl (by kernel_rfl) (by kernel_rfl) (by kernel_rfl) (v_move (v := (.pointer _)) rfl rfl) ?_
            refine any_take 19 rfl (by kernel_rfl) (by kernel_rfl) (by kernel_rfl) (v_move (v := (.int _ _)) rfl rfl) ?_
            refine any_one 20 rfl (by kernel_rfl) ?_
            refine ops_call rfl c35 (FnC.ro 2 rfl H (fun _ => Count_ok hw k)) ?_
            clear H; rintro _ w ⟨rfl, H⟩
            refine ops_nil ⟨trivial, ?_⟩
            refine any_take 21 rfl (by kernel_rfl) (by kernel_rfl) (by kernel_rfl) (v_geq true rfl rfl rfl (decide_eq_true (by first | omega | (simp only; omega) | rfl | decide))) ?_
            refine any_take 22 rfl (by kernel_rfl) (by kernel_rfl) (by kernel_rfl) (v_pick_t (v := (.bool _)) rfl rfl rfl) ?_
            refine any_take 23 rfl (by kernel_rfl) (by kernel_rfl) (by kernel_rfl) (v_move (v := (.bool _)) rfl rfl) ?_
            refine any_take 24 rfl (by kernel_rfl) (by kernel_rfl) (by kernel_rfl) (v_move (v := (.pointer _)) rfl rfl) ?_
            refine any_take 25 rfl (by kernel_rfl) (by kernel_rfl) (by kernel_rfl) (v_move (v := (.int _ _)) rfl rfl) ?_
            refine any_take 27 rfl (by kernel_rfl) (by kernel_rfl) (by kernel_rfl) (v_move (v := (.pointer _)) rfl rfl) ?_
            refine any_one 26 rfl (by kernel_rfl) ?_
            refine ops_call rfl c35 (FnC.ro 2 rfl H (fun _ => Count_ok hw k)) ?_
            clear H; rintro _ w ⟨rfl, H⟩
            refine ops_nil ⟨trivial, ?_⟩
            refine any_one 28 rfl (by kernel_rfl) ?_
            refine ops_call rfl c30 (FnC.ro 2 rfl H (fun _ => Size_ok)) ?_
            clear H; rintro _ w ⟨rfl, H⟩
            refine ops_nil ⟨trivial, ?_⟩
            refine any_take 29 rfl (by kernel_rfl) (by kernel_rfl) (by kernel_rfl) (v_leq true rfl rfl rfl (decide_eq_true (by first | omega | (simp only; omega) | rfl | decide))) ?_
            refine any_take 30 rfl (by kernel_rfl) (by kernel_rfl) (by kernel_rfl) (v_pick_t (v := (.bool _)) rfl rfl rfl) ?_
            refine any_take 31 rfl (by kernel_rfl) (by kernel_rfl) (by kernel_rfl) (v_assign (v := (.bool _)) rfl rfl) ?_
            refine any_done (by kernel_rfl) ?_
            refine W_ret ?_
            refine ⟨_, (.tmp (v := (.bool _)) rfl .nil), ?_⟩
            exact ⟨rfl, _, H⟩
            -- (backstaylaw13.NodeOrdered: ret; chunks n0,s,S; ptr 21=n0)
theorem walk (W : World) (links : Int) (i1 : i64 links) (v : Value) (l : List R4) (hr : RawIs W v l) (f : Int) (i2 : i64 f) (link : Int) (i3 : i64 link) :
    FnC Try.prog 5 [int links, v, int f, int link] W (fun v w' => v = .bool true ∧ Base W w') :=
  (law_ok (Own.start W) links f link i1 i2 i3 v l hr).mono (fun _ _ ⟨a, _, H⟩ => ⟨a, H.base⟩)
theorem own : ownKnob Try.prog.godebug = none := by kernel_rfl
set_option maxRecDepth 100000 in
theorem lifted (os : Os) (started : os.Started) (H : Type) (enc : TypeId × Value → H) :
    ReturnsInHanded {} Try.checked os 5 .any (Rows.nodeOrderedSpec.pre6 enc Try.prog Try.f5 Rows.nodeOrderedRow.domain false) (Rows.nodeOrderedSpec.post enc Try.prog Try.f5 false true false false) := by
  refine returnsInHanded_of_change (C := Try.checked) own started (by kernel_rfl) Try.func5
    (ChangeSpec.witness6 (enc := enc) (C := Try.checked) false ⟨#[], #[.int .i64 0, .slice none 0 0, .int .i64 0, .int .i64 0], []⟩ 8 (by kernel_rfl) (by kernel_rfl) (by kernel_rfl) (by kernel_rfl)) ?_
  intro W base args ds gs before hval0 hW hcnd _
  have hval : ∀ (j : Nat) t v, Try.f5.params[j]? = some t → args[j]? = some v → Value.okWide Try.prog W .any base t v := hval0
  have hW' := hW
  obtain ⟨p, q, hA0, hV, rfl, hfz, hnd⟩ := hW
  have hA : DataW.TrodAll enc Try.prog W 0 (fun _ => true) true Try.f5.params.toList args.toList ds p := hA0
  rw [Try.params5] at hA hval
  obtain ⟨v0, vs0, d0, ds0, p0, q0, hargs, rfl, rfl, h0, r0⟩ := trodAll_cons hA
  obtain ⟨v1, vs1, d1, ds1, p1, q1, rfl, rfl, rfl, h1, r1⟩ := trodAll_cons r0
  obtain ⟨v2, vs2, d2, ds2, p2, q2, rfl, rfl, rfl, h2, r2⟩ := trodAll_cons r1
  obtain ⟨v3, vs3, d3, ds3, p3, q3, rfl, rfl, rfl, h3, r3⟩ := trodAll_cons r2
  obtain ⟨rfl, rfl, rfl⟩ := trodAll_nil r3
  obtain rfl : args = #[v0, v1, v2, v3] := by cases args; simp_all
  obtain ⟨rfl, rfl⟩ := trodVars_none hV
  obtain ⟨a0, rfl, rfl, rfl, x0⟩ := open_int Try.underlying3 (hval 0 3 v0 rfl rfl) h0
  have k1 := h1
  have lt1 : ∀ x ∈ p1, x.block < W.heap.size := by obtain ⟨m, hm⟩ := k1; exact DataW.trod_lt m _ _ _ hm
  obtain ⟨l1, w1⟩ := raw_of_trod h1 (okWide_slice Try.underlying22 (hval 1 22 v1 rfl rfl))
  obtain ⟨a2, rfl, rfl, rfl, x2⟩ := open_int Try.underlying3 (hval 2 3 v2 rfl rfl) h2
  obtain ⟨a3, rfl, rfl, rfl, x3⟩ := open_int Try.underlying3 (hval 3 3 v3 rfl rfl) h3
  clear hA0 hval0
  refine Calls.mono (walk W a0 (bounds_i64 x0) v1 l1 w1 a2 (bounds_i64 x2) a3 (bounds_i64 x3)) ?_
  rintro e W' ⟨_, rfl, rfl, hb⟩
  have bel := hb.below
  exact ⟨_, rfl, _, _, _, [], _, [], hW', trodAll_mk1 (shut_bool Try.underlying4 _), (trodAll_cons_mk (shut_int Try.underlying3 x0) (trodAll_cons_mk (Below.trod laidOut (by kernel_rfl) (of_decide_eq_true (by kernel_rfl)) k1 bel lt1) (trodAll_cons_mk (shut_int Try.underlying3 x2) (trodAll_cons_mk (shut_int Try.underlying3 x3) trodAll_mk0)))), rfl, bel.frame _, fun h => by cases h⟩
theorem closed : joinedFacts Try.prog 5 Try.f5 Rows.nodeOrderedSpec Rows.nodeOrderedRow = true := Go.Proofs.Ytchikjmhncojfaa.Head.joined (by kernel_rfl) rfl rfl (by kernel_rfl) (by kernel_rfl) (by kernel_rfl) (by kernel_rfl)
theorem over : Rows.nodeOrderedRow.holds Try.pinned (OpenSpec.ofChange Rows.nodeOrderedSpec) :=
  OpenClaim.holds_of_wide 5 Try.f5 rfl rfl rfl rfl rfl rfl rfl ⟨rfl, rfl, rfl, rfl, rfl⟩ rfl rfl rfl rfl rfl (by kernel_rfl) Try.func5 closed
    (of_decide_eq_true (by kernel_rfl)) (by unfold Func.isWrapper; first | (rw [if_pos (by decide +kernel)]; kernel_rfl) | (rw [if_neg (by decide +kernel)]; exact ⟨rfl, rfl⟩))
    (fun os started H enc _ => lifted os started H enc)
/-- The statement. -/
theorem proved : Rows.NodeOrderedSaid := over
end Go.Proofs.Ytchikjmhncojfaa.nodeOrdered
