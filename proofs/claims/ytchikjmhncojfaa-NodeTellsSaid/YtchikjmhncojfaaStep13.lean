/- The walk of backstaylaw13.Step: a raw step comes to both stores alike. Conditions: none. -/
import Derived.Test.YtchikjmhncojfaaRef13d
import Derived.Test.YtchikjmhncojfaaKeepsM
set_option linter.unusedVariables false
namespace Go.Proofs.Ytchikjmhncojfaa.W
open Go Go.Proofs Go.RowKit
open Go.Proofs.Ytchikjmhncojfaa.M (Br St getZ isN idx has down Wf rank i64 R4 leafB askB Ext)
def stepV (n e : Int) : Value := .tuple [.int .i64 n, .int .i64 e, .int .i64 n, .int .i64 e].toArray
set_option maxHeartbeats 1000000 in
theorem Step_ok {wb w : World} {o : Option Nat} {p : Nat} {st : St} {R : List Chunk} (hw : Wf st) (r : R4) (hok : r.ok) (H : Own wb (XC o st :: RefC p st :: R) w) :
    FnC Try.prog 29 [xptr o, ptr p, .agg (cells4 r).toArray] w (fun v w' => ∃ st' n e, v = stepV n e ∧ Wf st' ∧ Ext st st' ∧ Own wb (XC o st' :: RefC p st' :: R) w') := by
  have hm := hw.most
  have hroom := hw.room
  have hl16 := hw.links
  by_cases h3 : M.pick r.a 3 = 0
  · obtain ⟨s1, k, e1, hl, w1, x1⟩ := M.leaf_any hw r.b
    refine FnC_of Try.func29 rfl rfl rfl rfl ?_
    refine W_seq ?_
    refine W_region ?_
    refine ops_box (v := (.agg _)) (cs := [_, _, _, _]) H rfl rfl rfl ?_
    clear H; intro bn0 w H
    refine ops_v (v_assign (v := _) rfl rfl) ?_
    refine ops_v (v_assign (v := _) rfl rfl) ?_
    refine ops_v (v_assign (v := _) rfl rfl) ?_
    refine ops_v (v_assign (v := _) rfl rfl) ?_
    refine ops_nil ?_
    refine W_seq ?_
    refine W_seq ?_
    refine W_region ?_
    refine ops_v (v_indexAddr_arr rfl ae39 rfl rfl (by first | omega | decide) rfl) ?_
    refine ops_load (v := (.int _ _)) 0 H rfl tc3 rfl rfl rfl ?_
    refine ops_call rfl c25 (pick13_ok H r.a 3 hok.1 (by decide)) ?_
    clear H; rintro _ w ⟨rfl, H⟩
    refine ops_v (v_eql true rfl rfl rfl (decide_eq_true (by first | omega | (simp only; omega) | rfl | decide))) ?_
    refine ops_nil ?_
    refine W_if_t rfl ?_
    refine W_seq ?_
    refine W_region ?_
    refine ops_v (v_move (v := (.pointer _)) rfl rfl) ?_
    refine ops_v (v_indexAddr_arr rfl ae39 rfl rfl (by first | omega | decide) rfl) ?_
    refine ops_load (v := (.int _ _)) 0 H rfl tc3 rfl rfl rfl ?_
    refine ops_call rfl c38 (FnC.at 1 rfl H (fun _ H => Leaf_x hm hl H)) ?_
    clear H; rintro _ w ⟨rfl, H⟩
    refine ops_v (v_move (v := (.tuple _)) rfl rfl) ?_
    refine ops_v (v_extract (v := (.int _ _)) rfl rfl rfl) ?_
    refine ops_v (v_extract (v := (.int _ _)) rfl rfl rfl) ?_
    refine ops_v (v_assign (v := (.int _ _)) rfl rfl) ?_
    refine ops_v (v_assign (v := (.int _ _)) rfl rfl) ?_
    refine ops_nil ?_
    refine W_seq ?_
    refine W_region ?_
    refine ops_v (v_move (v := (.pointer _)) rfl rfl) ?_
    refine ops_v (v_indexAddr_arr rfl ae39 rfl rfl (by first | omega | decide) rfl) ?_
    refine ops_load (v := (.int _ _)) 0 H rfl tc3 rfl rfl rfl ?_
    refine ops_call rfl c65 (FnC.at 2 rfl H (fun _ H => Leaf13_ok hm hroom hl H)) ?_
    clear H; rintro _ w ⟨rfl, H⟩
    refine ops_v (v_move (v := (.tuple _)) rfl rfl) ?_
    refine ops_v (v_extract (v := (.int _ _)) rfl rfl rfl) ?_
    refine ops_v (v_extract (v := (.int _ _)) rfl rfl rfl) ?_
    refine ops_v (v_assign (v := (.int _ _)) rfl rfl) ?_
    refine ops_v (v_assign (v := (.int _ _)) rfl rfl) ?_
    refine ops_nil ?_
    refine W_seq ?_
    refine W_region ?_
    refine ops_v (v_move (v := (.int _ _)) rfl rfl) ?_
    refine ops_v (v_move (v := (.int _ _)) rfl rfl) ?_
    refine ops_v (v_move (v := (.int _ _)) rfl rfl) ?_
    refine ops_v (v_move (v := (.int _ _)) rfl rfl) ?_
    refine ops_v (v_assign (v := (.int _ _)) rfl rfl) ?_
    refine ops_v (v_assign (v := (.int _ _)) rfl rfl) ?_
    refine ops_v (v_assign (v := (.int _ _)) rfl rfl) ?_
    refine ops_v (v_assign (v := (.int _ _)) rfl rfl) ?_
    refine ops_nil ?_
    refine W_ret ?_
    refine ⟨_, (.tmp (v := (.int _ _)) rfl (.tmp (v := (.int _ _)) rfl (.tmp (v := (.int _ _)) rfl (.tmp (v := (.int _ _)) rfl .nil)))), ?_⟩
    exact ⟨s1, k, e1, rfl, w1, x1, H.tail⟩
    -- (backstaylaw13.Step: ret; chunks n0,X,Rf; ptr 5=n0,21=n0,27=n0,34=n0)
  · have hp1 : (0 : Int) < (st.links : Int) + 1 := by omega
    have hp2 : (0 : Int) < (st.nodes.length : Int) + 1 := by omega
    by_cases h8 : 1 < M.pick r.a 8
    · obtain ⟨s1, k, e1, hl, w1, x1⟩ := M.make_any' hw (M.pick r.b (st.links + 1)) (M.pick r.c (st.nodes.length + 1)) (M.pick r.d (st.nodes.length + 1))
      refine FnC_of Try.func29 rfl rfl rfl rfl ?_
      refine W_seq ?_
      refine W_region ?_
      refine ops_box (v := (.agg _)) (cs := [_, _, _, _]) H rfl rfl rfl ?_
      clear H; intro bn0 w H
      refine ops_v (v_assign (v := _) rfl rfl) ?_
      refine ops_v (v_assign (v := _) rfl rfl) ?_
      refine ops_v (v_assign (v := _) rfl rfl) ?_
      refine ops_v (v_assign (v := _) rfl rfl) ?_
      refine ops_nil ?_
      refine W_seq ?_
      refine W_seq ?_
      refine W_region ?_
      refine ops_v (v_indexAddr_arr rfl ae39 rfl rfl (by first | omega | decide) rfl) ?_
      refine ops_load (v := (.int _ _)) 0 H rfl tc3 rfl rfl rfl ?_
      refine ops_call rfl c25 (pick13_ok H r.a 3 hok.1 (by decide)) ?_
      clear H; rintro _ w ⟨rfl, H⟩
      refine ops_v (v_eql false rfl rfl rfl (decide_eq_false (by first | omega | (simp only; omega) | rfl | decide))) ?_
      refine ops_nil ?_
      refine W_if_f rfl ?_
      refine W_skip ?_
      refine W_seq ?_
      refine W_region ?_
      refine ops_v (v_indexAddr_arr rfl ae39 rfl rfl (by first | omega | decide) rfl) ?_
      refine ops_load (v := (.int _ _)) 0 H rfl tc3 rfl rfl rfl ?_
      refine ops_v (v_assign (v := (.int _ _)) rfl rfl) ?_
      refine ops_nil ?_
      refine W_seq ?_
      refine W_region ?_
      refine ops_v (v_indexAddr_arr rfl ae39 rfl rfl (by first | omega | decide) rfl) ?_
      refine ops_load (v := (.int _ _)) 0 H rfl tc3 rfl rfl rfl ?_
      refine ops_v (v_assign (v := (.int _ _)) rfl rfl) ?_
      refine ops_nil ?_
      refine W_seq ?_
      refine W_region ?_
      refine ops_v (v_indexAddr_arr rfl ae39 rfl rfl (by first | omega | decide) rfl) ?_
      refine ops_load (v := (.int _ _)) 0 H rfl tc3 rfl rfl rfl ?_
      refine ops_v (v_assign (v := (.int _ _)) rfl rfl) ?_
      refine ops_nil ?_
      refine W_seq ?_
      refine W_seq ?_
      refine W_region ?_
      refine ops_v (v_indexAddr_arr rfl ae39 rfl rfl (by first | omega | decide) rfl) ?_
      refine ops_load (v := (.int _ _)) 0 H rfl tc3 rfl rfl rfl ?_
      refine ops_call rfl c25 (pick13_ok H r.a 8 hok.1 (by decide)) ?_
      clear H; rintro _ w ⟨rfl, H⟩
      refine ops_v (v_gtr true rfl rfl rfl (decide_eq_true (by first | omega | (simp only; omega) | rfl | decide))) ?_
      refine ops_nil ?_
      refine W_if_t rfl ?_
      refine W_seq ?_
      obtain ⟨a', cap, H⟩ := (H.front 2 rfl).openR
      refine W_draw (is := [0, 2]) mixed H ?_
      clear H; intro w H
      refine any_take 0 rfl (by kernel_rfl) (by kernel_rfl) (by kernel_rfl) (v_indexAddr_arr rfl ae39 rfl rfl (by first | omega | decide) rfl) ?_
      refine any_take 1 rfl (by kernel_rfl) (by kernel_rfl) (by kernel_rfl) (v_load (v := (.int _ _)) rfl tc3 (fun _ hS => hS.2.1 _ _ _ rfl) rfl rfl) ?_
      refine any_take 2 rfl (by kernel_rfl) (by kernel_rfl) (by kernel_rfl) (v_move (v := (.pointer _)) rfl rfl) ?_
      refine any_take 3 rfl (by kernel_rfl) (by kernel_rfl) (by kernel_rfl) (v_nilCheck rfl rfl) ?_
      refine any_take 4 rfl (by kernel_rfl) (by kernel_rfl) (by kernel_rfl) (v_fieldAddr rfl fo31_0 rfl rfl) ?_
      refine any_take 5 rfl (by kernel_rfl) (by kernel_rfl) (by kernel_rfl) (v_load (v := (.int _ _)) rfl tc3 (fun _ hS => hS.1 _ _ _ rfl) rfl rfl) ?_
      refine any_take 6 rfl (by kernel_rfl) (by kernel_rfl) (by kernel_rfl) (v_add _ rfl rfl rfl (wrap_in (by omega) (by omega))) ?_
      refine any_one 7 rfl (by kernel_rfl) ?_
      refine ops_call rfl c25 (pick13_ok H r.b (st.links + 1) hok.2.1 hp1) ?_
      clear H; rintro _ w ⟨rfl, H⟩
      refine ops_nil ⟨H.stab [(0, 0), (2, 2)] ⟨rfl, rfl, trivial⟩, ?_⟩
      refine any_take 8 rfl (by kernel_rfl) (by kernel_rfl) (by kernel_rfl) (v_assign (v := (.int _ _)) rfl rfl) ?_
      refine any_done (by kernel_rfl) ?_
      refine W_seq ?_
      refine W_draw (is := [0, 2]) mixed H ?_
      clear H; intro w H
      refine any_take 0 rfl (by kernel_rfl) (by kernel_rfl) (by kernel_rfl) (v_indexAddr_arr rfl ae39 rfl rfl (by first | omega | decide) rfl) ?_
      refine any_take 1 rfl (by kernel_rfl) (by kernel_rfl) (by kernel_rfl) (v_load (v := (.int _ _)) rfl tc3 (fun _ hS => hS.2.1 _ _ _ rfl) rfl rfl) ?_
      refine any_take 2 rfl (by kernel_rfl) (by kernel_rfl) (by kernel_rfl) (v_move (v := (.pointer _)) rfl rfl) ?_
      refine any_take 3 rfl (by kernel_rfl) (by kernel_rfl) (by kernel_rfl) (v_nilCheck rfl rfl) ?_
      refine any_take 4 rfl (by kernel_rfl) (by kernel_rfl) (by kernel_rfl) (v_fieldAddr rfl fo31_2 rfl rfl) ?_
      refine any_take 5 rfl (by kernel_rfl) (by kernel_rfl) (by kernel_rfl) (v_load (v := (.slice _ _ _)) rfl tc29 (fun _ hS => hS.1 _ _ _ rfl) rfl rfl) ?_
      refine any_take 6 rfl (by kernel_rfl) (by kernel_rfl) (by kernel_rfl) (v_len rfl sl29 rfl) ?_
      refine any_take 7 rfl (by kernel_rfl) (by kernel_rfl) (by kernel_rfl) (v_add _ rfl rfl rfl (wrap_in (by omega) (by omega))) ?_
      refine any_one 8 rfl (by kernel_rfl) ?_
      refine ops_call rfl c25 (pick13_ok H r.c (st.nodes.length + 1) hok.2.2.1 hp2) ?_
      clear H; rintro _ w ⟨rfl, H⟩
      refine ops_nil ⟨H.stab [(0, 0), (2, 2)] ⟨rfl, rfl, trivial⟩, ?_⟩
      refine any_take 9 rfl (by kernel_rfl) (by kernel_rfl) (by kernel_rfl) (v_assign (v := (.int _ _)) rfl rfl) ?_
      refine any_done (by kernel_rfl) ?_
      refine W_draw (is := [0, 2]) mixed H ?_
      clear H; intro w H
      refine any_take 0 rfl (by kernel_rfl) (by kernel_rfl) (by kernel_rfl) (v_indexAddr_arr rfl ae39 rfl rfl (by first | omega | decide) rfl) ?_
      refine any_take 1 rfl (by kernel_rfl) (by kernel_rfl) (by kernel_rfl) (v_load (v := (.int _ _)) rfl tc3 (fun _ hS => hS.2.1 _ _ _ rfl) rfl rfl) ?_
      refine any_take 2 rfl (by kernel_rfl) (by kernel_rfl) (by kernel_rfl) (v_move (v := (.pointer _)) rfl rfl) ?_
      refine any_take 3 rfl (by kernel_rfl) (by kernel_rfl) (by kernel_rfl) (v_nilCheck rfl rfl) ?_
      refine any_take 4 rfl (by kernel_rfl) (by kernel_rfl) (by kernel_rfl) (v_fieldAddr rfl fo31_2 rfl rfl) ?_
      refine any_take 5 rfl (by kernel_rfl) (by kernel_rfl) (by kernel_rfl) (v_load (v := (.slice _ _ _)) rfl tc29 (fun _ hS => hS.1 _ _ _ rfl) rfl rfl) ?_
      refine any_take 6 rfl (by kernel_rfl) (by kernel_rfl) (by kernel_rfl) (v_len rfl sl29 rfl) ?_
      refine any_take 7 rfl (by kernel_rfl) (by kernel_rfl) (by kernel_rfl) (v_add _ rfl rfl rfl (wrap_in (by omega) (by omega))) ?_
      refine any_one 8 rfl (by kernel_rfl) ?_
      refine ops_call rfl c25 (pick13_ok H r.d (st.nodes.length + 1) hok.2.2.2 hp2) ?_
      clear H; rintro _ w ⟨rfl, H⟩
      refine ops_nil ⟨H.stab [(0, 0), (2, 2)] ⟨rfl, rfl, trivial⟩, ?_⟩
      refine any_take 9 rfl (by kernel_rfl) (by kernel_rfl) (by kernel_rfl) (v_assign (v := (.int _ _)) rfl rfl) ?_
      refine any_done (by kernel_rfl) ?_
      refine W_seq ?_
      have H := H.shutR
      refine W_region ?_
      refine ops_v (v_move (v := (.pointer _)) rfl rfl) ?_
      refine ops_v (v_move (v := (.int _ _)) rfl rfl) ?_
      refine ops_v (v_move (v := (.int _ _)) rfl rfl) ?_
      refine ops_v (v_move (v := (.int _ _)) rfl rfl) ?_
      refine ops_call rfl c39 (FnC.at 2 rfl H (fun _ H => Make_x hm hl H)) ?_
      clear H; rintro _ w ⟨rfl, H⟩
      refine ops_v (v_move (v := (.tuple _)) rfl rfl) ?_
      refine ops_v (v_extract (v := (.int _ _)) rfl rfl rfl) ?_
      refine ops_v (v_extract (v := (.int _ _)) rfl rfl rfl) ?_
      refine ops_v (v_assign (v := (.int _ _)) rfl rfl) ?_
      refine ops_v (v_assign (v := (.int _ _)) rfl rfl) ?_
      refine ops_nil ?_
      refine W_seq ?_
      refine W_region ?_
      refine ops_v (v_move (v := (.pointer _)) rfl rfl) ?_
      refine ops_v (v_move (v := (.int _ _)) rfl rfl) ?_
      refine ops_v (v_move (v := (.int _ _)) rfl rfl) ?_
      refine ops_v (v_move (v := (.int _ _)) rfl rfl) ?_
      refine ops_call rfl c66 (FnC.at 0 rfl H (fun _ H => Make13_ok hm hroom hl H)) ?_
      clear H; rintro _ w ⟨rfl, H⟩
      refine ops_v (v_move (v := (.tuple _)) rfl rfl) ?_
      refine ops_v (v_extract (v := (.int _ _)) rfl rfl rfl) ?_
      refine ops_v (v_extract (v := (.int _ _)) rfl rfl rfl) ?_
      refine ops_v (v_assign (v := (.int _ _)) rfl rfl) ?_
      refine ops_v (v_assign (v := (.int _ _)) rfl rfl) ?_
      refine ops_nil ?_
      refine W_seq ?_
      refine W_region ?_
      refine ops_v (v_move (v := (.int _ _)) rfl rfl) ?_
      refine ops_v (v_move (v := (.int _ _)) rfl rfl) ?_
      refine ops_v (v_move (v := (.int _ _)) rfl rfl) ?_
      refine ops_v (v_move (v := (.int _ _)) rfl rfl) ?_
      refine ops_v (v_assign (v := (.int _ _)) rfl rfl) ?_
      refine ops_v (v_assign (v := (.int _ _)) rfl rfl) ?_
      refine ops_v (v_assign (v := (.int _ _)) rfl rfl) ?_
      refine ops_v (v_assign (v := (.int _ _)) rfl rfl) ?_
      refine ops_nil ?_
      refine W_ret ?_
      refine ⟨_, (.tmp (v := (.int _ _)) rfl (.tmp (v := (.int _ _)) rfl (.tmp (v := (.int _ _)) rfl (.tmp (v := (.int _ _)) rfl .nil)))), ?_⟩
      exact ⟨s1, k, e1, rfl, w1, x1, (H.drop 1).perm (List.Perm.swap _ _ _)⟩
      -- (backstaylaw13.Step: ret; chunks Rf,n0,X; ptr 5=n0,21=n0,43=n0,45=n0,47=n0,49=n0,1=p,53=n0,55=p,56=p,57=p)
    · obtain ⟨s1, k, e1, hl, w1, x1⟩ := M.make_any' hw r.b r.c r.d
      refine FnC_of Try.func29 rfl rfl rfl rfl ?_
      refine W_seq ?_
      refine W_region ?_
      refine ops_box (v := (.agg _)) (cs := [_, _, _, _]) H rfl rfl rfl ?_
      clear H; intro bn0 w H
      refine ops_v (v_assign (v := _) rfl rfl) ?_
      refine ops_v (v_assign (v := _) rfl rfl) ?_
      refine ops_v (v_assign (v := _) rfl rfl) ?_
      refine ops_v (v_assign (v := _) rfl rfl) ?_
      refine ops_nil ?_
      refine W_seq ?_
      refine W_seq ?_
      refine W_region ?_
      refine ops_v (v_indexAddr_arr rfl ae39 rfl rfl (by first | omega | decide) rfl) ?_
      refine ops_load (v := (.int _ _)) 0 H rfl tc3 rfl rfl rfl ?_
      refine ops_call rfl c25 (pick13_ok H r.a 3 hok.1 (by decide)) ?_
      clear H; rintro _ w ⟨rfl, H⟩
      refine ops_v (v_eql false rfl rfl rfl (decide_eq_false (by first | omega | (simp only; omega) | rfl | decide))) ?_
      refine ops_nil ?_
      refine W_if_f rfl ?_
      refine W_skip ?_
      refine W_seq ?_
      refine W_region ?_
      refine ops_v (v_indexAddr_arr rfl ae39 rfl rfl (by first | omega | decide) rfl) ?_
      refine ops_load (v := (.int _ _)) 0 H rfl tc3 rfl rfl rfl ?_
      refine ops_v (v_assign (v := (.int _ _)) rfl rfl) ?_
      refine ops_nil ?_
      refine W_seq ?_
      refine W_region ?_
      refine ops_v (v_indexAddr_arr rfl ae39 rfl rfl (by first | omega | decide) rfl) ?_
      refine ops_load (v := (.int _ _)) 0 H rfl tc3 rfl rfl rfl ?_
      refine ops_v (v_assign (v := (.int _ _)) rfl rfl) ?_
      refine ops_nil ?_
      refine W_seq ?_
      refine W_region ?_
      refine ops_v (v_indexAddr_arr rfl ae39 rfl rfl (by first | omega | decide) rfl) ?_
      refine ops_load (v := (.int _ _)) 0 H rfl tc3 rfl rfl rfl ?_
      refine ops_v (v_assign (v := (.int _ _)) rfl rfl) ?_
      refine ops_nil ?_
      refine W_seq ?_
      refine W_seq ?_
      refine W_region ?_
      refine ops_v (v_indexAddr_arr rfl ae39 rfl rfl (by first | omega | decide) rfl) ?_
      refine ops_load (v := (.int _ _)) 0 H rfl tc3 rfl rfl rfl ?_
      refine ops_call rfl c25 (pick13_ok H r.a 8 hok.1 (by decide)) ?_
      clear H; rintro _ w ⟨rfl, H⟩
      refine ops_v (v_gtr false rfl rfl rfl (decide_eq_false (by first | omega | (simp only; omega) | rfl | decide))) ?_
      refine ops_nil ?_
      refine W_if_f rfl ?_
      refine W_skip ?_
      refine W_seq ?_
      refine W_region ?_
      refine ops_v (v_move (v := (.pointer _)) rfl rfl) ?_
      refine ops_v (v_move (v := (.int _ _)) rfl rfl) ?_
      refine ops_v (v_move (v := (.int _ _)) rfl rfl) ?_
      refine ops_v (v_move (v := (.int _ _)) rfl rfl) ?_
      refine ops_call rfl c39 (FnC.at 1 rfl H (fun _ H => Make_x hm hl H)) ?_
      clear H; rintro _ w ⟨rfl, H⟩
      refine ops_v (v_move (v := (.tuple _)) rfl rfl) ?_
      refine ops_v (v_extract (v := (.int _ _)) rfl rfl rfl) ?_
      refine ops_v (v_extract (v := (.int _ _)) rfl rfl rfl) ?_
      refine ops_v (v_assign (v := (.int _ _)) rfl rfl) ?_
      refine ops_v (v_assign (v := (.int _ _)) rfl rfl) ?_
      refine ops_nil ?_
      refine W_seq ?_
      refine W_region ?_
      refine ops_v (v_move (v := (.pointer _)) rfl rfl) ?_
      refine ops_v (v_move (v := (.int _ _)) rfl rfl) ?_
      refine ops_v (v_move (v := (.int _ _)) rfl rfl) ?_
      refine ops_v (v_move (v := (.int _ _)) rfl rfl) ?_
      refine ops_call rfl c66 (FnC.at 2 rfl H (fun _ H => Make13_ok hm hroom hl H)) ?_
      clear H; rintro _ w ⟨rfl, H⟩
      refine ops_v (v_move (v := (.tuple _)) rfl rfl) ?_
      refine ops_v (v_extract (v := (.int _ _)) rfl rfl rfl) ?_
      refine ops_v (v_extract (v := (.int _ _)) rfl rfl rfl) ?_
      refine ops_v (v_assign (v := (.int _ _)) rfl rfl) ?_
      refine ops_v (v_assign (v := (.int _ _)) rfl rfl) ?_
      refine ops_nil ?_
      refine W_seq ?_
      refine W_region ?_
      refine ops_v (v_move (v := (.int _ _)) rfl rfl) ?_
      refine ops_v (v_move (v := (.int _ _)) rfl rfl) ?_
      refine ops_v (v_move (v := (.int _ _)) rfl rfl) ?_
      refine ops_v (v_move (v := (.int _ _)) rfl rfl) ?_
      refine ops_v (v_assign (v := (.int _ _)) rfl rfl) ?_
      refine ops_v (v_assign (v := (.int _ _)) rfl rfl) ?_
      refine ops_v (v_assign (v := (.int _ _)) rfl rfl) ?_
      refine ops_v (v_assign (v := (.int _ _)) rfl rfl) ?_
      refine ops_nil ?_
      refine W_ret ?_
      refine ⟨_, (.tmp (v := (.int _ _)) rfl (.tmp (v := (.int _ _)) rfl (.tmp (v := (.int _ _)) rfl (.tmp (v := (.int _ _)) rfl .nil)))), ?_⟩
      exact ⟨s1, k, e1, rfl, w1, x1, H.tail⟩
      -- (backstaylaw13.Step: ret; chunks n0,X,Rf; ptr 5=n0,21=n0,43=n0,45=n0,47=n0,49=n0)
end Go.Proofs.Ytchikjmhncojfaa.W
