/- The walks of package apply's operators. Conditions: none. -/
import Derived.Test.YtchikjmhncojfaaApply3
import Derived.Test.YtchikjmhncojfaaOpsM
set_option linter.unusedVariables false
namespace Go.Proofs.Ytchikjmhncojfaa.W
open Go Go.Proofs Go.RowKit
open Go.Proofs.Ytchikjmhncojfaa.M (Br St get getZ isN idx has down Wf rank i64 leafB askB Lifts lnk val sideOf linkOf Ext tr oneF twoF chooseF opF)

section
variable {wb w : World} {R L : List Chunk} {F : Int → Int → Int → Int → Int} {o : Option Nat} {p : Nat} {t : Int} {fv : Value} {C : Chunk}
theorem Own.rot3 {A B C : Chunk} (H : Own wb (A :: B :: C :: R) w) : Own wb (B :: C :: A :: R) w := H.perm ((List.Perm.swap B A _).trans ((List.Perm.swap C A _).cons B))
theorem Own.rot3' {A B C : Chunk} (H : Own wb (B :: C :: A :: R) w) : Own wb (A :: B :: C :: R) w := H.perm (((List.Perm.swap A C _).cons B).trans (List.Perm.swap A B _))
theorem NodeIs {p : Nat} {st : St} {id : Int} {b : Bool} (h : isN st id = b) (H : Own wb (StoreC p st :: R) w) : FnC Try.prog 31 [ptr p, int id] w (fun v w' => v = nodeV (getZ st id) b ∧ Own wb (StoreC p st :: R) w') := by
  subst h; exact NodeZ_ok id H

set_option maxHeartbeats 1000000 in
theorem Lift_ok {f : Int → Int → Int → Int} {s s' : St} {a b c i e : Int} (h : Lifts f s a b c s' i e) (hF : F t = f) (hf : FnOk fv f C) (hw : Wf s) (ia : isN s a = true) (ib : isN s b = true) (ic : isN s c = true)
    (H : Own wb (C :: StoreC p s :: CacheX F o s :: R) w) :
    FnC Try.prog 73 [ptr p, xptr o, int t, fv, .agg [int a, int b, int c].toArray] w (fun u w' => u = pairV i e ∧ Own wb (C :: StoreC p s' :: CacheX F o s' :: R) w') := by
  have H := H.rot3
  have hf' := hf
  obtain ⟨fid, cap, rfl, _, _⟩ := hf'
  refine FnC_of Try.func73 rfl rfl rfl rfl ?_
  refine W_seq ?_
  refine W_region ?_
  refine ops_box (v := (.agg _)) (cs := [_, _, _]) H rfl rfl rfl ?_
  clear H; intro bn0 w H
  refine ops_v (v_assign (v := _) rfl rfl) ?_
  refine ops_v (v_assign (v := _) rfl rfl) ?_
  refine ops_nil ?_
  refine W_seq ?_
  refine W_seq ?_
  refine W_region ?_
  refine ops_loadA (vs := [_, _, _]) 0 H rfl ta87 rfl rfl rfl rfl ?_
  refine ops_v (v_move (v := _) rfl rfl) ?_
  refine ops_nil ?_
  refine W_block ?_
  -- (apply.Lift: loop; chunks n0,S,C,f; ptr 9=n0)
  generalize bn0 = bl at *
  refine W_loopS (fun (i : Nat) => [(0, ptr p), (1, xptr o), (2, int t), (3, .func (.func fid) ([] : List Value).toArray cap.toArray), (9, ptr bl), (16, .agg [int a, int b, int c].toArray), (17, .int .i64 i)])
    (fun i w => Own wb (Blk bl [int a, int b, int c] 87 :: StoreC p s :: CacheX F o s :: C :: R) w ∧ i ≤ 3)
    (fun i => 3 - i) 0 ⟨rfl, rfl, rfl, rfl, rfl, rfl, rfl, trivial⟩ ⟨H, by decide⟩ ?_
  clear H
  rintro i e w ⟨H, hi⟩
  obtain rfl | rfl | rfl | rfl : i = 0 ∨ i = 1 ∨ i = 2 ∨ i = 3 := by omega
  · refine W_seq ?_
    refine W_region ?_
    refine ops_v (v_lss true rfl rfl rfl (decide_eq_true (by first | omega | (simp only; omega) | rfl | decide))) ?_
    refine ops_nil ?_
    refine W_seq ?_
    refine W_if_t rfl ?_
    refine W_skip ?_
    refine W_seq ?_
    refine W_block ?_
    refine W_seq ?_
    refine W_region ?_
    refine ops_v (v_index (v := (.int _ _)) rfl ix87 rfl rfl rfl (by omega)) ?_
    refine ops_v (v_assign (v := (.int _ _)) rfl rfl) ?_
    refine ops_nil ?_
    refine W_seq ?_
    refine W_region ?_
    refine ops_v (v_move (v := (.pointer _)) rfl rfl) ?_
    refine ops_v (v_move (v := (.int _ _)) rfl rfl) ?_
    refine ops_call rfl c31 (FnC.ro 1 rfl H (fun _ H => NodeIs ia H)) ?_
    clear H; rintro _ w ⟨rfl, H⟩
    refine ops_v (v_move (v := (.tuple _)) rfl rfl) ?_
    refine ops_v (v_extract (v := (.agg _)) rfl rfl rfl) ?_
    refine ops_v (v_extract (v := (.bool _)) rfl rfl rfl) ?_
    refine ops_alloc H rfl tz42 ?_
    clear H; intro bn0 w H
    refine ops_store (vs := [_, _, _, _, _]) (v := (.agg _)) (cs' := [_, _, _, _, _]) 0 H rfl ts42 rfl rfl rfl rfl rfl rfl rfl rfl ?_
    clear H; intro w H
    refine ops_v (v_assign (v := (.bool _)) rfl rfl) ?_
    refine ops_nil ?_
    refine W_seq ?_
    refine W_region ?_
    refine ops_v (v_move (v := (.bool _)) rfl rfl) ?_
    refine ops_v (v_not rfl rfl _ rfl) ?_
    refine ops_nil ?_
    refine W_if_f rfl ?_
    refine W_skip ?_
    refine W_region ?_
    refine ops_v (v_add _ rfl rfl rfl (wrap_in (by omega) (by omega))) ?_
    refine ops_v (v_move (v := (.int _ _)) rfl rfl) ?_
    refine ops_nil ?_
    exact ⟨1, by decide, ⟨rfl, rfl, rfl, rfl, rfl, rfl, rfl, trivial⟩, H.tail, by decide⟩
    -- (apply.Lift: loopend; chunks n0,l,S,C,f; ptr 9=l,14=n0)
  · refine W_seq ?_
    refine W_region ?_
    refine ops_v (v_lss true rfl rfl rfl (decide_eq_true (by first | omega | (simp only; omega) | rfl | decide))) ?_
    refine ops_nil ?_
    refine W_seq ?_
    refine W_if_t rfl ?_
    refine W_skip ?_
    refine W_seq ?_
    refine W_block ?_
    refine W_seq ?_
    refine W_region ?_
    refine ops_v (v_index (v := (.int _ _)) rfl ix87 rfl rfl rfl (by omega)) ?_
    refine ops_v (v_assign (v := (.int _ _)) rfl rfl) ?_
    refine ops_nil ?_
    refine W_seq ?_
    refine W_region ?_
    refine ops_v (v_move (v := (.pointer _)) rfl rfl) ?_
    refine ops_v (v_move (v := (.int _ _)) rfl rfl) ?_
    refine ops_call rfl c31 (FnC.ro 1 rfl H (fun _ H => NodeIs ib H)) ?_
    clear H; rintro _ w ⟨rfl, H⟩
    refine ops_v (v_move (v := (.tuple _)) rfl rfl) ?_
    refine ops_v (v_extract (v := (.agg _)) rfl rfl rfl) ?_
    refine ops_v (v_extract (v := (.bool _)) rfl rfl rfl) ?_
    refine ops_alloc H rfl tz42 ?_
    clear H; intro bn0 w H
    refine ops_store (vs := [_, _, _, _, _]) (v := (.agg _)) (cs' := [_, _, _, _, _]) 0 H rfl ts42 rfl rfl rfl rfl rfl rfl rfl rfl ?_
    clear H; intro w H
    refine ops_v (v_assign (v := (.bool _)) rfl rfl) ?_
    refine ops_nil ?_
    refine W_seq ?_
    refine W_region ?_
    refine ops_v (v_move (v := (.bool _)) rfl rfl) ?_
    refine ops_v (v_not rfl rfl _ rfl) ?_
    refine ops_nil ?_
    refine W_if_f rfl ?_
    refine W_skip ?_
    refine W_region ?_
    refine ops_v (v_add _ rfl rfl rfl (wrap_in (by omega) (by omega))) ?_
    refine ops_v (v_move (v := (.int _ _)) rfl rfl) ?_
    refine ops_nil ?_
    exact ⟨2, by decide, ⟨rfl, rfl, rfl, rfl, rfl, rfl, rfl, trivial⟩, H.tail, by decide⟩
    -- (apply.Lift: loopend; chunks n0,l,S,C,f; ptr 9=l,14=n0)
  · refine W_seq ?_
    refine W_region ?_
    refine ops_v (v_lss true rfl rfl rfl (decide_eq_true (by first | omega | (simp only; omega) | rfl | decide))) ?_
    refine ops_nil ?_
    refine W_seq ?_
    refine W_if_t rfl ?_
    refine W_skip ?_
    refine W_seq ?_
    refine W_block ?_
    refine W_seq ?_
    refine W_region ?_
    refine ops_v (v_index (v := (.int _ _)) rfl ix87 rfl rfl rfl (by omega)) ?_
    refine ops_v (v_assign (v := (.int _ _)) rfl rfl) ?_
    refine ops_nil ?_
    refine W_seq ?_
    refine W_region ?_
    refine ops_v (v_move (v := (.pointer _)) rfl rfl) ?_
    refine ops_v (v_move (v := (.int _ _)) rfl rfl) ?_
    refine ops_call rfl c31 (FnC.ro 1 rfl H (fun _ H => NodeIs ic H)) ?_
    clear H; rintro _ w ⟨rfl, H⟩
    refine ops_v (v_move (v := (.tuple _)) rfl rfl) ?_
    refine ops_v (v_extract (v := (.agg _)) rfl rfl rfl) ?_
    refine ops_v (v_extract (v := (.bool _)) rfl rfl rfl) ?_
    refine ops_alloc H rfl tz42 ?_
    clear H; intro bn0 w H
    refine ops_store (vs := [_, _, _, _, _]) (v := (.agg _)) (cs' := [_, _, _, _, _]) 0 H rfl ts42 rfl rfl rfl rfl rfl rfl rfl rfl ?_
    clear H; intro w H
    refine ops_v (v_assign (v := (.bool _)) rfl rfl) ?_
    refine ops_nil ?_
    refine W_seq ?_
    refine W_region ?_
    refine ops_v (v_move (v := (.bool _)) rfl rfl) ?_
    refine ops_v (v_not rfl rfl _ rfl) ?_
    refine ops_nil ?_
    refine W_if_f rfl ?_
    refine W_skip ?_
    refine W_region ?_
    refine ops_v (v_add _ rfl rfl rfl (wrap_in (by omega) (by omega))) ?_
    refine ops_v (v_move (v := (.int _ _)) rfl rfl) ?_
    refine ops_nil ?_
    exact ⟨3, by decide, ⟨rfl, rfl, rfl, rfl, rfl, rfl, rfl, trivial⟩, H.tail, by decide⟩
    -- (apply.Lift: loopend; chunks n0,l,S,C,f; ptr 9=l,14=n0)
  · refine W_seq ?_
    refine W_region ?_
    refine ops_v (v_lss false rfl rfl rfl (decide_eq_false (by first | omega | (simp only; omega) | rfl | decide))) ?_
    refine ops_nil ?_
    refine W_seq ?_
    refine W_if_f rfl ?_
    refine W_exit ?_
    refine W_seq ?_
    refine W_region ?_
    refine ops_v (v_move (v := (.pointer _)) rfl rfl) ?_
    refine ops_v (v_move (v := (.pointer _)) rfl rfl) ?_
    refine ops_v (v_move (v := (.int _ _)) rfl rfl) ?_
    refine ops_v (v_move (v := _) rfl rfl) ?_
    refine ops_v (v_build (cs := [(.pointer _), (.pointer _), (.int _ _), _]) rfl bp105 rfl) ?_
    refine ops_v (v_move (v := (.int _ _)) rfl rfl) ?_
    refine ops_v (v_indexAddr_arr rfl ae87 rfl rfl (by first | omega | decide) rfl) ?_
    refine ops_load (v := (.int _ _)) 0 H rfl tc3 rfl rfl rfl ?_
    refine ops_v (v_indexAddr_arr rfl ae87 rfl rfl (by first | omega | decide) rfl) ?_
    refine ops_load (v := (.int _ _)) 0 H rfl tc3 rfl rfl rfl ?_
    refine ops_v (v_indexAddr_arr rfl ae87 rfl rfl (by first | omega | decide) rfl) ?_
    refine ops_load (v := (.int _ _)) 0 H rfl tc3 rfl rfl rfl ?_
    refine ops_v (v_build (cs := [(.int _ _), (.int _ _), (.int _ _), (.int _ _)]) rfl bp107 rfl) ?_
    refine ops_call rfl c93 (FnC.mid (A := [_]) (B := [_, _, _]) (B' := [_, _, _]) H (fun _ H => lift_ok h hF hf hw ia ib ic H)) ?_
    clear H; rintro _ w ⟨rfl, H⟩
    simp only [List.cons_append, List.nil_append] at H
    refine ops_v (v_extract (v := (.int _ _)) rfl rfl rfl) ?_
    refine ops_v (v_extract (v := (.int _ _)) rfl rfl rfl) ?_
    refine ops_v (v_assign (v := (.int _ _)) rfl rfl) ?_
    refine ops_v (v_assign (v := (.int _ _)) rfl rfl) ?_
    refine ops_nil ?_
    refine W_ret ?_
    refine ⟨_, (.tmp (v := (.int _ _)) rfl (.tmp (v := (.int _ _)) rfl .nil)), ?_⟩
    exact ⟨rfl, H.tail.rot3'⟩
    -- (apply.Lift: ret; chunks l,S,C,f; ptr 9=l,35=l,37=l,39=l)
set_option maxHeartbeats 1000000 in
theorem Lift_bad {s : St} {a b c : Int} (hbad : isN s a = false ∨ isN s b = false ∨ isN s c = false) (H : Own wb (StoreC p s :: R) w) :
    FnC Try.prog 73 [ptr p, xptr o, int t, fv, .agg [int a, int b, int c].toArray] w (fun u w' => u = pairV 0 1 ∧ Own wb (StoreC p s :: R) w') := by
  refine FnC_of Try.func73 rfl rfl rfl rfl ?_
  refine W_seq ?_
  refine W_region ?_
  refine ops_box (v := (.agg _)) (cs := [_, _, _]) H rfl rfl rfl ?_
  clear H; intro bn0 w H
  refine ops_v (v_assign (v := _) rfl rfl) ?_
  refine ops_v (v_assign (v := _) rfl rfl) ?_
  refine ops_nil ?_
  refine W_seq ?_
  refine W_seq ?_
  refine W_region ?_
  refine ops_loadA (vs := [_, _, _]) 0 H rfl ta87 rfl rfl rfl rfl ?_
  refine ops_v (v_move (v := _) rfl rfl) ?_
  refine ops_nil ?_
  refine W_block ?_
  -- (apply.Lift: loop; chunks n0,S; ptr 9=n0)
  generalize bn0 = bl at *
  refine W_loopS (fun (i : Nat) => [(0, ptr p), (1, xptr o), (2, int t), (3, fv), (9, ptr bl), (16, .agg [int a, int b, int c].toArray), (17, .int .i64 i)])
    (fun i w => Own wb (Blk bl [int a, int b, int c] 87 :: StoreC p s :: R) w ∧ i ≤ 3 ∧ (1 ≤ i → isN s a = true) ∧ (2 ≤ i → isN s b = true) ∧ (3 ≤ i → isN s c = true))
    (fun i => 3 - i) 0 ⟨rfl, rfl, rfl, rfl, rfl, rfl, rfl, trivial⟩ ⟨H, by decide, by simp, by simp, by simp⟩ ?_
  clear H
  rintro i e w ⟨H, hi, ia, ib, ic⟩
  obtain rfl | rfl | rfl | rfl : i = 0 ∨ i = 1 ∨ i = 2 ∨ i = 3 := by omega
  · cases hn : isN s a with
    | true =>
      refine W_seq ?_
      refine W_region ?_
      refine ops_v (v_lss true rfl rfl rfl (decide_eq_true (by first | omega | (simp only; omega) | rfl | decide))) ?_
      refine ops_nil ?_
      refine W_seq ?_
      refine W_if_t rfl ?_
      refine W_skip ?_
      refine W_seq ?_
      refine W_block ?_
      refine W_seq ?_
      refine W_region ?_
      refine ops_v (v_index (v := (.int _ _)) rfl ix87 rfl rfl rfl (by omega)) ?_
      refine ops_v (v_assign (v := (.int _ _)) rfl rfl) ?_
      refine ops_nil ?_
      refine W_seq ?_
      refine W_region ?_
      refine ops_v (v_move (v := (.pointer _)) rfl rfl) ?_
      refine ops_v (v_move (v := (.int _ _)) rfl rfl) ?_
      refine ops_call rfl c31 (FnC.ro 1 rfl H (fun _ H => NodeIs hn H)) ?_
      clear H; rintro _ w ⟨rfl, H⟩
      refine ops_v (v_move (v := (.tuple _)) rfl rfl) ?_
      refine ops_v (v_extract (v := (.agg _)) rfl rfl rfl) ?_
      refine ops_v (v_extract (v := (.bool _)) rfl rfl rfl) ?_
      refine ops_alloc H rfl tz42 ?_
      clear H; intro bn0 w H
      refine ops_store (vs := [_, _, _, _, _]) (v := (.agg _)) (cs' := [_, _, _, _, _]) 0 H rfl ts42 rfl rfl rfl rfl rfl rfl rfl rfl ?_
      clear H; intro w H
      refine ops_v (v_assign (v := (.bool _)) rfl rfl) ?_
      refine ops_nil ?_
      refine W_seq ?_
      refine W_region ?_
      refine ops_v (v_move (v := (.bool _)) rfl rfl) ?_
      refine ops_v (v_not rfl rfl _ rfl) ?_
      refine ops_nil ?_
      refine W_if_f rfl ?_
      refine W_skip ?_
      refine W_region ?_
      refine ops_v (v_add _ rfl rfl rfl (wrap_in (by omega) (by omega))) ?_
      refine ops_v (v_move (v := (.int _ _)) rfl rfl) ?_
      refine ops_nil ?_
      exact ⟨1, by decide, ⟨rfl, rfl, rfl, rfl, rfl, rfl, rfl, trivial⟩, H.tail, by decide, fun _ => rfl, by simp, by simp⟩
      -- (apply.Lift: loopend; chunks n0,l,S; ptr 9=l,14=n0)
    | false =>
      refine W_seq ?_
      refine W_region ?_
      refine ops_v (v_lss true rfl rfl rfl (decide_eq_true (by first | omega | (simp only; omega) | rfl | decide))) ?_
      refine ops_nil ?_
      refine W_seq ?_
      refine W_if_t rfl ?_
      refine W_skip ?_
      refine W_seq ?_
      refine W_block ?_
      refine W_seq ?_
      refine W_region ?_
      refine ops_v (v_index (v := (.int _ _)) rfl ix87 rfl rfl rfl (by omega)) ?_
      refine ops_v (v_assign (v := (.int _ _)) rfl rfl) ?_
      refine ops_nil ?_
      refine W_seq ?_
      refine W_region ?_
      refine ops_v (v_move (v := (.pointer _)) rfl rfl) ?_
      refine ops_v (v_move (v := (.int _ _)) rfl rfl) ?_
      refine ops_call rfl c31 (FnC.ro 1 rfl H (fun _ H => NodeIs hn H)) ?_
      clear H; rintro _ w ⟨rfl, H⟩
      refine ops_v (v_move (v := (.tuple _)) rfl rfl) ?_
      refine ops_v (v_extract (v := (.agg _)) rfl rfl rfl) ?_
      refine ops_v (v_extract (v := (.bool _)) rfl rfl rfl) ?_
      refine ops_alloc H rfl tz42 ?_
      clear H; intro bn0 w H
      refine ops_store (vs := [_, _, _, _, _]) (v := (.agg _)) (cs' := [_, _, _, _, _]) 0 H rfl ts42 rfl rfl rfl rfl rfl rfl rfl rfl ?_
      clear H; intro w H
      refine ops_v (v_assign (v := (.bool _)) rfl rfl) ?_
      refine ops_nil ?_
      refine W_seq ?_
      refine W_region ?_
      refine ops_v (v_move (v := (.bool _)) rfl rfl) ?_
      refine ops_v (v_not rfl rfl _ rfl) ?_
      refine ops_nil ?_
      refine W_if_t rfl ?_
      refine W_seq ?_
      refine W_region ?_
      refine ops_v (v_assign (v := _) rfl rfl) ?_
      refine ops_v (v_assign (v := _) rfl rfl) ?_
      refine ops_nil ?_
      refine W_ret ?_
      refine ⟨_, (.tmp (v := (.int _ _)) rfl (.tmp (v := (.int _ _)) rfl .nil)), ?_⟩
      exact ⟨rfl, H.tail.tail⟩
      -- (apply.Lift: ret; chunks n0,l,S; ptr 9=l,14=n0)
  · have ia := ia (by decide)
    cases hn : isN s b with
    | true =>
      refine W_seq ?_
      refine W_region ?_
      refine ops_v (v_lss true rfl rfl rfl (decide_eq_true (by first | omega | (simp only; omega) | rfl | decide))) ?_
      refine ops_nil ?_
      refine W_seq ?_
      refine W_if_t rfl ?_
      refine W_skip ?_
      refine W_seq ?_
      refine W_block ?_
      refine W_seq ?_
      refine W_region ?_
      refine ops_v (v_index (v := (.int _ _)) rfl ix87 rfl rfl rfl (by omega)) ?_
      refine ops_v (v_assign (v := (.int _ _)) rfl rfl) ?_
      refine ops_nil ?_
      refine W_seq ?_
      refine W_region ?_
      refine ops_v (v_move (v := (.pointer _)) rfl rfl) ?_
      refine ops_v (v_move (v := (.int _ _)) rfl rfl) ?_
      refine ops_call rfl c31 (FnC.ro 1 rfl H (fun _ H => NodeIs hn H)) ?_
      clear H; rintro _ w ⟨rfl, H⟩
      refine ops_v (v_move (v := (.tuple _)) rfl rfl) ?_
      refine ops_v (v_extract (v := (.agg _)) rfl rfl rfl) ?_
      refine ops_v (v_extract (v := (.bool _)) rfl rfl rfl) ?_
      refine ops_alloc H rfl tz42 ?_
      clear H; intro bn0 w H
      refine ops_store (vs := [_, _, _, _, _]) (v := (.agg _)) (cs' := [_, _, _, _, _]) 0 H rfl ts42 rfl rfl rfl rfl rfl rfl rfl rfl ?_
      clear H; intro w H
      refine ops_v (v_assign (v := (.bool _)) rfl rfl) ?_
      refine ops_nil ?_
      refine W_seq ?_
      refine W_region ?_
      refine ops_v (v_move (v := (.bool _)) rfl rfl) ?_
      refine ops_v (v_not rfl rfl _ rfl) ?_
      refine ops_nil ?_
      refine W_if_f rfl ?_
      refine W_skip ?_
      refine W_region ?_
      refine ops_v (v_add _ rfl rfl rfl (wrap_in (by omega) (by omega))) ?_
      refine ops_v (v_move (v := (.int _ _)) rfl rfl) ?_
      refine ops_nil ?_
      exact ⟨2, by decide, ⟨rfl, rfl, rfl, rfl, rfl, rfl, rfl, trivial⟩, H.tail, by decide, fun _ => ia, fun _ => rfl, by simp⟩
      -- (apply.Lift: loopend; chunks n0,l,S; ptr 9=l,14=n0)
    | false =>
      refine W_seq ?_
      refine W_region ?_
      refine ops_v (v_lss true rfl rfl rfl (decide_eq_true (by first | omega | (simp only; omega) | rfl | decide))) ?_
      refine ops_nil ?_
      refine W_seq ?_
      refine W_if_t rfl ?_
      refine W_skip ?_
      refine W_seq ?_
      refine W_block ?_
      refine W_seq ?_
      refine W_region ?_
      refine ops_v (v_index (v := (.int _ _)) rfl ix87 rfl rfl rfl (by omega)) ?_
      refine ops_v (v_assign (v := (.int _ _)) rfl rfl) ?_
      refine ops_nil ?_
      refine W_seq ?_
      refine W_region ?_
      refine ops_v (v_move (v := (.pointer _)) rfl rfl) ?_
      refine ops_v (v_move (v := (.int _ _)) rfl rfl) ?_
      refine ops_call rfl c31 (FnC.ro 1 rfl H (fun _ H => NodeIs hn H)) ?_
      clear H; rintro _ w ⟨rfl, H⟩
      refine ops_v (v_move (v := (.tuple _)) rfl rfl) ?_
      refine ops_v (v_extract (v := (.agg _)) rfl rfl rfl) ?_
      refine ops_v (v_extract (v := (.bool _)) rfl rfl rfl) ?_
      refine ops_alloc H rfl tz42 ?_
      clear H; intro bn0 w H
      refine ops_store (vs := [_, _, _, _, _]) (v := (.agg _)) (cs' := [_, _, _, _, _]) 0 H rfl ts42 rfl rfl rfl rfl rfl rfl rfl rfl ?_
      clear H; intro w H
      refine ops_v (v_assign (v := (.bool _)) rfl rfl) ?_
      refine ops_nil ?_
      refine W_seq ?_
      refine W_region ?_
      refine ops_v (v_move (v := (.bool _)) rfl rfl) ?_
      refine ops_v (v_not rfl rfl _ rfl) ?_
      refine ops_nil ?_
      refine W_if_t rfl ?_
      refine W_seq ?_
      refine W_region ?_
      refine ops_v (v_assign (v := _) rfl rfl) ?_
      refine ops_v (v_assign (v := _) rfl rfl) ?_
      refine ops_nil ?_
      refine W_ret ?_
      refine ⟨_, (.tmp (v := (.int _ _)) rfl (.tmp (v := (.int _ _)) rfl .nil)), ?_⟩
      exact ⟨rfl, H.tail.tail⟩
      -- (apply.Lift: ret; chunks n0,l,S; ptr 9=l,14=n0)
  · have ia := ia (by decide)
    have ib := ib (by decide)
    cases hn : isN s c with
    | true => rcases hbad with h | h | h <;> simp_all
    | false =>
      refine W_seq ?_
      refine W_region ?_
      refine ops_v (v_lss true rfl rfl rfl (decide_eq_true (by first | omega | (simp only; omega) | rfl | decide))) ?_
      refine ops_nil ?_
      refine W_seq ?_
      refine W_if_t rfl ?_
      refine W_skip ?_
      refine W_seq ?_
      refine W_block ?_
      refine W_seq ?_
      refine W_region ?_
      refine ops_v (v_index (v := (.int _ _)) rfl ix87 rfl rfl rfl (by omega)) ?_
      refine ops_v (v_assign (v := (.int _ _)) rfl rfl) ?_
      refine ops_nil ?_
      refine W_seq ?_
      refine W_region ?_
      refine ops_v (v_move (v := (.pointer _)) rfl rfl) ?_
      refine ops_v (v_move (v := (.int _ _)) rfl rfl) ?_
      refine ops_call rfl c31 (FnC.ro 1 rfl H (fun _ H => NodeIs hn H)) ?_
      clear H; rintro _ w ⟨rfl, H⟩
      refine ops_v (v_move (v := (.tuple _)) rfl rfl) ?_
      refine ops_v (v_extract (v := (.agg _)) rfl rfl rfl) ?_
      refine ops_v (v_extract (v := (.bool _)) rfl rfl rfl) ?_
      refine ops_alloc H rfl tz42 ?_
      clear H; intro bn0 w H
      refine ops_store (vs := [_, _, _, _, _]) (v := (.agg _)) (cs' := [_, _, _, _, _]) 0 H rfl ts42 rfl rfl rfl rfl rfl rfl rfl rfl ?_
      clear H; intro w H
      refine ops_v (v_assign (v := (.bool _)) rfl rfl) ?_
      refine ops_nil ?_
      refine W_seq ?_
      refine W_region ?_
      refine ops_v (v_move (v := (.bool _)) rfl rfl) ?_
      refine ops_v (v_not rfl rfl _ rfl) ?_
      refine ops_nil ?_
      refine W_if_t rfl ?_
      refine W_seq ?_
      refine W_region ?_
      refine ops_v (v_assign (v := _) rfl rfl) ?_
      refine ops_v (v_assign (v := _) rfl rfl) ?_
      refine ops_nil ?_
      refine W_ret ?_
      refine ⟨_, (.tmp (v := (.int _ _)) rfl (.tmp (v := (.int _ _)) rfl .nil)), ?_⟩
      exact ⟨rfl, H.tail.tail⟩
      -- (apply.Lift: ret; chunks n0,l,S; ptr 9=l,14=n0)
  · have ia := ia (by decide)
    have ib := ib (by decide)
    have ic := ic (by decide)
    rcases hbad with h | h | h <;> simp_all

/-! ### What operators make of numbers -/
theorem truth_ok (b : Bool) (H : Own wb R w) : FnC Try.prog 91 [.bool b] w (fun v w' => v = int (tr b) ∧ Own wb R w') := by
  cases b with
  | true =>
    refine FnC_of Try.func91 rfl rfl rfl rfl ?_
    refine W_seq ?_
    refine W_region ?_
    refine ops_v (v_assign (v := _) rfl rfl) ?_
    refine ops_nil ?_
    refine W_seq ?_
    refine W_seq ?_
    refine W_region ?_
    refine ops_v (v_move (v := (.bool _)) rfl rfl) ?_
    refine ops_nil ?_
    refine W_if_t rfl ?_
    refine W_seq ?_
    refine W_region ?_
    refine ops_v (v_assign (v := _) rfl rfl) ?_
    refine ops_nil ?_
    refine W_ret ?_
    refine ⟨_, (.tmp (v := (.int _ _)) rfl .nil), ?_⟩
    exact ⟨rfl, H⟩
    -- (apply.truth: ret; chunks ; ptr )
  | false =>
    refine FnC_of Try.func91 rfl rfl rfl rfl ?_
    refine W_seq ?_
    refine W_region ?_
    refine ops_v (v_assign (v := _) rfl rfl) ?_
    refine ops_nil ?_
    refine W_seq ?_
    refine W_seq ?_
    refine W_region ?_
    refine ops_v (v_move (v := (.bool _)) rfl rfl) ?_
    refine ops_nil ?_
    refine W_if_f rfl ?_
    refine W_skip ?_
    refine W_seq ?_
    refine W_region ?_
    refine ops_v (v_assign (v := _) rfl rfl) ?_
    refine ops_nil ?_
    refine W_ret ?_
    refine ⟨_, (.tmp (v := (.int _ _)) rfl .nil), ?_⟩
    exact ⟨rfl, H⟩
    -- (apply.truth: ret; chunks ; ptr )
theorem not_ok (a : Int) (H : Own wb R w) : FnC Try.prog 90 [int a] w (fun v w' => v = int (oneF 1 a) ∧ Own wb R w') := by
  refine FnC_of Try.func90 rfl rfl rfl rfl ?_
  refine W_seq ?_
  refine W_region ?_
  refine ops_v (v_assign (v := _) rfl rfl) ?_
  refine ops_nil ?_
  refine W_seq ?_
  refine W_region ?_
  refine ops_v (v_move (v := (.int _ _)) rfl rfl) ?_
  refine ops_v (v_eql _ rfl rfl rfl rfl) ?_
  refine ops_call rfl c91 (truth_ok _ H) ?_
  clear H; rintro _ w ⟨rfl, H⟩
  refine ops_v (v_assign (v := (.int _ _)) rfl rfl) ?_
  refine ops_nil ?_
  refine W_ret ?_
  refine ⟨_, (.tmp (v := (.int _ _)) rfl .nil), ?_⟩
  exact ⟨rfl, H⟩
  -- (apply.one$1: ret; chunks ; ptr )
theorem inc_ok (a : Int) (H : Own wb R w) : FnC Try.prog 92 [int a] w (fun v w' => v = int (oneF 2 a) ∧ Own wb R w') := by
  refine FnC_of Try.func92 rfl rfl rfl rfl ?_
  refine W_seq ?_
  refine W_region ?_
  refine ops_v (v_assign (v := _) rfl rfl) ?_
  refine ops_nil ?_
  refine W_seq ?_
  refine W_region ?_
  refine ops_v (v_move (v := (.int _ _)) rfl rfl) ?_
  refine ops_v (v_add _ rfl rfl rfl rfl) ?_
  refine ops_v (v_assign (v := (.int _ _)) rfl rfl) ?_
  refine ops_nil ?_
  refine W_ret ?_
  refine ⟨_, (.tmp (v := (.int _ _)) rfl .nil), ?_⟩
  exact ⟨rfl, H⟩
  -- (apply.one$2: ret; chunks ; ptr )
theorem min_ok (a b : Int) (H : Own wb R w) : FnC Try.prog 94 [int a, int b] w (fun v w' => v = int (twoF 3 a b) ∧ Own wb R w') := by
  refine FnC_of Try.func94 rfl rfl rfl rfl ?_
  refine W_seq ?_
  refine W_region ?_
  refine ops_v (v_assign (v := _) rfl rfl) ?_
  refine ops_nil ?_
  refine W_seq ?_
  refine W_region ?_
  refine ops_v (v_move (v := (.int _ _)) rfl rfl) ?_
  refine ops_v (v_move (v := (.int _ _)) rfl rfl) ?_
  refine ops_v (v_min rfl rfl rfl rfl) ?_
  refine ops_v (v_assign (v := (.int _ _)) rfl rfl) ?_
  refine ops_nil ?_
  refine W_ret ?_
  refine ⟨_, (.tmp (v := (.int _ _)) rfl .nil), ?_⟩
  exact ⟨rfl, H⟩
  -- (apply.two$1: ret; chunks ; ptr )
theorem max_ok (a b : Int) (H : Own wb R w) : FnC Try.prog 95 [int a, int b] w (fun v w' => v = int (twoF 4 a b) ∧ Own wb R w') := by
  refine FnC_of Try.func95 rfl rfl rfl rfl ?_
  refine W_seq ?_
  refine W_region ?_
  refine ops_v (v_assign (v := _) rfl rfl) ?_
  refine ops_nil ?_
  refine W_seq ?_
  refine W_region ?_
  refine ops_v (v_move (v := (.int _ _)) rfl rfl) ?_
  refine ops_v (v_move (v := (.int _ _)) rfl rfl) ?_
  refine ops_v (v_max rfl rfl rfl rfl) ?_
  refine ops_v (v_assign (v := (.int _ _)) rfl rfl) ?_
  refine ops_nil ?_
  refine W_ret ?_
  refine ⟨_, (.tmp (v := (.int _ _)) rfl .nil), ?_⟩
  exact ⟨rfl, H⟩
  -- (apply.two$2: ret; chunks ; ptr )
theorem add_ok (a b : Int) (H : Own wb R w) : FnC Try.prog 96 [int a, int b] w (fun v w' => v = int (twoF 5 a b) ∧ Own wb R w') := by
  refine FnC_of Try.func96 rfl rfl rfl rfl ?_
  refine W_seq ?_
  refine W_region ?_
  refine ops_v (v_assign (v := _) rfl rfl) ?_
  refine ops_nil ?_
  refine W_seq ?_
  refine W_region ?_
  refine ops_v (v_move (v := (.int _ _)) rfl rfl) ?_
  refine ops_v (v_move (v := (.int _ _)) rfl rfl) ?_
  refine ops_v (v_add _ rfl rfl rfl rfl) ?_
  refine ops_v (v_assign (v := (.int _ _)) rfl rfl) ?_
  refine ops_nil ?_
  refine W_ret ?_
  refine ⟨_, (.tmp (v := (.int _ _)) rfl .nil), ?_⟩
  exact ⟨rfl, H⟩
  -- (apply.two$3: ret; chunks ; ptr )
theorem eq_ok (a b : Int) (H : Own wb R w) : FnC Try.prog 97 [int a, int b] w (fun v w' => v = int (twoF 6 a b) ∧ Own wb R w') := by
  refine FnC_of Try.func97 rfl rfl rfl rfl ?_
  refine W_seq ?_
  refine W_region ?_
  refine ops_v (v_assign (v := _) rfl rfl) ?_
  refine ops_nil ?_
  refine W_seq ?_
  refine W_region ?_
  refine ops_v (v_move (v := (.int _ _)) rfl rfl) ?_
  refine ops_v (v_move (v := (.int _ _)) rfl rfl) ?_
  refine ops_v (v_eql _ rfl rfl rfl rfl) ?_
  refine ops_call rfl c91 (truth_ok _ H) ?_
  clear H; rintro _ w ⟨rfl, H⟩
  refine ops_v (v_assign (v := (.int _ _)) rfl rfl) ?_
  refine ops_nil ?_
  refine W_ret ?_
  refine ⟨_, (.tmp (v := (.int _ _)) rfl .nil), ?_⟩
  exact ⟨rfl, H⟩
  -- (apply.two$4: ret; chunks ; ptr )
theorem and_ok (a b : Int) (H : Own wb R w) : FnC Try.prog 98 [int a, int b] w (fun v w' => v = int (twoF 7 a b) ∧ Own wb R w') := by
  by_cases h : a = 0
  · refine FnC_of Try.func98 rfl rfl rfl rfl ?_
    refine W_seq ?_
    refine W_region ?_
    refine ops_v (v_assign (v := _) rfl rfl) ?_
    refine ops_nil ?_
    refine W_seq ?_
    refine W_region ?_
    refine ops_v (v_move (v := (.int _ _)) rfl rfl) ?_
    refine ops_v (v_neq false rfl rfl rfl (decide_eq_false (by first | omega | (simp only; omega) | rfl | decide))) ?_
    refine ops_v (v_move (v := (.bool _)) rfl rfl) ?_
    refine ops_skip rfl rfl ?_
    refine ops_skip rfl rfl ?_
    refine ops_v (v_pick_f (v := (.bool _)) rfl rfl rfl) ?_
    refine ops_call rfl c91 (truth_ok _ H) ?_
    clear H; rintro _ w ⟨rfl, H⟩
    refine ops_v (v_assign (v := (.int _ _)) rfl rfl) ?_
    refine ops_nil ?_
    refine W_ret ?_
    refine ⟨_, (.tmp (v := (.int _ _)) rfl .nil), ?_⟩
    exact ⟨by simp [twoF, h, tr, packV, int], H⟩
    -- (apply.two$5: ret; chunks ; ptr )
  · refine FnC_of Try.func98 rfl rfl rfl rfl ?_
    refine W_seq ?_
    refine W_region ?_
    refine ops_v (v_assign (v := _) rfl rfl) ?_
    refine ops_nil ?_
    refine W_seq ?_
    refine W_region ?_
    refine ops_v (v_move (v := (.int _ _)) rfl rfl) ?_
    refine ops_v (v_neq true rfl rfl rfl (decide_eq_true (by first | omega | (simp only; omega) | rfl | decide))) ?_
    refine ops_v (v_move (v := (.bool _)) rfl rfl) ?_
    refine ops_v (v_move (v := (.int _ _)) rfl rfl) ?_
    refine ops_v (v_neq _ rfl rfl rfl rfl) ?_
    refine ops_v (v_pick_t (v := (.bool _)) rfl rfl rfl) ?_
    refine ops_call rfl c91 (truth_ok _ H) ?_
    clear H; rintro _ w ⟨rfl, H⟩
    refine ops_v (v_assign (v := (.int _ _)) rfl rfl) ?_
    refine ops_nil ?_
    refine W_ret ?_
    refine ⟨_, (.tmp (v := (.int _ _)) rfl .nil), ?_⟩
    exact ⟨by simp [twoF, h, tr, packV, int], H⟩
    -- (apply.two$5: ret; chunks ; ptr )
theorem or_ok (a b : Int) (H : Own wb R w) : FnC Try.prog 99 [int a, int b] w (fun v w' => v = int (twoF 8 a b) ∧ Own wb R w') := by
  by_cases h : a = 0
  · refine FnC_of Try.func99 rfl rfl rfl rfl ?_
    refine W_seq ?_
    refine W_region ?_
    refine ops_v (v_assign (v := _) rfl rfl) ?_
    refine ops_nil ?_
    refine W_seq ?_
    refine W_region ?_
    refine ops_v (v_move (v := (.int _ _)) rfl rfl) ?_
    refine ops_v (v_neq false rfl rfl rfl (decide_eq_false (by first | omega | (simp only; omega) | rfl | decide))) ?_
    refine ops_v (v_move (v := (.bool _)) rfl rfl) ?_
    refine ops_v (v_move (v := (.int _ _)) rfl rfl) ?_
    refine ops_v (v_neq _ rfl rfl rfl rfl) ?_
    refine ops_v (v_pick_f (v := (.bool _)) rfl rfl rfl) ?_
    refine ops_call rfl c91 (truth_ok _ H) ?_
    clear H; rintro _ w ⟨rfl, H⟩
    refine ops_v (v_assign (v := (.int _ _)) rfl rfl) ?_
    refine ops_nil ?_
    refine W_ret ?_
    refine ⟨_, (.tmp (v := (.int _ _)) rfl .nil), ?_⟩
    exact ⟨by simp [twoF, h, tr, packV, int], H⟩
    -- (apply.two$6: ret; chunks ; ptr )
  · refine FnC_of Try.func99 rfl rfl rfl rfl ?_
    refine W_seq ?_
    refine W_region ?_
    refine ops_v (v_assign (v := _) rfl rfl) ?_
    refine ops_nil ?_
    refine W_seq ?_
    refine W_region ?_
    refine ops_v (v_move (v := (.int _ _)) rfl rfl) ?_
    refine ops_v (v_neq true rfl rfl rfl (decide_eq_true (by first | omega | (simp only; omega) | rfl | decide))) ?_
    refine ops_v (v_move (v := (.bool _)) rfl rfl) ?_
    refine ops_skip rfl rfl ?_
    refine ops_skip rfl rfl ?_
    refine ops_v (v_pick_t (v := (.bool _)) rfl rfl rfl) ?_
    refine ops_call rfl c91 (truth_ok _ H) ?_
    clear H; rintro _ w ⟨rfl, H⟩
    refine ops_v (v_assign (v := (.int _ _)) rfl rfl) ?_
    refine ops_nil ?_
    refine W_ret ?_
    refine ⟨_, (.tmp (v := (.int _ _)) rfl .nil), ?_⟩
    exact ⟨by simp [twoF, h, tr, packV, int], H⟩
    -- (apply.two$6: ret; chunks ; ptr )
/-- a plain function of so many numbers -/
def Fn1 (fid : FuncId) (f : Int → Int) : Prop := callable Try.prog fid = true ∧ ∀ (wb w : World) (R : List Chunk) (a : Int), Own wb R w → FnC Try.prog fid [int a] w (fun v w' => v = int (f a) ∧ Own wb R w')
def Fn2 (fid : FuncId) (f : Int → Int → Int) : Prop := callable Try.prog fid = true ∧ ∀ (wb w : World) (R : List Chunk) (a b : Int), Own wb R w → FnC Try.prog fid [int a, int b] w (fun v w' => v = int (f a b) ∧ Own wb R w')
def funcV (fid : FuncId) : Value := .func (.func fid) ([] : List Value).toArray ([] : List Value).toArray
theorem one_ok (h : t = 1 ∨ t = 2) (H : Own wb R w) : FnC Try.prog 72 [int t] w (fun v w' => ∃ fid, v = funcV fid ∧ Fn1 fid (oneF t) ∧ Own wb R w') := by
  rcases h with rfl | rfl
  · refine FnC_of Try.func72 rfl rfl rfl rfl ?_
    refine W_seq ?_
    refine W_region ?_
    refine ops_v (v_assign (v := _) rfl rfl) ?_
    refine ops_nil ?_
    refine W_seq ?_
    refine W_seq ?_
    refine W_region ?_
    refine ops_v (v_move (v := (.int _ _)) rfl rfl) ?_
    refine ops_nil ?_
    refine W_block ?_
    refine W_seq ?_
    refine W_region ?_
    refine ops_v (v_eql true rfl rfl rfl (decide_eq_true (by first | omega | (simp only; omega) | rfl | decide))) ?_
    refine ops_v (v_assign (v := (.bool _)) rfl rfl) ?_
    refine ops_nil ?_
    refine W_if_t rfl ?_
    refine W_seq ?_
    refine W_region ?_
    refine ops_v (v_assign (v := _) rfl rfl) ?_
    refine ops_nil ?_
    refine W_ret ?_
    refine ⟨_, (.tmp (v := _) rfl .nil), ?_⟩
    exact ⟨_, rfl, ⟨by kernel_rfl, fun _ _ _ a H => not_ok a H⟩, H⟩
    -- (apply.one: ret; chunks ; ptr )
  · refine FnC_of Try.func72 rfl rfl rfl rfl ?_
    refine W_seq ?_
    refine W_region ?_
    refine ops_v (v_assign (v := _) rfl rfl) ?_
    refine ops_nil ?_
    refine W_seq ?_
    refine W_seq ?_
    refine W_region ?_
    refine ops_v (v_move (v := (.int _ _)) rfl rfl) ?_
    refine ops_nil ?_
    refine W_block ?_
    refine W_seq ?_
    refine W_region ?_
    refine ops_v (v_eql false rfl rfl rfl (decide_eq_false (by first | omega | (simp only; omega) | rfl | decide))) ?_
    refine ops_v (v_assign (v := (.bool _)) rfl rfl) ?_
    refine ops_nil ?_
    refine W_if_f rfl ?_
    refine W_seq ?_
    refine W_region ?_
    refine ops_v (v_eql true rfl rfl rfl (decide_eq_true (by first | omega | (simp only; omega) | rfl | decide))) ?_
    refine ops_v (v_assign (v := (.bool _)) rfl rfl) ?_
    refine ops_nil ?_
    refine W_if_t rfl ?_
    refine W_seq ?_
    refine W_region ?_
    refine ops_v (v_assign (v := _) rfl rfl) ?_
    refine ops_nil ?_
    refine W_ret ?_
    refine ⟨_, (.tmp (v := _) rfl .nil), ?_⟩
    exact ⟨_, rfl, ⟨by kernel_rfl, fun _ _ _ a H => inc_ok a H⟩, H⟩
    -- (apply.one: ret; chunks ; ptr )
theorem one_bad (h : ¬(t = 1 ∨ t = 2)) (H : Own wb R w) : FnC Try.prog 72 [int t] w (fun v w' => v = .nilFunc ∧ Own wb R w') := by
  refine FnC_of Try.func72 rfl rfl rfl rfl ?_
  refine W_seq ?_
  refine W_region ?_
  refine ops_v (v_assign (v := _) rfl rfl) ?_
  refine ops_nil ?_
  refine W_seq ?_
  refine W_seq ?_
  refine W_region ?_
  refine ops_v (v_move (v := (.int _ _)) rfl rfl) ?_
  refine ops_nil ?_
  refine W_block ?_
  refine W_seq ?_
  refine W_region ?_
  refine ops_v (v_eql false rfl rfl rfl (decide_eq_false (by first | omega | (simp only; omega) | rfl | decide))) ?_
  refine ops_v (v_assign (v := (.bool _)) rfl rfl) ?_
  refine ops_nil ?_
  refine W_if_f rfl ?_
  refine W_seq ?_
  refine W_region ?_
  refine ops_v (v_eql false rfl rfl rfl (decide_eq_false (by first | omega | (simp only; omega) | rfl | decide))) ?_
  refine ops_v (v_assign (v := (.bool _)) rfl rfl) ?_
  refine ops_nil ?_
  refine W_if_f rfl ?_
  refine W_skip ?_
  refine W_seq ?_
  refine W_region ?_
  refine ops_v (v_assign (v := _) rfl rfl) ?_
  refine ops_nil ?_
  refine W_ret ?_
  refine ⟨_, (.tmp (v := _) rfl .nil), ?_⟩
  exact ⟨rfl, H⟩
  -- (apply.one: ret; chunks ; ptr )
theorem two_ok (h : 3 ≤ t ∧ t ≤ 8) (H : Own wb R w) : FnC Try.prog 75 [int t] w (fun v w' => ∃ fid, v = funcV fid ∧ Fn2 fid (twoF t) ∧ Own wb R w') := by
  obtain rfl | rfl | rfl | rfl | rfl | rfl : t = 3 ∨ t = 4 ∨ t = 5 ∨ t = 6 ∨ t = 7 ∨ t = 8 := by omega
  · refine FnC_of Try.func75 rfl rfl rfl rfl ?_
    refine W_seq ?_
    refine W_region ?_
    refine ops_v (v_assign (v := _) rfl rfl) ?_
    refine ops_nil ?_
    refine W_seq ?_
    refine W_seq ?_
    refine W_region ?_
    refine ops_v (v_move (v := (.int _ _)) rfl rfl) ?_
    refine ops_nil ?_
    refine W_block ?_
    refine W_seq ?_
    refine W_region ?_
    refine ops_v (v_eql true rfl rfl rfl (decide_eq_true (by first | omega | (simp only; omega) | rfl | decide))) ?_
    refine ops_v (v_assign (v := (.bool _)) rfl rfl) ?_
    refine ops_nil ?_
    refine W_if_t rfl ?_
    refine W_seq ?_
    refine W_region ?_
    refine ops_v (v_assign (v := _) rfl rfl) ?_
    refine ops_nil ?_
    refine W_ret ?_
    refine ⟨_, (.tmp (v := _) rfl .nil), ?_⟩
    exact ⟨_, rfl, ⟨by kernel_rfl, fun _ _ _ a b H => min_ok a b H⟩, H⟩
    -- (apply.two: ret; chunks ; ptr )
  · refine FnC_of Try.func75 rfl rfl rfl rfl ?_
    refine W_seq ?_
    refine W_region ?_
    refine ops_v (v_assign (v := _) rfl rfl) ?_
    refine ops_nil ?_
    refine W_seq ?_
    refine W_seq ?_
    refine W_region ?_
    refine ops_v (v_move (v := (.int _ _)) rfl rfl) ?_
    refine ops_nil ?_
    refine W_block ?_
    refine W_seq ?_
    refine W_region ?_
    refine ops_v (v_eql false rfl rfl rfl (decide_eq_false (by first | omega | (simp only; omega) | rfl | decide))) ?_
    refine ops_v (v_assign (v := (.bool _)) rfl rfl) ?_
    refine ops_nil ?_
    refine W_if_f rfl ?_
    refine W_seq ?_
    refine W_region ?_
    refine ops_v (v_eql true rfl rfl rfl (decide_eq_true (by first | omega | (simp only; omega) | rfl | decide))) ?_
    refine ops_v (v_assign (v := (.bool _)) rfl rfl) ?_
    refine ops_nil ?_
    refine W_if_t rfl ?_
    refine W_seq ?_
    refine W_region ?_
    refine ops_v (v_assign (v := _) rfl rfl) ?_
    refine ops_nil ?_
    refine W_ret ?_
    refine ⟨_, (.tmp (v := _) rfl .nil), ?_⟩
    exact ⟨_, rfl, ⟨by kernel_rfl, fun _ _ _ a b H => max_ok a b H⟩, H⟩
    -- (apply.two: ret; chunks ; ptr )
  · refine FnC_of Try.func75 rfl rfl rfl rfl ?_
    refine W_seq ?_
    refine W_region ?_
    refine ops_v (v_assign (v := _) rfl rfl) ?_
    refine ops_nil ?_
    refine W_seq ?_
    refine W_seq ?_
    refine W_region ?_
    refine ops_v (v_move (v := (.int _ _)) rfl rfl) ?_
    refine ops_nil ?_
    refine W_block ?_
    refine W_seq ?_
    refine W_region ?_
    refine ops_v (v_eql false rfl rfl rfl (decide_eq_false (by first | omega | (simp only; omega) | rfl | decide))) ?_
    refine ops_v (v_assign (v := (.bool _)) rfl rfl) ?_
    refine ops_nil ?_
    refine W_if_f rfl ?_
    refine W_seq ?_
    refine W_region ?_
    refine ops_v (v_eql false rfl rfl rfl (decide_eq_false (by first | omega | (simp only; omega) | rfl | decide))) ?_
    refine ops_v (v_assign (v := (.bool _)) rfl rfl) ?_
    refine ops_nil ?_
    refine W_if_f rfl ?_
    refine W_seq ?_
    refine W_region ?_
    refine ops_v (v_eql true rfl rfl rfl (decide_eq_true (by first | omega | (simp only; omega) | rfl | decide))) ?_
    refine ops_v (v_assign (v := (.bool _)) rfl rfl) ?_
    refine ops_nil ?_
    refine W_if_t rfl ?_
    refine W_seq ?_
    refine W_region ?_
    refine ops_v (v_assign (v := _) rfl rfl) ?_
    refine ops_nil ?_
    refine W_ret ?_
    refine ⟨_, (.tmp (v := _) rfl .nil), ?_⟩
    exact ⟨_, rfl, ⟨by kernel_rfl, fun _ _ _ a b H => add_ok a b H⟩, H⟩
    -- (apply.two: ret; chunks ; ptr )
  · refine FnC_of Try.func75 rfl rfl rfl rfl ?_
    refine W_seq ?_
    refine W_region ?_
    refine ops_v (v_assign (v := _) rfl rfl) ?_
    refine ops_nil ?_
    refine W_seq ?_
    refine W_seq ?_
    refine W_region ?_
    refine ops_v (v_move (v := (.int _ _)) rfl rfl) ?_
    refine ops_nil ?_
    refine W_block ?_
    refine W_seq ?_
    refine W_region ?_
    refine ops_v (v_eql false rfl rfl rfl (decide_eq_false (by first | omega | (simp only; omega) | rfl | decide))) ?_
    refine ops_v (v_assign (v := (.bool _)) rfl rfl) ?_
    refine ops_nil ?_
    refine W_if_f rfl ?_
    refine W_seq ?_
    refine W_region ?_
    refine ops_v (v_eql false rfl rfl rfl (decide_eq_false (by first | omega | (simp only; omega) | rfl | decide))) ?_
    refine ops_v (v_assign (v := (.bool _)) rfl rfl) ?_
    refine ops_nil ?_
    refine W_if_f rfl ?_
    refine W_seq ?_
    refine W_region ?_
    refine ops_v (v_eql false rfl rfl rfl (decide_eq_false (by first | omega | (simp only; omega) | rfl | decide))) ?_
    refine ops_v (v_assign (v := (.bool _)) rfl rfl) ?_
    refine ops_nil ?_
    refine W_if_f rfl ?_
    refine W_seq ?_
    refine W_region ?_
    refine ops_v (v_eql true rfl rfl rfl (decide_eq_true (by first | omega | (simp only; omega) | rfl | decide))) ?_
    refine ops_v (v_assign (v := (.bool _)) rfl rfl) ?_
    refine ops_nil ?_
    refine W_if_t rfl ?_
    refine W_seq ?_
    refine W_region ?_
    refine ops_v (v_assign (v := _) rfl rfl) ?_
    refine ops_nil ?_
    refine W_ret ?_
    refine ⟨_, (.tmp (v := _) rfl .nil), ?_⟩
    exact ⟨_, rfl, ⟨by kernel_rfl, fun _ _ _ a b H => eq_ok a b H⟩, H⟩
    -- (apply.two: ret; chunks ; ptr )
  · refine FnC_of Try.func75 rfl rfl rfl rfl ?_
    refine W_seq ?_
    refine W_region ?_
    refine ops_v (v_assign (v := _) rfl rfl) ?_
    refine ops_nil ?_
    refine W_seq ?_
    refine W_seq ?_
    refine W_region ?_
    refine ops_v (v_move (v := (.int _ _)) rfl rfl) ?_
    refine ops_nil ?_
    refine W_block ?_
    refine W_seq ?_
    refine W_region ?_
    refine ops_v (v_eql false rfl rfl rfl (decide_eq_false (by first | omega | (simp only; omega) | rfl | decide))) ?_
    refine ops_v (v_assign (v := (.bool _)) rfl rfl) ?_
    refine ops_nil ?_
    refine W_if_f rfl ?_
    refine W_seq ?_
    refine W_region ?_
    refine ops_v (v_eql false rfl rfl rfl (decide_eq_false (by first | omega | (simp only; omega) | rfl | decide))) ?_
    refine ops_v (v_assign (v := (.bool _)) rfl rfl) ?_
    refine ops_nil ?_
    refine W_if_f rfl ?_
    refine W_seq ?_
    refine W_region ?_
    refine ops_v (v_eql false rfl rfl rfl (decide_eq_false (by first | omega | (simp only; omega) | rfl | decide))) ?_
    refine ops_v (v_assign (v := (.bool _)) rfl rfl) ?_
    refine ops_nil ?_
    refine W_if_f rfl ?_
    refine W_seq ?_
    refine W_region ?_
    refine ops_v (v_eql false rfl rfl rfl (decide_eq_false (by first | omega | (simp only; omega) | rfl | decide))) ?_
    refine ops_v (v_assign (v := (.bool _)) rfl rfl) ?_
    refine ops_nil ?_
    refine W_if_f rfl ?_
    refine W_seq ?_
    refine W_region ?_
    refine ops_v (v_eql true rfl rfl rfl (decide_eq_true (by first | omega | (simp only; omega) | rfl | decide))) ?_
    refine ops_v (v_assign (v := (.bool _)) rfl rfl) ?_
    refine ops_nil ?_
    refine W_if_t rfl ?_
    refine W_seq ?_
    refine W_region ?_
    refine ops_v (v_assign (v := _) rfl rfl) ?_
    refine ops_nil ?_
    refine W_ret ?_
    refine ⟨_, (.tmp (v := _) rfl .nil), ?_⟩
    exact ⟨_, rfl, ⟨by kernel_rfl, fun _ _ _ a b H => and_ok a b H⟩, H⟩
    -- (apply.two: ret; chunks ; ptr )
  · refine FnC_of Try.func75 rfl rfl rfl rfl ?_
    refine W_seq ?_
    refine W_region ?_
    refine ops_v (v_assign (v := _) rfl rfl) ?_
    refine ops_nil ?_
    refine W_seq ?_
    refine W_seq ?_
    refine W_region ?_
    refine ops_v (v_move (v := (.int _ _)) rfl rfl) ?_
    refine ops_nil ?_
    refine W_block ?_
    refine W_seq ?_
    refine W_region ?_
    refine ops_v (v_eql false rfl rfl rfl (decide_eq_false (by first | omega | (simp only; omega) | rfl | decide))) ?_
    refine ops_v (v_assign (v := (.bool _)) rfl rfl) ?_
    refine ops_nil ?_
    refine W_if_f rfl ?_
    refine W_seq ?_
    refine W_region ?_
    refine ops_v (v_eql false rfl rfl rfl (decide_eq_false (by first | omega | (simp only; omega) | rfl | decide))) ?_
    refine ops_v (v_assign (v := (.bool _)) rfl rfl) ?_
    refine ops_nil ?_
    refine W_if_f rfl ?_
    refine W_seq ?_
    refine W_region ?_
    refine ops_v (v_eql false rfl rfl rfl (decide_eq_false (by first | omega | (simp only; omega) | rfl | decide))) ?_
    refine ops_v (v_assign (v := (.bool _)) rfl rfl) ?_
    refine ops_nil ?_
    refine W_if_f rfl ?_
    refine W_seq ?_
    refine W_region ?_
    refine ops_v (v_eql false rfl rfl rfl (decide_eq_false (by first | omega | (simp only; omega) | rfl | decide))) ?_
    refine ops_v (v_assign (v := (.bool _)) rfl rfl) ?_
    refine ops_nil ?_
    refine W_if_f rfl ?_
    refine W_seq ?_
    refine W_region ?_
    refine ops_v (v_eql false rfl rfl rfl (decide_eq_false (by first | omega | (simp only; omega) | rfl | decide))) ?_
    refine ops_v (v_assign (v := (.bool _)) rfl rfl) ?_
    refine ops_nil ?_
    refine W_if_f rfl ?_
    refine W_seq ?_
    refine W_region ?_
    refine ops_v (v_eql true rfl rfl rfl (decide_eq_true (by first | omega | (simp only; omega) | rfl | decide))) ?_
    refine ops_v (v_assign (v := (.bool _)) rfl rfl) ?_
    refine ops_nil ?_
    refine W_if_t rfl ?_
    refine W_seq ?_
    refine W_region ?_
    refine ops_v (v_assign (v := _) rfl rfl) ?_
    refine ops_nil ?_
    refine W_ret ?_
    refine ⟨_, (.tmp (v := _) rfl .nil), ?_⟩
    exact ⟨_, rfl, ⟨by kernel_rfl, fun _ _ _ a b H => or_ok a b H⟩, H⟩
    -- (apply.two: ret; chunks ; ptr )
theorem two_bad (h : ¬(3 ≤ t ∧ t ≤ 8)) (H : Own wb R w) : FnC Try.prog 75 [int t] w (fun v w' => v = .nilFunc ∧ Own wb R w') := by
  refine FnC_of Try.func75 rfl rfl rfl rfl ?_
  refine W_seq ?_
  refine W_region ?_
  refine ops_v (v_assign (v := _) rfl rfl) ?_
  refine ops_nil ?_
  refine W_seq ?_
  refine W_seq ?_
  refine W_region ?_
  refine ops_v (v_move (v := (.int _ _)) rfl rfl) ?_
  refine ops_nil ?_
  refine W_block ?_
  refine W_seq ?_
  refine W_region ?_
  refine ops_v (v_eql false rfl rfl rfl (decide_eq_false (by first | omega | (simp only; omega) | rfl | decide))) ?_
  refine ops_v (v_assign (v := (.bool _)) rfl rfl) ?_
  refine ops_nil ?_
  refine W_if_f rfl ?_
  refine W_seq ?_
  refine W_region ?_
  refine ops_v (v_eql false rfl rfl rfl (decide_eq_false (by first | omega | (simp only; omega) | rfl | decide))) ?_
  refine ops_v (v_assign (v := (.bool _)) rfl rfl) ?_
  refine ops_nil ?_
  refine W_if_f rfl ?_
  refine W_seq ?_
  refine W_region ?_
  refine ops_v (v_eql false rfl rfl rfl (decide_eq_false (by first | omega | (simp only; omega) | rfl | decide))) ?_
  refine ops_v (v_assign (v := (.bool _)) rfl rfl) ?_
  refine ops_nil ?_
  refine W_if_f rfl ?_
  refine W_seq ?_
  refine W_region ?_
  refine ops_v (v_eql false rfl rfl rfl (decide_eq_false (by first | omega | (simp only; omega) | rfl | decide))) ?_
  refine ops_v (v_assign (v := (.bool _)) rfl rfl) ?_
  refine ops_nil ?_
  refine W_if_f rfl ?_
  refine W_seq ?_
  refine W_region ?_
  refine ops_v (v_eql false rfl rfl rfl (decide_eq_false (by first | omega | (simp only; omega) | rfl | decide))) ?_
  refine ops_v (v_assign (v := (.bool _)) rfl rfl) ?_
  refine ops_nil ?_
  refine W_if_f rfl ?_
  refine W_seq ?_
  refine W_region ?_
  refine ops_v (v_eql false rfl rfl rfl (decide_eq_false (by first | omega | (simp only; omega) | rfl | decide))) ?_
  refine ops_v (v_assign (v := (.bool _)) rfl rfl) ?_
  refine ops_nil ?_
  refine W_if_f rfl ?_
  refine W_skip ?_
  refine W_seq ?_
  refine W_region ?_
  refine ops_v (v_assign (v := _) rfl rfl) ?_
  refine ops_nil ?_
  refine W_ret ?_
  refine ⟨_, (.tmp (v := _) rfl .nil), ?_⟩
  exact ⟨rfl, H⟩
  -- (apply.two: ret; chunks ; ptr )
theorem One1_ok {fid : FuncId} {f : Int → Int} (hf : Fn1 fid f) (bf : Nat) : FnOk (.func (.func 74) ([] : List Value).toArray [ptr bf].toArray) (fun a _ _ => f a) (Blk bf [funcV fid] 45) := by
  refine ⟨_, _, rfl, by kernel_rfl, fun wb w R a b c H => ?_⟩
  obtain ⟨hcall, hfn⟩ := hf
  refine FnC_of Try.func74 rfl rfl rfl rfl ?_
  refine W_seq ?_
  refine W_region ?_
  refine ops_v (v_assign (v := _) rfl rfl) ?_
  refine ops_v (v_assign (v := _) rfl rfl) ?_
  refine ops_nil ?_
  refine W_seq ?_
  refine W_region ?_
  refine ops_load (v := _) 0 H rfl tc45 rfl rfl rfl ?_
  refine ops_v (v_move (v := (.int _ _)) rfl rfl) ?_
  refine ops_callV (first := []) rfl rfl hcall (hfn _ _ _ _ H) ?_
  clear H; rintro _ w ⟨rfl, H⟩
  refine ops_v (v_assign (v := (.int _ _)) rfl rfl) ?_
  refine ops_v (v_assign (v := _) rfl rfl) ?_
  refine ops_nil ?_
  refine W_ret ?_
  refine ⟨_, (.tmp (v := (.int _ _)) rfl (.tmp (v := (.int _ _)) rfl .nil)), ?_⟩
  exact ⟨rfl, H⟩
  -- (apply.One$1: ret; chunks f; ptr 3=f)
theorem Two1_ok {fid : FuncId} {f : Int → Int → Int} (hf : Fn2 fid f) (bf : Nat) : FnOk (.func (.func 76) ([] : List Value).toArray [ptr bf].toArray) (fun a b _ => f a b) (Blk bf [funcV fid] 25) := by
  refine ⟨_, _, rfl, by kernel_rfl, fun wb w R a b c H => ?_⟩
  obtain ⟨hcall, hfn⟩ := hf
  refine FnC_of Try.func76 rfl rfl rfl rfl ?_
  refine W_seq ?_
  refine W_region ?_
  refine ops_v (v_assign (v := _) rfl rfl) ?_
  refine ops_v (v_assign (v := _) rfl rfl) ?_
  refine ops_nil ?_
  refine W_seq ?_
  refine W_region ?_
  refine ops_load (v := _) 0 H rfl tc25 rfl rfl rfl ?_
  refine ops_v (v_move (v := (.int _ _)) rfl rfl) ?_
  refine ops_v (v_move (v := (.int _ _)) rfl rfl) ?_
  refine ops_callV (first := []) rfl rfl hcall (hfn _ _ _ _ _ H) ?_
  clear H; rintro _ w ⟨rfl, H⟩
  refine ops_v (v_assign (v := (.int _ _)) rfl rfl) ?_
  refine ops_v (v_assign (v := _) rfl rfl) ?_
  refine ops_nil ?_
  refine W_ret ?_
  refine ⟨_, (.tmp (v := (.int _ _)) rfl (.tmp (v := (.int _ _)) rfl .nil)), ?_⟩
  exact ⟨rfl, H⟩
  -- (apply.Two$1: ret; chunks f; ptr 3=f)
theorem Choose1_ok : FnOk (funcV 77) (fun a b c => chooseF a b c) (PureC True) := by
  refine ⟨_, _, rfl, by kernel_rfl, fun wb w R a b c H => ?_⟩
  by_cases h : a = 0
  · refine FnC_of Try.func77 rfl rfl rfl rfl ?_
    refine W_seq ?_
    refine W_region ?_
    refine ops_v (v_assign (v := _) rfl rfl) ?_
    refine ops_v (v_assign (v := _) rfl rfl) ?_
    refine ops_nil ?_
    refine W_seq ?_
    refine W_seq ?_
    refine W_region ?_
    refine ops_v (v_move (v := (.int _ _)) rfl rfl) ?_
    refine ops_v (v_neq false rfl rfl rfl (decide_eq_false (by first | omega | (simp only; omega) | rfl | decide))) ?_
    refine ops_nil ?_
    refine W_if_f rfl ?_
    refine W_skip ?_
    refine W_seq ?_
    refine W_region ?_
    refine ops_v (v_move (v := (.int _ _)) rfl rfl) ?_
    refine ops_v (v_assign (v := (.int _ _)) rfl rfl) ?_
    refine ops_v (v_assign (v := _) rfl rfl) ?_
    refine ops_nil ?_
    refine W_ret ?_
    refine ⟨_, (.tmp (v := (.int _ _)) rfl (.tmp (v := (.int _ _)) rfl .nil)), ?_⟩
    exact ⟨by simp [chooseF, h, packV, pairV], H⟩
    -- (apply.Choose$1: ret; chunks ; ptr )
  · refine FnC_of Try.func77 rfl rfl rfl rfl ?_
    refine W_seq ?_
    refine W_region ?_
    refine ops_v (v_assign (v := _) rfl rfl) ?_
    refine ops_v (v_assign (v := _) rfl rfl) ?_
    refine ops_nil ?_
    refine W_seq ?_
    refine W_seq ?_
    refine W_region ?_
    refine ops_v (v_move (v := (.int _ _)) rfl rfl) ?_
    refine ops_v (v_neq true rfl rfl rfl (decide_eq_true (by first | omega | (simp only; omega) | rfl | decide))) ?_
    refine ops_nil ?_
    refine W_if_t rfl ?_
    refine W_seq ?_
    refine W_region ?_
    refine ops_v (v_move (v := (.int _ _)) rfl rfl) ?_
    refine ops_v (v_assign (v := (.int _ _)) rfl rfl) ?_
    refine ops_v (v_assign (v := _) rfl rfl) ?_
    refine ops_nil ?_
    refine W_ret ?_
    refine ⟨_, (.tmp (v := (.int _ _)) rfl (.tmp (v := (.int _ _)) rfl .nil)), ?_⟩
    exact ⟨by simp [chooseF, h, packV, pairV], H⟩
    -- (apply.Choose$1: ret; chunks ; ptr )
end
section
variable {wb w : World} {R L : List Chunk} {o : Option Nat} {p : Nat} {t : Int}
/-- One, Two and Choose by what they make -/
theorem One_ok {s s' : St} {a i e : Int} (h : Lifts (opF t) s a a a s' i e) (ht : t = 1 ∨ t = 2) (hw : Wf s) (ia : isN s a = true) (H : Own wb (StoreC p s :: CacheX opF o s :: R) w) :
    FnC Try.prog 44 [ptr p, xptr o, int t, int a] w (fun u w' => u = pairV i e ∧ Own wb (StoreC p s' :: CacheX opF o s' :: R) w') := by
  have he := M.opF_one ht
  refine FnC_of Try.func44 rfl rfl rfl rfl ?_
  refine W_seq ?_
  refine W_region ?_
  refine ops_v (v_assign (v := _) rfl rfl) ?_
  refine ops_v (v_assign (v := _) rfl rfl) ?_
  refine ops_nil ?_
  refine W_seq ?_
  refine W_region ?_
  refine ops_v (v_move (v := (.int _ _)) rfl rfl) ?_
  refine ops_call rfl c72 (one_ok ht H) ?_
  clear H; rintro _ w ⟨fid, rfl, hf, H⟩
  refine ops_alloc H rfl tz45 ?_
  clear H; intro bn0 w H
  refine ops_store (vs := [_]) (v := _) (cs' := [_]) 0 H rfl ts45 rfl rfl rfl rfl rfl rfl rfl rfl ?_
  clear H; intro w H
  refine ops_nil ?_
  refine W_seq ?_
  refine W_seq ?_
  refine W_region ?_
  refine ops_load (v := _) 0 H rfl tc45 rfl rfl rfl ?_
  refine ops_v (v_eql_func rfl (by kernel_rfl) rfl rfl) ?_
  refine ops_nil ?_
  refine W_if_f rfl ?_
  refine W_skip ?_
  refine W_seq ?_
  refine W_region ?_
  refine ops_v (v_move (v := (.pointer _)) rfl rfl) ?_
  refine ops_v (v_move (v := (.pointer _)) rfl rfl) ?_
  refine ops_v (v_move (v := (.int _ _)) rfl rfl) ?_
  refine ops_v (v_makeFunc rfl) ?_
  refine ops_v (v_move (v := (.int _ _)) rfl rfl) ?_
  refine ops_v (v_move (v := (.int _ _)) rfl rfl) ?_
  refine ops_v (v_move (v := (.int _ _)) rfl rfl) ?_
  refine ops_v (v_build (cs := [(.int _ _), (.int _ _), (.int _ _)]) rfl bp87 rfl) ?_
  refine ops_call rfl c73 (Lift_ok h rfl (he ▸ One1_ok hf _) hw ia ia ia H) ?_
  clear H; rintro _ w ⟨rfl, H⟩
  refine ops_v (v_extract (v := (.int _ _)) rfl rfl rfl) ?_
  refine ops_v (v_extract (v := (.int _ _)) rfl rfl rfl) ?_
  refine ops_v (v_assign (v := (.int _ _)) rfl rfl) ?_
  refine ops_v (v_assign (v := (.int _ _)) rfl rfl) ?_
  refine ops_nil ?_
  refine W_ret ?_
  refine ⟨_, (.tmp (v := (.int _ _)) rfl (.tmp (v := (.int _ _)) rfl .nil)), ?_⟩
  exact ⟨rfl, H.tail⟩
  -- (apply.One: ret; chunks n0,S,C; ptr 10=n0)
theorem One_op {s : St} {a : Int} (ht : ¬(t = 1 ∨ t = 2)) (H : Own wb R w) : FnC Try.prog 44 [ptr p, xptr o, int t, int a] w (fun u w' => u = pairV 0 1 ∧ Own wb R w') := by
  refine FnC_of Try.func44 rfl rfl rfl rfl ?_
  refine W_seq ?_
  refine W_region ?_
  refine ops_v (v_assign (v := _) rfl rfl) ?_
  refine ops_v (v_assign (v := _) rfl rfl) ?_
  refine ops_nil ?_
  refine W_seq ?_
  refine W_region ?_
  refine ops_v (v_move (v := (.int _ _)) rfl rfl) ?_
  refine ops_call rfl c72 (one_bad ht H) ?_
  clear H; rintro _ w ⟨rfl, H⟩
  refine ops_alloc H rfl tz45 ?_
  clear H; intro bn0 w H
  refine ops_store (vs := [_]) (v := _) (cs' := [_]) 0 H rfl ts45 rfl rfl rfl rfl rfl rfl rfl rfl ?_
  clear H; intro w H
  refine ops_nil ?_
  refine W_seq ?_
  refine W_seq ?_
  refine W_region ?_
  refine ops_load (v := _) 0 H rfl tc45 rfl rfl rfl ?_
  refine ops_v (v_eql_nofunc rfl (by kernel_rfl) rfl rfl) ?_
  refine ops_nil ?_
  refine W_if_t rfl ?_
  refine W_seq ?_
  refine W_region ?_
  refine ops_v (v_assign (v := _) rfl rfl) ?_
  refine ops_v (v_assign (v := _) rfl rfl) ?_
  refine ops_nil ?_
  refine W_ret ?_
  refine ⟨_, (.tmp (v := (.int _ _)) rfl (.tmp (v := (.int _ _)) rfl .nil)), ?_⟩
  exact ⟨rfl, H.tail⟩
  -- (apply.One: ret; chunks n0; ptr 10=n0)
theorem One_bad {s : St} {a : Int} (ht : t = 1 ∨ t = 2) (ia : isN s a = false) (H : Own wb (StoreC p s :: R) w) : FnC Try.prog 44 [ptr p, xptr o, int t, int a] w (fun u w' => u = pairV 0 1 ∧ Own wb (StoreC p s :: R) w') := by
  refine FnC_of Try.func44 rfl rfl rfl rfl ?_
  refine W_seq ?_
  refine W_region ?_
  refine ops_v (v_assign (v := _) rfl rfl) ?_
  refine ops_v (v_assign (v := _) rfl rfl) ?_
  refine ops_nil ?_
  refine W_seq ?_
  refine W_region ?_
  refine ops_v (v_move (v := (.int _ _)) rfl rfl) ?_
  refine ops_call rfl c72 (one_ok ht H) ?_
  clear H; rintro _ w ⟨fid, rfl, hf, H⟩
  refine ops_alloc H rfl tz45 ?_
  clear H; intro bn0 w H
  refine ops_store (vs := [_]) (v := _) (cs' := [_]) 0 H rfl ts45 rfl rfl rfl rfl rfl rfl rfl rfl ?_
  clear H; intro w H
  refine ops_nil ?_
  refine W_seq ?_
  refine W_seq ?_
  refine W_region ?_
  refine ops_load (v := _) 0 H rfl tc45 rfl rfl rfl ?_
  refine ops_v (v_eql_func rfl (by kernel_rfl) rfl rfl) ?_
  refine ops_nil ?_
  refine W_if_f rfl ?_
  refine W_skip ?_
  refine W_seq ?_
  refine W_region ?_
  refine ops_v (v_move (v := (.pointer _)) rfl rfl) ?_
  refine ops_v (v_move (v := (.pointer _)) rfl rfl) ?_
  refine ops_v (v_move (v := (.int _ _)) rfl rfl) ?_
  refine ops_v (v_makeFunc rfl) ?_
  refine ops_v (v_move (v := (.int _ _)) rfl rfl) ?_
  refine ops_v (v_move (v := (.int _ _)) rfl rfl) ?_
  refine ops_v (v_move (v := (.int _ _)) rfl rfl) ?_
  refine ops_v (v_build (cs := [(.int _ _), (.int _ _), (.int _ _)]) rfl bp87 rfl) ?_
  refine ops_call rfl c73 (FnC.ro 1 rfl H (fun _ H => Lift_bad (.inl ia) H)) ?_
  clear H; rintro _ w ⟨rfl, H⟩
  refine ops_v (v_extract (v := (.int _ _)) rfl rfl rfl) ?_
  refine ops_v (v_extract (v := (.int _ _)) rfl rfl rfl) ?_
  refine ops_v (v_assign (v := (.int _ _)) rfl rfl) ?_
  refine ops_v (v_assign (v := (.int _ _)) rfl rfl) ?_
  refine ops_nil ?_
  refine W_ret ?_
  refine ⟨_, (.tmp (v := (.int _ _)) rfl (.tmp (v := (.int _ _)) rfl .nil)), ?_⟩
  exact ⟨rfl, H.tail⟩
  -- (apply.One: ret; chunks n0,S; ptr 10=n0)
theorem Two_ok {s s' : St} {a b i e : Int} (h : Lifts (opF t) s a b b s' i e) (ht : 3 ≤ t ∧ t ≤ 8) (hw : Wf s) (ia : isN s a = true) (ib : isN s b = true) (H : Own wb (StoreC p s :: CacheX opF o s :: R) w) :
    FnC Try.prog 45 [ptr p, xptr o, int t, int a, int b] w (fun u w' => u = pairV i e ∧ Own wb (StoreC p s' :: CacheX opF o s' :: R) w') := by
  have he := M.opF_two ht
  refine FnC_of Try.func45 rfl rfl rfl rfl ?_
  refine W_seq ?_
  refine W_region ?_
  refine ops_v (v_assign (v := _) rfl rfl) ?_
  refine ops_v (v_assign (v := _) rfl rfl) ?_
  refine ops_nil ?_
  refine W_seq ?_
  refine W_region ?_
  refine ops_v (v_move (v := (.int _ _)) rfl rfl) ?_
  refine ops_call rfl c75 (two_ok ht H) ?_
  clear H; rintro _ w ⟨fid, rfl, hf, H⟩
  refine ops_alloc H rfl tz25 ?_
  clear H; intro bn0 w H
  refine ops_store (vs := [_]) (v := _) (cs' := [_]) 0 H rfl ts25 rfl rfl rfl rfl rfl rfl rfl rfl ?_
  clear H; intro w H
  refine ops_nil ?_
  refine W_seq ?_
  refine W_seq ?_
  refine W_region ?_
  refine ops_load (v := _) 0 H rfl tc25 rfl rfl rfl ?_
  refine ops_v (v_eql_func rfl (by kernel_rfl) rfl rfl) ?_
  refine ops_nil ?_
  refine W_if_f rfl ?_
  refine W_skip ?_
  refine W_seq ?_
  refine W_region ?_
  refine ops_v (v_move (v := (.pointer _)) rfl rfl) ?_
  refine ops_v (v_move (v := (.pointer _)) rfl rfl) ?_
  refine ops_v (v_move (v := (.int _ _)) rfl rfl) ?_
  refine ops_v (v_makeFunc rfl) ?_
  refine ops_v (v_move (v := (.int _ _)) rfl rfl) ?_
  refine ops_v (v_move (v := (.int _ _)) rfl rfl) ?_
  refine ops_v (v_move (v := (.int _ _)) rfl rfl) ?_
  refine ops_v (v_build (cs := [(.int _ _), (.int _ _), (.int _ _)]) rfl bp87 rfl) ?_
  refine ops_call rfl c73 (Lift_ok h rfl (he ▸ Two1_ok hf _) hw ia ib ib H) ?_
  clear H; rintro _ w ⟨rfl, H⟩
  refine ops_v (v_extract (v := (.int _ _)) rfl rfl rfl) ?_
  refine ops_v (v_extract (v := (.int _ _)) rfl rfl rfl) ?_
  refine ops_v (v_assign (v := (.int _ _)) rfl rfl) ?_
  refine ops_v (v_assign (v := (.int _ _)) rfl rfl) ?_
  refine ops_nil ?_
  refine W_ret ?_
  refine ⟨_, (.tmp (v := (.int _ _)) rfl (.tmp (v := (.int _ _)) rfl .nil)), ?_⟩
  exact ⟨rfl, H.tail⟩
  -- (apply.Two: ret; chunks n0,S,C; ptr 12=n0)
theorem Two_op {s : St} {a b : Int} (ht : ¬(3 ≤ t ∧ t ≤ 8)) (H : Own wb R w) : FnC Try.prog 45 [ptr p, xptr o, int t, int a, int b] w (fun u w' => u = pairV 0 1 ∧ Own wb R w') := by
  refine FnC_of Try.func45 rfl rfl rfl rfl ?_
  refine W_seq ?_
  refine W_region ?_
  refine ops_v (v_assign (v := _) rfl rfl) ?_
  refine ops_v (v_assign (v := _) rfl rfl) ?_
  refine ops_nil ?_
  refine W_seq ?_
  refine W_region ?_
  refine ops_v (v_move (v := (.int _ _)) rfl rfl) ?_
  refine ops_call rfl c75 (two_bad ht H) ?_
  clear H; rintro _ w ⟨rfl, H⟩
  refine ops_alloc H rfl tz25 ?_
  clear H; intro bn0 w H
  refine ops_store (vs := [_]) (v := _) (cs' := [_]) 0 H rfl ts25 rfl rfl rfl rfl rfl rfl rfl rfl ?_
  clear H; intro w H
  refine ops_nil ?_
  refine W_seq ?_
  refine W_seq ?_
  refine W_region ?_
  refine ops_load (v := _) 0 H rfl tc25 rfl rfl rfl ?_
  refine ops_v (v_eql_nofunc rfl (by kernel_rfl) rfl rfl) ?_
  refine ops_nil ?_
  refine W_if_t rfl ?_
  refine W_seq ?_
  refine W_region ?_
  refine ops_v (v_assign (v := _) rfl rfl) ?_
  refine ops_v (v_assign (v := _) rfl rfl) ?_
  refine ops_nil ?_
  refine W_ret ?_
  refine ⟨_, (.tmp (v := (.int _ _)) rfl (.tmp (v := (.int _ _)) rfl .nil)), ?_⟩
  exact ⟨rfl, H.tail⟩
  -- (apply.Two: ret; chunks n0; ptr 12=n0)
theorem Two_bad {s : St} {a b : Int} (ht : 3 ≤ t ∧ t ≤ 8) (ib : isN s b = false) (H : Own wb (StoreC p s :: R) w) : FnC Try.prog 45 [ptr p, xptr o, int t, int a, int b] w (fun u w' => u = pairV 0 1 ∧ Own wb (StoreC p s :: R) w') := by
  refine FnC_of Try.func45 rfl rfl rfl rfl ?_
  refine W_seq ?_
  refine W_region ?_
  refine ops_v (v_assign (v := _) rfl rfl) ?_
  refine ops_v (v_assign (v := _) rfl rfl) ?_
  refine ops_nil ?_
  refine W_seq ?_
  refine W_region ?_
  refine ops_v (v_move (v := (.int _ _)) rfl rfl) ?_
  refine ops_call rfl c75 (two_ok ht H) ?_
  clear H; rintro _ w ⟨fid, rfl, hf, H⟩
  refine ops_alloc H rfl tz25 ?_
  clear H; intro bn0 w H
  refine ops_store (vs := [_]) (v := _) (cs' := [_]) 0 H rfl ts25 rfl rfl rfl rfl rfl rfl rfl rfl ?_
  clear H; intro w H
  refine ops_nil ?_
  refine W_seq ?_
  refine W_seq ?_
  refine W_region ?_
  refine ops_load (v := _) 0 H rfl tc25 rfl rfl rfl ?_
  refine ops_v (v_eql_func rfl (by kernel_rfl) rfl rfl) ?_
  refine ops_nil ?_
  refine W_if_f rfl ?_
  refine W_skip ?_
  refine W_seq ?_
  refine W_region ?_
  refine ops_v (v_move (v := (.pointer _)) rfl rfl) ?_
  refine ops_v (v_move (v := (.pointer _)) rfl rfl) ?_
  refine ops_v (v_move (v := (.int _ _)) rfl rfl) ?_
  refine ops_v (v_makeFunc rfl) ?_
  refine ops_v (v_move (v := (.int _ _)) rfl rfl) ?_
  refine ops_v (v_move (v := (.int _ _)) rfl rfl) ?_
  refine ops_v (v_move (v := (.int _ _)) rfl rfl) ?_
  refine ops_v (v_build (cs := [(.int _ _), (.int _ _), (.int _ _)]) rfl bp87 rfl) ?_
  refine ops_call rfl c73 (FnC.ro 1 rfl H (fun _ H => Lift_bad (.inr (.inl ib)) H)) ?_
  clear H; rintro _ w ⟨rfl, H⟩
  refine ops_v (v_extract (v := (.int _ _)) rfl rfl rfl) ?_
  refine ops_v (v_extract (v := (.int _ _)) rfl rfl rfl) ?_
  refine ops_v (v_assign (v := (.int _ _)) rfl rfl) ?_
  refine ops_v (v_assign (v := (.int _ _)) rfl rfl) ?_
  refine ops_nil ?_
  refine W_ret ?_
  refine ⟨_, (.tmp (v := (.int _ _)) rfl (.tmp (v := (.int _ _)) rfl .nil)), ?_⟩
  exact ⟨rfl, H.tail⟩
  -- (apply.Two: ret; chunks n0,S; ptr 12=n0)
theorem Choose_ok {s s' : St} {a b c i e : Int} (h : Lifts (opF 100) s a b c s' i e) (hw : Wf s) (ia : isN s a = true) (ib : isN s b = true) (ic : isN s c = true) (H : Own wb (StoreC p s :: CacheX opF o s :: R) w) :
    FnC Try.prog 46 [ptr p, xptr o, int a, int b, int c] w (fun u w' => u = pairV i e ∧ Own wb (StoreC p s' :: CacheX opF o s' :: R) w') := by
  have H := H.toPure trivial (p := True)
  refine FnC_of Try.func46 rfl rfl rfl rfl ?_
  refine W_seq ?_
  refine W_region ?_
  refine ops_v (v_assign (v := _) rfl rfl) ?_
  refine ops_v (v_assign (v := _) rfl rfl) ?_
  refine ops_nil ?_
  refine W_seq ?_
  refine W_region ?_
  refine ops_v (v_move (v := (.pointer _)) rfl rfl) ?_
  refine ops_v (v_move (v := (.pointer _)) rfl rfl) ?_
  refine ops_v (v_move (v := (.int _ _)) rfl rfl) ?_
  refine ops_v (v_move (v := (.int _ _)) rfl rfl) ?_
  refine ops_v (v_move (v := (.int _ _)) rfl rfl) ?_
  refine ops_v (v_build (cs := [(.int _ _), (.int _ _), (.int _ _)]) rfl bp87 rfl) ?_
  refine ops_call rfl c73 (Lift_ok (fv := funcV 77) h rfl (M.opF_choose ▸ Choose1_ok) hw ia ib ic H) ?_
  clear H; rintro _ w ⟨rfl, H⟩
  refine ops_v (v_extract (v := (.int _ _)) rfl rfl rfl) ?_
  refine ops_v (v_extract (v := (.int _ _)) rfl rfl rfl) ?_
  refine ops_v (v_assign (v := (.int _ _)) rfl rfl) ?_
  refine ops_v (v_assign (v := (.int _ _)) rfl rfl) ?_
  refine ops_nil ?_
  refine W_ret ?_
  refine ⟨_, (.tmp (v := (.int _ _)) rfl (.tmp (v := (.int _ _)) rfl .nil)), ?_⟩
  exact ⟨rfl, H.tail⟩
  -- (apply.Choose: ret; chunks f,S,C; ptr )
theorem Choose_bad {s : St} {a b c : Int} (ic : isN s c = false) (H : Own wb (StoreC p s :: R) w) : FnC Try.prog 46 [ptr p, xptr o, int a, int b, int c] w (fun u w' => u = pairV 0 1 ∧ Own wb (StoreC p s :: R) w') := by
  refine FnC_of Try.func46 rfl rfl rfl rfl ?_
  refine W_seq ?_
  refine W_region ?_
  refine ops_v (v_assign (v := _) rfl rfl) ?_
  refine ops_v (v_assign (v := _) rfl rfl) ?_
  refine ops_nil ?_
  refine W_seq ?_
  refine W_region ?_
  refine ops_v (v_move (v := (.pointer _)) rfl rfl) ?_
  refine ops_v (v_move (v := (.pointer _)) rfl rfl) ?_
  refine ops_v (v_move (v := (.int _ _)) rfl rfl) ?_
  refine ops_v (v_move (v := (.int _ _)) rfl rfl) ?_
  refine ops_v (v_move (v := (.int _ _)) rfl rfl) ?_
  refine ops_v (v_build (cs := [(.int _ _), (.int _ _), (.int _ _)]) rfl bp87 rfl) ?_
  refine ops_call rfl c73 (Lift_bad (.inr (.inr ic)) H) ?_
  clear H; rintro _ w ⟨rfl, H⟩
  refine ops_v (v_extract (v := (.int _ _)) rfl rfl rfl) ?_
  refine ops_v (v_extract (v := (.int _ _)) rfl rfl rfl) ?_
  refine ops_v (v_assign (v := (.int _ _)) rfl rfl) ?_
  refine ops_v (v_assign (v := (.int _ _)) rfl rfl) ?_
  refine ops_nil ?_
  refine W_ret ?_
  refine ⟨_, (.tmp (v := (.int _ _)) rfl (.tmp (v := (.int _ _)) rfl .nil)), ?_⟩
  exact ⟨rfl, H⟩
  -- (apply.Choose: ret; chunks S; ptr )
end
end Go.Proofs.Ytchikjmhncojfaa.W
