/- The walks of package apply's operators. Conditions: none. -/
import Derived.Test.YtchikjmhncojfaaDoorApply3
import Derived.Test.YtchikjmhncojfaaDoorOpsM
set_option linter.unusedVariables false
namespace Go.Proofs.YtchikjmhncojfaaDoor.W
open Go Go.Proofs Go.RowKit
open Go.Proofs.YtchikjmhncojfaaDoor.M (Br St get getZ isN idx has down Wf rank i64 leafB askB Lifts lnk val sideOf linkOf Ext tr oneF twoF chooseF opF)

section
variable {wb w : World} {R L : List Chunk} {F : Int → Int → Int → Int → Int} {o : Option Nat} {p : Nat} {t : Int} {fv : Value} {C : Chunk}
theorem Own.rot3 {A B C : Chunk} (H : Own wb (A :: B :: C :: R) w) : Own wb (B :: C :: A :: R) w := H.perm ((List.Perm.swap B A _).trans ((List.Perm.swap C A _).cons B))
theorem Own.rot3' {A B C : Chunk} (H : Own wb (B :: C :: A :: R) w) : Own wb (A :: B :: C :: R) w := H.perm (((List.Perm.swap A C _).cons B).trans (List.Perm.swap A B _))
theorem NodeIs {p : Nat} {st : St} {id : Int} {b : Bool} (h : isN st id = b) (H : Own wb (StoreC p st :: R) w) : FnC Tryd.prog 27 [ptr p, int id] w (fun v w' => v = nodeV (getZ st id) b ∧ Own wb (StoreC p st :: R) w') := by
  subst h; exact NodeZ_ok id H

set_option maxHeartbeats 1000000 in
theorem Lift_ok {f : Int → Int → Int → Int} {s s' : St} {a b c i e : Int} (h : Lifts f s a b c s' i e) (hF : F t = f) (hf : FnOk fv f C) (hw : Wf s) (ia : isN s a = true) (ib : isN s b = true) (ic : isN s c = true)
    (H : Own wb (C :: StoreC p s :: CacheX F o s :: R) w) :
    FnC Tryd.prog 24 [ptr p, xptr o, int t, fv, .agg [int a, int b, int c].toArray] w (fun u w' => u = pairV i e ∧ Own wb (C :: StoreC p s' :: CacheX F o s' :: R) w') := by
  have H := H.rot3
  have hf' := hf
  obtain ⟨fid, cap, rfl, _, _⟩ := hf'
  refine FnC_of Tryd.func24 rfl rfl rfl rfl ?_
  refine W_seq ?_
  refine W_region ?_
  refine ops_box (v := (.agg _)) (cs := [_, _, _]) H rfl rfl rfl ?_
  clear H; intro bn0 w H
  refine ops_v (v_assign (v := _) rfl rfl) ?_
  refine ops_v (v_assign (v := _) rfl rfl) ?_
  refine ops_nil ?_
  refine W_seq ?_
  refine W_seq ?_
  refine W_region ?_
  refine ops_loadA (vs := [_, _, _]) 0 H rfl ta53 rfl rfl rfl rfl ?_
  refine ops_v (v_move (v := _) rfl rfl) ?_
  refine ops_nil ?_
  refine W_block ?_
  -- (apply.Lift: loop; chunks n0,S,C,f; ptr 9=n0)
  generalize bn0 = bl at *
  refine W_loopS (fun (i : Nat) => [(0, ptr p), (1, xptr o), (2, int t), (3, .func (.func fid) ([] : List Value).toArray cap.toArray), (9, ptr bl), (16, .agg [int a, int b, int c].toArray), (17, .int .i64 i)])
    (fun i w => Own wb (Blk bl [int a, int b, int c] 53 :: StoreC p s :: CacheX F o s :: C :: R) w ∧ i ≤ 3)
    (fun i => 3 - i) 0 ⟨rfl, rfl, rfl, rfl, rfl, rfl, rfl, trivial⟩ ⟨H, by decide⟩ ?_
  clear H
  rintro i e w ⟨H, hi⟩
  obtain rfl | rfl | rfl | rfl : i = 0 ∨ i = 1 ∨ i = 2 ∨ i = 3 := by omega
  · refine W_seq ?_
    refine W_region ?_
    refine ops_v (v_lss true rfl rfl rfl (decide_eq_true (by first | omega | (simp only; omega) | rfl | decide))) ?_
    refine ops_nil ?_
    refine W_seq ?_
    refine W_if_t rfl ?_
    refine W_skip ?_
    refine W_seq ?_
    refine W_block ?_
    refine W_seq ?_
    refine W_region ?_
    refine ops_v (v_index (v := (.int _ _)) rfl ix53 rfl rfl rfl (by omega)) ?_
    refine ops_v (v_assign (v := (.int _ _)) rfl rfl) ?_
    refine ops_nil ?_
    refine W_seq ?_
    refine W_region ?_
    refine ops_v (v_move (v := (.pointer _)) rfl rfl) ?_
    refine ops_v (v_move (v := (.int _ _)) rfl rfl) ?_
    refine ops_call rfl c27 (FnC.ro 1 rfl H (fun _ H => NodeIs ia H)) ?_
    clear H; rintro _ w ⟨rfl, H⟩
    refine ops_v (v_move (v := (.tuple _)) rfl rfl) ?_
    refine ops_v (v_extract (v := (.agg _)) rfl rfl rfl) ?_
    refine ops_v (v_extract (v := (.bool _)) rfl rfl rfl) ?_
    refine ops_alloc H rfl tz56 ?_
    clear H; intro bn0 w H
    refine ops_store (vs := [_, _, _, _, _]) (v := (.agg _)) (cs' := [_, _, _, _, _]) 0 H rfl ts56 rfl rfl rfl rfl rfl rfl rfl rfl ?_
    clear H; intro w H
    refine ops_v (v_assign (v := (.bool _)) rfl rfl) ?_
    refine ops_nil ?_
    refine W_seq ?_
    refine W_region ?_
    refine ops_v (v_move (v := (.bool _)) rfl rfl) ?_
    refine ops_v (v_not rfl rfl _ rfl) ?_
    refine ops_nil ?_
    refine W_if_f rfl ?_
    refine W_skip ?_
    refine W_region ?_
    refine ops_v (v_add _ rfl rfl rfl (wrap_in (by omega) (by omega))) ?_
    refine ops_v (v_move (v := (.int _ _)) rfl rfl) ?_
    refine ops_nil ?_
    exact ⟨1, by decide, ⟨rfl, rfl, rfl, rfl, rfl, rfl, rfl, trivial⟩, H.tail, by decide⟩
    -- (apply.Lift: loopend; chunks n0,l,S,C,f; ptr 9=l,14=n0)
  · refine W_seq ?_
    refine W_region ?_
    refine ops_v (v_lss true rfl rfl rfl (decide_eq_true (by first | omega | (simp only; omega) | rfl | decide))) ?_
    refine ops_nil ?_
    refine W_seq ?_
    refine W_if_t rfl ?_
    refine W_skip ?_
    refine W_seq ?_
    refine W_block ?_
    refine W_seq ?_
    refine W_region ?_
    refine ops_v (v_index (v := (.int _ _)) rfl ix53 rfl rfl rfl (by omega)) ?_
    refine ops_v (v_assign (v := (.int _ _)) rfl rfl) ?_
    refine ops_nil ?_
    refine W_seq ?_
    refine W_region ?_
    refine ops_v (v_move (v := (.pointer _)) rfl rfl) ?_
    refine ops_v (v_move (v := (.int _ _)) rfl rfl) ?_
    refine ops_call rfl c27 (FnC.ro 1 rfl H (fun _ H => NodeIs ib H)) ?_
    clear H; rintro _ w ⟨rfl, H⟩
    refine ops_v (v_move (v := (.tuple _)) rfl rfl) ?_
    refine ops_v (v_extract (v := (.agg _)) rfl rfl rfl) ?_
    refine ops_v (v_extract (v := (.bool _)) rfl rfl rfl) ?_
    refine ops_alloc H rfl tz56 ?_
    clear H; intro bn0 w H
    refine ops_store (vs := [_, _, _, _, _]) (v := (.agg _)) (cs' := [_, _, _, _, _]) 0 H rfl ts56 rfl rfl rfl rfl rfl rfl rfl rfl ?_
    clear H; intro w H
    refine ops_v (v_assign (v := (.bool _)) rfl rfl) ?_
    refine ops_nil ?_
    refine W_seq ?_
    refine W_region ?_
    refine ops_v (v_move (v := (.bool _)) rfl rfl) ?_
    refine ops_v (v_not rfl rfl _ rfl) ?_
    refine ops_nil ?_
    refine W_if_f rfl ?_
    refine W_skip ?_
    refine W_region ?_
    refine ops_v (v_add _ rfl rfl rfl (wrap_in (by omega) (by omega))) ?_
    refine ops_v (v_move (v := (.int _ _)) rfl rfl) ?_
    refine ops_nil ?_
    exact ⟨2, by decide, ⟨rfl, rfl, rfl, rfl, rfl, rfl, rfl, trivial⟩, H.tail, by decide⟩
    -- (apply.Lift: loopend; chunks n0,l,S,C,f; ptr 9=l,14=n0)
  · refine W_seq ?_
    refine W_region ?_
    refine ops_v (v_lss true rfl rfl rfl (decide_eq_true (by first | omega | (simp only; omega) | rfl | decide))) ?_
    refine ops_nil ?_
    refine W_seq ?_
    refine W_if_t rfl ?_
    refine W_skip ?_
    refine W_seq ?_
    refine W_block ?_
    refine W_seq ?_
    refine W_region ?_
    refine ops_v (v_index (v := (.int _ _)) rfl ix53 rfl rfl rfl (by omega)) ?_
    refine ops_v (v_assign (v := (.int _ _)) rfl rfl) ?_
    refine ops_nil ?_
    refine W_seq ?_
    refine W_region ?_
    refine ops_v (v_move (v := (.pointer _)) rfl rfl) ?_
    refine ops_v (v_move (v := (.int _ _)) rfl rfl) ?_
    refine ops_call rfl c27 (FnC.ro 1 rfl H (fun _ H => NodeIs ic H)) ?_
    clear H; rintro _ w ⟨rfl, H⟩
    refine ops_v (v_move (v := (.tuple _)) rfl rfl) ?_
    refine ops_v (v_extract (v := (.agg _)) rfl rfl rfl) ?_
    refine ops_v (v_extract (v := (.bool _)) rfl rfl rfl) ?_
    refine ops_alloc H rfl tz56 ?_
    clear H; intro bn0 w H
    refine ops_store (vs := [_, _, _, _, _]) (v := (.agg _)) (cs' := [_, _, _, _, _]) 0 H rfl ts56 rfl rfl rfl rfl rfl rfl rfl rfl ?_
    clear H; intro w H
    refine ops_v (v_assign (v := (.bool _)) rfl rfl) ?_
    refine ops_nil ?_
    refine W_seq ?_
    refine W_region ?_
    refine ops_v (v_move (v := (.bool _)) rfl rfl) ?_
    refine ops_v (v_not rfl rfl _ rfl) ?_
    refine ops_nil ?_
    refine W_if_f rfl ?_
    refine W_skip ?_
    refine W_region ?_
    refine ops_v (v_add _ rfl rfl rfl (wrap_in (by omega) (by omega))) ?_
    refine ops_v (v_move (v := (.int _ _)) rfl rfl) ?_
    refine ops_nil ?_
    exact ⟨3, by decide, ⟨rfl, rfl, rfl, rfl, rfl, rfl, rfl, trivial⟩, H.tail, by decide⟩
    -- (apply.Lift: loopend; chunks n0,l,S,C,f; ptr 9=l,14=n0)
  · refine W_seq ?_
    refine W_region ?_
    refine ops_v (v_lss false rfl rfl rfl (decide_eq_false (by first | omega | (simp only; omega) | rfl | decide))) ?_
    refine ops_nil ?_
    refine W_seq ?_
    refine W_if_f rfl ?_
    refine W_exit ?_
    refine W_seq ?_
    refine W_region ?_
    refine ops_v (v_move (v := (.pointer _)) rfl rfl) ?_
    refine ops_v (v_move (v := (.pointer _)) rfl rfl) ?_
    refine ops_v (v_move (v := (.int _ _)) rfl rfl) ?_
    refine ops_v (v_move (v := _) rfl rfl) ?_
    refine ops_v (v_build (cs := [(.pointer _), (.pointer _), (.int _ _), _]) rfl bp74 rfl) ?_
    refine ops_v (v_move (v := (.int _ _)) rfl rfl) ?_
    refine ops_v (v_indexAddr_arr rfl ae53 rfl rfl (by first | omega | decide) rfl) ?_
    refine ops_load (v := (.int _ _)) 0 H rfl tc3 rfl rfl rfl ?_
    refine ops_v (v_indexAddr_arr rfl ae53 rfl rfl (by first | omega | decide) rfl) ?_
    refine ops_load (v := (.int _ _)) 0 H rfl tc3 rfl rfl rfl ?_
    refine ops_v (v_indexAddr_arr rfl ae53 rfl rfl (by first | omega | decide) rfl) ?_
    refine ops_load (v := (.int _ _)) 0 H rfl tc3 rfl rfl rfl ?_
    refine ops_v (v_build (cs := [(.int _ _), (.int _ _), (.int _ _), (.int _ _)]) rfl bp76 rfl) ?_
    refine ops_call rfl c36 (FnC.mid (A := [_]) (B := [_, _, _]) (B' := [_, _, _]) H (fun _ H => lift_ok h hF hf hw ia ib ic H)) ?_
    clear H; rintro _ w ⟨rfl, H⟩
    simp only [List.cons_append, List.nil_append] at H
    refine ops_v (v_extract (v := (.int _ _)) rfl rfl rfl) ?_
    refine ops_v (v_extract (v := (.int _ _)) rfl rfl rfl) ?_
    refine ops_v (v_assign (v := (.int _ _)) rfl rfl) ?_
    refine ops_v (v_assign (v := (.int _ _)) rfl rfl) ?_
    refine ops_nil ?_
    refine W_ret ?_
    refine ⟨_, (.tmp (v := (.int _ _)) rfl (.tmp (v := (.int _ _)) rfl .nil)), ?_⟩
    exact ⟨rfl, H.tail.rot3'⟩
    -- (apply.Lift: ret; chunks l,S,C,f; ptr 9=l,35=l,37=l,39=l)
set_option maxHeartbeats 1000000 in
theorem Lift_bad {s : St} {a b c : Int} (hbad : isN s a = false ∨ isN s b = false ∨ isN s c = false) (H : Own wb (StoreC p s :: R) w) :
    FnC Tryd.prog 24 [ptr p, xptr o, int t, fv, .agg [int a, int b, int c].toArray] w (fun u w' => u = pairV 0 1 ∧ Own wb (StoreC p s :: R) w') := by
  refine FnC_of Tryd.func24 rfl rfl rfl rfl ?_
  refine W_seq ?_
  refine W_region ?_
  refine ops_box (v := (.agg _)) (cs := [_, _, _]) H rfl rfl rfl ?_
  clear H; intro bn0 w H
  refine ops_v (v_assign (v := _) rfl rfl) ?_
  refine ops_v (v_assign (v := _) rfl rfl) ?_
  refine ops_nil ?_
  refine W_seq ?_
  refine W_seq ?_
  refine W_region ?_
  refine ops_loadA (vs := [_, _, _]) 0 H rfl ta53 rfl rfl rfl rfl ?_
  refine ops_v (v_move (v := _) rfl rfl) ?_
  refine ops_nil ?_
  refine W_block ?_
  -- (apply.Lift: loop; chunks n0,S; ptr 9=n0)
  generalize bn0 = bl at *
  refine W_loopS (fun (i : Nat) => [(0, ptr p), (1, xptr o), (2, int t), (3, fv), (9, ptr bl), (16, .agg [int a, int b, int c].toArray), (17, .int .i64 i)])
    (fun i w => Own wb (Blk bl [int a, int b, int c] 53 :: StoreC p s :: R) w ∧ i ≤ 3 ∧ (1 ≤ i → isN s a = true) ∧ (2 ≤ i → isN s b = true) ∧ (3 ≤ i → isN s c = true))
    (fun i => 3 - i) 0 ⟨rfl, rfl, rfl, rfl, rfl, rfl, rfl, trivial⟩ ⟨H, by decide, by simp, by simp, by simp⟩ ?_
  clear H
  rintro i e w ⟨H, hi, ia, ib, ic⟩
  obtain rfl | rfl | rfl | rfl : i = 0 ∨ i = 1 ∨ i = 2 ∨ i = 3 := by omega
  · cases hn : isN s a with
    | true =>
      refine W_seq ?_
      refine W_region ?_
      refine ops_v (v_lss true rfl rfl rfl (decide_eq_true (by first | omega | (simp only; omega) | rfl | decide))) ?_
      refine ops_nil ?_
      refine W_seq ?_
      refine W_if_t rfl ?_
      refine W_skip ?_
      refine W_seq ?_
      refine W_block ?_
      refine W_seq ?_
      refine W_region ?_
      refine ops_v (v_index (v := (.int _ _)) rfl ix53 rfl rfl rfl (by omega)) ?_
      refine ops_v (v_assign (v := (.int _ _)) rfl rfl) ?_
      refine ops_nil ?_
      refine W_seq ?_
      refine W_region ?_
      refine ops_v (v_move (v := (.pointer _)) rfl rfl) ?_
      refine ops_v (v_move (v := (.int _ _)) rfl rfl) ?_
      refine ops_call rfl c27 (FnC.ro 1 rfl H (fun _ H => NodeIs hn H)) ?_
      clear H; rintro _ w ⟨rfl, H⟩
      refine ops_v (v_move (v := (.tuple _)) rfl rfl) ?_
      refine ops_v (v_extract (v := (.agg _)) rfl rfl rfl) ?_
      refine ops_v (v_extract (v := (.bool _)) rfl rfl rfl) ?_
      refine ops_alloc H rfl tz56 ?_
      clear H; intro bn0 w H
      refine ops_store (vs := [_, _, _, _, _]) (v := (.agg _)) (cs' := [_, _, _, _, _]) 0 H rfl ts56 rfl rfl rfl rfl rfl rfl rfl rfl ?_
      clear H; intro w H
      refine ops_v (v_assign (v := (.bool _)) rfl rfl) ?_
      refine ops_nil ?_
      refine W_seq ?_
      refine W_region ?_
      refine ops_v (v_move (v := (.bool _)) rfl rfl) ?_
      refine ops_v (v_not rfl rfl _ rfl) ?_
      refine ops_nil ?_
      refine W_if_f rfl ?_
      refine W_skip ?_
      refine W_region ?_
      refine ops_v (v_add _ rfl rfl rfl (wrap_in (by omega) (by omega))) ?_
      refine ops_v (v_move (v := (.int _ _)) rfl rfl) ?_
      refine ops_nil ?_
      exact ⟨1, by decide, ⟨rfl, rfl, rfl, rfl, rfl, rfl, rfl, trivial⟩, H.tail, by decide, fun _ => rfl, by simp, by simp⟩
      -- (apply.Lift: loopend; chunks n0,l,S; ptr 9=l,14=n0)
    | false =>
      refine W_seq ?_
      refine W_region ?_
      refine ops_v (v_lss true rfl rfl rfl (decide_eq_true (by first | omega | (simp only; omega) | rfl | decide))) ?_
      refine ops_nil ?_
      refine W_seq ?_
      refine W_if_t rfl ?_
      refine W_skip ?_
      refine W_seq ?_
      refine W_block ?_
      refine W_seq ?_
      refine W_region ?_
      refine ops_v (v_index (v := (.int _ _)) rfl ix53 rfl rfl rfl (by omega)) ?_
      refine ops_v (v_assign (v := (.int _ _)) rfl rfl) ?_
      refine ops_nil ?_
      refine W_seq ?_
      refine W_region ?_
      refine ops_v (v_move (v := (.pointer _)) rfl rfl) ?_
      refine ops_v (v_move (v := (.int _ _)) rfl rfl) ?_
      refine ops_call rfl c27 (FnC.ro 1 rfl H (fun _ H => NodeIs hn H)) ?_
      clear H; rintro _ w ⟨rfl, H⟩
      refine ops_v (v_move (v := (.tuple _)) rfl rfl) ?_
      refine ops_v (v_extract (v := (.agg _)) rfl rfl rfl) ?_
      refine ops_v (v_extract (v := (.bool _)) rfl rfl rfl) ?_
      refine ops_alloc H rfl tz56 ?_
      clear H; intro bn0 w H
      refine ops_store (vs := [_, _, _, _, _]) (v := (.agg _)) (cs' := [_, _, _, _, _]) 0 H rfl ts56 rfl rfl rfl rfl rfl rfl rfl rfl ?_
      clear H; intro w H
      refine ops_v (v_assign (v := (.bool _)) rfl rfl) ?_
      refine ops_nil ?_
      refine W_seq ?_
      refine W_region ?_
      refine ops_v (v_move (v := (.bool _)) rfl rfl) ?_
      refine ops_v (v_not rfl rfl _ rfl) ?_
      refine ops_nil ?_
      refine W_if_t rfl ?_
      refine W_seq ?_
      refine W_region ?_
      refine ops_v (v_assign (v := _) rfl rfl) ?_
      refine ops_v (v_assign (v := _) rfl rfl) ?_
      refine ops_nil ?_
      refine W_ret ?_
      refine ⟨_, (.tmp (v := (.int _ _)) rfl (.tmp (v := (.int _ _)) rfl .nil)), ?_⟩
      exact ⟨rfl, H.tail.tail⟩
      -- (apply.Lift: ret; chunks n0,l,S; ptr 9=l,14=n0)
  · have ia := ia (by decide)
    cases hn : isN s b with
    | true =>
      refine W_seq ?_
      refine W_region ?_
      refine ops_v (v_lss true rfl rfl rfl (decide_eq_true (by first | omega | (simp only; omega) | rfl | decide))) ?_
      refine ops_nil ?_
      refine W_seq ?_
      refine W_if_t rfl ?_
      refine W_skip ?_
      refine W_seq ?_
      refine W_block ?_
      refine W_seq ?_
      refine W_region ?_
      refine ops_v (v_index (v := (.int _ _)) rfl ix53 rfl rfl rfl (by omega)) ?_
      refine ops_v (v_assign (v := (.int _ _)) rfl rfl) ?_
      refine ops_nil ?_
      refine W_seq ?_
      refine W_region ?_
      refine ops_v (v_move (v := (.pointer _)) rfl rfl) ?_
      refine ops_v (v_move (v := (.int _ _)) rfl rfl) ?_
      refine ops_call rfl c27 (FnC.ro 1 rfl H (fun _ H => NodeIs hn H)) ?_
      clear H; rintro _ w ⟨rfl, H⟩
      refine ops_v (v_move (v := (.tuple _)) rfl rfl) ?_
      refine ops_v (v_extract (v := (.agg _)) rfl rfl rfl) ?_
      refine ops_v (v_extract (v := (.bool _)) rfl rfl rfl) ?_
      refine ops_alloc H rfl tz56 ?_
      clear H; intro bn0 w H
      refine ops_store (vs := [_, _, _, _, _]) (v := (.agg _)) (cs' := [_, _, _, _, _]) 0 H rfl ts56 rfl rfl rfl rfl rfl rfl rfl rfl ?_
      clear H; intro w H
      refine ops_v (v_assign (v := (.bool _)) rfl rfl) ?_
      refine ops_nil ?_
      refine W_seq ?_
      refine W_region ?_
      refine ops_v (v_move (v := (.bool _)) rfl rfl) ?_
      refine ops_v (v_not rfl rfl _ rfl) ?_
      refine ops_nil ?_
      refine W_if_f rfl ?_
      refine W_skip ?_
      refine W_region ?_
      refine ops_v (v_add _ rfl rfl rfl (wrap_in (by omega) (by omega))) ?_
      refine ops_v (v_move (v := (.int _ _)) rfl rfl) ?_
      refine ops_nil ?_
      exact ⟨2, by decide, ⟨rfl, rfl, rfl, rfl, rfl, rfl, rfl, trivial⟩, H.tail, by decide, fun _ => ia, fun _ => rfl, by simp⟩
      -- (apply.Lift: loopend; chunks n0,l,S; ptr 9=l,14=n0)
    | false =>
      refine W_seq ?_
      refine W_region ?_
      refine ops_v (v_lss true rfl rfl rfl (decide_eq_true (by first | omega | (simp only; omega) | rfl | decide))) ?_
      refine ops_nil ?_
      refine W_seq ?_
      refine W_if_t rfl ?_
      refine W_skip ?_
      refine W_seq ?_
      refine W_block ?_
      refine W_seq ?_
      refine W_region ?_
      refine ops_v (v_index (v := (.int _ _)) rfl ix53 rfl rfl rfl (by omega)) ?_
      refine ops_v (v_assign (v := (.int _ _)) rfl rfl) ?_
      refine ops_nil ?_
      refine W_seq ?_
      refine W_region ?_
      refine ops_v (v_move (v := (.pointer _)) rfl rfl) ?_
      refine ops_v (v_move (v := (.int _ _)) rfl rfl) ?_
      refine ops_call rfl c27 (FnC.ro 1 rfl H (fun _ H => NodeIs hn H)) ?_
      clear H; rintro _ w ⟨rfl, H⟩
      refine ops_v (v_move (v := (.tuple _)) rfl rfl) ?_
      refine ops_v (v_extract (v := (.agg _)) rfl rfl rfl) ?_
      refine ops_v (v_extract (v := (.bool _)) rfl rfl rfl) ?_
      refine ops_alloc H rfl tz56 ?_
      clear H; intro bn0 w H
      refine ops_store (vs := [_, _, _, _, _]) (v := (.agg _)) (cs' := [_, _, _, _, _]) 0 H rfl ts56 rfl rfl rfl rfl rfl rfl rfl rfl ?_
      clear H; intro w H
      refine ops_v (v_assign (v := (.bool _)) rfl rfl) ?_
      refine ops_nil ?_
      refine W_seq ?_
      refine W_region ?_
      refine ops_v (v_move (v := (.bool _)) rfl rfl) ?_
      refine ops_v (v_not rfl rfl _ rfl) ?_
      refine ops_nil ?_
      refine W_if_t rfl ?_
      refine W_seq ?_
      refine W_region ?_
      refine ops_v (v_assign (v := _) rfl rfl) ?_
      refine ops_v (v_assign (v := _) rfl rfl) ?_
      refine ops_nil ?_
      refine W_ret ?_
      refine ⟨_, (.tmp (v := (.int _ _)) rfl (.tmp (v := (.int _ _)) rfl .nil)), ?_⟩
      exact ⟨rfl, H.tail.tail⟩
      -- (apply.Lift: ret; chunks n0,l,S; ptr 9=l,14=n0)
  · have ia := ia (by decide)
    have ib := ib (by decide)
    cases hn : isN s c with
    | true => rcases hbad with h | h | h <;> simp_all
    | false =>
      refine W_seq ?_
      refine W_region ?_
      refine ops_v (v_lss true rfl rfl rfl (decide_eq_true (by first | omega | (simp only; omega) | rfl | decide))) ?_
      refine ops_nil ?_
      refine W_seq ?_
      refine W_if_t rfl ?_
      refine W_skip ?_
      refine W_seq ?_
      refine W_block ?_
      refine W_seq ?_
      refine W_region ?_
      refine ops_v (v_index (v := (.int _ _)) rfl ix53 rfl rfl rfl (by omega)) ?_
      refine ops_v (v_assign (v := (.int _ _)) rfl rfl) ?_
      refine ops_nil ?_
      refine W_seq ?_
      refine W_region ?_
      refine ops_v (v_move (v := (.pointer _)) rfl rfl) ?_
      refine ops_v (v_move (v := (.int _ _)) rfl rfl) ?_
      refine ops_call rfl c27 (FnC.ro 1 rfl H (fun _ H => NodeIs hn H)) ?_
      clear H; rintro _ w ⟨rfl, H⟩
      refine ops_v (v_move (v := (.tuple _)) rfl rfl) ?_
      refine ops_v (v_extract (v := (.agg _)) rfl rfl rfl) ?_
      refine ops_v (v_extract (v := (.bool _)) rfl rfl rfl) ?_
      refine ops_alloc H rfl tz56 ?_
      clear H; intro bn0 w H
      refine ops_store (vs := [_, _, _, _, _]) (v := (.agg _)) (cs' := [_, _, _, _, _]) 0 H rfl ts56 rfl rfl rfl rfl rfl rfl rfl rfl ?_
      clear H; intro w H
      refine ops_v (v_assign (v := (.bool _)) rfl rfl) ?_
      refine ops_nil ?_
      refine W_seq ?_
      refine W_region ?_
      refine ops_v (v_move (v := (.bool _)) rfl rfl) ?_
      refine ops_v (v_not rfl rfl _ rfl) ?_
      refine ops_nil ?_
      refine W_if_t rfl ?_
      refine W_seq ?_
      refine W_region ?_
      refine ops_v (v_assign (v := _) rfl rfl) ?_
      refine ops_v (v_assign (v := _) rfl rfl) ?_
      refine ops_nil ?_
      refine W_ret ?_
      refine ⟨_, (.tmp (v := (.int _ _)) rfl (.tmp (v := (.int _ _)) rfl .nil)), ?_⟩
      exact ⟨rfl, H.tail.tail⟩
      -- (apply.Lift: ret; chunks n0,l,S; ptr 9=l,14=n0)
  · have ia := ia (by decide)
    have ib := ib (by decide)
    have ic := ic (by decide)
    rcases hbad with h | h | h <;> simp_all

def funcV (fid : FuncId) : Value := .func (.func fid) ([] : List Value).toArray ([] : List Value).toArray
theorem Choose1_ok : FnOk (funcV 34) (fun a b c => chooseF a b c) (PureC True) := by
  refine ⟨_, _, rfl, by kernel_rfl, fun wb w R a b c H => ?_⟩
  by_cases h : a = 0
  · refine FnC_of Tryd.func34 rfl rfl rfl rfl ?_
    refine W_seq ?_
    refine W_region ?_
    refine ops_v (v_assign (v := _) rfl rfl) ?_
    refine ops_v (v_assign (v := _) rfl rfl) ?_
    refine ops_nil ?_
    refine W_seq ?_
    refine W_seq ?_
    refine W_region ?_
    refine ops_v (v_move (v := (.int _ _)) rfl rfl) ?_
    refine ops_v (v_neq false rfl rfl rfl (decide_eq_false (by first | omega | (simp only; omega) | rfl | decide))) ?_
    refine ops_nil ?_
    refine W_if_f rfl ?_
    refine W_skip ?_
    refine W_seq ?_
    refine W_region ?_
    refine ops_v (v_move (v := (.int _ _)) rfl rfl) ?_
    refine ops_v (v_assign (v := (.int _ _)) rfl rfl) ?_
    refine ops_v (v_assign (v := _) rfl rfl) ?_
    refine ops_nil ?_
    refine W_ret ?_
    refine ⟨_, (.tmp (v := (.int _ _)) rfl (.tmp (v := (.int _ _)) rfl .nil)), ?_⟩
    exact ⟨by simp [chooseF, h, packV, pairV], H⟩
    -- (apply.Choose$1: ret; chunks ; ptr )
  · refine FnC_of Tryd.func34 rfl rfl rfl rfl ?_
    refine W_seq ?_
    refine W_region ?_
    refine ops_v (v_assign (v := _) rfl rfl) ?_
    refine ops_v (v_assign (v := _) rfl rfl) ?_
    refine ops_nil ?_
    refine W_seq ?_
    refine W_seq ?_
    refine W_region ?_
    refine ops_v (v_move (v := (.int _ _)) rfl rfl) ?_
    refine ops_v (v_neq true rfl rfl rfl (decide_eq_true (by first | omega | (simp only; omega) | rfl | decide))) ?_
    refine ops_nil ?_
    refine W_if_t rfl ?_
    refine W_seq ?_
    refine W_region ?_
    refine ops_v (v_move (v := (.int _ _)) rfl rfl) ?_
    refine ops_v (v_assign (v := (.int _ _)) rfl rfl) ?_
    refine ops_v (v_assign (v := _) rfl rfl) ?_
    refine ops_nil ?_
    refine W_ret ?_
    refine ⟨_, (.tmp (v := (.int _ _)) rfl (.tmp (v := (.int _ _)) rfl .nil)), ?_⟩
    exact ⟨by simp [chooseF, h, packV, pairV], H⟩
    -- (apply.Choose$1: ret; chunks ; ptr )
end
section
variable {wb w : World} {R L : List Chunk} {o : Option Nat} {p : Nat} {t : Int}
theorem Choose_ok {s s' : St} {a b c i e : Int} (h : Lifts (opF 100) s a b c s' i e) (hw : Wf s) (ia : isN s a = true) (ib : isN s b = true) (ic : isN s c = true) (H : Own wb (StoreC p s :: CacheX opF o s :: R) w) :
    FnC Tryd.prog 18 [ptr p, xptr o, int a, int b, int c] w (fun u w' => u = pairV i e ∧ Own wb (StoreC p s' :: CacheX opF o s' :: R) w') := by
  have H := H.toPure trivial (p := True)
  refine FnC_of Tryd.func18 rfl rfl rfl rfl ?_
  refine W_seq ?_
  refine W_region ?_
  refine ops_v (v_assign (v := _) rfl rfl) ?_
  refine ops_v (v_assign (v := _) rfl rfl) ?_
  refine ops_nil ?_
  refine W_seq ?_
  refine W_region ?_
  refine ops_v (v_move (v := (.pointer _)) rfl rfl) ?_
  refine ops_v (v_move (v := (.pointer _)) rfl rfl) ?_
  refine ops_v (v_move (v := (.int _ _)) rfl rfl) ?_
  refine ops_v (v_move (v := (.int _ _)) rfl rfl) ?_
  refine ops_v (v_move (v := (.int _ _)) rfl rfl) ?_
  refine ops_v (v_build (cs := [(.int _ _), (.int _ _), (.int _ _)]) rfl bp53 rfl) ?_
  refine ops_call rfl c24 (Lift_ok (fv := funcV 34) h rfl (M.opF_choose ▸ Choose1_ok) hw ia ib ic H) ?_
  clear H; rintro _ w ⟨rfl, H⟩
  refine ops_v (v_extract (v := (.int _ _)) rfl rfl rfl) ?_
  refine ops_v (v_extract (v := (.int _ _)) rfl rfl rfl) ?_
  refine ops_v (v_assign (v := (.int _ _)) rfl rfl) ?_
  refine ops_v (v_assign (v := (.int _ _)) rfl rfl) ?_
  refine ops_nil ?_
  refine W_ret ?_
  refine ⟨_, (.tmp (v := (.int _ _)) rfl (.tmp (v := (.int _ _)) rfl .nil)), ?_⟩
  exact ⟨rfl, H.tail⟩
  -- (apply.Choose: ret; chunks f,S,C; ptr )
theorem Choose_bad {s : St} {a b c : Int} (ic : isN s c = false) (H : Own wb (StoreC p s :: R) w) : FnC Tryd.prog 18 [ptr p, xptr o, int a, int b, int c] w (fun u w' => u = pairV 0 1 ∧ Own wb (StoreC p s :: R) w') := by
  refine FnC_of Tryd.func18 rfl rfl rfl rfl ?_
  refine W_seq ?_
  refine W_region ?_
  refine ops_v (v_assign (v := _) rfl rfl) ?_
  refine ops_v (v_assign (v := _) rfl rfl) ?_
  refine ops_nil ?_
  refine W_seq ?_
  refine W_region ?_
  refine ops_v (v_move (v := (.pointer _)) rfl rfl) ?_
  refine ops_v (v_move (v := (.pointer _)) rfl rfl) ?_
  refine ops_v (v_move (v := (.int _ _)) rfl rfl) ?_
  refine ops_v (v_move (v := (.int _ _)) rfl rfl) ?_
  refine ops_v (v_move (v := (.int _ _)) rfl rfl) ?_
  refine ops_v (v_build (cs := [(.int _ _), (.int _ _), (.int _ _)]) rfl bp53 rfl) ?_
  refine ops_call rfl c24 (Lift_bad (.inr (.inr ic)) H) ?_
  clear H; rintro _ w ⟨rfl, H⟩
  refine ops_v (v_extract (v := (.int _ _)) rfl rfl rfl) ?_
  refine ops_v (v_extract (v := (.int _ _)) rfl rfl rfl) ?_
  refine ops_v (v_assign (v := (.int _ _)) rfl rfl) ?_
  refine ops_v (v_assign (v := (.int _ _)) rfl rfl) ?_
  refine ops_nil ?_
  refine W_ret ?_
  refine ⟨_, (.tmp (v := (.int _ _)) rfl (.tmp (v := (.int _ _)) rfl .nil)), ?_⟩
  exact ⟨rfl, H⟩
  -- (apply.Choose: ret; chunks S; ptr )
end
end Go.Proofs.YtchikjmhncojfaaDoor.W
