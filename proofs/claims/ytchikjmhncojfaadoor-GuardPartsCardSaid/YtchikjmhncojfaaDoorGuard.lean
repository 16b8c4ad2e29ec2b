/- The walks of package guard: there, Fails, Gate, Fix. Conditions: none. -/
import Derived.Test.YtchikjmhncojfaaDoorApply4
import Derived.Test.YtchikjmhncojfaaDoorFixM
set_option linter.unusedVariables false
namespace Go.Proofs.YtchikjmhncojfaaDoor.W
open Go Go.Proofs Go.RowKit
open Go.Proofs.YtchikjmhncojfaaDoor.M (Br St get getZ isN idx has down Wf rank i64 leafB askB Lifts lnk val sideOf linkOf Ext opF Fx)
section
variable {wb w : World} {R L : List Chunk} {st : St} {o : Option Nat} {p : Nat}
theorem Own.swapL {A B : Chunk} (H : Own wb (A :: B :: R) w) : Own wb (B :: A :: R) w := H.perm (List.Perm.swap _ _ _)
theorem there_ok {l id : Int} {b : Bool} (hb : (isN st id && decide (0 ≤ l) && decide (l < st.links)) = b) (H : Own wb (StoreC p st :: R) w) :
    FnC Tryd.prog 23 [ptr p, int l, int id] w (fun v w' => v = .bool b ∧ Own wb (StoreC p st :: R) w') := by
  subst hb
  cases hid : isN st id with
  | false =>
    refine FnC_of Tryd.func23 rfl rfl rfl rfl ?_
    refine W_seq ?_
    refine W_region ?_
    refine ops_v (v_assign (v := _) rfl rfl) ?_
    refine ops_nil ?_
    refine W_seq ?_
    refine W_region ?_
    refine ops_v (v_move (v := (.pointer _)) rfl rfl) ?_
    refine ops_v (v_move (v := (.int _ _)) rfl rfl) ?_
    refine ops_call rfl c27 (FnC.ro 0 rfl H (fun _ H => NodeIs hid H)) ?_
    clear H; rintro _ w ⟨rfl, H⟩
    refine ops_v (v_move (v := (.tuple _)) rfl rfl) ?_
    refine ops_v (v_extract (v := (.agg _)) rfl rfl rfl) ?_
    refine ops_v (v_extract (v := (.bool _)) rfl rfl rfl) ?_
    refine ops_alloc H rfl tz56 ?_
    clear H; intro bn0 w H
    refine ops_store (vs := [_, _, _, _, _]) (v := (.agg _)) (cs' := [_, _, _, _, _]) 0 H rfl ts56 rfl rfl rfl rfl rfl rfl rfl rfl ?_
    clear H; intro w H
    refine ops_v (v_assign (v := (.bool _)) rfl rfl) ?_
    refine ops_nil ?_
    refine W_seq ?_
    refine W_region ?_
    refine ops_v (v_move (v := (.bool _)) rfl rfl) ?_
    refine ops_v (v_move (v := (.bool _)) rfl rfl) ?_
    refine ops_skip rfl rfl ?_
    refine ops_skip rfl rfl ?_
    refine ops_v (v_pick_f (v := (.bool _)) rfl rfl rfl) ?_
    refine ops_v (v_move (v := (.bool _)) rfl rfl) ?_
    refine ops_skip rfl rfl ?_
    refine ops_skip rfl rfl ?_
    refine ops_skip rfl rfl ?_
    refine ops_skip rfl rfl ?_
    refine ops_v (v_pick_f (v := (.bool _)) rfl rfl rfl) ?_
    refine ops_v (v_assign (v := (.bool _)) rfl rfl) ?_
    refine ops_nil ?_
    refine W_ret ?_
    refine ⟨_, (.tmp (v := (.bool _)) rfl .nil), ?_⟩
    exact ⟨rfl, H.tail⟩
    -- (guard.there: ret; chunks n0,S; ptr 7=n0)
  | true =>
    by_cases h0 : 0 ≤ l
    · refine FnC_of Tryd.func23 rfl rfl rfl rfl ?_
      refine W_seq ?_
      refine W_region ?_
      refine ops_v (v_assign (v := _) rfl rfl) ?_
      refine ops_nil ?_
      refine W_seq ?_
      refine W_region ?_
      refine ops_v (v_move (v := (.pointer _)) rfl rfl) ?_
      refine ops_v (v_move (v := (.int _ _)) rfl rfl) ?_
      refine ops_call rfl c27 (FnC.ro 0 rfl H (fun _ H => NodeIs hid H)) ?_
      clear H; rintro _ w ⟨rfl, H⟩
      refine ops_v (v_move (v := (.tuple _)) rfl rfl) ?_
      refine ops_v (v_extract (v := (.agg _)) rfl rfl rfl) ?_
      refine ops_v (v_extract (v := (.bool _)) rfl rfl rfl) ?_
      refine ops_alloc H rfl tz56 ?_
      clear H; intro bn0 w H
      refine ops_store (vs := [_, _, _, _, _]) (v := (.agg _)) (cs' := [_, _, _, _, _]) 0 H rfl ts56 rfl rfl rfl rfl rfl rfl rfl rfl ?_
      clear H; intro w H
      refine ops_v (v_assign (v := (.bool _)) rfl rfl) ?_
      refine ops_nil ?_
      refine W_seq ?_
      refine W_region ?_
      refine ops_v (v_move (v := (.bool _)) rfl rfl) ?_
      refine ops_v (v_move (v := (.bool _)) rfl rfl) ?_
      refine ops_v (v_move (v := (.int _ _)) rfl rfl) ?_
      refine ops_v (v_geq true rfl rfl rfl (decide_eq_true (by first | omega | (simp only; omega) | rfl | decide))) ?_
      refine ops_v (v_pick_t (v := (.bool _)) rfl rfl rfl) ?_
      refine ops_v (v_move (v := (.bool _)) rfl rfl) ?_
      refine ops_v (v_move (v := (.int _ _)) rfl rfl) ?_
      refine ops_v (v_move (v := (.pointer _)) rfl rfl) ?_
      refine ops_call rfl c22 (FnC.ro 1 rfl H (fun _ => Links_ok)) ?_
      clear H; rintro _ w ⟨rfl, H⟩
      refine ops_v (v_lss _ rfl rfl rfl rfl) ?_
      refine ops_v (v_pick_t (v := (.bool _)) rfl rfl rfl) ?_
      refine ops_v (v_assign (v := (.bool _)) rfl rfl) ?_
      refine ops_nil ?_
      refine W_ret ?_
      refine ⟨_, (.tmp (v := (.bool _)) rfl .nil), ?_⟩
      exact ⟨by simp [packV, h0], H.tail⟩
      -- (guard.there: ret; chunks n0,S; ptr 7=n0)
    · refine FnC_of Tryd.func23 rfl rfl rfl rfl ?_
      refine W_seq ?_
      refine W_region ?_
      refine ops_v (v_assign (v := _) rfl rfl) ?_
      refine ops_nil ?_
      refine W_seq ?_
      refine W_region ?_
      refine ops_v (v_move (v := (.pointer _)) rfl rfl) ?_
      refine ops_v (v_move (v := (.int _ _)) rfl rfl) ?_
      refine ops_call rfl c27 (FnC.ro 0 rfl H (fun _ H => NodeIs hid H)) ?_
      clear H; rintro _ w ⟨rfl, H⟩
      refine ops_v (v_move (v := (.tuple _)) rfl rfl) ?_
      refine ops_v (v_extract (v := (.agg _)) rfl rfl rfl) ?_
      refine ops_v (v_extract (v := (.bool _)) rfl rfl rfl) ?_
      refine ops_alloc H rfl tz56 ?_
      clear H; intro bn0 w H
      refine ops_store (vs := [_, _, _, _, _]) (v := (.agg _)) (cs' := [_, _, _, _, _]) 0 H rfl ts56 rfl rfl rfl rfl rfl rfl rfl rfl ?_
      clear H; intro w H
      refine ops_v (v_assign (v := (.bool _)) rfl rfl) ?_
      refine ops_nil ?_
      refine W_seq ?_
      refine W_region ?_
      refine ops_v (v_move (v := (.bool _)) rfl rfl) ?_
      refine ops_v (v_move (v := (.bool _)) rfl rfl) ?_
      refine ops_v (v_move (v := (.int _ _)) rfl rfl) ?_
      refine ops_v (v_geq false rfl rfl rfl (decide_eq_false (by first | omega | (simp only; omega) | rfl | decide))) ?_
      refine ops_v (v_pick_t (v := (.bool _)) rfl rfl rfl) ?_
      refine ops_v (v_move (v := (.bool _)) rfl rfl) ?_
      refine ops_skip rfl rfl ?_
      refine ops_skip rfl rfl ?_
      refine ops_skip rfl rfl ?_
      refine ops_skip rfl rfl ?_
      refine ops_v (v_pick_f (v := (.bool _)) rfl rfl rfl) ?_
      refine ops_v (v_assign (v := (.bool _)) rfl rfl) ?_
      refine ops_nil ?_
      refine W_ret ?_
      refine ⟨_, (.tmp (v := (.bool _)) rfl .nil), ?_⟩
      exact ⟨by simp [packV, h0], H.tail⟩
      -- (guard.there: ret; chunks n0,S; ptr 7=n0)
theorem Fails_bad {l : Int} (hl : l < 0 ∨ (st.links : Int) ≤ l) (H : Own wb (StoreC p st :: R) w) : FnC Tryd.prog 11 [ptr p, int l] w (fun v w' => v = pairV 0 1 ∧ Own wb (StoreC p st :: R) w') := by
  by_cases h : l < 0
  · refine FnC_of Tryd.func11 rfl rfl rfl rfl ?_
    refine W_seq ?_
    refine W_region ?_
    refine ops_v (v_assign (v := _) rfl rfl) ?_
    refine ops_v (v_assign (v := _) rfl rfl) ?_
    refine ops_nil ?_
    refine W_seq ?_
    refine W_seq ?_
    refine W_region ?_
    refine ops_v (v_move (v := (.int _ _)) rfl rfl) ?_
    refine ops_v (v_lss true rfl rfl rfl (decide_eq_true (by first | omega | (simp only; omega) | rfl | decide))) ?_
    refine ops_v (v_move (v := (.bool _)) rfl rfl) ?_
    refine ops_skip rfl rfl ?_
    refine ops_skip rfl rfl ?_
    refine ops_skip rfl rfl ?_
    refine ops_skip rfl rfl ?_
    refine ops_v (v_pick_t (v := (.bool _)) rfl rfl rfl) ?_
    refine ops_nil ?_
    refine W_if_t rfl ?_
    refine W_seq ?_
    refine W_region ?_
    refine ops_v (v_assign (v := _) rfl rfl) ?_
    refine ops_v (v_assign (v := _) rfl rfl) ?_
    refine ops_nil ?_
    refine W_ret ?_
    refine ⟨_, (.tmp (v := (.int _ _)) rfl (.tmp (v := (.int _ _)) rfl .nil)), ?_⟩
    exact ⟨rfl, H⟩
    -- (guard.Fails: ret; chunks S; ptr )
  · refine FnC_of Tryd.func11 rfl rfl rfl rfl ?_
    refine W_seq ?_
    refine W_region ?_
    refine ops_v (v_assign (v := _) rfl rfl) ?_
    refine ops_v (v_assign (v := _) rfl rfl) ?_
    refine ops_nil ?_
    refine W_seq ?_
    refine W_seq ?_
    refine W_region ?_
    refine ops_v (v_move (v := (.int _ _)) rfl rfl) ?_
    refine ops_v (v_lss false rfl rfl rfl (decide_eq_false (by first | omega | (simp only; omega) | rfl | decide))) ?_
    refine ops_v (v_move (v := (.bool _)) rfl rfl) ?_
    refine ops_v (v_move (v := (.int _ _)) rfl rfl) ?_
    refine ops_v (v_move (v := (.pointer _)) rfl rfl) ?_
    refine ops_call rfl c22 (FnC.ro 0 rfl H (fun _ => Links_ok)) ?_
    clear H; rintro _ w ⟨rfl, H⟩
    refine ops_v (v_geq true rfl rfl rfl (decide_eq_true (by first | omega | (simp only; omega) | rfl | decide))) ?_
    refine ops_v (v_pick_f (v := (.bool _)) rfl rfl rfl) ?_
    refine ops_nil ?_
    refine W_if_t rfl ?_
    refine W_seq ?_
    refine W_region ?_
    refine ops_v (v_assign (v := _) rfl rfl) ?_
    refine ops_v (v_assign (v := _) rfl rfl) ?_
    refine ops_nil ?_
    refine W_ret ?_
    refine ⟨_, (.tmp (v := (.int _ _)) rfl (.tmp (v := (.int _ _)) rfl .nil)), ?_⟩
    exact ⟨rfl, H⟩
    -- (guard.Fails: ret; chunks S; ptr )
theorem Fails_ok {l : Int} {s1 s2 s3 : St} {a b i e : Int} (h0 : 0 ≤ l) (hl : l < st.links) (m0 : st.most ≤ 1073741824) (h1 : M.leaf st 0 = (s1, a, 0)) (m1 : s1.most ≤ 1073741824) (h2 : M.leaf s1 1 = (s2, b, 0)) (m2 : s2.most ≤ 1073741824) (h3 : M.make s2 l a b = (s3, i, e)) (H : Own wb (StoreC p st :: R) w) :
    FnC Tryd.prog 11 [ptr p, int l] w (fun v w' => v = pairV i e ∧ Own wb (StoreC p s3 :: R) w') := by
  refine FnC_of Tryd.func11 rfl rfl rfl rfl ?_
  refine W_seq ?_
  refine W_region ?_
  refine ops_v (v_assign (v := _) rfl rfl) ?_
  refine ops_v (v_assign (v := _) rfl rfl) ?_
  refine ops_nil ?_
  refine W_seq ?_
  refine W_seq ?_
  refine W_region ?_
  refine ops_v (v_move (v := (.int _ _)) rfl rfl) ?_
  refine ops_v (v_lss false rfl rfl rfl (decide_eq_false (by first | omega | (simp only; omega) | rfl | decide))) ?_
  refine ops_v (v_move (v := (.bool _)) rfl rfl) ?_
  refine ops_v (v_move (v := (.int _ _)) rfl rfl) ?_
  refine ops_v (v_move (v := (.pointer _)) rfl rfl) ?_
  refine ops_call rfl c22 (FnC.ro 0 rfl H (fun _ => Links_ok)) ?_
  clear H; rintro _ w ⟨rfl, H⟩
  refine ops_v (v_geq false rfl rfl rfl (decide_eq_false (by first | omega | (simp only; omega) | rfl | decide))) ?_
  refine ops_v (v_pick_f (v := (.bool _)) rfl rfl rfl) ?_
  refine ops_nil ?_
  refine W_if_f rfl ?_
  refine W_skip ?_
  refine W_seq ?_
  refine W_region ?_
  refine ops_v (v_move (v := (.pointer _)) rfl rfl) ?_
  refine ops_call rfl c17 (FnC.at 0 rfl H (fun _ H => Leaf_ok m0 h1 H)) ?_
  clear H; rintro _ w ⟨rfl, H⟩
  refine ops_v (v_move (v := (.tuple _)) rfl rfl) ?_
  refine ops_v (v_extract (v := (.int _ _)) rfl rfl rfl) ?_
  refine ops_v (v_extract (v := (.int _ _)) rfl rfl rfl) ?_
  refine ops_v (v_assign (v := (.int _ _)) rfl rfl) ?_
  refine ops_v (v_assign (v := (.int _ _)) rfl rfl) ?_
  refine ops_nil ?_
  refine W_seq ?_
  refine W_seq ?_
  refine W_region ?_
  refine ops_v (v_move (v := (.int _ _)) rfl rfl) ?_
  refine ops_v (v_neq false rfl rfl rfl (decide_eq_false (by first | omega | (simp only; omega) | rfl | decide))) ?_
  refine ops_nil ?_
  refine W_if_f rfl ?_
  refine W_skip ?_
  refine W_seq ?_
  refine W_region ?_
  refine ops_v (v_move (v := (.pointer _)) rfl rfl) ?_
  refine ops_call rfl c17 (FnC.at 0 rfl H (fun _ H => Leaf_ok m1 h2 H)) ?_
  clear H; rintro _ w ⟨rfl, H⟩
  refine ops_v (v_move (v := (.tuple _)) rfl rfl) ?_
  refine ops_v (v_extract (v := (.int _ _)) rfl rfl rfl) ?_
  refine ops_v (v_extract (v := (.int _ _)) rfl rfl rfl) ?_
  refine ops_v (v_assign (v := (.int _ _)) rfl rfl) ?_
  refine ops_v (v_assign (v := (.int _ _)) rfl rfl) ?_
  refine ops_nil ?_
  refine W_seq ?_
  refine W_seq ?_
  refine W_region ?_
  refine ops_v (v_move (v := (.int _ _)) rfl rfl) ?_
  refine ops_v (v_neq false rfl rfl rfl (decide_eq_false (by first | omega | (simp only; omega) | rfl | decide))) ?_
  refine ops_nil ?_
  refine W_if_f rfl ?_
  refine W_skip ?_
  refine W_seq ?_
  refine W_region ?_
  refine ops_v (v_move (v := (.pointer _)) rfl rfl) ?_
  refine ops_v (v_move (v := (.int _ _)) rfl rfl) ?_
  refine ops_v (v_move (v := (.int _ _)) rfl rfl) ?_
  refine ops_v (v_move (v := (.int _ _)) rfl rfl) ?_
  refine ops_call rfl c21 (FnC.at 0 rfl H (fun _ H => Make_ok m2 h3 H)) ?_
  clear H; rintro _ w ⟨rfl, H⟩
  refine ops_v (v_extract (v := (.int _ _)) rfl rfl rfl) ?_
  refine ops_v (v_extract (v := (.int _ _)) rfl rfl rfl) ?_
  refine ops_v (v_assign (v := (.int _ _)) rfl rfl) ?_
  refine ops_v (v_assign (v := (.int _ _)) rfl rfl) ?_
  refine ops_nil ?_
  refine W_ret ?_
  refine ⟨_, (.tmp (v := (.int _ _)) rfl (.tmp (v := (.int _ _)) rfl .nil)), ?_⟩
  exact ⟨rfl, H⟩
  -- (guard.Fails: ret; chunks S; ptr )
theorem Gate1_ok : FnOk (funcV 25) (fun a b _ => M.gateF a b) (PureC True) := by
  refine ⟨_, _, rfl, by kernel_rfl, fun wb w R a b c H => ?_⟩
  by_cases h : a = 0
  · refine FnC_of Tryd.func25 rfl rfl rfl rfl ?_
    refine W_seq ?_
    refine W_region ?_
    refine ops_v (v_assign (v := _) rfl rfl) ?_
    refine ops_v (v_assign (v := _) rfl rfl) ?_
    refine ops_nil ?_
    refine W_seq ?_
    refine W_seq ?_
    refine W_region ?_
    refine ops_v (v_move (v := (.int _ _)) rfl rfl) ?_
    refine ops_v (v_neq false rfl rfl rfl (decide_eq_false (by first | omega | (simp only; omega) | rfl | decide))) ?_
    refine ops_nil ?_
    refine W_if_f rfl ?_
    refine W_skip ?_
    refine W_seq ?_
    refine W_region ?_
    refine ops_v (v_move (v := (.int _ _)) rfl rfl) ?_
    refine ops_v (v_assign (v := (.int _ _)) rfl rfl) ?_
    refine ops_v (v_assign (v := _) rfl rfl) ?_
    refine ops_nil ?_
    refine W_ret ?_
    refine ⟨_, (.tmp (v := (.int _ _)) rfl (.tmp (v := (.int _ _)) rfl .nil)), ?_⟩
    exact ⟨by simp [M.gateF, h, packV, pairV], H⟩
    -- (guard.Gate$1: ret; chunks ; ptr )
  · refine FnC_of Tryd.func25 rfl rfl rfl rfl ?_
    refine W_seq ?_
    refine W_region ?_
    refine ops_v (v_assign (v := _) rfl rfl) ?_
    refine ops_v (v_assign (v := _) rfl rfl) ?_
    refine ops_nil ?_
    refine W_seq ?_
    refine W_seq ?_
    refine W_region ?_
    refine ops_v (v_move (v := (.int _ _)) rfl rfl) ?_
    refine ops_v (v_neq true rfl rfl rfl (decide_eq_true (by first | omega | (simp only; omega) | rfl | decide))) ?_
    refine ops_nil ?_
    refine W_if_t rfl ?_
    refine W_seq ?_
    refine W_region ?_
    refine ops_v (v_assign (v := _) rfl rfl) ?_
    refine ops_v (v_assign (v := _) rfl rfl) ?_
    refine ops_nil ?_
    refine W_ret ?_
    refine ⟨_, (.tmp (v := (.int _ _)) rfl (.tmp (v := (.int _ _)) rfl .nil)), ?_⟩
    exact ⟨by simp [M.gateF, h, packV, pairV], H⟩
    -- (guard.Gate$1: ret; chunks ; ptr )
theorem Gate_bad {l id : Int} (hb : (isN st id && decide (0 ≤ l) && decide (l < st.links)) = false) (H : Own wb (StoreC p st :: R) w) : FnC Tryd.prog 12 [ptr p, xptr o, int l, int id] w (fun v w' => v = pairV 0 1 ∧ Own wb (StoreC p st :: R) w') := by
  refine FnC_of Tryd.func12 rfl rfl rfl rfl ?_
  refine W_seq ?_
  refine W_region ?_
  refine ops_v (v_assign (v := _) rfl rfl) ?_
  refine ops_v (v_assign (v := _) rfl rfl) ?_
  refine ops_nil ?_
  refine W_seq ?_
  refine W_seq ?_
  refine W_region ?_
  refine ops_v (v_move (v := (.pointer _)) rfl rfl) ?_
  refine ops_v (v_move (v := (.int _ _)) rfl rfl) ?_
  refine ops_v (v_move (v := (.int _ _)) rfl rfl) ?_
  refine ops_call rfl c23 (FnC.ro 0 rfl H (fun _ H => there_ok hb H)) ?_
  clear H; rintro _ w ⟨rfl, H⟩
  refine ops_v (v_not rfl rfl _ rfl) ?_
  refine ops_nil ?_
  refine W_if_t rfl ?_
  refine W_seq ?_
  refine W_region ?_
  refine ops_v (v_assign (v := _) rfl rfl) ?_
  refine ops_v (v_assign (v := _) rfl rfl) ?_
  refine ops_nil ?_
  refine W_ret ?_
  refine ⟨_, (.tmp (v := (.int _ _)) rfl (.tmp (v := (.int _ _)) rfl .nil)), ?_⟩
  exact ⟨rfl, H⟩
  -- (guard.Gate: ret; chunks S; ptr )
theorem Gate_ok {l id : Int} {s1 s2 s3 s4 : St} {a b f i e : Int} (hw : Wf st) (hid : isN st id = true) (h0 : 0 ≤ l) (hl : l < st.links) (h1 : M.leaf st 0 = (s1, a, 0)) (h2 : M.leaf s1 1 = (s2, b, 0)) (h3 : M.make s2 l a b = (s3, f, 0)) (w3 : Wf s3) (x3 : Ext st s3) (m1 : s1.most ≤ 1073741824) (m2 : s2.most ≤ 1073741824) (hf : isN s3 f = true)
    (hL : Lifts (opF (-2)) s3 f id id s4 i e) (H : Own wb (StoreC p st :: CacheX opF o st :: R) w) : FnC Tryd.prog 12 [ptr p, xptr o, int l, int id] w (fun v w' => v = pairV i e ∧ Own wb (StoreC p s4 :: CacheX opF o s4 :: R) w') := by
  have hb : (isN st id && decide (0 ≤ l) && decide (l < st.links)) = true := by simp [hid, h0, hl]
  have hid3 := x3.isN hid
  refine FnC_of Tryd.func12 rfl rfl rfl rfl ?_
  refine W_seq ?_
  refine W_region ?_
  refine ops_v (v_assign (v := _) rfl rfl) ?_
  refine ops_v (v_assign (v := _) rfl rfl) ?_
  refine ops_nil ?_
  refine W_seq ?_
  refine W_seq ?_
  refine W_region ?_
  refine ops_v (v_move (v := (.pointer _)) rfl rfl) ?_
  refine ops_v (v_move (v := (.int _ _)) rfl rfl) ?_
  refine ops_v (v_move (v := (.int _ _)) rfl rfl) ?_
  refine ops_call rfl c23 (FnC.ro 0 rfl H (fun _ H => there_ok hb H)) ?_
  clear H; rintro _ w ⟨rfl, H⟩
  refine ops_v (v_not rfl rfl _ rfl) ?_
  refine ops_nil ?_
  refine W_if_f rfl ?_
  refine W_skip ?_
  refine W_seq ?_
  refine W_region ?_
  refine ops_v (v_move (v := (.pointer _)) rfl rfl) ?_
  refine ops_v (v_move (v := (.int _ _)) rfl rfl) ?_
  refine ops_call rfl c11 (FnC.at 0 rfl H (fun _ H => Fails_ok h0 hl hw.most h1 m1 h2 m2 h3 H)) ?_
  clear H; rintro _ w ⟨rfl, H⟩
  have H := H.mapAt 1 rfl (fun _ H => H.cacheExt hw x3 w3)
  have H := H.toPure trivial (p := True)
  refine ops_v (v_move (v := (.tuple _)) rfl rfl) ?_
  refine ops_v (v_extract (v := (.int _ _)) rfl rfl rfl) ?_
  refine ops_v (v_extract (v := (.int _ _)) rfl rfl rfl) ?_
  refine ops_v (v_assign (v := (.int _ _)) rfl rfl) ?_
  refine ops_v (v_assign (v := (.int _ _)) rfl rfl) ?_
  refine ops_nil ?_
  refine W_seq ?_
  refine W_seq ?_
  refine W_region ?_
  refine ops_v (v_move (v := (.int _ _)) rfl rfl) ?_
  refine ops_v (v_neq false rfl rfl rfl (decide_eq_false (by first | omega | (simp only; omega) | rfl | decide))) ?_
  refine ops_nil ?_
  refine W_if_f rfl ?_
  refine W_skip ?_
  refine W_seq ?_
  refine W_region ?_
  refine ops_v (v_move (v := (.pointer _)) rfl rfl) ?_
  refine ops_v (v_move (v := (.pointer _)) rfl rfl) ?_
  refine ops_v (v_move (v := (.int _ _)) rfl rfl) ?_
  refine ops_v (v_move (v := (.int _ _)) rfl rfl) ?_
  refine ops_v (v_move (v := (.int _ _)) rfl rfl) ?_
  refine ops_v (v_build (cs := [(.int _ _), (.int _ _), (.int _ _)]) rfl bp53 rfl) ?_
  refine ops_call rfl c24 (Lift_ok (fv := funcV 25) hL rfl (M.opF_gate ▸ Gate1_ok) w3 hf hid3 hid3 H) ?_
  clear H; rintro _ w ⟨rfl, H⟩
  refine ops_v (v_extract (v := (.int _ _)) rfl rfl rfl) ?_
  refine ops_v (v_extract (v := (.int _ _)) rfl rfl rfl) ?_
  refine ops_v (v_assign (v := (.int _ _)) rfl rfl) ?_
  refine ops_v (v_assign (v := (.int _ _)) rfl rfl) ?_
  refine ops_nil ?_
  refine W_ret ?_
  refine ⟨_, (.tmp (v := (.int _ _)) rfl (.tmp (v := (.int _ _)) rfl .nil)), ?_⟩
  exact ⟨rfl, H.tail⟩
  -- (guard.Gate: ret; chunks f,S,C; ptr )
/-! ### Fix: a function that calls itself through its own box -/
def ValidF (k : Int) (v : Bool) (st : St) (l : List (Int × Value)) : Prop := ∀ id u, look l id = some u → ∃ n : Int, u = int n ∧ isN st id = true ∧ Fx k v st id st n 0
theorem ValidF.ext {k : Nat} {v : Bool} (hk : k < 16) {s t : St} {l : List (Int × Value)} (h : ValidF k v s l) (w : Wf s) (hkl : (k : Int) < s.links) (x : Ext s t) (wt : Wf t) : ValidF k v t l := fun id u hu => by
  obtain ⟨n, hv, hi, hh⟩ := h id u hu
  exact ⟨n, hv, x.isN hi, hh.again hk w hkl hi x wt⟩
theorem ValidF.put {k : Int} {v : Bool} {s : St} {l : List (Int × Value)} (h : ValidF k v s l) {id n : Int} (hi : isN s id = true) (hh : Fx k v s id s n 0) : ValidF k v s (putL l id (int n)) := fun id' u hu => by
  rw [look_putL] at hu
  split at hu
  · rename_i he
    cases hu
    exact ⟨n, rfl, he ▸ hi, he ▸ hh⟩
  · exact h id' u hu
def FixX (k : Int) (v : Bool) (r : Nat) (st : St) : Chunk := ExC fun l : List (Int × Value) => Sep (PureC (ValidF k v st l)) (MapC encI r l)
theorem Own.shutF {k : Int} {v : Bool} {r : Nat} {l : List (Int × Value)} (H : Own wb (MapC encI r l :: R) w) (hv : ValidF k v st l) : Own wb (FixX k v r st :: R) w :=
  Own.toEx (f := fun l : List (Int × Value) => Sep (PureC (ValidF k v st l)) (MapC encI r l)) l ((H.toPure hv).toSep)
theorem Own.openF {k : Int} {v : Bool} {r : Nat} (H : Own wb L w) (i : Nat) (hi : L[i]? = some (FixX k v r st)) : ∃ l, ValidF k v st l ∧ Own wb (L.set i (MapC encI r l)) w := by
  obtain ⟨l, H'⟩ := Own.ex (H.front i hi)
  obtain ⟨hv, H'⟩ := H'.sep.pure
  exact ⟨l, hv, Own.back i hi H'⟩
theorem Own.fixExt {k : Nat} {v : Bool} {r : Nat} {t : St} (H : Own wb (FixX k v r st :: R) w) (hk : k < 16) (ws : Wf st) (hkl : (k : Int) < st.links) (x : Ext st t) (wt : Wf t) : Own wb (FixX k v r t :: R) w := by
  obtain ⟨l, hv, H⟩ := H.openF 0 rfl
  exact Own.shutF H (hv.ext hk ws hkl x wt)
/-- the boxes of the function's own -/
def boxesF (b1 b2 b3 b4 b5 p r : Nat) (k : Int) (v : Bool) : List Chunk :=
  [Blk b1 [ptr p] 25, Blk b2 [.map (some r)] 54, Blk b3 [int k] 3, Blk b4 [.bool v] 4, Blk b5 [.func (.func 26) ([] : List Value).toArray [ptr b1, ptr b2, ptr b3, ptr b4, ptr b5].toArray] 40]
end
end Go.Proofs.YtchikjmhncojfaaDoor.W
