/- Package node's functions over no store: as over an empty one without room. Conditions: none. -/
import Derived.Test.YtchikjmhncojfaaLaw13
namespace Go.Proofs.Ytchikjmhncojfaa.W
open Go Go.Proofs Go.RowKit
open Go.Proofs.Ytchikjmhncojfaa.M (Br St get getZ isN idx has down Wf rank i64 leafB askB)

theorem Links_nil {wb w : World} {R : List Chunk} (H : Own wb R w) :
    FnC Try.prog 28 [.pointer none] w (fun v w' => v = .int .i64 0 ∧ Own wb R w') := by
  refine FnC_of Try.func28 rfl rfl rfl rfl ?_
  refine W_seq ?_
  refine W_region ?_
  refine ops_v (v_assign (v := _) rfl rfl) ?_
  refine ops_nil ?_
  refine W_seq ?_
  refine W_seq ?_
  refine W_region ?_
  refine ops_v (v_move (v := (.pointer _)) rfl rfl) ?_
  refine ops_v (v_eql_nil _ rfl ip27 rfl rfl rfl) ?_
  refine ops_nil ?_
  refine W_if_t rfl ?_
  refine W_seq ?_
  refine W_region ?_
  refine ops_v (v_assign (v := _) rfl rfl) ?_
  refine ops_nil ?_
  refine W_ret ?_
  refine ⟨_, (.tmp (v := (.int _ _)) rfl .nil), ?_⟩
  exact ⟨rfl, H⟩
  -- ((*node.Store).Links: ret; chunks ; ptr )
theorem Size_nil {wb w : World} {R : List Chunk} (H : Own wb R w) :
    FnC Try.prog 30 [.pointer none] w (fun v w' => v = .int .i64 0 ∧ Own wb R w') := by
  refine FnC_of Try.func30 rfl rfl rfl rfl ?_
  refine W_seq ?_
  refine W_region ?_
  refine ops_v (v_assign (v := _) rfl rfl) ?_
  refine ops_nil ?_
  refine W_seq ?_
  refine W_seq ?_
  refine W_region ?_
  refine ops_v (v_move (v := (.pointer _)) rfl rfl) ?_
  refine ops_v (v_eql_nil _ rfl ip27 rfl rfl rfl) ?_
  refine ops_nil ?_
  refine W_if_t rfl ?_
  refine W_seq ?_
  refine W_region ?_
  refine ops_v (v_assign (v := _) rfl rfl) ?_
  refine ops_nil ?_
  refine W_ret ?_
  refine ⟨_, (.tmp (v := (.int _ _)) rfl .nil), ?_⟩
  exact ⟨rfl, H⟩
  -- ((*node.Store).Size: ret; chunks ; ptr )
theorem Node_nil {wb w : World} {R : List Chunk} (H : Own wb R w) (id : Int) :
    FnC Try.prog 31 [.pointer none, int id] w (fun v w' => v = nodeV Br.zero false ∧ Own wb R w') := by
  by_cases h0 : id < 0
  · refine FnC_of Try.func31 rfl rfl rfl rfl ?_
    refine W_seq ?_
    refine W_region ?_
    refine ops_alloc H rfl tz42 ?_
    clear H; intro bn0 w H
    refine ops_v (v_assign (v := _) rfl rfl) ?_
    refine ops_nil ?_
    refine W_seq ?_
    refine W_seq ?_
    refine W_region ?_
    refine ops_v (v_move (v := (.int _ _)) rfl rfl) ?_
    refine ops_v (v_lss true rfl rfl rfl (decide_eq_true (by first | omega | (simp only; omega) | rfl | decide))) ?_
    refine ops_v (v_move (v := (.bool _)) rfl rfl) ?_
    refine ops_skip rfl rfl ?_
    refine ops_skip rfl rfl ?_
    refine ops_skip rfl rfl ?_
    refine ops_skip rfl rfl ?_
    refine ops_v (v_pick_t (v := (.bool _)) rfl rfl rfl) ?_
    refine ops_nil ?_
    refine W_if_t rfl ?_
    refine W_seq ?_
    refine W_region ?_
    refine ops_v (v_build (cs := [(.bool _), (.int _ _), (.int _ _), (.int _ _), (.int _ _)]) rfl bp42 rfl) ?_
    refine ops_store (vs := [_, _, _, _, _]) (v := (.agg _)) (cs' := [_, _, _, _, _]) 0 H rfl ts42 rfl rfl rfl rfl rfl rfl rfl rfl ?_
    clear H; intro w H
    refine ops_v (v_assign (v := _) rfl rfl) ?_
    refine ops_nil ?_
    refine W_ret ?_
    refine ⟨_, (.cell rfl (run_loadA (vs := [_, _, _, _, _]) ta42 (H.blk 0 rfl) rfl rfl) (.tmp (v := (.bool _)) rfl .nil)), ?_⟩
    exact ⟨rfl, H.tail⟩
    -- ((*node.Store).Node: ret; chunks n0; ptr 4=n0)
  · refine FnC_of Try.func31 rfl rfl rfl rfl ?_
    refine W_seq ?_
    refine W_region ?_
    refine ops_alloc H rfl tz42 ?_
    clear H; intro bn0 w H
    refine ops_v (v_assign (v := _) rfl rfl) ?_
    refine ops_nil ?_
    refine W_seq ?_
    refine W_seq ?_
    refine W_region ?_
    refine ops_v (v_move (v := (.int _ _)) rfl rfl) ?_
    refine ops_v (v_lss false rfl rfl rfl (decide_eq_false (by first | omega | (simp only; omega) | rfl | decide))) ?_
    refine ops_v (v_move (v := (.bool _)) rfl rfl) ?_
    refine ops_v (v_move (v := (.int _ _)) rfl rfl) ?_
    refine ops_v (v_move (v := (.pointer _)) rfl rfl) ?_
    refine ops_call rfl c30 (Size_nil H) ?_
    clear H; rintro _ w ⟨rfl, H⟩
    refine ops_v (v_geq true rfl rfl rfl (decide_eq_true (by first | omega | (simp only; omega) | rfl | decide))) ?_
    refine ops_v (v_pick_f (v := (.bool _)) rfl rfl rfl) ?_
    refine ops_nil ?_
    refine W_if_t rfl ?_
    refine W_seq ?_
    refine W_region ?_
    refine ops_v (v_build (cs := [(.bool _), (.int _ _), (.int _ _), (.int _ _), (.int _ _)]) rfl bp42 rfl) ?_
    refine ops_store (vs := [_, _, _, _, _]) (v := (.agg _)) (cs' := [_, _, _, _, _]) 0 H rfl ts42 rfl rfl rfl rfl rfl rfl rfl rfl ?_
    clear H; intro w H
    refine ops_v (v_assign (v := _) rfl rfl) ?_
    refine ops_nil ?_
    refine W_ret ?_
    refine ⟨_, (.cell rfl (run_loadA (vs := [_, _, _, _, _]) ta42 (H.blk 0 rfl) rfl rfl) (.tmp (v := (.bool _)) rfl .nil)), ?_⟩
    exact ⟨rfl, H.tail⟩
    -- ((*node.Store).Node: ret; chunks n0; ptr 4=n0)
theorem under_nil {wb w : World} {R : List Chunk} (H : Own wb R w) (k id : Int) :
    FnC Try.prog 71 [.pointer none, int k, int id] w (fun v w' => v = .bool false ∧ Own wb R w') := by
  refine FnC_of Try.func71 rfl rfl rfl rfl ?_
  refine W_seq ?_
  refine W_region ?_
  refine ops_v (v_assign (v := _) rfl rfl) ?_
  refine ops_nil ?_
  refine W_seq ?_
  refine W_region ?_
  refine ops_v (v_move (v := (.pointer _)) rfl rfl) ?_
  refine ops_v (v_move (v := (.int _ _)) rfl rfl) ?_
  refine ops_call rfl c31 (Node_nil H id) ?_
  clear H; rintro _ w ⟨rfl, H⟩
  refine ops_v (v_move (v := (.tuple _)) rfl rfl) ?_
  refine ops_v (v_extract (v := (.agg _)) rfl rfl rfl) ?_
  refine ops_v (v_extract (v := (.bool _)) rfl rfl rfl) ?_
  refine ops_alloc H rfl tz42 ?_
  clear H; intro bn0 w H
  refine ops_store (vs := [_, _, _, _, _]) (v := (.agg _)) (cs' := [_, _, _, _, _]) 0 H rfl ts42 rfl rfl rfl rfl rfl rfl rfl rfl ?_
  clear H; intro w H
  refine ops_v (v_assign (v := (.bool _)) rfl rfl) ?_
  refine ops_nil ?_
  refine W_seq ?_
  refine W_region ?_
  refine ops_v (v_move (v := (.bool _)) rfl rfl) ?_
  refine ops_v (v_move (v := (.bool _)) rfl rfl) ?_
  refine ops_skip rfl rfl ?_
  refine ops_skip rfl rfl ?_
  refine ops_skip rfl rfl ?_
  refine ops_skip rfl rfl ?_
  refine ops_skip rfl rfl ?_
  refine ops_skip rfl rfl ?_
  refine ops_skip rfl rfl ?_
  refine ops_skip rfl rfl ?_
  refine ops_v (v_pick_f (v := (.bool _)) rfl rfl rfl) ?_
  refine ops_v (v_assign (v := (.bool _)) rfl rfl) ?_
  refine ops_nil ?_
  refine W_ret ?_
  refine ⟨_, (.tmp (v := (.bool _)) rfl .nil), ?_⟩
  exact ⟨rfl, H.tail⟩
  -- ((*node.Store).under: ret; chunks n0; ptr 7=n0)
theorem put_nil {wb w : World} {R : List Chunk} (H : Own wb R w) (b : Br) :
    FnC Try.prog 70 [.pointer none, encB b] w (fun v w' => v = pairV 0 60 ∧ Own wb R w') := by
  refine FnC_of Try.func70 rfl rfl rfl rfl ?_
  refine W_seq ?_
  refine W_region ?_
  refine ops_box (v := (.agg _)) (cs := [_, _, _, _, _]) H rfl rfl rfl ?_
  clear H; intro bn0 w H
  refine ops_v (v_assign (v := _) rfl rfl) ?_
  refine ops_v (v_assign (v := _) rfl rfl) ?_
  refine ops_nil ?_
  refine W_seq ?_
  refine W_seq ?_
  refine W_region ?_
  refine ops_v (v_move (v := (.pointer _)) rfl rfl) ?_
  refine ops_v (v_eql_nil _ rfl ip27 rfl rfl rfl) ?_
  refine ops_nil ?_
  refine W_if_t rfl ?_
  refine W_seq ?_
  refine W_region ?_
  refine ops_v (v_assign (v := _) rfl rfl) ?_
  refine ops_v (v_assign (v := _) rfl rfl) ?_
  refine ops_nil ?_
  refine W_ret ?_
  refine ⟨_, (.tmp (v := (.int _ _)) rfl (.tmp (v := (.int _ _)) rfl .nil)), ?_⟩
  exact ⟨rfl, H.tail⟩
  -- ((*node.Store).put: ret; chunks n0; ptr 3=n0)
theorem Leaf_nil {wb w : World} {R : List Chunk} (H : Own wb R w) (x : Int) :
    FnC Try.prog 38 [.pointer none, int x] w (fun v w' => v = pairV 0 60 ∧ Own wb R w') := by
  refine FnC_of Try.func38 rfl rfl rfl rfl ?_
  refine W_seq ?_
  refine W_region ?_
  refine ops_v (v_assign (v := _) rfl rfl) ?_
  refine ops_v (v_assign (v := _) rfl rfl) ?_
  refine ops_nil ?_
  refine W_seq ?_
  refine W_region ?_
  refine ops_v (v_move (v := (.pointer _)) rfl rfl) ?_
  refine ops_v (v_move (v := (.int _ _)) rfl rfl) ?_
  refine ops_v (v_build (cs := [(.bool _), (.int _ _), (.int _ _), (.int _ _), (.int _ _)]) rfl bp42 rfl) ?_
  refine ops_call rfl c70 (put_nil H (M.leafB x)) ?_
  clear H; rintro _ w ⟨rfl, H⟩
  refine ops_v (v_extract (v := (.int _ _)) rfl rfl rfl) ?_
  refine ops_v (v_extract (v := (.int _ _)) rfl rfl rfl) ?_
  refine ops_v (v_assign (v := (.int _ _)) rfl rfl) ?_
  refine ops_v (v_assign (v := (.int _ _)) rfl rfl) ?_
  refine ops_nil ?_
  refine W_ret ?_
  refine ⟨_, (.tmp (v := (.int _ _)) rfl (.tmp (v := (.int _ _)) rfl .nil)), ?_⟩
  exact ⟨rfl, H⟩
  -- ((*node.Store).Leaf: ret; chunks ; ptr )
theorem Make_nil {wb w : World} {R : List Chunk} (H : Own wb R w) (k a b : Int) :
    FnC Try.prog 39 [.pointer none, int k, int a, int b] w (fun v w' => v = pairV 0 1 ∧ Own wb R w') := by
  by_cases c1 : k < 0
  · refine FnC_of Try.func39 rfl rfl rfl rfl ?_
    refine W_seq ?_
    refine W_region ?_
    refine ops_v (v_assign (v := _) rfl rfl) ?_
    refine ops_v (v_assign (v := _) rfl rfl) ?_
    refine ops_nil ?_
    refine W_seq ?_
    refine W_block ?_
    refine W_seq ?_
    refine W_seq ?_
    refine W_region ?_
    refine ops_v (v_move (v := (.int _ _)) rfl rfl) ?_
    refine ops_v (v_lss true rfl rfl rfl (decide_eq_true (by first | omega | (simp only; omega) | rfl | decide))) ?_
    refine ops_v (v_assign (v := (.bool _)) rfl rfl) ?_
    refine ops_nil ?_
    refine W_if_t rfl ?_
    refine W_skip ?_
    refine W_if_t rfl ?_
    refine W_seq ?_
    refine W_region ?_
    refine ops_v (v_assign (v := _) rfl rfl) ?_
    refine ops_v (v_assign (v := _) rfl rfl) ?_
    refine ops_nil ?_
    refine W_ret ?_
    refine ⟨_, (.tmp (v := (.int _ _)) rfl (.tmp (v := (.int _ _)) rfl .nil)), ?_⟩
    exact ⟨rfl, H⟩
    -- ((*node.Store).Make: ret; chunks ; ptr )
  · refine FnC_of Try.func39 rfl rfl rfl rfl ?_
    refine W_seq ?_
    refine W_region ?_
    refine ops_v (v_assign (v := _) rfl rfl) ?_
    refine ops_v (v_assign (v := _) rfl rfl) ?_
    refine ops_nil ?_
    refine W_seq ?_
    refine W_block ?_
    refine W_seq ?_
    refine W_seq ?_
    refine W_region ?_
    refine ops_v (v_move (v := (.int _ _)) rfl rfl) ?_
    refine ops_v (v_lss false rfl rfl rfl (decide_eq_false (by first | omega | (simp only; omega) | rfl | decide))) ?_
    refine ops_v (v_assign (v := (.bool _)) rfl rfl) ?_
    refine ops_nil ?_
    refine W_if_f rfl ?_
    refine W_seq ?_
    refine W_region ?_
    refine ops_v (v_move (v := (.int _ _)) rfl rfl) ?_
    refine ops_v (v_move (v := (.pointer _)) rfl rfl) ?_
    refine ops_call rfl c28 (Links_nil H) ?_
    clear H; rintro _ w ⟨rfl, H⟩
    refine ops_v (v_geq true rfl rfl rfl (decide_eq_true (by first | omega | (simp only; omega) | rfl | decide))) ?_
    refine ops_v (v_assign (v := (.bool _)) rfl rfl) ?_
    refine ops_nil ?_
    refine W_if_t rfl ?_
    refine W_skip ?_
    refine W_if_t rfl ?_
    refine W_seq ?_
    refine W_region ?_
    refine ops_v (v_assign (v := _) rfl rfl) ?_
    refine ops_v (v_assign (v := _) rfl rfl) ?_
    refine ops_nil ?_
    refine W_ret ?_
    refine ⟨_, (.tmp (v := (.int _ _)) rfl (.tmp (v := (.int _ _)) rfl .nil)), ?_⟩
    exact ⟨rfl, H⟩
    -- ((*node.Store).Make: ret; chunks ; ptr )
theorem Eval_nil {wb w : World} {R : List Chunk} (H : Own wb R w) (id f : Int) :
    FnC Try.prog 33 [.pointer none, int id, int f] w (fun v w' => v = .int .i64 0 ∧ Own wb R w') := by
  refine FnC_of Try.func33 rfl rfl rfl rfl ?_
  refine W_seq ?_
  refine W_region ?_
  refine ops_v (v_assign (v := _) rfl rfl) ?_
  refine ops_nil ?_
  refine W_seq ?_
  refine W_region ?_
  refine ops_v (v_move (v := (.pointer _)) rfl rfl) ?_
  refine ops_v (v_move (v := (.int _ _)) rfl rfl) ?_
  refine ops_call rfl c31 (Node_nil H id) ?_
  clear H; rintro _ w ⟨rfl, H⟩
  refine ops_v (v_move (v := (.tuple _)) rfl rfl) ?_
  refine ops_v (v_extract (v := (.agg _)) rfl rfl rfl) ?_
  refine ops_v (v_extract (v := (.bool _)) rfl rfl rfl) ?_
  refine ops_alloc H rfl tz42 ?_
  clear H; intro bn0 w H
  refine ops_store (vs := [_, _, _, _, _]) (v := (.agg _)) (cs' := [_, _, _, _, _]) 0 H rfl ts42 rfl rfl rfl rfl rfl rfl rfl rfl ?_
  clear H; intro w H
  refine ops_v (v_assign (v := (.bool _)) rfl rfl) ?_
  refine ops_nil ?_
  refine W_seq ?_
  refine W_block ?_
  -- ((*node.Store).Eval: loop; chunks n0; ptr 7=n0)
  refine W_loopS (fun (_ : Unit) => [(7, ptr bn0), (8, .bool false)]) (fun _ w => Own wb (Blk bn0 (cellsB Br.zero) 42 :: R) w) (fun _ => 0) () ⟨rfl, rfl, trivial⟩ H ?_
  clear H
  rintro _ e w H
  refine W_seq ?_
  refine W_seq ?_
  refine W_region ?_
  refine ops_v (v_move (v := (.bool _)) rfl rfl) ?_
  refine ops_v (v_move (v := (.bool _)) rfl rfl) ?_
  refine ops_skip rfl rfl ?_
  refine ops_skip rfl rfl ?_
  refine ops_skip rfl rfl ?_
  refine ops_v (v_pick_f (v := (.bool _)) rfl rfl rfl) ?_
  refine ops_nil ?_
  refine W_if_f rfl ?_
  refine W_exit ?_
  refine W_seq ?_
  refine W_region ?_
  refine ops_v (v_fieldAddr rfl fo42_1 rfl rfl) ?_
  refine ops_load (v := (.int _ _)) 0 H rfl tc3 rfl rfl rfl ?_
  refine ops_v (v_assign (v := (.int _ _)) rfl rfl) ?_
  refine ops_nil ?_
  refine W_ret ?_
  refine ⟨_, (.tmp (v := (.int _ _)) rfl .nil), ?_⟩
  exact ⟨rfl, H.tail⟩
  -- ((*node.Store).Eval: ret; chunks n0; ptr 7=n0,39=n0)
theorem Count_nil {wb w : World} {R : List Chunk} (H : Own wb R w) (id : Int) :
    FnC Try.prog 35 [.pointer none, int id] w (fun v w' => v = .int .i64 0 ∧ Own wb R w') := by
  refine FnC_of Try.func35 rfl rfl rfl rfl ?_
  refine W_seq ?_
  refine W_region ?_
  refine ops_v (v_assign (v := _) rfl rfl) ?_
  refine ops_nil ?_
  refine W_seq ?_
  refine W_region ?_
  refine ops_makeMap H encI rfl ?_
  clear H; intro m w H
  refine ops_v (v_assign (v := (.map _)) rfl rfl) ?_
  refine ops_nil ?_
  refine W_seq ?_
  refine W_seq ?_
  refine W_region ?_
  refine ops_v (v_move (v := (.int _ _)) rfl rfl) ?_
  refine ops_buildSlice (cs := [.int _ _]) H rfl bs40_1 rfl ?_
  clear H; intro g w H
  refine ops_v (v_assign (v := (.slice _ _ _)) rfl rfl) ?_
  refine ops_nil ?_
  refine W_block ?_
  -- ((*node.Store).Count: loop; chunks m; ptr )
  have H := H.blkToSl (sz := 1) (k := 1) rfl (by decide)
  refine W_loopS (fun (s : Nat × List Int) => [(0, .pointer none), (5, .map (some m)), (6, .slice (some ⟨g, 0, none⟩) s.2.length s.1)])
    (fun s w => Own wb (SlC (some ⟨g, 0, none⟩) s.2.length s.1 3 1 (ints s.2) :: MapC encI m (seenL []) :: R) w ∧ s.2.length ≤ 1)
    (fun s => s.2.length) (1, [id]) ⟨rfl, rfl, rfl, trivial⟩ ⟨H, Nat.le_refl _⟩ ?_
  clear H
  rintro ⟨cap, stk⟩ e w ⟨H, hle⟩
  simp only at H hle ⊢
  rcases List.eq_nil_or_concat stk with rfl | ⟨stk', n, rfl⟩
  · have hz : (List.length ([] : List Int)) = 0 := rfl
    refine W_seq ?_
    refine W_seq ?_
    refine W_region ?_
    refine ops_v (v_move (v := (.slice _ _ _)) rfl rfl) ?_
    refine ops_v (v_len rfl sl40 rfl) ?_
    refine ops_v (v_gtr false rfl rfl rfl (decide_eq_false (by first | omega | (simp only; omega) | rfl | decide))) ?_
    refine ops_nil ?_
    refine W_if_f rfl ?_
    refine W_exit ?_
    refine W_seq ?_
    refine W_region ?_
    refine ops_v (v_move (v := (.map _)) rfl rfl) ?_
    refine ops_v (v_lenMap (l := seenL []) Try.underlying76 rfl rfl (fun w' hw' => by rw [hw']; exact H.map 1 rfl)) ?_
    refine ops_v (v_assign (v := (.int _ _)) rfl rfl) ?_
    refine ops_nil ?_
    refine W_ret ?_
    refine ⟨_, (.tmp (v := (.int _ _)) rfl .nil), ?_⟩
    exact ⟨rfl, H.tail.tail⟩
    -- ((*node.Store).Count: ret; chunks s,m; ptr )
  · have hlen : (stk' ++ [n]).length = stk'.length + 1 := by simp
    rw [List.concat_eq_append] at *
    rw [hlen] at H hle ⊢
    have hle' : stk'.length ≤ stk'.length + 1 := by omega
    have hcap : stk'.length ≤ cap := by
      obtain ⟨D, hD⟩ := H.at 0 rfl
      rcases hD.2 with ⟨h0, _⟩ | ⟨_, _, _, _, _, h4, _⟩
      · cases h0
      · omega
    have hv : (ints (stk' ++ [n]))[0 + ((stk'.length : Int)).toNat * 1]? = some (.int .i64 n) := by
      have : 0 + ((stk'.length : Int)).toNat * 1 = stk'.length := by omega
      rw [this]
      simp [ints]
    have hx : (ints (stk' ++ [n])).take (stk'.length * 1) = ints stk' := by simp [ints]
    have hlk : look (seenL []) n = none := rfl
    refine W_seq ?_
    refine W_seq ?_
    refine W_region ?_
    refine ops_v (v_move (v := (.slice _ _ _)) rfl rfl) ?_
    refine ops_v (v_len rfl sl40 rfl) ?_
    refine ops_v (v_gtr true rfl rfl rfl (decide_eq_true (by first | omega | (simp only; omega) | rfl | decide))) ?_
    refine ops_nil ?_
    refine W_if_t rfl ?_
    refine W_skip ?_
    refine W_block ?_
    refine W_seq ?_
    refine W_region ?_
    refine ops_v (v_move (v := (.slice _ _ _)) rfl rfl) ?_
    refine ops_v (v_len rfl sl40 rfl) ?_
    refine ops_v (v_sub (stk'.length : Int) rfl rfl rfl (by rw [wrap_in (by omega) (by omega)]; omega)) ?_
    refine ops_v (v_assign (v := (.int _ _)) rfl rfl) ?_
    refine ops_nil ?_
    refine W_seq ?_
    refine W_region ?_
    refine ops_v (v_move (v := (.slice _ _ _)) rfl rfl) ?_
    refine ops_v (v_move (v := (.int _ _)) rfl rfl) ?_
    refine ops_v (v_indexAddr_sl rfl se40 rfl rfl (by omega) (by omega)) ?_
    refine ops_loadSl (v := .int .i64 n) 0 H rfl tc3 rfl rfl hv ?_
    refine ops_v (v_assign (v := (.int _ _)) rfl rfl) ?_
    refine ops_nil ?_
    refine W_seq ?_
    refine W_region ?_
    refine ops_v (v_move (v := (.slice _ _ _)) rfl rfl) ?_
    refine ops_v (v_move (v := (.int _ _)) rfl rfl) ?_
    refine ops_v (v_sliceHi rfl se40 rfl rfl hcap) ?_
    refine ops_v (v_assign (v := (.slice _ _ _)) rfl rfl) ?_
    refine ops_nil ?_
    refine W_seq ?_
    have H := H.slTake stk'.length hle'
    rw [hx] at H
    refine W_region ?_
    refine ops_v (v_move (v := (.pointer _)) rfl rfl) ?_
    refine ops_v (v_move (v := (.int _ _)) rfl rfl) ?_
    refine ops_call rfl c31 (Node_nil H n) ?_
    clear H; rintro _ w ⟨rfl, H⟩
    refine ops_v (v_move (v := (.tuple _)) rfl rfl) ?_
    refine ops_v (v_extract (v := (.agg _)) rfl rfl rfl) ?_
    refine ops_v (v_extract (v := (.bool _)) rfl rfl rfl) ?_
    refine ops_alloc H rfl tz42 ?_
    clear H; intro bn0 w H
    refine ops_store (vs := [_, _, _, _, _]) (v := (.agg _)) (cs' := [_, _, _, _, _]) 0 H rfl ts42 rfl rfl rfl rfl rfl rfl rfl rfl ?_
    clear H; intro w H
    refine ops_v (v_assign (v := (.bool _)) rfl rfl) ?_
    refine ops_nil ?_
    refine W_seq ?_
    refine W_seq ?_
    refine W_region ?_
    refine ops_v (v_move (v := (.map _)) rfl rfl) ?_
    refine ops_v (v_move (v := (.int _ _)) rfl rfl) ?_
    refine ops_lookup 2 H keyI Try.underlying76 zeroUnit rfl rfl rfl rfl hlk ?_
    refine ops_v (v_move (v := (.tuple _)) rfl rfl) ?_
    refine ops_v (v_extract (v := (.agg _)) rfl rfl rfl) ?_
    refine ops_v (v_extract (v := (.bool _)) rfl rfl rfl) ?_
    refine ops_alloc H rfl tz77 ?_
    clear H; intro bn1 w H
    refine ops_store (vs := []) (v := (.agg _)) (cs' := []) 0 H rfl ts77 rfl rfl rfl rfl rfl rfl rfl rfl ?_
    clear H; intro w H
    refine ops_v (v_assign (v := (.bool _)) rfl rfl) ?_
    refine ops_nil ?_
    refine W_seq ?_
    refine W_region ?_
    refine ops_v (v_move (v := (.bool _)) rfl rfl) ?_
    refine ops_v (v_move (v := (.bool _)) rfl rfl) ?_
    refine ops_v (v_move (v := (.bool _)) rfl rfl) ?_
    refine ops_v (v_not rfl rfl _ rfl) ?_
    refine ops_v (v_pick_f (v := (.bool _)) rfl rfl rfl) ?_
    refine ops_nil ?_
    refine W_if_t rfl ?_
    refine W_exit ?_
    exact ⟨(cap, stk'), by simp, ⟨rfl, rfl, rfl, trivial⟩, H.tail.tail, by show stk'.length ≤ 1; omega⟩
    -- ((*node.Store).Count: loopend; chunks n1,n0,s,m; ptr 9=n0,11=n1)

/-! ### A store or none: both as the model -/
def XC (o : Option Nat) (st : St) : Chunk := match o with
  | some p => StoreC p st
  | none => PureC (st = ⟨0, 0, []⟩)
def xptr (o : Option Nat) : Value := .pointer (o.map fun p => ⟨p, 0, none⟩)
section
variable {wb w : World} {o : Option Nat} {st : St} {R : List Chunk}
theorem zero_get (id : Int) : M.get ⟨0, 0, []⟩ id = none := by unfold M.get; split <;> rfl
theorem Links_x (H : Own wb (XC o st :: R) w) : FnC Try.prog 28 [xptr o] w (fun v w' => v = .int .i64 st.links ∧ Own wb (XC o st :: R) w') := by
  cases o with
  | some p => exact Links_ok H
  | none =>
    obtain ⟨rfl, H'⟩ := H.pure
    exact (Links_nil H').mono fun _ _ ⟨h, H⟩ => ⟨h, H.toPure rfl⟩
theorem Size_x (H : Own wb (XC o st :: R) w) : FnC Try.prog 30 [xptr o] w (fun v w' => v = .int .i64 st.nodes.length ∧ Own wb (XC o st :: R) w') := by
  cases o with
  | some p => exact Size_ok H
  | none =>
    obtain ⟨rfl, H'⟩ := H.pure
    exact (Size_nil H').mono fun _ _ ⟨h, H⟩ => ⟨h, H.toPure rfl⟩
theorem NodeZ_x (id : Int) (H : Own wb (XC o st :: R) w) : FnC Try.prog 31 [xptr o, int id] w (fun v w' => v = nodeV (getZ st id) (isN st id) ∧ Own wb (XC o st :: R) w') := by
  cases o with
  | some p => exact NodeZ_ok id H
  | none =>
    obtain ⟨rfl, H'⟩ := H.pure
    refine (Node_nil H' id).mono fun _ _ ⟨h, H⟩ => ⟨?_, H.toPure rfl⟩
    rw [h, getZ, isN, zero_get]; rfl
theorem Leaf_x {x : Int} (hm : st.most ≤ 1073741824) {st' : St} {n e : Int} (hp : M.leaf st x = (st', n, e)) (H : Own wb (XC o st :: R) w) :
    FnC Try.prog 38 [xptr o, int x] w (fun v w' => v = pairV n e ∧ Own wb (XC o st' :: R) w') := by
  cases o with
  | some p => exact Leaf_ok hm hp H
  | none =>
    obtain ⟨rfl, H'⟩ := H.pure
    cases hp
    exact (Leaf_nil H' x).mono fun _ _ ⟨h, H⟩ => ⟨h, H.toPure rfl⟩
theorem Make_x {k a b : Int} (hm : st.most ≤ 1073741824) {st' : St} {n e : Int} (hp : M.make st k a b = (st', n, e)) (H : Own wb (XC o st :: R) w) :
    FnC Try.prog 39 [xptr o, int k, int a, int b] w (fun v w' => v = pairV n e ∧ Own wb (XC o st' :: R) w') := by
  cases o with
  | some p => exact Make_ok hm hp H
  | none =>
    obtain ⟨rfl, H'⟩ := H.pure
    have hz : M.make ⟨0, 0, []⟩ k a b = (⟨0, 0, []⟩, 0, 1) := by
      unfold M.make
      rw [if_neg]
      rw [M.makeOk_iff]
      rintro ⟨h1, h2, _⟩
      simp only at h2
      omega
    rw [hz] at hp
    cases hp
    exact (Make_nil H' k a b).mono fun _ _ ⟨h, H⟩ => ⟨h, H.toPure rfl⟩
theorem Eval_x (hw : Wf st) (id f : Int) (H : Own wb (XC o st :: R) w) : FnC Try.prog 33 [xptr o, int id, int f] w (fun v w' => v = .int .i64 (M.eval st id f) ∧ Own wb (XC o st :: R) w') := by
  cases o with
  | some p => exact Eval_ok hw id f H
  | none =>
    obtain ⟨rfl, H'⟩ := H.pure
    refine (Eval_nil H' id f).mono fun _ _ ⟨h, H⟩ => ⟨?_, H.toPure rfl⟩
    rw [h, M.eval_none (zero_get id)]
theorem Count_x (hw : Wf st) (id : Int) (H : Own wb (XC o st :: R) w) : FnC Try.prog 35 [xptr o, int id] w (fun v w' => v = .int .i64 (M.count st id) ∧ Own wb (XC o st :: R) w') := by
  cases o with
  | some p => exact Count_ok hw id H
  | none =>
    obtain ⟨rfl, H'⟩ := H.pure
    exact (Count_nil H' id).mono fun _ _ ⟨h, H⟩ => ⟨h, H.toPure rfl⟩
end
end Go.Proofs.Ytchikjmhncojfaa.W
