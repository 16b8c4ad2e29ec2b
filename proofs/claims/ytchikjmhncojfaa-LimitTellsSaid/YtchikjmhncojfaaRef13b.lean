/- The document's own store (backstayref13): put, Leaf, under, Make, Eval. Conditions: none. -/
import Derived.Test.YtchikjmhncojfaaRef13
import Derived.Test.YtchikjmhncojfaaMade
namespace Go.Proofs.Ytchikjmhncojfaa.W
open Go Go.Proofs Go.RowKit
open Go.Proofs.Ytchikjmhncojfaa.M (Br St getZ isN idx has down Wf rank i64 leafB askB)
theorem take_drop_of {cs xs : List Value} {m o k : Nat} {vs : List Value} (h : cs.take m = xs) (hx : (xs.drop o).take k = vs) (hl : vs.length = k) : (cs.drop o).take k = vs := by
  subst h
  by_cases hk : k = 0
  · subst hk; simp at hl; simp [hl]
  · have hlen : (((cs.take m).drop o).take k).length = k := by rw [hx]; exact hl
    rw [List.length_take, List.length_drop, List.length_take] at hlen
    rw [← hx, List.drop_take, List.take_take]
    congr 1
    omega
theorem idx_at {l : List Br} {b : Br} : ∀ {i : Nat}, (∀ j, j < i → l[j]? ≠ some b) → l[i]? = some b → idx l b = some i := by
  intro i h1 h2
  unfold idx
  obtain ⟨hlt, he⟩ := List.getElem?_eq_some_iff.1 h2
  refine List.findIdx?_eq_some_iff_getElem.2 ⟨hlt, by simp [he], fun j hj => ?_⟩
  have := h1 j hj
  rw [List.getElem?_eq_getElem (by omega)] at this
  simpa using this
theorem idx_no {l : List Br} {b : Br} (h : ∀ j : Nat, j < l.length → l[j]? ≠ some b) : idx l b = none := by
  unfold idx
  refine List.findIdx?_eq_none_iff.2 fun x hx => ?_
  obtain ⟨j, hj, rfl⟩ := List.mem_iff_getElem.1 hx
  have := h j hj
  rw [List.getElem?_eq_getElem hj] at this
  simpa using this
theorem flatB_at {l : List Br} {i : Nat} {b : Br} (h : l[i]? = some b) : ((flatB l).drop (0 + ((i : Int)).toNat * 5)).take 5 = cellsB b := by
  rw [Nat.zero_add]; exact flatB_get _ _ _ h
theorem put13_ok {wb w : World} {p : Nat} {st : St} {R : List Chunk} {b : Br} (hm : st.most ≤ 1073741824) (hroom : st.nodes.length ≤ st.most) {st' : St} {n e : Int} (hp : M.put st b = (st', n, e)) (H : Own wb (RefC p st :: R) w) :
    FnC Try.prog 86 [ptr p, encB b] w (fun v w' => v = pairV n e ∧ Own wb (RefC p st' :: R) w') := by
  obtain ⟨a, cap, H⟩ := H.openR
  refine FnC_of Try.func86 rfl rfl rfl rfl ?_
  refine W_seq ?_
  refine W_region ?_
  refine ops_box (v := (.agg _)) (cs := [_, _, _, _, _]) H rfl rfl rfl ?_
  clear H; intro bn0 w H
  refine ops_v (v_assign (v := _) rfl rfl) ?_
  refine ops_v (v_assign (v := _) rfl rfl) ?_
  refine ops_nil ?_
  refine W_seq ?_
  refine W_seq ?_
  refine W_region ?_
  refine ops_v (v_assign (v := _) rfl rfl) ?_
  refine ops_nil ?_
  refine W_block ?_
  -- ((*backstayref13.Store).put: loop; chunks n0,p,s; ptr 0=p,3=n0)
  refine W_loopS (fun (i : Nat) => [(0, ptr p), (3, ptr bn0), (6, .int .i64 i)])
    (fun i w => Own wb (Blk bn0 (cellsB b) 42 :: Blk p [.int .i64 st.links, .int .i64 st.most, .slice a st.nodes.length cap] 31 :: SlC a st.nodes.length cap 42 5 (flatB st.nodes) :: R) w ∧ i ≤ st.nodes.length ∧ ∀ j, j < i → st.nodes[j]? ≠ some b)
    (fun i => st.nodes.length - i) 0 ⟨rfl, rfl, rfl, trivial⟩ ⟨H, Nat.zero_le _, fun j hj => by omega⟩ ?_
  clear H
  rintro i e w ⟨H, hle, hno⟩
  by_cases hil : (i : Int) < (st.nodes.length : Int)
  · obtain ⟨x, hx⟩ : ∃ x, st.nodes[i]? = some x := ⟨st.nodes[i]'(by omega), by simp⟩
    obtain ⟨g, rfl⟩ := H.slSome 2 rfl (by omega)
    by_cases hxb : x = b
    · subst hxb
      have hi := idx_at hno hx
      have he : M.put st x = (st, (i : Int), 0) := by simp [M.put, hi]
      rw [hp] at he
      cases he
      refine W_seq ?_
      refine W_seq ?_
      refine W_region ?_
      refine ops_v (v_move (v := (.int _ _)) rfl rfl) ?_
      refine ops_v (v_move (v := (.pointer _)) rfl rfl) ?_
      refine ops_v (v_nilCheck rfl rfl) ?_
      refine ops_v (v_fieldAddr rfl fo31_2 rfl rfl) ?_
      refine ops_load (v := (.slice _ _ _)) 1 H rfl tc29 rfl rfl rfl ?_
      refine ops_v (v_len rfl sl29 rfl) ?_
      refine ops_v (v_lss true rfl rfl rfl (decide_eq_true (by first | omega | (simp only; omega) | rfl | decide))) ?_
      refine ops_nil ?_
      refine W_if_t rfl ?_
      refine W_skip ?_
      refine W_seq ?_
      refine W_block ?_
      refine W_seq ?_
      obtain ⟨cs, t1, t2, t3, t4, H⟩ := H.slToBlk 2 rfl
      refine W_draw (is := [0, 1, 2]) mixed H ?_
      clear H; intro w H
      refine any_take 0 rfl (by kernel_rfl) (by kernel_rfl) (by kernel_rfl) (v_move (v := (.pointer _)) rfl rfl) ?_
      refine any_take 1 rfl (by kernel_rfl) (by kernel_rfl) (by kernel_rfl) (v_nilCheck rfl rfl) ?_
      refine any_take 2 rfl (by kernel_rfl) (by kernel_rfl) (by kernel_rfl) (v_fieldAddr rfl fo31_2 rfl rfl) ?_
      refine any_take 3 rfl (by kernel_rfl) (by kernel_rfl) (by kernel_rfl) (v_load (v := (.slice _ _ _)) rfl tc29 (fun _ hS => hS.2.1 _ _ _ rfl) rfl rfl) ?_
      refine any_take 4 rfl (by kernel_rfl) (by kernel_rfl) (by kernel_rfl) (v_move (v := (.int _ _)) rfl rfl) ?_
      refine any_take 5 rfl (by kernel_rfl) (by kernel_rfl) (by kernel_rfl) (v_indexAddr_sl rfl se29 rfl rfl (by omega) (by omega)) ?_
      refine any_take 6 rfl (by kernel_rfl) (by kernel_rfl) (by kernel_rfl) (v_loadA (vs := cellsB x) rfl ta42 (fun _ hS => hS.2.2.1 _ _ _ rfl) rfl (take_drop_of t1 (flatB_at hx) rfl) rfl) ?_
      refine any_take 7 rfl (by kernel_rfl) (by kernel_rfl) (by kernel_rfl) (v_loadA (vs := cellsB x) rfl ta42 (fun _ hS => hS.1 _ _ _ rfl) rfl rfl rfl) ?_
      refine any_take 8 rfl (by kernel_rfl) (by kernel_rfl) (by kernel_rfl) (v_eqlB x x true rfl rfl rfl (by simp)) ?_
      refine any_done (by kernel_rfl) ?_
      refine W_if_t rfl ?_
      refine W_seq ?_
      refine W_region ?_
      refine ops_v (v_move (v := (.int _ _)) rfl rfl) ?_
      refine ops_v (v_assign (v := (.int _ _)) rfl rfl) ?_
      refine ops_v (v_assign (v := _) rfl rfl) ?_
      refine ops_nil ?_
      refine W_ret ?_
      refine ⟨_, (.tmp (v := (.int _ _)) rfl (.tmp (v := (.int _ _)) rfl .nil)), ?_⟩
      have H := H.blkToSlAt 2 rfl t1 t2 t3 t4
      exact ⟨rfl, H.tail.shutR⟩
      -- ((*backstayref13.Store).put: ret; chunks k,p,s; ptr 0=p,3=k,8=p,9=p,10=p,16=p,17=p,18=p)
    · refine W_seq ?_
      refine W_seq ?_
      refine W_region ?_
      refine ops_v (v_move (v := (.int _ _)) rfl rfl) ?_
      refine ops_v (v_move (v := (.pointer _)) rfl rfl) ?_
      refine ops_v (v_nilCheck rfl rfl) ?_
      refine ops_v (v_fieldAddr rfl fo31_2 rfl rfl) ?_
      refine ops_load (v := (.slice _ _ _)) 1 H rfl tc29 rfl rfl rfl ?_
      refine ops_v (v_len rfl sl29 rfl) ?_
      refine ops_v (v_lss true rfl rfl rfl (decide_eq_true (by first | omega | (simp only; omega) | rfl | decide))) ?_
      refine ops_nil ?_
      refine W_if_t rfl ?_
      refine W_skip ?_
      refine W_seq ?_
      refine W_block ?_
      refine W_seq ?_
      obtain ⟨cs, t1, t2, t3, t4, H⟩ := H.slToBlk 2 rfl
      refine W_draw (is := [0, 1, 2]) mixed H ?_
      clear H; intro w H
      refine any_take 0 rfl (by kernel_rfl) (by kernel_rfl) (by kernel_rfl) (v_move (v := (.pointer _)) rfl rfl) ?_
      refine any_take 1 rfl (by kernel_rfl) (by kernel_rfl) (by kernel_rfl) (v_nilCheck rfl rfl) ?_
      refine any_take 2 rfl (by kernel_rfl) (by kernel_rfl) (by kernel_rfl) (v_fieldAddr rfl fo31_2 rfl rfl) ?_
      refine any_take 3 rfl (by kernel_rfl) (by kernel_rfl) (by kernel_rfl) (v_load (v := (.slice _ _ _)) rfl tc29 (fun _ hS => hS.2.1 _ _ _ rfl) rfl rfl) ?_
      refine any_take 4 rfl (by kernel_rfl) (by kernel_rfl) (by kernel_rfl) (v_move (v := (.int _ _)) rfl rfl) ?_
      refine any_take 5 rfl (by kernel_rfl) (by kernel_rfl) (by kernel_rfl) (v_indexAddr_sl rfl se29 rfl rfl (by omega) (by omega)) ?_
      refine any_take 6 rfl (by kernel_rfl) (by kernel_rfl) (by kernel_rfl) (v_loadA (vs := cellsB x) rfl ta42 (fun _ hS => hS.2.2.1 _ _ _ rfl) rfl (take_drop_of t1 (flatB_at hx) rfl) rfl) ?_
      refine any_take 7 rfl (by kernel_rfl) (by kernel_rfl) (by kernel_rfl) (v_loadA (vs := cellsB b) rfl ta42 (fun _ hS => hS.1 _ _ _ rfl) rfl rfl rfl) ?_
      refine any_take 8 rfl (by kernel_rfl) (by kernel_rfl) (by kernel_rfl) (v_eqlB x b false rfl rfl rfl (by simp [hxb])) ?_
      refine any_done (by kernel_rfl) ?_
      refine W_if_f rfl ?_
      refine W_skip ?_
      refine W_region ?_
      refine ops_v (v_move (v := (.int _ _)) rfl rfl) ?_
      refine ops_v (v_add _ rfl rfl rfl (wrap_in (by omega) (by omega))) ?_
      refine ops_v (v_assign (v := (.int _ _)) rfl rfl) ?_
      refine ops_nil ?_
      have H := H.blkToSlAt 2 rfl t1 t2 t3 t4
      refine ⟨i + 1, ?_, ⟨rfl, rfl, rfl, trivial⟩, H, ?_, ?_⟩
      · show st.nodes.length - (i + 1) < st.nodes.length - i; omega
      · show i + 1 ≤ st.nodes.length; omega
      · intro j hj; rcases Nat.lt_succ_iff_lt_or_eq.1 hj with hj | rfl; exact hno j hj; rw [hx]; intro h; exact hxb (Option.some.inj h)
      -- ((*backstayref13.Store).put: loopend; chunks k,p,s; ptr 0=p,3=k,8=p,9=p,10=p,16=p,17=p,18=p)
  · have hi : idx st.nodes b = none := idx_no fun j hj => hno j (by omega)
    by_cases hfull : (st.most : Int) ≤ (st.nodes.length : Int)
    · have he : M.put st b = (st, 0, 60) := by simp [M.put, hi, show st.most ≤ st.nodes.length by omega]
      rw [hp] at he
      cases he
      refine W_seq ?_
      refine W_seq ?_
      refine W_region ?_
      refine ops_v (v_move (v := (.int _ _)) rfl rfl) ?_
      refine ops_v (v_move (v := (.pointer _)) rfl rfl) ?_
      refine ops_v (v_nilCheck rfl rfl) ?_
      refine ops_v (v_fieldAddr rfl fo31_2 rfl rfl) ?_
      refine ops_load (v := (.slice _ _ _)) 1 H rfl tc29 rfl rfl rfl ?_
      refine ops_v (v_len rfl sl29 rfl) ?_
      refine ops_v (v_lss false rfl rfl rfl (decide_eq_false (by first | omega | (simp only; omega) | rfl | decide))) ?_
      refine ops_nil ?_
      refine W_if_f rfl ?_
      refine W_exit ?_
      refine W_seq ?_
      refine W_seq ?_
      refine W_draw (is := [1]) mixed H ?_
      clear H; intro w H
      refine any_take 0 rfl (by kernel_rfl) (by kernel_rfl) (by kernel_rfl) (v_move (v := (.pointer _)) rfl rfl) ?_
      refine any_take 1 rfl (by kernel_rfl) (by kernel_rfl) (by kernel_rfl) (v_nilCheck rfl rfl) ?_
      refine any_take 2 rfl (by kernel_rfl) (by kernel_rfl) (by kernel_rfl) (v_fieldAddr rfl fo31_2 rfl rfl) ?_
      refine any_take 3 rfl (by kernel_rfl) (by kernel_rfl) (by kernel_rfl) (v_load (v := (.slice _ _ _)) rfl tc29 (fun _ hS => hS.1 _ _ _ rfl) rfl rfl) ?_
      refine any_take 4 rfl (by kernel_rfl) (by kernel_rfl) (by kernel_rfl) (v_len rfl sl29 rfl) ?_
      refine any_take 5 rfl (by kernel_rfl) (by kernel_rfl) (by kernel_rfl) (v_move (v := (.pointer _)) rfl rfl) ?_
      refine any_take 6 rfl (by kernel_rfl) (by kernel_rfl) (by kernel_rfl) (v_nilCheck rfl rfl) ?_
      refine any_take 7 rfl (by kernel_rfl) (by kernel_rfl) (by kernel_rfl) (v_fieldAddr rfl fo31_1 rfl rfl) ?_
      refine any_take 8 rfl (by kernel_rfl) (by kernel_rfl) (by kernel_rfl) (v_load (v := (.int _ _)) rfl tc3 (fun _ hS => hS.1 _ _ _ rfl) rfl rfl) ?_
      refine any_take 9 rfl (by kernel_rfl) (by kernel_rfl) (by kernel_rfl) (v_geq true rfl rfl rfl (decide_eq_true (by first | omega | (simp only; omega) | rfl | decide))) ?_
      refine any_done (by kernel_rfl) ?_
      refine W_if_t rfl ?_
      refine W_seq ?_
      refine W_region ?_
      refine ops_v (v_assign (v := _) rfl rfl) ?_
      refine ops_v (v_assign (v := _) rfl rfl) ?_
      refine ops_nil ?_
      refine W_ret ?_
      refine ⟨_, (.tmp (v := (.int _ _)) rfl (.tmp (v := (.int _ _)) rfl .nil)), ?_⟩
      exact ⟨rfl, H.tail.shutR⟩
      -- ((*backstayref13.Store).put: ret; chunks k,p,s; ptr 0=p,3=k,8=p,9=p,10=p,26=p,27=p,28=p,31=p,32=p,33=p)
    · have he : M.put st b = ({ st with nodes := st.nodes ++ [b] }, (st.nodes.length : Int), 0) := by simp [M.put, hi, show ¬ st.most ≤ st.nodes.length by omega]
      rw [hp] at he
      cases he
      have hml : st.nodes.length + 1 ≤ maxLen := by unfold maxLen; omega
      have hby : (st.nodes.length + 1) * 40 ≤ 140737488355328 := by omega
      have hfl : flatB st.nodes ++ cellsB b = flatB (st.nodes ++ [b]) := (flatB_snoc _ _).symm
      refine W_seq ?_
      refine W_seq ?_
      refine W_region ?_
      refine ops_v (v_move (v := (.int _ _)) rfl rfl) ?_
      refine ops_v (v_move (v := (.pointer _)) rfl rfl) ?_
      refine ops_v (v_nilCheck rfl rfl) ?_
      refine ops_v (v_fieldAddr rfl fo31_2 rfl rfl) ?_
      refine ops_load (v := (.slice _ _ _)) 1 H rfl tc29 rfl rfl rfl ?_
      refine ops_v (v_len rfl sl29 rfl) ?_
      refine ops_v (v_lss false rfl rfl rfl (decide_eq_false (by first | omega | (simp only; omega) | rfl | decide))) ?_
      refine ops_nil ?_
      refine W_if_f rfl ?_
      refine W_exit ?_
      refine W_seq ?_
      refine W_seq ?_
      refine W_draw (is := [1]) mixed H ?_
      clear H; intro w H
      refine any_take 0 rfl (by kernel_rfl) (by kernel_rfl) (by kernel_rfl) (v_move (v := (.pointer _)) rfl rfl) ?_
      refine any_take 1 rfl (by kernel_rfl) (by kernel_rfl) (by kernel_rfl) (v_nilCheck rfl rfl) ?_
      refine any_take 2 rfl (by kernel_rfl) (by kernel_rfl) (by kernel_rfl) (v_fieldAddr rfl fo31_2 rfl rfl) ?_
      refine any_take 3 rfl (by kernel_rfl) (by kernel_rfl) (by kernel_rfl) (v_load (v := (.slice _ _ _)) rfl tc29 (fun _ hS => hS.1 _ _ _ rfl) rfl rfl) ?_
      refine any_take 4 rfl (by kernel_rfl) (by kernel_rfl) (by kernel_rfl) (v_len rfl sl29 rfl) ?_
      refine any_take 5 rfl (by kernel_rfl) (by kernel_rfl) (by kernel_rfl) (v_move (v := (.pointer _)) rfl rfl) ?_
      refine any_take 6 rfl (by kernel_rfl) (by kernel_rfl) (by kernel_rfl) (v_nilCheck rfl rfl) ?_
      refine any_take 7 rfl (by kernel_rfl) (by kernel_rfl) (by kernel_rfl) (v_fieldAddr rfl fo31_1 rfl rfl) ?_
      refine any_take 8 rfl (by kernel_rfl) (by kernel_rfl) (by kernel_rfl) (v_load (v := (.int _ _)) rfl tc3 (fun _ hS => hS.1 _ _ _ rfl) rfl rfl) ?_
      refine any_take 9 rfl (by kernel_rfl) (by kernel_rfl) (by kernel_rfl) (v_geq false rfl rfl rfl (decide_eq_false (by first | omega | (simp only; omega) | rfl | decide))) ?_
      refine any_done (by kernel_rfl) ?_
      refine W_if_f rfl ?_
      refine W_skip ?_
      refine W_seq ?_
      refine W_draw (is := [0]) mixed H ?_
      clear H; intro w H
      refine any_take 0 rfl (by kernel_rfl) (by kernel_rfl) (by kernel_rfl) (v_move (v := (.pointer _)) rfl rfl) ?_
      refine any_take 1 rfl (by kernel_rfl) (by kernel_rfl) (by kernel_rfl) (v_move (v := (.pointer _)) rfl rfl) ?_
      refine any_take 2 rfl (by kernel_rfl) (by kernel_rfl) (by kernel_rfl) (v_nilCheck rfl rfl) ?_
      refine any_take 3 rfl (by kernel_rfl) (by kernel_rfl) (by kernel_rfl) (v_fieldAddr rfl fo31_2 rfl rfl) ?_
      refine any_take 5 rfl (by kernel_rfl) (by kernel_rfl) (by kernel_rfl) (v_loadA (vs := [_, _, _, _, _]) rfl ta42 (fun _ hS => hS.1 _ _ _ rfl) rfl rfl rfl) ?_
      refine any_two 4 6 rfl rfl (by kernel_rfl) ?_ ?_
      · refine ops_load (v := (.slice _ _ _)) 1 H rfl tc29 rfl rfl rfl ?_
        refine ops_nil ⟨H.stab [(0, 0)] ⟨rfl, trivial⟩, ?_⟩
        refine any_one 6 rfl (by kernel_rfl) ?_
        refine ops_buildSlice (cs := [(.bool _), (.int _ _), (.int _ _), (.int _ _), (.int _ _)]) H rfl bs29_1 rfl ?_
        clear H; intro bn0 w H
        refine ops_nil ⟨H.stab [(1, 0)] ⟨rfl, trivial⟩, ?_⟩
        refine any_one 7 rfl (by kernel_rfl) ?_
        refine ops_append 3 0 H rfl ap29 rfl rfl rfl rfl rfl rfl hml hby ?_
        clear H; intro a' cap' w H
        refine ops_nil ⟨H.stab [(1, 0)] ⟨rfl, trivial⟩, ?_⟩
        refine any_take 8 rfl (by kernel_rfl) (by kernel_rfl) (by kernel_rfl) (v_nilCheck rfl rfl) ?_
        refine any_take 9 rfl (by kernel_rfl) (by kernel_rfl) (by kernel_rfl) (v_fieldAddr rfl fo31_2 rfl rfl) ?_
        refine any_one 10 rfl (by kernel_rfl) ?_
        refine ops_store (vs := [_]) (v := (.slice _ _ _)) (cs' := [_, _, _]) 2 H rfl ts29 rfl rfl rfl rfl rfl rfl rfl rfl ?_
        clear H; intro w H
        refine ops_nil ⟨H.stab [(1, 0)] ⟨rfl, trivial⟩, ?_⟩
        refine any_done (by kernel_rfl) ?_
        refine W_seq ?_
        refine W_region ?_
        refine ops_v (v_move (v := (.pointer _)) rfl rfl) ?_
        refine ops_v (v_nilCheck rfl rfl) ?_
        refine ops_v (v_fieldAddr rfl fo31_2 rfl rfl) ?_
        refine ops_load (v := (.slice _ _ _)) 2 H rfl tc29 rfl rfl rfl ?_
        refine ops_v (v_len rfl sl29 rfl) ?_
        refine ops_v (v_sub (st.nodes.length : Int) rfl rfl rfl (by rw [wrap_in (by omega) (by omega)]; omega)) ?_
        refine ops_v (v_assign (v := (.int _ _)) rfl rfl) ?_
        refine ops_v (v_assign (v := _) rfl rfl) ?_
        refine ops_nil ?_
        refine W_ret ?_
        refine ⟨_, (.tmp (v := (.int _ _)) rfl (.tmp (v := (.int _ _)) rfl .nil)), ?_⟩
        have H := ((H.tail).tail)
        change Own wb (Blk p _ _ :: SlC _ _ _ _ _ (flatB st.nodes ++ cellsB b) :: R) w at H
        rw [hfl] at H
        refine ⟨rfl, Own.shutR (st := { st with nodes := st.nodes ++ [b] }) (a := a') (cap := cap') ?_⟩
        have e1 : (st.nodes ++ [b]).length = st.nodes.length + 1 := by simp
        simp only [e1]
        exact H
      · refine ops_buildSlice (cs := [(.bool _), (.int _ _), (.int _ _), (.int _ _), (.int _ _)]) H rfl bs29_1 rfl ?_
        clear H; intro bn0 w H
        refine ops_nil ⟨H.stab [(1, 0)] ⟨rfl, trivial⟩, ?_⟩
        refine any_one 4 rfl (by kernel_rfl) ?_
        refine ops_load (v := (.slice _ _ _)) 2 H rfl tc29 rfl rfl rfl ?_
        refine ops_nil ⟨H.stab [(1, 0)] ⟨rfl, trivial⟩, ?_⟩
        refine any_one 7 rfl (by kernel_rfl) ?_
        refine ops_append 3 0 H rfl ap29 rfl rfl rfl rfl rfl rfl hml hby ?_
        clear H; intro a' cap' w H
        refine ops_nil ⟨H.stab [(1, 0)] ⟨rfl, trivial⟩, ?_⟩
        refine any_take 8 rfl (by kernel_rfl) (by kernel_rfl) (by kernel_rfl) (v_nilCheck rfl rfl) ?_
        refine any_take 9 rfl (by kernel_rfl) (by kernel_rfl) (by kernel_rfl) (v_fieldAddr rfl fo31_2 rfl rfl) ?_
        refine any_one 10 rfl (by kernel_rfl) ?_
        refine ops_store (vs := [_]) (v := (.slice _ _ _)) (cs' := [_, _, _]) 2 H rfl ts29 rfl rfl rfl rfl rfl rfl rfl rfl ?_
        clear H; intro w H
        refine ops_nil ⟨H.stab [(1, 0)] ⟨rfl, trivial⟩, ?_⟩
        refine any_done (by kernel_rfl) ?_
        refine W_seq ?_
        refine W_region ?_
        refine ops_v (v_move (v := (.pointer _)) rfl rfl) ?_
        refine ops_v (v_nilCheck rfl rfl) ?_
        refine ops_v (v_fieldAddr rfl fo31_2 rfl rfl) ?_
        refine ops_load (v := (.slice _ _ _)) 2 H rfl tc29 rfl rfl rfl ?_
        refine ops_v (v_len rfl sl29 rfl) ?_
        refine ops_v (v_sub (st.nodes.length : Int) rfl rfl rfl (by rw [wrap_in (by omega) (by omega)]; omega)) ?_
        refine ops_v (v_assign (v := (.int _ _)) rfl rfl) ?_
        refine ops_v (v_assign (v := _) rfl rfl) ?_
        refine ops_nil ?_
        refine W_ret ?_
        refine ⟨_, (.tmp (v := (.int _ _)) rfl (.tmp (v := (.int _ _)) rfl .nil)), ?_⟩
        have H := ((H.tail).tail)
        change Own wb (Blk p _ _ :: SlC _ _ _ _ _ (flatB st.nodes ++ cellsB b) :: R) w at H
        rw [hfl] at H
        refine ⟨rfl, Own.shutR (st := { st with nodes := st.nodes ++ [b] }) (a := a') (cap := cap') ?_⟩
        have e1 : (st.nodes ++ [b]).length = st.nodes.length + 1 := by simp
        simp only [e1]
        exact H
      -- ((*backstayref13.Store).put: forked; chunks k,p,s; ptr 0=p,3=k,8=p,9=p,10=p,26=p,27=p,28=p,31=p,32=p,33=p,36=p,37=p,38=p,39=p)
theorem Leaf13_ok {wb w : World} {p : Nat} {st : St} {R : List Chunk} {x : Int} (hm : st.most ≤ 1073741824) (hroom : st.nodes.length ≤ st.most) {st' : St} {n e : Int} (hp : M.leaf st x = (st', n, e)) (H : Own wb (RefC p st :: R) w) :
    FnC Try.prog 65 [ptr p, int x] w (fun v w' => v = pairV n e ∧ Own wb (RefC p st' :: R) w') := by
  refine FnC_of Try.func65 rfl rfl rfl rfl ?_
  refine W_seq ?_
  refine W_region ?_
  refine ops_v (v_assign (v := _) rfl rfl) ?_
  refine ops_v (v_assign (v := _) rfl rfl) ?_
  refine ops_nil ?_
  refine W_seq ?_
  refine W_region ?_
  refine ops_v (v_move (v := (.pointer _)) rfl rfl) ?_
  refine ops_v (v_move (v := (.int _ _)) rfl rfl) ?_
  refine ops_v (v_build (cs := [(.bool _), (.int _ _), (.int _ _), (.int _ _), (.int _ _)]) rfl bp42 rfl) ?_
  refine ops_call rfl c86 (put13_ok (b := M.leafB x) hm hroom hp H) ?_
  clear H; rintro _ w ⟨rfl, H⟩
  refine ops_v (v_extract (v := (.int _ _)) rfl rfl rfl) ?_
  refine ops_v (v_extract (v := (.int _ _)) rfl rfl rfl) ?_
  refine ops_v (v_assign (v := (.int _ _)) rfl rfl) ?_
  refine ops_v (v_assign (v := (.int _ _)) rfl rfl) ?_
  refine ops_nil ?_
  refine W_ret ?_
  refine ⟨_, (.tmp (v := (.int _ _)) rfl (.tmp (v := (.int _ _)) rfl .nil)), ?_⟩
  exact ⟨rfl, H⟩
  -- ((*backstayref13.Store).Leaf: ret; chunks S; ptr )
theorem under13_ok {wb w : World} {p : Nat} {st : St} {R : List Chunk} {k id : Int} (c : Bool) (hc : M.under st k id = c) (H : Own wb (RefC p st :: R) w) :
    FnC Try.prog 87 [ptr p, int k, int id] w (fun v w' => v = .bool c ∧ Own wb (RefC p st :: R) w') := by
  obtain ⟨a, cap, H⟩ := H.openR
  subst hc
  by_cases h0 : 0 ≤ id
  · by_cases h1 : id < st.nodes.length
    · obtain ⟨b, hb, hn⟩ := M.get_in h0 h1
      rw [M.under_eq hb]
      obtain ⟨g, rfl⟩ := H.slSome 1 rfl (by omega)
      have hv := flatB_get _ _ _ hn
      have hv0 : (flatB st.nodes)[0 + id.toNat * 5 + 0]? = some (.bool b.leaf) := by
        have := congrArg (fun l => l[0]?) hv
        simpa [List.getElem?_take, List.getElem?_drop, cellsB] using this
      have hv2 : (flatB st.nodes)[0 + id.toNat * 5 + 2]? = some (.int .i64 b.link) := by
        have := congrArg (fun l => l[2]?) hv
        simpa [List.getElem?_take, List.getElem?_drop, cellsB] using this
      cases hl : b.leaf with
      | true =>
        rw [hl] at hv0
        refine FnC_of Try.func87 rfl rfl rfl rfl ?_
        refine W_seq ?_
        refine W_region ?_
        refine ops_v (v_assign (v := _) rfl rfl) ?_
        refine ops_nil ?_
        refine W_seq ?_
        refine W_region ?_
        refine ops_v (v_move (v := (.int _ _)) rfl rfl) ?_
        refine ops_v (v_geq true rfl rfl rfl (decide_eq_true (by first | omega | (simp only; omega) | rfl | decide))) ?_
        refine ops_v (v_move (v := (.bool _)) rfl rfl) ?_
        refine ops_v (v_move (v := (.int _ _)) rfl rfl) ?_
        refine ops_v (v_move (v := (.pointer _)) rfl rfl) ?_
        refine ops_v (v_nilCheck rfl rfl) ?_
        refine ops_v (v_fieldAddr rfl fo31_2 rfl rfl) ?_
        refine ops_load (v := (.slice _ _ _)) 0 H rfl tc29 rfl rfl rfl ?_
        refine ops_v (v_len rfl sl29 rfl) ?_
        refine ops_v (v_lss true rfl rfl rfl (decide_eq_true (by first | omega | (simp only; omega) | rfl | decide))) ?_
        refine ops_v (v_pick_t (v := (.bool _)) rfl rfl rfl) ?_
        refine ops_v (v_move (v := (.bool _)) rfl rfl) ?_
        refine ops_v (v_move (v := (.pointer _)) rfl rfl) ?_
        refine ops_v (v_nilCheck rfl rfl) ?_
        refine ops_v (v_fieldAddr rfl fo31_2 rfl rfl) ?_
        refine ops_load (v := (.slice _ _ _)) 0 H rfl tc29 rfl rfl rfl ?_
        refine ops_v (v_move (v := (.int _ _)) rfl rfl) ?_
        refine ops_v (v_indexAddr_sl rfl se29 rfl rfl (by omega) (by omega)) ?_
        refine ops_v (v_fieldAddr rfl fo42_0 rfl rfl) ?_
        refine ops_loadSl (v := .bool true) 1 H rfl tc4 rfl rfl hv0 ?_
        refine ops_v (v_move (v := (.bool _)) rfl rfl) ?_
        refine ops_skip rfl rfl ?_
        refine ops_skip rfl rfl ?_
        refine ops_skip rfl rfl ?_
        refine ops_skip rfl rfl ?_
        refine ops_skip rfl rfl ?_
        refine ops_skip rfl rfl ?_
        refine ops_skip rfl rfl ?_
        refine ops_skip rfl rfl ?_
        refine ops_skip rfl rfl ?_
        refine ops_skip rfl rfl ?_
        refine ops_v (v_pick_t (v := (.bool _)) rfl rfl rfl) ?_
        refine ops_v (v_pick_t (v := (.bool _)) rfl rfl rfl) ?_
        refine ops_v (v_assign (v := (.bool _)) rfl rfl) ?_
        refine ops_nil ?_
        refine W_ret ?_
        refine ⟨_, (.tmp (v := (.bool _)) rfl .nil), ?_⟩
        exact ⟨rfl, H.shutR⟩
        -- ((*backstayref13.Store).under: ret; chunks p,s; ptr 0=p,11=p,12=p,13=p,19=p,20=p,21=p)
      | false =>
        rw [hl] at hv0
        refine FnC_of Try.func87 rfl rfl rfl rfl ?_
        refine W_seq ?_
        refine W_region ?_
        refine ops_v (v_assign (v := _) rfl rfl) ?_
        refine ops_nil ?_
        refine W_seq ?_
        refine W_region ?_
        refine ops_v (v_move (v := (.int _ _)) rfl rfl) ?_
        refine ops_v (v_geq true rfl rfl rfl (decide_eq_true (by first | omega | (simp only; omega) | rfl | decide))) ?_
        refine ops_v (v_move (v := (.bool _)) rfl rfl) ?_
        refine ops_v (v_move (v := (.int _ _)) rfl rfl) ?_
        refine ops_v (v_move (v := (.pointer _)) rfl rfl) ?_
        refine ops_v (v_nilCheck rfl rfl) ?_
        refine ops_v (v_fieldAddr rfl fo31_2 rfl rfl) ?_
        refine ops_load (v := (.slice _ _ _)) 0 H rfl tc29 rfl rfl rfl ?_
        refine ops_v (v_len rfl sl29 rfl) ?_
        refine ops_v (v_lss true rfl rfl rfl (decide_eq_true (by first | omega | (simp only; omega) | rfl | decide))) ?_
        refine ops_v (v_pick_t (v := (.bool _)) rfl rfl rfl) ?_
        refine ops_v (v_move (v := (.bool _)) rfl rfl) ?_
        refine ops_v (v_move (v := (.pointer _)) rfl rfl) ?_
        refine ops_v (v_nilCheck rfl rfl) ?_
        refine ops_v (v_fieldAddr rfl fo31_2 rfl rfl) ?_
        refine ops_load (v := (.slice _ _ _)) 0 H rfl tc29 rfl rfl rfl ?_
        refine ops_v (v_move (v := (.int _ _)) rfl rfl) ?_
        refine ops_v (v_indexAddr_sl rfl se29 rfl rfl (by omega) (by omega)) ?_
        refine ops_v (v_fieldAddr rfl fo42_0 rfl rfl) ?_
        refine ops_loadSl (v := .bool false) 1 H rfl tc4 rfl rfl hv0 ?_
        refine ops_v (v_move (v := (.bool _)) rfl rfl) ?_
        refine ops_v (v_move (v := (.pointer _)) rfl rfl) ?_
        refine ops_v (v_nilCheck rfl rfl) ?_
        refine ops_v (v_fieldAddr rfl fo31_2 rfl rfl) ?_
        refine ops_load (v := (.slice _ _ _)) 0 H rfl tc29 rfl rfl rfl ?_
        refine ops_v (v_move (v := (.int _ _)) rfl rfl) ?_
        refine ops_v (v_indexAddr_sl rfl se29 rfl rfl (by omega) (by omega)) ?_
        refine ops_v (v_fieldAddr rfl fo42_2 rfl rfl) ?_
        refine ops_loadSl (v := .int .i64 b.link) 1 H rfl tc3 rfl rfl hv2 ?_
        refine ops_v (v_move (v := (.int _ _)) rfl rfl) ?_
        refine ops_v (v_gtr _ rfl rfl rfl rfl) ?_
        refine ops_v (v_pick_f (v := (.bool _)) rfl rfl rfl) ?_
        refine ops_v (v_pick_t (v := (.bool _)) rfl rfl rfl) ?_
        refine ops_v (v_assign (v := (.bool _)) rfl rfl) ?_
        refine ops_nil ?_
        refine W_ret ?_
        refine ⟨_, (.tmp (v := (.bool _)) rfl .nil), ?_⟩
        exact ⟨rfl, H.shutR⟩
        -- ((*backstayref13.Store).under: ret; chunks p,s; ptr 0=p,11=p,12=p,13=p,19=p,20=p,21=p,28=p,29=p,30=p)
    · rw [M.under_none (M.get_none_ge (by omega))]
      refine FnC_of Try.func87 rfl rfl rfl rfl ?_
      refine W_seq ?_
      refine W_region ?_
      refine ops_v (v_assign (v := _) rfl rfl) ?_
      refine ops_nil ?_
      refine W_seq ?_
      refine W_region ?_
      refine ops_v (v_move (v := (.int _ _)) rfl rfl) ?_
      refine ops_v (v_geq true rfl rfl rfl (decide_eq_true (by first | omega | (simp only; omega) | rfl | decide))) ?_
      refine ops_v (v_move (v := (.bool _)) rfl rfl) ?_
      refine ops_v (v_move (v := (.int _ _)) rfl rfl) ?_
      refine ops_v (v_move (v := (.pointer _)) rfl rfl) ?_
      refine ops_v (v_nilCheck rfl rfl) ?_
      refine ops_v (v_fieldAddr rfl fo31_2 rfl rfl) ?_
      refine ops_load (v := (.slice _ _ _)) 0 H rfl tc29 rfl rfl rfl ?_
      refine ops_v (v_len rfl sl29 rfl) ?_
      refine ops_v (v_lss false rfl rfl rfl (decide_eq_false (by first | omega | (simp only; omega) | rfl | decide))) ?_
      refine ops_v (v_pick_t (v := (.bool _)) rfl rfl rfl) ?_
      refine ops_v (v_move (v := (.bool _)) rfl rfl) ?_
      refine ops_skip rfl rfl ?_
      refine ops_skip rfl rfl ?_
      refine ops_skip rfl rfl ?_
      refine ops_skip rfl rfl ?_
      refine ops_skip rfl rfl ?_
      refine ops_skip rfl rfl ?_
      refine ops_skip rfl rfl ?_
      refine ops_skip rfl rfl ?_
      refine ops_skip rfl rfl ?_
      refine ops_skip rfl rfl ?_
      refine ops_skip rfl rfl ?_
      refine ops_skip rfl rfl ?_
      refine ops_skip rfl rfl ?_
      refine ops_skip rfl rfl ?_
      refine ops_skip rfl rfl ?_
      refine ops_skip rfl rfl ?_
      refine ops_skip rfl rfl ?_
      refine ops_skip rfl rfl ?_
      refine ops_skip rfl rfl ?_
      refine ops_skip rfl rfl ?_
      refine ops_v (v_pick_f (v := (.bool _)) rfl rfl rfl) ?_
      refine ops_v (v_assign (v := (.bool _)) rfl rfl) ?_
      refine ops_nil ?_
      refine W_ret ?_
      refine ⟨_, (.tmp (v := (.bool _)) rfl .nil), ?_⟩
      exact ⟨rfl, H.shutR⟩
      -- ((*backstayref13.Store).under: ret; chunks p,s; ptr 0=p,11=p,12=p,13=p)
  · rw [M.under_none (M.get_none_lt (by omega))]
    refine FnC_of Try.func87 rfl rfl rfl rfl ?_
    refine W_seq ?_
    refine W_region ?_
    refine ops_v (v_assign (v := _) rfl rfl) ?_
    refine ops_nil ?_
    refine W_seq ?_
    refine W_region ?_
    refine ops_v (v_move (v := (.int _ _)) rfl rfl) ?_
    refine ops_v (v_geq false rfl rfl rfl (decide_eq_false (by first | omega | (simp only; omega) | rfl | decide))) ?_
    refine ops_v (v_move (v := (.bool _)) rfl rfl) ?_
    refine ops_skip rfl rfl ?_
    refine ops_skip rfl rfl ?_
    refine ops_skip rfl rfl ?_
    refine ops_skip rfl rfl ?_
    refine ops_skip rfl rfl ?_
    refine ops_skip rfl rfl ?_
    refine ops_skip rfl rfl ?_
    refine ops_v (v_pick_f (v := (.bool _)) rfl rfl rfl) ?_
    refine ops_v (v_move (v := (.bool _)) rfl rfl) ?_
    refine ops_skip rfl rfl ?_
    refine ops_skip rfl rfl ?_
    refine ops_skip rfl rfl ?_
    refine ops_skip rfl rfl ?_
    refine ops_skip rfl rfl ?_
    refine ops_skip rfl rfl ?_
    refine ops_skip rfl rfl ?_
    refine ops_skip rfl rfl ?_
    refine ops_skip rfl rfl ?_
    refine ops_skip rfl rfl ?_
    refine ops_skip rfl rfl ?_
    refine ops_skip rfl rfl ?_
    refine ops_skip rfl rfl ?_
    refine ops_skip rfl rfl ?_
    refine ops_skip rfl rfl ?_
    refine ops_skip rfl rfl ?_
    refine ops_skip rfl rfl ?_
    refine ops_skip rfl rfl ?_
    refine ops_skip rfl rfl ?_
    refine ops_skip rfl rfl ?_
    refine ops_v (v_pick_f (v := (.bool _)) rfl rfl rfl) ?_
    refine ops_v (v_assign (v := (.bool _)) rfl rfl) ?_
    refine ops_nil ?_
    refine W_ret ?_
    refine ⟨_, (.tmp (v := (.bool _)) rfl .nil), ?_⟩
    exact ⟨rfl, H.shutR⟩
    -- ((*backstayref13.Store).under: ret; chunks p,s; ptr 0=p)
end Go.Proofs.Ytchikjmhncojfaa.W
