/- The walk of guard.Fix. Conditions: none. -/
import Derived.Test.YtchikjmhncojfaaDoorGuard
set_option linter.unusedVariables false
namespace Go.Proofs.YtchikjmhncojfaaDoor.W
open Go Go.Proofs Go.RowKit
open Go.Proofs.YtchikjmhncojfaaDoor.M (Br St get getZ isN idx has down Wf rank i64 leafB askB Lifts lnk val sideOf linkOf Ext opF Fx)
set_option maxRecDepth 4000 in
set_option maxHeartbeats 2000000 in
theorem fix1_ok {k : Nat} {v : Bool} (hk : k < 16) {s : St} {id : Int} {s' : St} {i e : Int} (h : Fx k v s id s' i e) : ∀ {wb w : World} {R : List Chunk} {p r b1 b2 b3 b4 b5 : Nat}, Wf s → (k : Int) < s.links → isN s id = true →
    Own wb (Blk b1 [ptr p] 25 :: Blk b2 [.map (some r)] 54 :: Blk b3 [.int .i64 (k : Int)] 3 :: Blk b4 [.bool v] 4 :: Blk b5 [.func (.func 26) ([] : List Value).toArray [ptr b1, ptr b2, ptr b3, ptr b4, ptr b5].toArray] 40 :: StoreC p s :: FixX k v r s :: R) w →
    FnC Tryd.prog 26 [int id, ptr b1, ptr b2, ptr b3, ptr b4, ptr b5] w (fun u w' => u = pairV i e ∧ Own wb (Blk b1 [ptr p] 25 :: Blk b2 [.map (some r)] 54 :: Blk b3 [.int .i64 (k : Int)] 3 :: Blk b4 [.bool v] 4 :: Blk b5 [.func (.func 26) ([] : List Value).toArray [ptr b1, ptr b2, ptr b3, ptr b4, ptr b5].toArray] 40 :: StoreC p s' :: FixX k v r s' :: R) w') := by
  generalize hkk : (k : Int) = kk at h
  induction h with
  | @stay s id h =>
    subst hkk
    intro wb w R p r b1 b2 b3 b4 b5 hw hkl hid H
    have full := (Fx.stay h : Fx k v s id s id 0)
    obtain ⟨⟨lf, vl, bl, bs, bf⟩, hg⟩ := M.isN_get hid
    have hz := M.getZ_eq hg
    have hln : lnk s id = if lf then 16 else bl := by unfold lnk; rw [hz]
    obtain ⟨l, hv, H⟩ := H.openF 6 rfl
    simp only [List.set_cons_succ, List.set_cons_zero] at H
    cases hlk : look l id with
    | some u =>
      obtain ⟨n, rfl, _, hh⟩ := hv id u hlk
      obtain ⟨_, rfl, _⟩ := Fx.only full hh
      have hN : ∃ b : Bool, b = lf := ⟨_, rfl⟩
      cases lf with
      | true =>
        have hV : nodeV ⟨true, vl, bl, bs, bf⟩ true = .tuple [.agg [.bool true, .int .i64 vl, .int .i64 bl, .int .i64 bs, .int .i64 bf].toArray, .bool true].toArray := rfl
        refine FnC_of Tryd.func26 rfl rfl rfl rfl ?_
        refine W_seq ?_
        refine W_region ?_
        refine ops_v (v_assign (v := _) rfl rfl) ?_
        refine ops_v (v_assign (v := _) rfl rfl) ?_
        refine ops_nil ?_
        refine W_seq ?_
        refine W_region ?_
        refine ops_load (v := (.pointer _)) 0 H rfl tc25 rfl rfl rfl ?_
        refine ops_v (v_move (v := (.int _ _)) rfl rfl) ?_
        refine ops_call rfl c27 (FnC.ro 5 rfl H (fun _ H' => (by have := Node_ok hg H'; rw [hV] at this; exact this))) ?_
        clear H; rintro _ w ⟨rfl, H⟩
        refine ops_v (v_move (v := (.tuple _)) rfl rfl) ?_
        refine ops_v (v_extract (v := (.agg _)) rfl rfl rfl) ?_
        refine ops_v (v_extract (v := (.bool _)) rfl rfl rfl) ?_
        refine ops_alloc H rfl tz56 ?_
        clear H; intro bn0 w H
        refine ops_store (vs := [_, _, _, _, _]) (v := (.agg _)) (cs' := [_, _, _, _, _]) 0 H rfl ts56 rfl rfl rfl rfl rfl rfl rfl rfl ?_
        clear H; intro w H
        refine ops_v (v_assign (v := (.bool _)) rfl rfl) ?_
        refine ops_nil ?_
        refine W_seq ?_
        refine W_region ?_
        refine ops_load (v := (.map _)) 2 H rfl tc54 rfl rfl rfl ?_
        refine ops_v (v_move (v := (.int _ _)) rfl rfl) ?_
        refine ops_lookup 7 H keyI Tryd.underlying54 zeroInt rfl rfl rfl rfl hlk ?_
        refine ops_v (v_move (v := (.tuple _)) rfl rfl) ?_
        refine ops_v (v_extract (v := (.int _ _)) rfl rfl rfl) ?_
        refine ops_v (v_extract (v := (.bool _)) rfl rfl rfl) ?_
        refine ops_v (v_assign (v := (.int _ _)) rfl rfl) ?_
        refine ops_v (v_assign (v := (.bool _)) rfl rfl) ?_
        refine ops_nil ?_
        refine W_seq ?_
        refine W_block ?_
        refine W_seq ?_
        refine W_region ?_
        refine ops_v (v_move (v := (.bool _)) rfl rfl) ?_
        refine ops_v (v_assign (v := (.bool _)) rfl rfl) ?_
        refine ops_nil ?_
        refine W_if_t rfl ?_
        refine W_seq ?_
        refine W_region ?_
        refine ops_v (v_move (v := (.int _ _)) rfl rfl) ?_
        refine ops_v (v_assign (v := (.int _ _)) rfl rfl) ?_
        refine ops_v (v_assign (v := _) rfl rfl) ?_
        refine ops_nil ?_
        refine W_ret ?_
        refine ⟨_, (.tmp (v := (.int _ _)) rfl (.tmp (v := (.int _ _)) rfl .nil)), ?_⟩
        have H := H.mapAt 7 rfl (fun _ H => Own.shutF H hv)
        exact ⟨rfl, H.tail⟩
        -- (guard.Fix$1: ret; chunks n0,c1,c2,c3,c4,c5,S,F; ptr 1=c1,2=c2,3=c3,4=c4,5=c5,9=n0)
      | false =>
        have hV : nodeV ⟨false, vl, bl, bs, bf⟩ true = .tuple [.agg [.bool false, .int .i64 vl, .int .i64 bl, .int .i64 bs, .int .i64 bf].toArray, .bool true].toArray := rfl
        refine FnC_of Tryd.func26 rfl rfl rfl rfl ?_
        refine W_seq ?_
        refine W_region ?_
        refine ops_v (v_assign (v := _) rfl rfl) ?_
        refine ops_v (v_assign (v := _) rfl rfl) ?_
        refine ops_nil ?_
        refine W_seq ?_
        refine W_region ?_
        refine ops_load (v := (.pointer _)) 0 H rfl tc25 rfl rfl rfl ?_
        refine ops_v (v_move (v := (.int _ _)) rfl rfl) ?_
        refine ops_call rfl c27 (FnC.ro 5 rfl H (fun _ H' => (by have := Node_ok hg H'; rw [hV] at this; exact this))) ?_
        clear H; rintro _ w ⟨rfl, H⟩
        refine ops_v (v_move (v := (.tuple _)) rfl rfl) ?_
        refine ops_v (v_extract (v := (.agg _)) rfl rfl rfl) ?_
        refine ops_v (v_extract (v := (.bool _)) rfl rfl rfl) ?_
        refine ops_alloc H rfl tz56 ?_
        clear H; intro bn0 w H
        refine ops_store (vs := [_, _, _, _, _]) (v := (.agg _)) (cs' := [_, _, _, _, _]) 0 H rfl ts56 rfl rfl rfl rfl rfl rfl rfl rfl ?_
        clear H; intro w H
        refine ops_v (v_assign (v := (.bool _)) rfl rfl) ?_
        refine ops_nil ?_
        refine W_seq ?_
        refine W_region ?_
        refine ops_load (v := (.map _)) 2 H rfl tc54 rfl rfl rfl ?_
        refine ops_v (v_move (v := (.int _ _)) rfl rfl) ?_
        refine ops_lookup 7 H keyI Tryd.underlying54 zeroInt rfl rfl rfl rfl hlk ?_
        refine ops_v (v_move (v := (.tuple _)) rfl rfl) ?_
        refine ops_v (v_extract (v := (.int _ _)) rfl rfl rfl) ?_
        refine ops_v (v_extract (v := (.bool _)) rfl rfl rfl) ?_
        refine ops_v (v_assign (v := (.int _ _)) rfl rfl) ?_
        refine ops_v (v_assign (v := (.bool _)) rfl rfl) ?_
        refine ops_nil ?_
        refine W_seq ?_
        refine W_block ?_
        refine W_seq ?_
        refine W_region ?_
        refine ops_v (v_move (v := (.bool _)) rfl rfl) ?_
        refine ops_v (v_assign (v := (.bool _)) rfl rfl) ?_
        refine ops_nil ?_
        refine W_if_t rfl ?_
        refine W_seq ?_
        refine W_region ?_
        refine ops_v (v_move (v := (.int _ _)) rfl rfl) ?_
        refine ops_v (v_assign (v := (.int _ _)) rfl rfl) ?_
        refine ops_v (v_assign (v := _) rfl rfl) ?_
        refine ops_nil ?_
        refine W_ret ?_
        refine ⟨_, (.tmp (v := (.int _ _)) rfl (.tmp (v := (.int _ _)) rfl .nil)), ?_⟩
        have H := H.mapAt 7 rfl (fun _ H => Own.shutF H hv)
        exact ⟨rfl, H.tail⟩
        -- (guard.Fix$1: ret; chunks n0,c1,c2,c3,c4,c5,S,F; ptr 1=c1,2=c2,3=c3,4=c4,5=c5,9=n0)
    | none =>
      cases lf with
      | true =>
        have hV : nodeV ⟨true, vl, bl, bs, bf⟩ true = .tuple [.agg [.bool true, .int .i64 vl, .int .i64 bl, .int .i64 bs, .int .i64 bf].toArray, .bool true].toArray := rfl
        refine FnC_of Tryd.func26 rfl rfl rfl rfl ?_
        refine W_seq ?_
        refine W_region ?_
        refine ops_v (v_assign (v := _) rfl rfl) ?_
        refine ops_v (v_assign (v := _) rfl rfl) ?_
        refine ops_nil ?_
        refine W_seq ?_
        refine W_region ?_
        refine ops_load (v := (.pointer _)) 0 H rfl tc25 rfl rfl rfl ?_
        refine ops_v (v_move (v := (.int _ _)) rfl rfl) ?_
        refine ops_call rfl c27 (FnC.ro 5 rfl H (fun _ H' => (by have := Node_ok hg H'; rw [hV] at this; exact this))) ?_
        clear H; rintro _ w ⟨rfl, H⟩
        refine ops_v (v_move (v := (.tuple _)) rfl rfl) ?_
        refine ops_v (v_extract (v := (.agg _)) rfl rfl rfl) ?_
        refine ops_v (v_extract (v := (.bool _)) rfl rfl rfl) ?_
        refine ops_alloc H rfl tz56 ?_
        clear H; intro bn0 w H
        refine ops_store (vs := [_, _, _, _, _]) (v := (.agg _)) (cs' := [_, _, _, _, _]) 0 H rfl ts56 rfl rfl rfl rfl rfl rfl rfl rfl ?_
        clear H; intro w H
        refine ops_v (v_assign (v := (.bool _)) rfl rfl) ?_
        refine ops_nil ?_
        refine W_seq ?_
        refine W_region ?_
        refine ops_load (v := (.map _)) 2 H rfl tc54 rfl rfl rfl ?_
        refine ops_v (v_move (v := (.int _ _)) rfl rfl) ?_
        refine ops_lookup 7 H keyI Tryd.underlying54 zeroInt rfl rfl rfl rfl hlk ?_
        refine ops_v (v_move (v := (.tuple _)) rfl rfl) ?_
        refine ops_v (v_extract (v := (.int _ _)) rfl rfl rfl) ?_
        refine ops_v (v_extract (v := (.bool _)) rfl rfl rfl) ?_
        refine ops_v (v_assign (v := (.int _ _)) rfl rfl) ?_
        refine ops_v (v_assign (v := (.bool _)) rfl rfl) ?_
        refine ops_nil ?_
        refine W_seq ?_
        refine W_block ?_
        refine W_seq ?_
        have H := H.mapAt 7 rfl (fun _ H => Own.shutF H hv)
        refine W_region ?_
        refine ops_v (v_move (v := (.bool _)) rfl rfl) ?_
        refine ops_v (v_assign (v := (.bool _)) rfl rfl) ?_
        refine ops_nil ?_
        refine W_if_f rfl ?_
        refine W_seq ?_
        refine W_region ?_
        refine ops_v (v_fieldAddr rfl fo56_0 rfl rfl) ?_
        refine ops_load (v := (.bool _)) 0 H rfl tc4 rfl rfl rfl ?_
        refine ops_v (v_move (v := (.bool _)) rfl rfl) ?_
        refine ops_skip rfl rfl ?_
        refine ops_skip rfl rfl ?_
        refine ops_skip rfl rfl ?_
        refine ops_skip rfl rfl ?_
        refine ops_v (v_pick_t (v := (.bool _)) rfl rfl rfl) ?_
        refine ops_v (v_assign (v := (.bool _)) rfl rfl) ?_
        refine ops_nil ?_
        refine W_if_t rfl ?_
        refine W_seq ?_
        refine W_region ?_
        refine ops_v (v_move (v := (.int _ _)) rfl rfl) ?_
        refine ops_v (v_assign (v := (.int _ _)) rfl rfl) ?_
        refine ops_v (v_assign (v := _) rfl rfl) ?_
        refine ops_nil ?_
        refine W_ret ?_
        refine ⟨_, (.tmp (v := (.int _ _)) rfl (.tmp (v := (.int _ _)) rfl .nil)), ?_⟩
        exact ⟨rfl, H.tail⟩
        -- (guard.Fix$1: ret; chunks n0,c1,c2,c3,c4,c5,S,F; ptr 1=c1,2=c2,3=c3,4=c4,5=c5,9=n0,32=n0)
      | false =>
        simp at hln
        have hV : nodeV ⟨false, vl, bl, bs, bf⟩ true = .tuple [.agg [.bool false, .int .i64 vl, .int .i64 bl, .int .i64 bs, .int .i64 bf].toArray, .bool true].toArray := rfl
        refine FnC_of Tryd.func26 rfl rfl rfl rfl ?_
        refine W_seq ?_
        refine W_region ?_
        refine ops_v (v_assign (v := _) rfl rfl) ?_
        refine ops_v (v_assign (v := _) rfl rfl) ?_
        refine ops_nil ?_
        refine W_seq ?_
        refine W_region ?_
        refine ops_load (v := (.pointer _)) 0 H rfl tc25 rfl rfl rfl ?_
        refine ops_v (v_move (v := (.int _ _)) rfl rfl) ?_
        refine ops_call rfl c27 (FnC.ro 5 rfl H (fun _ H' => (by have := Node_ok hg H'; rw [hV] at this; exact this))) ?_
        clear H; rintro _ w ⟨rfl, H⟩
        refine ops_v (v_move (v := (.tuple _)) rfl rfl) ?_
        refine ops_v (v_extract (v := (.agg _)) rfl rfl rfl) ?_
        refine ops_v (v_extract (v := (.bool _)) rfl rfl rfl) ?_
        refine ops_alloc H rfl tz56 ?_
        clear H; intro bn0 w H
        refine ops_store (vs := [_, _, _, _, _]) (v := (.agg _)) (cs' := [_, _, _, _, _]) 0 H rfl ts56 rfl rfl rfl rfl rfl rfl rfl rfl ?_
        clear H; intro w H
        refine ops_v (v_assign (v := (.bool _)) rfl rfl) ?_
        refine ops_nil ?_
        refine W_seq ?_
        refine W_region ?_
        refine ops_load (v := (.map _)) 2 H rfl tc54 rfl rfl rfl ?_
        refine ops_v (v_move (v := (.int _ _)) rfl rfl) ?_
        refine ops_lookup 7 H keyI Tryd.underlying54 zeroInt rfl rfl rfl rfl hlk ?_
        refine ops_v (v_move (v := (.tuple _)) rfl rfl) ?_
        refine ops_v (v_extract (v := (.int _ _)) rfl rfl rfl) ?_
        refine ops_v (v_extract (v := (.bool _)) rfl rfl rfl) ?_
        refine ops_v (v_assign (v := (.int _ _)) rfl rfl) ?_
        refine ops_v (v_assign (v := (.bool _)) rfl rfl) ?_
        refine ops_nil ?_
        refine W_seq ?_
        refine W_block ?_
        refine W_seq ?_
        have H := H.mapAt 7 rfl (fun _ H => Own.shutF H hv)
        refine W_region ?_
        refine ops_v (v_move (v := (.bool _)) rfl rfl) ?_
        refine ops_v (v_assign (v := (.bool _)) rfl rfl) ?_
        refine ops_nil ?_
        refine W_if_f rfl ?_
        refine W_seq ?_
        refine W_region ?_
        refine ops_v (v_fieldAddr rfl fo56_0 rfl rfl) ?_
        refine ops_load (v := (.bool _)) 0 H rfl tc4 rfl rfl rfl ?_
        refine ops_v (v_move (v := (.bool _)) rfl rfl) ?_
        refine ops_v (v_fieldAddr rfl fo56_2 rfl rfl) ?_
        refine ops_load (v := (.int _ _)) 0 H rfl tc3 rfl rfl rfl ?_
        refine ops_load (v := (.int _ _)) 3 H rfl tc3 rfl rfl rfl ?_
        refine ops_v (v_gtr true rfl rfl rfl (decide_eq_true (by first | omega | (simp only; omega) | rfl | decide))) ?_
        refine ops_v (v_pick_f (v := (.bool _)) rfl rfl rfl) ?_
        refine ops_v (v_assign (v := (.bool _)) rfl rfl) ?_
        refine ops_nil ?_
        refine W_if_t rfl ?_
        refine W_seq ?_
        refine W_region ?_
        refine ops_v (v_move (v := (.int _ _)) rfl rfl) ?_
        refine ops_v (v_assign (v := (.int _ _)) rfl rfl) ?_
        refine ops_v (v_assign (v := _) rfl rfl) ?_
        refine ops_nil ?_
        refine W_ret ?_
        refine ⟨_, (.tmp (v := (.int _ _)) rfl (.tmp (v := (.int _ _)) rfl .nil)), ?_⟩
        exact ⟨rfl, H.tail⟩
        -- (guard.Fix$1: ret; chunks n0,c1,c2,c3,c4,c5,S,F; ptr 1=c1,2=c2,3=c3,4=c4,5=c5,9=n0,32=n0,35=n0)
  | @side s id h =>
    subst hkk
    intro wb w R p r b1 b2 b3 b4 b5 hw hkl hid H
    have full := (Fx.side h : Fx k v s id s (sideOf s id k v) 0)
    obtain ⟨⟨lf, vl, bl, bs, bf⟩, hg⟩ := M.isN_get hid
    have hz := M.getZ_eq hg
    have hln : lnk s id = if lf then 16 else bl := by unfold lnk; rw [hz]
    obtain ⟨l, hv, H⟩ := H.openF 6 rfl
    simp only [List.set_cons_succ, List.set_cons_zero] at H
    cases hlk : look l id with
    | some u =>
      obtain ⟨n, rfl, _, hh⟩ := hv id u hlk
      obtain ⟨_, rfl, _⟩ := Fx.only full hh
      have hN : ∃ b : Bool, b = lf := ⟨_, rfl⟩
      cases lf with
      | true =>
        have hV : nodeV ⟨true, vl, bl, bs, bf⟩ true = .tuple [.agg [.bool true, .int .i64 vl, .int .i64 bl, .int .i64 bs, .int .i64 bf].toArray, .bool true].toArray := rfl
        refine FnC_of Tryd.func26 rfl rfl rfl rfl ?_
        refine W_seq ?_
        refine W_region ?_
        refine ops_v (v_assign (v := _) rfl rfl) ?_
        refine ops_v (v_assign (v := _) rfl rfl) ?_
        refine ops_nil ?_
        refine W_seq ?_
        refine W_region ?_
        refine ops_load (v := (.pointer _)) 0 H rfl tc25 rfl rfl rfl ?_
        refine ops_v (v_move (v := (.int _ _)) rfl rfl) ?_
        refine ops_call rfl c27 (FnC.ro 5 rfl H (fun _ H' => (by have := Node_ok hg H'; rw [hV] at this; exact this))) ?_
        clear H; rintro _ w ⟨rfl, H⟩
        refine ops_v (v_move (v := (.tuple _)) rfl rfl) ?_
        refine ops_v (v_extract (v := (.agg _)) rfl rfl rfl) ?_
        refine ops_v (v_extract (v := (.bool _)) rfl rfl rfl) ?_
        refine ops_alloc H rfl tz56 ?_
        clear H; intro bn0 w H
        refine ops_store (vs := [_, _, _, _, _]) (v := (.agg _)) (cs' := [_, _, _, _, _]) 0 H rfl ts56 rfl rfl rfl rfl rfl rfl rfl rfl ?_
        clear H; intro w H
        refine ops_v (v_assign (v := (.bool _)) rfl rfl) ?_
        refine ops_nil ?_
        refine W_seq ?_
        refine W_region ?_
        refine ops_load (v := (.map _)) 2 H rfl tc54 rfl rfl rfl ?_
        refine ops_v (v_move (v := (.int _ _)) rfl rfl) ?_
        refine ops_lookup 7 H keyI Tryd.underlying54 zeroInt rfl rfl rfl rfl hlk ?_
        refine ops_v (v_move (v := (.tuple _)) rfl rfl) ?_
        refine ops_v (v_extract (v := (.int _ _)) rfl rfl rfl) ?_
        refine ops_v (v_extract (v := (.bool _)) rfl rfl rfl) ?_
        refine ops_v (v_assign (v := (.int _ _)) rfl rfl) ?_
        refine ops_v (v_assign (v := (.bool _)) rfl rfl) ?_
        refine ops_nil ?_
        refine W_seq ?_
        refine W_block ?_
        refine W_seq ?_
        refine W_region ?_
        refine ops_v (v_move (v := (.bool _)) rfl rfl) ?_
        refine ops_v (v_assign (v := (.bool _)) rfl rfl) ?_
        refine ops_nil ?_
        refine W_if_t rfl ?_
        refine W_seq ?_
        refine W_region ?_
        refine ops_v (v_move (v := (.int _ _)) rfl rfl) ?_
        refine ops_v (v_assign (v := (.int _ _)) rfl rfl) ?_
        refine ops_v (v_assign (v := _) rfl rfl) ?_
        refine ops_nil ?_
        refine W_ret ?_
        refine ⟨_, (.tmp (v := (.int _ _)) rfl (.tmp (v := (.int _ _)) rfl .nil)), ?_⟩
        have H := H.mapAt 7 rfl (fun _ H => Own.shutF H hv)
        exact ⟨rfl, H.tail⟩
        -- (guard.Fix$1: ret; chunks n0,c1,c2,c3,c4,c5,S,F; ptr 1=c1,2=c2,3=c3,4=c4,5=c5,9=n0)
      | false =>
        have hV : nodeV ⟨false, vl, bl, bs, bf⟩ true = .tuple [.agg [.bool false, .int .i64 vl, .int .i64 bl, .int .i64 bs, .int .i64 bf].toArray, .bool true].toArray := rfl
        refine FnC_of Tryd.func26 rfl rfl rfl rfl ?_
        refine W_seq ?_
        refine W_region ?_
        refine ops_v (v_assign (v := _) rfl rfl) ?_
        refine ops_v (v_assign (v := _) rfl rfl) ?_
        refine ops_nil ?_
        refine W_seq ?_
        refine W_region ?_
        refine ops_load (v := (.pointer _)) 0 H rfl tc25 rfl rfl rfl ?_
        refine ops_v (v_move (v := (.int _ _)) rfl rfl) ?_
        refine ops_call rfl c27 (FnC.ro 5 rfl H (fun _ H' => (by have := Node_ok hg H'; rw [hV] at this; exact this))) ?_
        clear H; rintro _ w ⟨rfl, H⟩
        refine ops_v (v_move (v := (.tuple _)) rfl rfl) ?_
        refine ops_v (v_extract (v := (.agg _)) rfl rfl rfl) ?_
        refine ops_v (v_extract (v := (.bool _)) rfl rfl rfl) ?_
        refine ops_alloc H rfl tz56 ?_
        clear H; intro bn0 w H
        refine ops_store (vs := [_, _, _, _, _]) (v := (.agg _)) (cs' := [_, _, _, _, _]) 0 H rfl ts56 rfl rfl rfl rfl rfl rfl rfl rfl ?_
        clear H; intro w H
        refine ops_v (v_assign (v := (.bool _)) rfl rfl) ?_
        refine ops_nil ?_
        refine W_seq ?_
        refine W_region ?_
        refine ops_load (v := (.map _)) 2 H rfl tc54 rfl rfl rfl ?_
        refine ops_v (v_move (v := (.int _ _)) rfl rfl) ?_
        refine ops_lookup 7 H keyI Tryd.underlying54 zeroInt rfl rfl rfl rfl hlk ?_
        refine ops_v (v_move (v := (.tuple _)) rfl rfl) ?_
        refine ops_v (v_extract (v := (.int _ _)) rfl rfl rfl) ?_
        refine ops_v (v_extract (v := (.bool _)) rfl rfl rfl) ?_
        refine ops_v (v_assign (v := (.int _ _)) rfl rfl) ?_
        refine ops_v (v_assign (v := (.bool _)) rfl rfl) ?_
        refine ops_nil ?_
        refine W_seq ?_
        refine W_block ?_
        refine W_seq ?_
        refine W_region ?_
        refine ops_v (v_move (v := (.bool _)) rfl rfl) ?_
        refine ops_v (v_assign (v := (.bool _)) rfl rfl) ?_
        refine ops_nil ?_
        refine W_if_t rfl ?_
        refine W_seq ?_
        refine W_region ?_
        refine ops_v (v_move (v := (.int _ _)) rfl rfl) ?_
        refine ops_v (v_assign (v := (.int _ _)) rfl rfl) ?_
        refine ops_v (v_assign (v := _) rfl rfl) ?_
        refine ops_nil ?_
        refine W_ret ?_
        refine ⟨_, (.tmp (v := (.int _ _)) rfl (.tmp (v := (.int _ _)) rfl .nil)), ?_⟩
        have H := H.mapAt 7 rfl (fun _ H => Own.shutF H hv)
        exact ⟨rfl, H.tail⟩
        -- (guard.Fix$1: ret; chunks n0,c1,c2,c3,c4,c5,S,F; ptr 1=c1,2=c2,3=c3,4=c4,5=c5,9=n0)
    | none =>
      cases lf with
      | true =>
        simp at hln
        omega
      | false =>
        simp at hln
        have hV : nodeV ⟨false, vl, bl, bs, bf⟩ true = .tuple [.agg [.bool false, .int .i64 vl, .int .i64 bl, .int .i64 bs, .int .i64 bf].toArray, .bool true].toArray := rfl
        cases v with
        | true =>
          have hr : sideOf s id k true = bf := by unfold sideOf; rw [if_pos h, hz]; rfl
          rw [hr]
          refine FnC_of Tryd.func26 rfl rfl rfl rfl ?_
          refine W_seq ?_
          refine W_region ?_
          refine ops_v (v_assign (v := _) rfl rfl) ?_
          refine ops_v (v_assign (v := _) rfl rfl) ?_
          refine ops_nil ?_
          refine W_seq ?_
          refine W_region ?_
          refine ops_load (v := (.pointer _)) 0 H rfl tc25 rfl rfl rfl ?_
          refine ops_v (v_move (v := (.int _ _)) rfl rfl) ?_
          refine ops_call rfl c27 (FnC.ro 5 rfl H (fun _ H' => (by have := Node_ok hg H'; rw [hV] at this; exact this))) ?_
          clear H; rintro _ w ⟨rfl, H⟩
          refine ops_v (v_move (v := (.tuple _)) rfl rfl) ?_
          refine ops_v (v_extract (v := (.agg _)) rfl rfl rfl) ?_
          refine ops_v (v_extract (v := (.bool _)) rfl rfl rfl) ?_
          refine ops_alloc H rfl tz56 ?_
          clear H; intro bn0 w H
          refine ops_store (vs := [_, _, _, _, _]) (v := (.agg _)) (cs' := [_, _, _, _, _]) 0 H rfl ts56 rfl rfl rfl rfl rfl rfl rfl rfl ?_
          clear H; intro w H
          refine ops_v (v_assign (v := (.bool _)) rfl rfl) ?_
          refine ops_nil ?_
          refine W_seq ?_
          refine W_region ?_
          refine ops_load (v := (.map _)) 2 H rfl tc54 rfl rfl rfl ?_
          refine ops_v (v_move (v := (.int _ _)) rfl rfl) ?_
          refine ops_lookup 7 H keyI Tryd.underlying54 zeroInt rfl rfl rfl rfl hlk ?_
          refine ops_v (v_move (v := (.tuple _)) rfl rfl) ?_
          refine ops_v (v_extract (v := (.int _ _)) rfl rfl rfl) ?_
          refine ops_v (v_extract (v := (.bool _)) rfl rfl rfl) ?_
          refine ops_v (v_assign (v := (.int _ _)) rfl rfl) ?_
          refine ops_v (v_assign (v := (.bool _)) rfl rfl) ?_
          refine ops_nil ?_
          refine W_seq ?_
          refine W_block ?_
          refine W_seq ?_
          have H := H.mapAt 7 rfl (fun _ H => Own.shutF H hv)
          refine W_region ?_
          refine ops_v (v_move (v := (.bool _)) rfl rfl) ?_
          refine ops_v (v_assign (v := (.bool _)) rfl rfl) ?_
          refine ops_nil ?_
          refine W_if_f rfl ?_
          refine W_seq ?_
          refine W_region ?_
          refine ops_v (v_fieldAddr rfl fo56_0 rfl rfl) ?_
          refine ops_load (v := (.bool _)) 0 H rfl tc4 rfl rfl rfl ?_
          refine ops_v (v_move (v := (.bool _)) rfl rfl) ?_
          refine ops_v (v_fieldAddr rfl fo56_2 rfl rfl) ?_
          refine ops_load (v := (.int _ _)) 0 H rfl tc3 rfl rfl rfl ?_
          refine ops_load (v := (.int _ _)) 3 H rfl tc3 rfl rfl rfl ?_
          refine ops_v (v_gtr false rfl rfl rfl (decide_eq_false (by first | omega | (simp only; omega) | rfl | decide))) ?_
          refine ops_v (v_pick_f (v := (.bool _)) rfl rfl rfl) ?_
          refine ops_v (v_assign (v := (.bool _)) rfl rfl) ?_
          refine ops_nil ?_
          refine W_if_f rfl ?_
          refine W_seq ?_
          refine W_region ?_
          refine ops_v (v_fieldAddr rfl fo56_2 rfl rfl) ?_
          refine ops_load (v := (.int _ _)) 0 H rfl tc3 rfl rfl rfl ?_
          refine ops_load (v := (.int _ _)) 3 H rfl tc3 rfl rfl rfl ?_
          refine ops_v (v_eql true rfl rfl rfl (decide_eq_true (by first | omega | (simp only; omega) | rfl | decide))) ?_
          refine ops_v (v_move (v := (.bool _)) rfl rfl) ?_
          refine ops_load (v := (.bool _)) 4 H rfl tc4 rfl rfl rfl ?_
          refine ops_v (v_pick_t (v := (.bool _)) rfl rfl rfl) ?_
          refine ops_v (v_assign (v := (.bool _)) rfl rfl) ?_
          refine ops_nil ?_
          refine W_if_t rfl ?_
          refine W_seq ?_
          refine W_region ?_
          refine ops_v (v_fieldAddr rfl fo56_4 rfl rfl) ?_
          refine ops_load (v := (.int _ _)) 0 H rfl tc3 rfl rfl rfl ?_
          refine ops_v (v_assign (v := (.int _ _)) rfl rfl) ?_
          refine ops_v (v_assign (v := _) rfl rfl) ?_
          refine ops_nil ?_
          refine W_ret ?_
          refine ⟨_, (.tmp (v := (.int _ _)) rfl (.tmp (v := (.int _ _)) rfl .nil)), ?_⟩
          exact ⟨rfl, H.tail⟩
          -- (guard.Fix$1: ret; chunks n0,c1,c2,c3,c4,c5,S,F; ptr 1=c1,2=c2,3=c3,4=c4,5=c5,9=n0,32=n0,35=n0,42=n0,49=n0)
        | false =>
          have hr : sideOf s id k false = bs := by unfold sideOf; rw [if_pos h, hz]; rfl
          rw [hr]
          refine FnC_of Tryd.func26 rfl rfl rfl rfl ?_
          refine W_seq ?_
          refine W_region ?_
          refine ops_v (v_assign (v := _) rfl rfl) ?_
          refine ops_v (v_assign (v := _) rfl rfl) ?_
          refine ops_nil ?_
          refine W_seq ?_
          refine W_region ?_
          refine ops_load (v := (.pointer _)) 0 H rfl tc25 rfl rfl rfl ?_
          refine ops_v (v_move (v := (.int _ _)) rfl rfl) ?_
          refine ops_call rfl c27 (FnC.ro 5 rfl H (fun _ H' => (by have := Node_ok hg H'; rw [hV] at this; exact this))) ?_
          clear H; rintro _ w ⟨rfl, H⟩
          refine ops_v (v_move (v := (.tuple _)) rfl rfl) ?_
          refine ops_v (v_extract (v := (.agg _)) rfl rfl rfl) ?_
          refine ops_v (v_extract (v := (.bool _)) rfl rfl rfl) ?_
          refine ops_alloc H rfl tz56 ?_
          clear H; intro bn0 w H
          refine ops_store (vs := [_, _, _, _, _]) (v := (.agg _)) (cs' := [_, _, _, _, _]) 0 H rfl ts56 rfl rfl rfl rfl rfl rfl rfl rfl ?_
          clear H; intro w H
          refine ops_v (v_assign (v := (.bool _)) rfl rfl) ?_
          refine ops_nil ?_
          refine W_seq ?_
          refine W_region ?_
          refine ops_load (v := (.map _)) 2 H rfl tc54 rfl rfl rfl ?_
          refine ops_v (v_move (v := (.int _ _)) rfl rfl) ?_
          refine ops_lookup 7 H keyI Tryd.underlying54 zeroInt rfl rfl rfl rfl hlk ?_
          refine ops_v (v_move (v := (.tuple _)) rfl rfl) ?_
          refine ops_v (v_extract (v := (.int _ _)) rfl rfl rfl) ?_
          refine ops_v (v_extract (v := (.bool _)) rfl rfl rfl) ?_
          refine ops_v (v_assign (v := (.int _ _)) rfl rfl) ?_
          refine ops_v (v_assign (v := (.bool _)) rfl rfl) ?_
          refine ops_nil ?_
          refine W_seq ?_
          refine W_block ?_
          refine W_seq ?_
          have H := H.mapAt 7 rfl (fun _ H => Own.shutF H hv)
          refine W_region ?_
          refine ops_v (v_move (v := (.bool _)) rfl rfl) ?_
          refine ops_v (v_assign (v := (.bool _)) rfl rfl) ?_
          refine ops_nil ?_
          refine W_if_f rfl ?_
          refine W_seq ?_
          refine W_region ?_
          refine ops_v (v_fieldAddr rfl fo56_0 rfl rfl) ?_
          refine ops_load (v := (.bool _)) 0 H rfl tc4 rfl rfl rfl ?_
          refine ops_v (v_move (v := (.bool _)) rfl rfl) ?_
          refine ops_v (v_fieldAddr rfl fo56_2 rfl rfl) ?_
          refine ops_load (v := (.int _ _)) 0 H rfl tc3 rfl rfl rfl ?_
          refine ops_load (v := (.int _ _)) 3 H rfl tc3 rfl rfl rfl ?_
          refine ops_v (v_gtr false rfl rfl rfl (decide_eq_false (by first | omega | (simp only; omega) | rfl | decide))) ?_
          refine ops_v (v_pick_f (v := (.bool _)) rfl rfl rfl) ?_
          refine ops_v (v_assign (v := (.bool _)) rfl rfl) ?_
          refine ops_nil ?_
          refine W_if_f rfl ?_
          refine W_seq ?_
          refine W_region ?_
          refine ops_v (v_fieldAddr rfl fo56_2 rfl rfl) ?_
          refine ops_load (v := (.int _ _)) 0 H rfl tc3 rfl rfl rfl ?_
          refine ops_load (v := (.int _ _)) 3 H rfl tc3 rfl rfl rfl ?_
          refine ops_v (v_eql true rfl rfl rfl (decide_eq_true (by first | omega | (simp only; omega) | rfl | decide))) ?_
          refine ops_v (v_move (v := (.bool _)) rfl rfl) ?_
          refine ops_load (v := (.bool _)) 4 H rfl tc4 rfl rfl rfl ?_
          refine ops_v (v_pick_t (v := (.bool _)) rfl rfl rfl) ?_
          refine ops_v (v_assign (v := (.bool _)) rfl rfl) ?_
          refine ops_nil ?_
          refine W_if_f rfl ?_
          refine W_seq ?_
          refine W_region ?_
          refine ops_v (v_fieldAddr rfl fo56_2 rfl rfl) ?_
          refine ops_load (v := (.int _ _)) 0 H rfl tc3 rfl rfl rfl ?_
          refine ops_load (v := (.int _ _)) 3 H rfl tc3 rfl rfl rfl ?_
          refine ops_v (v_eql true rfl rfl rfl (decide_eq_true (by first | omega | (simp only; omega) | rfl | decide))) ?_
          refine ops_v (v_assign (v := (.bool _)) rfl rfl) ?_
          refine ops_nil ?_
          refine W_if_t rfl ?_
          refine W_seq ?_
          refine W_region ?_
          refine ops_v (v_fieldAddr rfl fo56_3 rfl rfl) ?_
          refine ops_load (v := (.int _ _)) 0 H rfl tc3 rfl rfl rfl ?_
          refine ops_v (v_assign (v := (.int _ _)) rfl rfl) ?_
          refine ops_v (v_assign (v := _) rfl rfl) ?_
          refine ops_nil ?_
          refine W_ret ?_
          refine ⟨_, (.tmp (v := (.int _ _)) rfl (.tmp (v := (.int _ _)) rfl .nil)), ?_⟩
          exact ⟨rfl, H.tail⟩
          -- (guard.Fix$1: ret; chunks n0,c1,c2,c3,c4,c5,S,F; ptr 1=c1,2=c2,3=c3,4=c4,5=c5,9=n0,32=n0,35=n0,42=n0,52=n0,56=n0)
  | @err1 s id s1 i e h h1 he ih =>
    subst hkk
    intro wb w R p r b1 b2 b3 b4 b5 hw hkl hid H
    have hp := M.ask_parts hw hid h (by omega)
    have full := (Fx.err1 h h1 he : Fx k v s id s1 0 e)
    obtain ⟨⟨lf, vl, bl, bs, bf⟩, hg⟩ := M.isN_get hid
    have hz := M.getZ_eq hg
    have hln : lnk s id = if lf then 16 else bl := by unfold lnk; rw [hz]
    obtain ⟨l, hv, H⟩ := H.openF 6 rfl
    simp only [List.set_cons_succ, List.set_cons_zero] at H
    cases hlk : look l id with
    | some u =>
      obtain ⟨n, rfl, _, hh⟩ := hv id u hlk
      exact (he (Fx.only full hh).2.2).elim
    | none =>
      cases lf with
      | true =>
        simp at hln
        omega
      | false =>
        simp at hln
        rw [hz] at hp ih
        have hV : nodeV ⟨false, vl, bl, bs, bf⟩ true = .tuple [.agg [.bool false, .int .i64 vl, .int .i64 bl, .int .i64 bs, .int .i64 bf].toArray, .bool true].toArray := rfl
        refine FnC_of Tryd.func26 rfl rfl rfl rfl ?_
        refine W_seq ?_
        refine W_region ?_
        refine ops_v (v_assign (v := _) rfl rfl) ?_
        refine ops_v (v_assign (v := _) rfl rfl) ?_
        refine ops_nil ?_
        refine W_seq ?_
        refine W_region ?_
        refine ops_load (v := (.pointer _)) 0 H rfl tc25 rfl rfl rfl ?_
        refine ops_v (v_move (v := (.int _ _)) rfl rfl) ?_
        refine ops_call rfl c27 (FnC.ro 5 rfl H (fun _ H' => (by have := Node_ok hg H'; rw [hV] at this; exact this))) ?_
        clear H; rintro _ w ⟨rfl, H⟩
        refine ops_v (v_move (v := (.tuple _)) rfl rfl) ?_
        refine ops_v (v_extract (v := (.agg _)) rfl rfl rfl) ?_
        refine ops_v (v_extract (v := (.bool _)) rfl rfl rfl) ?_
        refine ops_alloc H rfl tz56 ?_
        clear H; intro bn0 w H
        refine ops_store (vs := [_, _, _, _, _]) (v := (.agg _)) (cs' := [_, _, _, _, _]) 0 H rfl ts56 rfl rfl rfl rfl rfl rfl rfl rfl ?_
        clear H; intro w H
        refine ops_v (v_assign (v := (.bool _)) rfl rfl) ?_
        refine ops_nil ?_
        refine W_seq ?_
        refine W_region ?_
        refine ops_load (v := (.map _)) 2 H rfl tc54 rfl rfl rfl ?_
        refine ops_v (v_move (v := (.int _ _)) rfl rfl) ?_
        refine ops_lookup 7 H keyI Tryd.underlying54 zeroInt rfl rfl rfl rfl hlk ?_
        refine ops_v (v_move (v := (.tuple _)) rfl rfl) ?_
        refine ops_v (v_extract (v := (.int _ _)) rfl rfl rfl) ?_
        refine ops_v (v_extract (v := (.bool _)) rfl rfl rfl) ?_
        refine ops_v (v_assign (v := (.int _ _)) rfl rfl) ?_
        refine ops_v (v_assign (v := (.bool _)) rfl rfl) ?_
        refine ops_nil ?_
        refine W_seq ?_
        refine W_block ?_
        refine W_seq ?_
        have H := H.mapAt 7 rfl (fun _ H => Own.shutF H hv)
        refine W_region ?_
        refine ops_v (v_move (v := (.bool _)) rfl rfl) ?_
        refine ops_v (v_assign (v := (.bool _)) rfl rfl) ?_
        refine ops_nil ?_
        refine W_if_f rfl ?_
        refine W_seq ?_
        refine W_region ?_
        refine ops_v (v_fieldAddr rfl fo56_0 rfl rfl) ?_
        refine ops_load (v := (.bool _)) 0 H rfl tc4 rfl rfl rfl ?_
        refine ops_v (v_move (v := (.bool _)) rfl rfl) ?_
        refine ops_v (v_fieldAddr rfl fo56_2 rfl rfl) ?_
        refine ops_load (v := (.int _ _)) 0 H rfl tc3 rfl rfl rfl ?_
        refine ops_load (v := (.int _ _)) 3 H rfl tc3 rfl rfl rfl ?_
        refine ops_v (v_gtr false rfl rfl rfl (decide_eq_false (by first | omega | (simp only; omega) | rfl | decide))) ?_
        refine ops_v (v_pick_f (v := (.bool _)) rfl rfl rfl) ?_
        refine ops_v (v_assign (v := (.bool _)) rfl rfl) ?_
        refine ops_nil ?_
        refine W_if_f rfl ?_
        refine W_seq ?_
        refine W_region ?_
        refine ops_v (v_fieldAddr rfl fo56_2 rfl rfl) ?_
        refine ops_load (v := (.int _ _)) 0 H rfl tc3 rfl rfl rfl ?_
        refine ops_load (v := (.int _ _)) 3 H rfl tc3 rfl rfl rfl ?_
        refine ops_v (v_eql false rfl rfl rfl (decide_eq_false (by first | omega | (simp only; omega) | rfl | decide))) ?_
        refine ops_v (v_move (v := (.bool _)) rfl rfl) ?_
        refine ops_skip rfl rfl ?_
        refine ops_v (v_pick_f (v := (.bool _)) rfl rfl rfl) ?_
        refine ops_v (v_assign (v := (.bool _)) rfl rfl) ?_
        refine ops_nil ?_
        refine W_if_f rfl ?_
        refine W_seq ?_
        refine W_region ?_
        refine ops_v (v_fieldAddr rfl fo56_2 rfl rfl) ?_
        refine ops_load (v := (.int _ _)) 0 H rfl tc3 rfl rfl rfl ?_
        refine ops_load (v := (.int _ _)) 3 H rfl tc3 rfl rfl rfl ?_
        refine ops_v (v_eql false rfl rfl rfl (decide_eq_false (by first | omega | (simp only; omega) | rfl | decide))) ?_
        refine ops_v (v_assign (v := (.bool _)) rfl rfl) ?_
        refine ops_nil ?_
        refine W_if_f rfl ?_
        refine W_skip ?_
        refine W_seq ?_
        refine W_region ?_
        refine ops_load (v := _) 5 H rfl tc40 rfl rfl rfl ?_
        refine ops_v (v_fieldAddr rfl fo56_3 rfl rfl) ?_
        refine ops_load (v := (.int _ _)) 0 H rfl tc3 rfl rfl rfl ?_
        refine ops_callV (first := []) rfl rfl c26 (FnC.mid (A := [_]) (B := [_, _, _, _, _, _, _]) (B' := [_, _, _, _, _, _, _]) H (fun _ H => ih hw hkl hp.1 H)) ?_
        clear H; rintro _ w ⟨rfl, H⟩
        simp only [List.cons_append, List.nil_append] at H
        refine ops_v (v_move (v := (.tuple _)) rfl rfl) ?_
        refine ops_v (v_extract (v := (.int _ _)) rfl rfl rfl) ?_
        refine ops_v (v_extract (v := (.int _ _)) rfl rfl rfl) ?_
        refine ops_v (v_assign (v := (.int _ _)) rfl rfl) ?_
        refine ops_v (v_assign (v := (.int _ _)) rfl rfl) ?_
        refine ops_nil ?_
        refine W_seq ?_
        refine W_seq ?_
        refine W_region ?_
        refine ops_v (v_move (v := (.int _ _)) rfl rfl) ?_
        refine ops_v (v_neq true rfl rfl rfl (decide_eq_true (by first | omega | (simp only; omega) | rfl | decide))) ?_
        refine ops_nil ?_
        refine W_if_t rfl ?_
        refine W_seq ?_
        refine W_region ?_
        refine ops_v (v_move (v := (.int _ _)) rfl rfl) ?_
        refine ops_v (v_assign (v := _) rfl rfl) ?_
        refine ops_v (v_assign (v := (.int _ _)) rfl rfl) ?_
        refine ops_nil ?_
        refine W_ret ?_
        refine ⟨_, (.tmp (v := (.int _ _)) rfl (.tmp (v := (.int _ _)) rfl .nil)), ?_⟩
        exact ⟨rfl, H.tail⟩
        -- (guard.Fix$1: ret; chunks n0,c1,c2,c3,c4,c5,S,F; ptr 1=c1,2=c2,3=c3,4=c4,5=c5,9=n0,32=n0,35=n0,42=n0,52=n0)
  | @err2 s id s1 i1 s2 i e h h1 h2 he ih1 ih2 =>
    subst hkk
    intro wb w R p r b1 b2 b3 b4 b5 hw hkl hid H
    have hp := M.ask_parts hw hid h (by omega)
    have g1 := h1.good hk hw hp.1
    have hl1 := g1.ext.links
    have full := (Fx.err2 h h1 h2 he : Fx k v s id s2 0 e)
    obtain ⟨⟨lf, vl, bl, bs, bf⟩, hg⟩ := M.isN_get hid
    have hz := M.getZ_eq hg
    have hln : lnk s id = if lf then 16 else bl := by unfold lnk; rw [hz]
    obtain ⟨l, hv, H⟩ := H.openF 6 rfl
    simp only [List.set_cons_succ, List.set_cons_zero] at H
    cases hlk : look l id with
    | some u =>
      obtain ⟨n, rfl, _, hh⟩ := hv id u hlk
      exact (he (Fx.only full hh).2.2).elim
    | none =>
      cases lf with
      | true =>
        simp at hln
        omega
      | false =>
        simp at hln
        rw [hz] at hp ih1 ih2
        have hV : nodeV ⟨false, vl, bl, bs, bf⟩ true = .tuple [.agg [.bool false, .int .i64 vl, .int .i64 bl, .int .i64 bs, .int .i64 bf].toArray, .bool true].toArray := rfl
        refine FnC_of Tryd.func26 rfl rfl rfl rfl ?_
        refine W_seq ?_
        refine W_region ?_
        refine ops_v (v_assign (v := _) rfl rfl) ?_
        refine ops_v (v_assign (v := _) rfl rfl) ?_
        refine ops_nil ?_
        refine W_seq ?_
        refine W_region ?_
        refine ops_load (v := (.pointer _)) 0 H rfl tc25 rfl rfl rfl ?_
        refine ops_v (v_move (v := (.int _ _)) rfl rfl) ?_
        refine ops_call rfl c27 (FnC.ro 5 rfl H (fun _ H' => (by have := Node_ok hg H'; rw [hV] at this; exact this))) ?_
        clear H; rintro _ w ⟨rfl, H⟩
        refine ops_v (v_move (v := (.tuple _)) rfl rfl) ?_
        refine ops_v (v_extract (v := (.agg _)) rfl rfl rfl) ?_
        refine ops_v (v_extract (v := (.bool _)) rfl rfl rfl) ?_
        refine ops_alloc H rfl tz56 ?_
        clear H; intro bn0 w H
        refine ops_store (vs := [_, _, _, _, _]) (v := (.agg _)) (cs' := [_, _, _, _, _]) 0 H rfl ts56 rfl rfl rfl rfl rfl rfl rfl rfl ?_
        clear H; intro w H
        refine ops_v (v_assign (v := (.bool _)) rfl rfl) ?_
        refine ops_nil ?_
        refine W_seq ?_
        refine W_region ?_
        refine ops_load (v := (.map _)) 2 H rfl tc54 rfl rfl rfl ?_
        refine ops_v (v_move (v := (.int _ _)) rfl rfl) ?_
        refine ops_lookup 7 H keyI Tryd.underlying54 zeroInt rfl rfl rfl rfl hlk ?_
        refine ops_v (v_move (v := (.tuple _)) rfl rfl) ?_
        refine ops_v (v_extract (v := (.int _ _)) rfl rfl rfl) ?_
        refine ops_v (v_extract (v := (.bool _)) rfl rfl rfl) ?_
        refine ops_v (v_assign (v := (.int _ _)) rfl rfl) ?_
        refine ops_v (v_assign (v := (.bool _)) rfl rfl) ?_
        refine ops_nil ?_
        refine W_seq ?_
        refine W_block ?_
        refine W_seq ?_
        have H := H.mapAt 7 rfl (fun _ H => Own.shutF H hv)
        refine W_region ?_
        refine ops_v (v_move (v := (.bool _)) rfl rfl) ?_
        refine ops_v (v_assign (v := (.bool _)) rfl rfl) ?_
        refine ops_nil ?_
        refine W_if_f rfl ?_
        refine W_seq ?_
        refine W_region ?_
        refine ops_v (v_fieldAddr rfl fo56_0 rfl rfl) ?_
        refine ops_load (v := (.bool _)) 0 H rfl tc4 rfl rfl rfl ?_
        refine ops_v (v_move (v := (.bool _)) rfl rfl) ?_
        refine ops_v (v_fieldAddr rfl fo56_2 rfl rfl) ?_
        refine ops_load (v := (.int _ _)) 0 H rfl tc3 rfl rfl rfl ?_
        refine ops_load (v := (.int _ _)) 3 H rfl tc3 rfl rfl rfl ?_
        refine ops_v (v_gtr false rfl rfl rfl (decide_eq_false (by first | omega | (simp only; omega) | rfl | decide))) ?_
        refine ops_v (v_pick_f (v := (.bool _)) rfl rfl rfl) ?_
        refine ops_v (v_assign (v := (.bool _)) rfl rfl) ?_
        refine ops_nil ?_
        refine W_if_f rfl ?_
        refine W_seq ?_
        refine W_region ?_
        refine ops_v (v_fieldAddr rfl fo56_2 rfl rfl) ?_
        refine ops_load (v := (.int _ _)) 0 H rfl tc3 rfl rfl rfl ?_
        refine ops_load (v := (.int _ _)) 3 H rfl tc3 rfl rfl rfl ?_
        refine ops_v (v_eql false rfl rfl rfl (decide_eq_false (by first | omega | (simp only; omega) | rfl | decide))) ?_
        refine ops_v (v_move (v := (.bool _)) rfl rfl) ?_
        refine ops_skip rfl rfl ?_
        refine ops_v (v_pick_f (v := (.bool _)) rfl rfl rfl) ?_
        refine ops_v (v_assign (v := (.bool _)) rfl rfl) ?_
        refine ops_nil ?_
        refine W_if_f rfl ?_
        refine W_seq ?_
        refine W_region ?_
        refine ops_v (v_fieldAddr rfl fo56_2 rfl rfl) ?_
        refine ops_load (v := (.int _ _)) 0 H rfl tc3 rfl rfl rfl ?_
        refine ops_load (v := (.int _ _)) 3 H rfl tc3 rfl rfl rfl ?_
        refine ops_v (v_eql false rfl rfl rfl (decide_eq_false (by first | omega | (simp only; omega) | rfl | decide))) ?_
        refine ops_v (v_assign (v := (.bool _)) rfl rfl) ?_
        refine ops_nil ?_
        refine W_if_f rfl ?_
        refine W_skip ?_
        refine W_seq ?_
        refine W_region ?_
        refine ops_load (v := _) 5 H rfl tc40 rfl rfl rfl ?_
        refine ops_v (v_fieldAddr rfl fo56_3 rfl rfl) ?_
        refine ops_load (v := (.int _ _)) 0 H rfl tc3 rfl rfl rfl ?_
        refine ops_callV (first := []) rfl rfl c26 (FnC.mid (A := [_]) (B := [_, _, _, _, _, _, _]) (B' := [_, _, _, _, _, _, _]) H (fun _ H => ih1 hw hkl hp.1 H)) ?_
        clear H; rintro _ w ⟨rfl, H⟩
        simp only [List.cons_append, List.nil_append] at H
        refine ops_v (v_move (v := (.tuple _)) rfl rfl) ?_
        refine ops_v (v_extract (v := (.int _ _)) rfl rfl rfl) ?_
        refine ops_v (v_extract (v := (.int _ _)) rfl rfl rfl) ?_
        refine ops_v (v_assign (v := (.int _ _)) rfl rfl) ?_
        refine ops_v (v_assign (v := (.int _ _)) rfl rfl) ?_
        refine ops_nil ?_
        refine W_seq ?_
        refine W_seq ?_
        refine W_region ?_
        refine ops_v (v_move (v := (.int _ _)) rfl rfl) ?_
        refine ops_v (v_neq false rfl rfl rfl (decide_eq_false (by first | omega | (simp only; omega) | rfl | decide))) ?_
        refine ops_nil ?_
        refine W_if_f rfl ?_
        refine W_skip ?_
        refine W_seq ?_
        refine W_region ?_
        refine ops_load (v := _) 5 H rfl tc40 rfl rfl rfl ?_
        refine ops_v (v_fieldAddr rfl fo56_4 rfl rfl) ?_
        refine ops_load (v := (.int _ _)) 0 H rfl tc3 rfl rfl rfl ?_
        refine ops_callV (first := []) rfl rfl c26 (FnC.mid (A := [_]) (B := [_, _, _, _, _, _, _]) (B' := [_, _, _, _, _, _, _]) H (fun _ H => ih2 g1.wf (by omega) (g1.ext.isN hp.2.1) H)) ?_
        clear H; rintro _ w ⟨rfl, H⟩
        simp only [List.cons_append, List.nil_append] at H
        refine ops_v (v_move (v := (.tuple _)) rfl rfl) ?_
        refine ops_v (v_extract (v := (.int _ _)) rfl rfl rfl) ?_
        refine ops_v (v_extract (v := (.int _ _)) rfl rfl rfl) ?_
        refine ops_v (v_assign (v := (.int _ _)) rfl rfl) ?_
        refine ops_v (v_assign (v := (.int _ _)) rfl rfl) ?_
        refine ops_nil ?_
        refine W_seq ?_
        refine W_seq ?_
        refine W_region ?_
        refine ops_v (v_move (v := (.int _ _)) rfl rfl) ?_
        refine ops_v (v_neq true rfl rfl rfl (decide_eq_true (by first | omega | (simp only; omega) | rfl | decide))) ?_
        refine ops_nil ?_
        refine W_if_t rfl ?_
        refine W_seq ?_
        refine W_region ?_
        refine ops_v (v_move (v := (.int _ _)) rfl rfl) ?_
        refine ops_v (v_assign (v := _) rfl rfl) ?_
        refine ops_v (v_assign (v := (.int _ _)) rfl rfl) ?_
        refine ops_nil ?_
        refine W_ret ?_
        refine ⟨_, (.tmp (v := (.int _ _)) rfl (.tmp (v := (.int _ _)) rfl .nil)), ?_⟩
        exact ⟨rfl, H.tail⟩
        -- (guard.Fix$1: ret; chunks n0,c1,c2,c3,c4,c5,S,F; ptr 1=c1,2=c2,3=c3,4=c4,5=c5,9=n0,32=n0,35=n0,42=n0,52=n0)
  | @ask s id s1 i1 s2 i2 s3 i3 e3 h h1 h2 h3 ih1 ih2 =>
    subst hkk
    intro wb w R p r b1 b2 b3 b4 b5 hw hkl hid H
    have hp := M.ask_parts hw hid h (by omega)
    have g1 := h1.good hk hw hp.1
    have hl1 := g1.ext.links
    have g2 := h2.good hk g1.wf (g1.ext.isN hp.2.1)
    have hl2 := g2.ext.links
    have hmo := g2.wf.most
    have x3 := M.make_ext s2 (lnk s id) i1 i2
    rw [h3] at x3
    have gg := (Fx.ask h h1 h2 h3 : Fx k v s id s3 i3 e3).good hk hw hid
    have full := (Fx.ask h h1 h2 h3 : Fx k v s id s3 i3 e3)
    obtain ⟨⟨lf, vl, bl, bs, bf⟩, hg⟩ := M.isN_get hid
    have hz := M.getZ_eq hg
    have hln : lnk s id = if lf then 16 else bl := by unfold lnk; rw [hz]
    obtain ⟨l, hv, H⟩ := H.openF 6 rfl
    simp only [List.set_cons_succ, List.set_cons_zero] at H
    cases hlk : look l id with
    | some u =>
      obtain ⟨n, rfl, _, hh⟩ := hv id u hlk
      obtain ⟨rfl, rfl, rfl⟩ := Fx.only full hh
      have hN : ∃ b : Bool, b = lf := ⟨_, rfl⟩
      cases lf with
      | true =>
        have hV : nodeV ⟨true, vl, bl, bs, bf⟩ true = .tuple [.agg [.bool true, .int .i64 vl, .int .i64 bl, .int .i64 bs, .int .i64 bf].toArray, .bool true].toArray := rfl
        refine FnC_of Tryd.func26 rfl rfl rfl rfl ?_
        refine W_seq ?_
        refine W_region ?_
        refine ops_v (v_assign (v := _) rfl rfl) ?_
        refine ops_v (v_assign (v := _) rfl rfl) ?_
        refine ops_nil ?_
        refine W_seq ?_
        refine W_region ?_
        refine ops_load (v := (.pointer _)) 0 H rfl tc25 rfl rfl rfl ?_
        refine ops_v (v_move (v := (.int _ _)) rfl rfl) ?_
        refine ops_call rfl c27 (FnC.ro 5 rfl H (fun _ H' => (by have := Node_ok hg H'; rw [hV] at this; exact this))) ?_
        clear H; rintro _ w ⟨rfl, H⟩
        refine ops_v (v_move (v := (.tuple _)) rfl rfl) ?_
        refine ops_v (v_extract (v := (.agg _)) rfl rfl rfl) ?_
        refine ops_v (v_extract (v := (.bool _)) rfl rfl rfl) ?_
        refine ops_alloc H rfl tz56 ?_
        clear H; intro bn0 w H
        refine ops_store (vs := [_, _, _, _, _]) (v := (.agg _)) (cs' := [_, _, _, _, _]) 0 H rfl ts56 rfl rfl rfl rfl rfl rfl rfl rfl ?_
        clear H; intro w H
        refine ops_v (v_assign (v := (.bool _)) rfl rfl) ?_
        refine ops_nil ?_
        refine W_seq ?_
        refine W_region ?_
        refine ops_load (v := (.map _)) 2 H rfl tc54 rfl rfl rfl ?_
        refine ops_v (v_move (v := (.int _ _)) rfl rfl) ?_
        refine ops_lookup 7 H keyI Tryd.underlying54 zeroInt rfl rfl rfl rfl hlk ?_
        refine ops_v (v_move (v := (.tuple _)) rfl rfl) ?_
        refine ops_v (v_extract (v := (.int _ _)) rfl rfl rfl) ?_
        refine ops_v (v_extract (v := (.bool _)) rfl rfl rfl) ?_
        refine ops_v (v_assign (v := (.int _ _)) rfl rfl) ?_
        refine ops_v (v_assign (v := (.bool _)) rfl rfl) ?_
        refine ops_nil ?_
        refine W_seq ?_
        refine W_block ?_
        refine W_seq ?_
        refine W_region ?_
        refine ops_v (v_move (v := (.bool _)) rfl rfl) ?_
        refine ops_v (v_assign (v := (.bool _)) rfl rfl) ?_
        refine ops_nil ?_
        refine W_if_t rfl ?_
        refine W_seq ?_
        refine W_region ?_
        refine ops_v (v_move (v := (.int _ _)) rfl rfl) ?_
        refine ops_v (v_assign (v := (.int _ _)) rfl rfl) ?_
        refine ops_v (v_assign (v := _) rfl rfl) ?_
        refine ops_nil ?_
        refine W_ret ?_
        refine ⟨_, (.tmp (v := (.int _ _)) rfl (.tmp (v := (.int _ _)) rfl .nil)), ?_⟩
        have H := H.mapAt 7 rfl (fun _ H => Own.shutF H hv)
        exact ⟨rfl, H.tail⟩
        -- (guard.Fix$1: ret; chunks n0,c1,c2,c3,c4,c5,S,F; ptr 1=c1,2=c2,3=c3,4=c4,5=c5,9=n0)
      | false =>
        have hV : nodeV ⟨false, vl, bl, bs, bf⟩ true = .tuple [.agg [.bool false, .int .i64 vl, .int .i64 bl, .int .i64 bs, .int .i64 bf].toArray, .bool true].toArray := rfl
        refine FnC_of Tryd.func26 rfl rfl rfl rfl ?_
        refine W_seq ?_
        refine W_region ?_
        refine ops_v (v_assign (v := _) rfl rfl) ?_
        refine ops_v (v_assign (v := _) rfl rfl) ?_
        refine ops_nil ?_
        refine W_seq ?_
        refine W_region ?_
        refine ops_load (v := (.pointer _)) 0 H rfl tc25 rfl rfl rfl ?_
        refine ops_v (v_move (v := (.int _ _)) rfl rfl) ?_
        refine ops_call rfl c27 (FnC.ro 5 rfl H (fun _ H' => (by have := Node_ok hg H'; rw [hV] at this; exact this))) ?_
        clear H; rintro _ w ⟨rfl, H⟩
        refine ops_v (v_move (v := (.tuple _)) rfl rfl) ?_
        refine ops_v (v_extract (v := (.agg _)) rfl rfl rfl) ?_
        refine ops_v (v_extract (v := (.bool _)) rfl rfl rfl) ?_
        refine ops_alloc H rfl tz56 ?_
        clear H; intro bn0 w H
        refine ops_store (vs := [_, _, _, _, _]) (v := (.agg _)) (cs' := [_, _, _, _, _]) 0 H rfl ts56 rfl rfl rfl rfl rfl rfl rfl rfl ?_
        clear H; intro w H
        refine ops_v (v_assign (v := (.bool _)) rfl rfl) ?_
        refine ops_nil ?_
        refine W_seq ?_
        refine W_region ?_
        refine ops_load (v := (.map _)) 2 H rfl tc54 rfl rfl rfl ?_
        refine ops_v (v_move (v := (.int _ _)) rfl rfl) ?_
        refine ops_lookup 7 H keyI Tryd.underlying54 zeroInt rfl rfl rfl rfl hlk ?_
        refine ops_v (v_move (v := (.tuple _)) rfl rfl) ?_
        refine ops_v (v_extract (v := (.int _ _)) rfl rfl rfl) ?_
        refine ops_v (v_extract (v := (.bool _)) rfl rfl rfl) ?_
        refine ops_v (v_assign (v := (.int _ _)) rfl rfl) ?_
        refine ops_v (v_assign (v := (.bool _)) rfl rfl) ?_
        refine ops_nil ?_
        refine W_seq ?_
        refine W_block ?_
        refine W_seq ?_
        refine W_region ?_
        refine ops_v (v_move (v := (.bool _)) rfl rfl) ?_
        refine ops_v (v_assign (v := (.bool _)) rfl rfl) ?_
        refine ops_nil ?_
        refine W_if_t rfl ?_
        refine W_seq ?_
        refine W_region ?_
        refine ops_v (v_move (v := (.int _ _)) rfl rfl) ?_
        refine ops_v (v_assign (v := (.int _ _)) rfl rfl) ?_
        refine ops_v (v_assign (v := _) rfl rfl) ?_
        refine ops_nil ?_
        refine W_ret ?_
        refine ⟨_, (.tmp (v := (.int _ _)) rfl (.tmp (v := (.int _ _)) rfl .nil)), ?_⟩
        have H := H.mapAt 7 rfl (fun _ H => Own.shutF H hv)
        exact ⟨rfl, H.tail⟩
        -- (guard.Fix$1: ret; chunks n0,c1,c2,c3,c4,c5,S,F; ptr 1=c1,2=c2,3=c3,4=c4,5=c5,9=n0)
    | none =>
      cases lf with
      | true =>
        simp at hln
        omega
      | false =>
        simp at hln
        rw [hz] at hp ih1 ih2
        rw [hln] at h3
        have hV : nodeV ⟨false, vl, bl, bs, bf⟩ true = .tuple [.agg [.bool false, .int .i64 vl, .int .i64 bl, .int .i64 bs, .int .i64 bf].toArray, .bool true].toArray := rfl
        by_cases he : e3 = 0
        · subst he
          have hag := full.again hk hw hkl hid (Ext.refl _) gg.wf
          have hid3 := gg.ext.isN hid
          refine FnC_of Tryd.func26 rfl rfl rfl rfl ?_
          refine W_seq ?_
          refine W_region ?_
          refine ops_v (v_assign (v := _) rfl rfl) ?_
          refine ops_v (v_assign (v := _) rfl rfl) ?_
          refine ops_nil ?_
          refine W_seq ?_
          refine W_region ?_
          refine ops_load (v := (.pointer _)) 0 H rfl tc25 rfl rfl rfl ?_
          refine ops_v (v_move (v := (.int _ _)) rfl rfl) ?_
          refine ops_call rfl c27 (FnC.ro 5 rfl H (fun _ H' => (by have := Node_ok hg H'; rw [hV] at this; exact this))) ?_
          clear H; rintro _ w ⟨rfl, H⟩
          refine ops_v (v_move (v := (.tuple _)) rfl rfl) ?_
          refine ops_v (v_extract (v := (.agg _)) rfl rfl rfl) ?_
          refine ops_v (v_extract (v := (.bool _)) rfl rfl rfl) ?_
          refine ops_alloc H rfl tz56 ?_
          clear H; intro bn0 w H
          refine ops_store (vs := [_, _, _, _, _]) (v := (.agg _)) (cs' := [_, _, _, _, _]) 0 H rfl ts56 rfl rfl rfl rfl rfl rfl rfl rfl ?_
          clear H; intro w H
          refine ops_v (v_assign (v := (.bool _)) rfl rfl) ?_
          refine ops_nil ?_
          refine W_seq ?_
          refine W_region ?_
          refine ops_load (v := (.map _)) 2 H rfl tc54 rfl rfl rfl ?_
          refine ops_v (v_move (v := (.int _ _)) rfl rfl) ?_
          refine ops_lookup 7 H keyI Tryd.underlying54 zeroInt rfl rfl rfl rfl hlk ?_
          refine ops_v (v_move (v := (.tuple _)) rfl rfl) ?_
          refine ops_v (v_extract (v := (.int _ _)) rfl rfl rfl) ?_
          refine ops_v (v_extract (v := (.bool _)) rfl rfl rfl) ?_
          refine ops_v (v_assign (v := (.int _ _)) rfl rfl) ?_
          refine ops_v (v_assign (v := (.bool _)) rfl rfl) ?_
          refine ops_nil ?_
          refine W_seq ?_
          refine W_block ?_
          refine W_seq ?_
          have H := H.mapAt 7 rfl (fun _ H => Own.shutF H hv)
          refine W_region ?_
          refine ops_v (v_move (v := (.bool _)) rfl rfl) ?_
          refine ops_v (v_assign (v := (.bool _)) rfl rfl) ?_
          refine ops_nil ?_
          refine W_if_f rfl ?_
          refine W_seq ?_
          refine W_region ?_
          refine ops_v (v_fieldAddr rfl fo56_0 rfl rfl) ?_
          refine ops_load (v := (.bool _)) 0 H rfl tc4 rfl rfl rfl ?_
          refine ops_v (v_move (v := (.bool _)) rfl rfl) ?_
          refine ops_v (v_fieldAddr rfl fo56_2 rfl rfl) ?_
          refine ops_load (v := (.int _ _)) 0 H rfl tc3 rfl rfl rfl ?_
          refine ops_load (v := (.int _ _)) 3 H rfl tc3 rfl rfl rfl ?_
          refine ops_v (v_gtr false rfl rfl rfl (decide_eq_false (by first | omega | (simp only; omega) | rfl | decide))) ?_
          refine ops_v (v_pick_f (v := (.bool _)) rfl rfl rfl) ?_
          refine ops_v (v_assign (v := (.bool _)) rfl rfl) ?_
          refine ops_nil ?_
          refine W_if_f rfl ?_
          refine W_seq ?_
          refine W_region ?_
          refine ops_v (v_fieldAddr rfl fo56_2 rfl rfl) ?_
          refine ops_load (v := (.int _ _)) 0 H rfl tc3 rfl rfl rfl ?_
          refine ops_load (v := (.int _ _)) 3 H rfl tc3 rfl rfl rfl ?_
          refine ops_v (v_eql false rfl rfl rfl (decide_eq_false (by first | omega | (simp only; omega) | rfl | decide))) ?_
          refine ops_v (v_move (v := (.bool _)) rfl rfl) ?_
          refine ops_skip rfl rfl ?_
          refine ops_v (v_pick_f (v := (.bool _)) rfl rfl rfl) ?_
          refine ops_v (v_assign (v := (.bool _)) rfl rfl) ?_
          refine ops_nil ?_
          refine W_if_f rfl ?_
          refine W_seq ?_
          refine W_region ?_
          refine ops_v (v_fieldAddr rfl fo56_2 rfl rfl) ?_
          refine ops_load (v := (.int _ _)) 0 H rfl tc3 rfl rfl rfl ?_
          refine ops_load (v := (.int _ _)) 3 H rfl tc3 rfl rfl rfl ?_
          refine ops_v (v_eql false rfl rfl rfl (decide_eq_false (by first | omega | (simp only; omega) | rfl | decide))) ?_
          refine ops_v (v_assign (v := (.bool _)) rfl rfl) ?_
          refine ops_nil ?_
          refine W_if_f rfl ?_
          refine W_skip ?_
          refine W_seq ?_
          refine W_region ?_
          refine ops_load (v := _) 5 H rfl tc40 rfl rfl rfl ?_
          refine ops_v (v_fieldAddr rfl fo56_3 rfl rfl) ?_
          refine ops_load (v := (.int _ _)) 0 H rfl tc3 rfl rfl rfl ?_
          refine ops_callV (first := []) rfl rfl c26 (FnC.mid (A := [_]) (B := [_, _, _, _, _, _, _]) (B' := [_, _, _, _, _, _, _]) H (fun _ H => ih1 hw hkl hp.1 H)) ?_
          clear H; rintro _ w ⟨rfl, H⟩
          simp only [List.cons_append, List.nil_append] at H
          refine ops_v (v_move (v := (.tuple _)) rfl rfl) ?_
          refine ops_v (v_extract (v := (.int _ _)) rfl rfl rfl) ?_
          refine ops_v (v_extract (v := (.int _ _)) rfl rfl rfl) ?_
          refine ops_v (v_assign (v := (.int _ _)) rfl rfl) ?_
          refine ops_v (v_assign (v := (.int _ _)) rfl rfl) ?_
          refine ops_nil ?_
          refine W_seq ?_
          refine W_seq ?_
          refine W_region ?_
          refine ops_v (v_move (v := (.int _ _)) rfl rfl) ?_
          refine ops_v (v_neq false rfl rfl rfl (decide_eq_false (by first | omega | (simp only; omega) | rfl | decide))) ?_
          refine ops_nil ?_
          refine W_if_f rfl ?_
          refine W_skip ?_
          refine W_seq ?_
          refine W_region ?_
          refine ops_load (v := _) 5 H rfl tc40 rfl rfl rfl ?_
          refine ops_v (v_fieldAddr rfl fo56_4 rfl rfl) ?_
          refine ops_load (v := (.int _ _)) 0 H rfl tc3 rfl rfl rfl ?_
          refine ops_callV (first := []) rfl rfl c26 (FnC.mid (A := [_]) (B := [_, _, _, _, _, _, _]) (B' := [_, _, _, _, _, _, _]) H (fun _ H => ih2 g1.wf (by omega) (g1.ext.isN hp.2.1) H)) ?_
          clear H; rintro _ w ⟨rfl, H⟩
          simp only [List.cons_append, List.nil_append] at H
          refine ops_v (v_move (v := (.tuple _)) rfl rfl) ?_
          refine ops_v (v_extract (v := (.int _ _)) rfl rfl rfl) ?_
          refine ops_v (v_extract (v := (.int _ _)) rfl rfl rfl) ?_
          refine ops_v (v_assign (v := (.int _ _)) rfl rfl) ?_
          refine ops_v (v_assign (v := (.int _ _)) rfl rfl) ?_
          refine ops_nil ?_
          refine W_seq ?_
          refine W_seq ?_
          refine W_region ?_
          refine ops_v (v_move (v := (.int _ _)) rfl rfl) ?_
          refine ops_v (v_neq false rfl rfl rfl (decide_eq_false (by first | omega | (simp only; omega) | rfl | decide))) ?_
          refine ops_nil ?_
          refine W_if_f rfl ?_
          refine W_skip ?_
          refine W_seq ?_
          refine W_region ?_
          refine ops_load (v := (.pointer _)) 1 H rfl tc25 rfl rfl rfl ?_
          refine ops_v (v_fieldAddr rfl fo56_2 rfl rfl) ?_
          refine ops_load (v := (.int _ _)) 0 H rfl tc3 rfl rfl rfl ?_
          refine ops_v (v_move (v := (.int _ _)) rfl rfl) ?_
          refine ops_v (v_move (v := (.int _ _)) rfl rfl) ?_
          refine ops_call rfl c21 (FnC.at 6 rfl H (fun _ H => Make_ok hmo h3 H)) ?_
          clear H; rintro _ w ⟨rfl, H⟩
          have H := H.mapAt 7 rfl (fun _ H => H.fixExt hk g2.wf (by omega) x3 gg.wf)
          obtain ⟨l', hv', H⟩ := H.openF 7 rfl
          refine ops_v (v_move (v := (.tuple _)) rfl rfl) ?_
          refine ops_v (v_extract (v := (.int _ _)) rfl rfl rfl) ?_
          refine ops_v (v_extract (v := (.int _ _)) rfl rfl rfl) ?_
          refine ops_v (v_assign (v := (.int _ _)) rfl rfl) ?_
          refine ops_v (v_assign (v := (.int _ _)) rfl rfl) ?_
          refine ops_nil ?_
          refine W_seq ?_
          refine W_seq ?_
          refine W_region ?_
          refine ops_v (v_move (v := (.int _ _)) rfl rfl) ?_
          refine ops_v (v_eql true rfl rfl rfl (decide_eq_true (by first | omega | (simp only; omega) | rfl | decide))) ?_
          refine ops_nil ?_
          refine W_if_t rfl ?_
          refine W_region ?_
          refine ops_load (v := (.map _)) 2 H rfl tc54 rfl rfl rfl ?_
          refine ops_v (v_move (v := (.int _ _)) rfl rfl) ?_
          refine ops_v (v_move (v := (.int _ _)) rfl rfl) ?_
          refine ops_mapUpdate (v := int i3) 7 H keyI Tryd.underlying54 rfl rfl rfl rfl rfl ?_
          clear H; intro w H
          refine ops_nil ?_
          refine W_seq ?_
          refine W_region ?_
          refine ops_v (v_move (v := (.int _ _)) rfl rfl) ?_
          refine ops_v (v_move (v := (.int _ _)) rfl rfl) ?_
          refine ops_v (v_assign (v := (.int _ _)) rfl rfl) ?_
          refine ops_v (v_assign (v := (.int _ _)) rfl rfl) ?_
          refine ops_nil ?_
          refine W_ret ?_
          refine ⟨_, (.tmp (v := (.int _ _)) rfl (.tmp (v := (.int _ _)) rfl .nil)), ?_⟩
          have H := H.mapAt 7 rfl (fun _ H => Own.shutF H (hv'.put hid3 hag))
          exact ⟨rfl, H.tail⟩
          -- (guard.Fix$1: ret; chunks n0,c1,c2,c3,c4,c5,S,F; ptr 1=c1,2=c2,3=c3,4=c4,5=c5,9=n0,32=n0,35=n0,42=n0,52=n0)
        · refine FnC_of Tryd.func26 rfl rfl rfl rfl ?_
          refine W_seq ?_
          refine W_region ?_
          refine ops_v (v_assign (v := _) rfl rfl) ?_
          refine ops_v (v_assign (v := _) rfl rfl) ?_
          refine ops_nil ?_
          refine W_seq ?_
          refine W_region ?_
          refine ops_load (v := (.pointer _)) 0 H rfl tc25 rfl rfl rfl ?_
          refine ops_v (v_move (v := (.int _ _)) rfl rfl) ?_
          refine ops_call rfl c27 (FnC.ro 5 rfl H (fun _ H' => (by have := Node_ok hg H'; rw [hV] at this; exact this))) ?_
          clear H; rintro _ w ⟨rfl, H⟩
          refine ops_v (v_move (v := (.tuple _)) rfl rfl) ?_
          refine ops_v (v_extract (v := (.agg _)) rfl rfl rfl) ?_
          refine ops_v (v_extract (v := (.bool _)) rfl rfl rfl) ?_
          refine ops_alloc H rfl tz56 ?_
          clear H; intro bn0 w H
          refine ops_store (vs := [_, _, _, _, _]) (v := (.agg _)) (cs' := [_, _, _, _, _]) 0 H rfl ts56 rfl rfl rfl rfl rfl rfl rfl rfl ?_
          clear H; intro w H
          refine ops_v (v_assign (v := (.bool _)) rfl rfl) ?_
          refine ops_nil ?_
          refine W_seq ?_
          refine W_region ?_
          refine ops_load (v := (.map _)) 2 H rfl tc54 rfl rfl rfl ?_
          refine ops_v (v_move (v := (.int _ _)) rfl rfl) ?_
          refine ops_lookup 7 H keyI Tryd.underlying54 zeroInt rfl rfl rfl rfl hlk ?_
          refine ops_v (v_move (v := (.tuple _)) rfl rfl) ?_
          refine ops_v (v_extract (v := (.int _ _)) rfl rfl rfl) ?_
          refine ops_v (v_extract (v := (.bool _)) rfl rfl rfl) ?_
          refine ops_v (v_assign (v := (.int _ _)) rfl rfl) ?_
          refine ops_v (v_assign (v := (.bool _)) rfl rfl) ?_
          refine ops_nil ?_
          refine W_seq ?_
          refine W_block ?_
          refine W_seq ?_
          have H := H.mapAt 7 rfl (fun _ H => Own.shutF H hv)
          refine W_region ?_
          refine ops_v (v_move (v := (.bool _)) rfl rfl) ?_
          refine ops_v (v_assign (v := (.bool _)) rfl rfl) ?_
          refine ops_nil ?_
          refine W_if_f rfl ?_
          refine W_seq ?_
          refine W_region ?_
          refine ops_v (v_fieldAddr rfl fo56_0 rfl rfl) ?_
          refine ops_load (v := (.bool _)) 0 H rfl tc4 rfl rfl rfl ?_
          refine ops_v (v_move (v := (.bool _)) rfl rfl) ?_
          refine ops_v (v_fieldAddr rfl fo56_2 rfl rfl) ?_
          refine ops_load (v := (.int _ _)) 0 H rfl tc3 rfl rfl rfl ?_
          refine ops_load (v := (.int _ _)) 3 H rfl tc3 rfl rfl rfl ?_
          refine ops_v (v_gtr false rfl rfl rfl (decide_eq_false (by first | omega | (simp only; omega) | rfl | decide))) ?_
          refine ops_v (v_pick_f (v := (.bool _)) rfl rfl rfl) ?_
          refine ops_v (v_assign (v := (.bool _)) rfl rfl) ?_
          refine ops_nil ?_
          refine W_if_f rfl ?_
          refine W_seq ?_
          refine W_region ?_
          refine ops_v (v_fieldAddr rfl fo56_2 rfl rfl) ?_
          refine ops_load (v := (.int _ _)) 0 H rfl tc3 rfl rfl rfl ?_
          refine ops_load (v := (.int _ _)) 3 H rfl tc3 rfl rfl rfl ?_
          refine ops_v (v_eql false rfl rfl rfl (decide_eq_false (by first | omega | (simp only; omega) | rfl | decide))) ?_
          refine ops_v (v_move (v := (.bool _)) rfl rfl) ?_
          refine ops_skip rfl rfl ?_
          refine ops_v (v_pick_f (v := (.bool _)) rfl rfl rfl) ?_
          refine ops_v (v_assign (v := (.bool _)) rfl rfl) ?_
          refine ops_nil ?_
          refine W_if_f rfl ?_
          refine W_seq ?_
          refine W_region ?_
          refine ops_v (v_fieldAddr rfl fo56_2 rfl rfl) ?_
          refine ops_load (v := (.int _ _)) 0 H rfl tc3 rfl rfl rfl ?_
          refine ops_load (v := (.int _ _)) 3 H rfl tc3 rfl rfl rfl ?_
          refine ops_v (v_eql false rfl rfl rfl (decide_eq_false (by first | omega | (simp only; omega) | rfl | decide))) ?_
          refine ops_v (v_assign (v := (.bool _)) rfl rfl) ?_
          refine ops_nil ?_
          refine W_if_f rfl ?_
          refine W_skip ?_
          refine W_seq ?_
          refine W_region ?_
          refine ops_load (v := _) 5 H rfl tc40 rfl rfl rfl ?_
          refine ops_v (v_fieldAddr rfl fo56_3 rfl rfl) ?_
          refine ops_load (v := (.int _ _)) 0 H rfl tc3 rfl rfl rfl ?_
          refine ops_callV (first := []) rfl rfl c26 (FnC.mid (A := [_]) (B := [_, _, _, _, _, _, _]) (B' := [_, _, _, _, _, _, _]) H (fun _ H => ih1 hw hkl hp.1 H)) ?_
          clear H; rintro _ w ⟨rfl, H⟩
          simp only [List.cons_append, List.nil_append] at H
          refine ops_v (v_move (v := (.tuple _)) rfl rfl) ?_
          refine ops_v (v_extract (v := (.int _ _)) rfl rfl rfl) ?_
          refine ops_v (v_extract (v := (.int _ _)) rfl rfl rfl) ?_
          refine ops_v (v_assign (v := (.int _ _)) rfl rfl) ?_
          refine ops_v (v_assign (v := (.int _ _)) rfl rfl) ?_
          refine ops_nil ?_
          refine W_seq ?_
          refine W_seq ?_
          refine W_region ?_
          refine ops_v (v_move (v := (.int _ _)) rfl rfl) ?_
          refine ops_v (v_neq false rfl rfl rfl (decide_eq_false (by first | omega | (simp only; omega) | rfl | decide))) ?_
          refine ops_nil ?_
          refine W_if_f rfl ?_
          refine W_skip ?_
          refine W_seq ?_
          refine W_region ?_
          refine ops_load (v := _) 5 H rfl tc40 rfl rfl rfl ?_
          refine ops_v (v_fieldAddr rfl fo56_4 rfl rfl) ?_
          refine ops_load (v := (.int _ _)) 0 H rfl tc3 rfl rfl rfl ?_
          refine ops_callV (first := []) rfl rfl c26 (FnC.mid (A := [_]) (B := [_, _, _, _, _, _, _]) (B' := [_, _, _, _, _, _, _]) H (fun _ H => ih2 g1.wf (by omega) (g1.ext.isN hp.2.1) H)) ?_
          clear H; rintro _ w ⟨rfl, H⟩
          simp only [List.cons_append, List.nil_append] at H
          refine ops_v (v_move (v := (.tuple _)) rfl rfl) ?_
          refine ops_v (v_extract (v := (.int _ _)) rfl rfl rfl) ?_
          refine ops_v (v_extract (v := (.int _ _)) rfl rfl rfl) ?_
          refine ops_v (v_assign (v := (.int _ _)) rfl rfl) ?_
          refine ops_v (v_assign (v := (.int _ _)) rfl rfl) ?_
          refine ops_nil ?_
          refine W_seq ?_
          refine W_seq ?_
          refine W_region ?_
          refine ops_v (v_move (v := (.int _ _)) rfl rfl) ?_
          refine ops_v (v_neq false rfl rfl rfl (decide_eq_false (by first | omega | (simp only; omega) | rfl | decide))) ?_
          refine ops_nil ?_
          refine W_if_f rfl ?_
          refine W_skip ?_
          refine W_seq ?_
          refine W_region ?_
          refine ops_load (v := (.pointer _)) 1 H rfl tc25 rfl rfl rfl ?_
          refine ops_v (v_fieldAddr rfl fo56_2 rfl rfl) ?_
          refine ops_load (v := (.int _ _)) 0 H rfl tc3 rfl rfl rfl ?_
          refine ops_v (v_move (v := (.int _ _)) rfl rfl) ?_
          refine ops_v (v_move (v := (.int _ _)) rfl rfl) ?_
          refine ops_call rfl c21 (FnC.at 6 rfl H (fun _ H => Make_ok hmo h3 H)) ?_
          clear H; rintro _ w ⟨rfl, H⟩
          have H := H.mapAt 7 rfl (fun _ H => H.fixExt hk g2.wf (by omega) x3 gg.wf)
          refine ops_v (v_move (v := (.tuple _)) rfl rfl) ?_
          refine ops_v (v_extract (v := (.int _ _)) rfl rfl rfl) ?_
          refine ops_v (v_extract (v := (.int _ _)) rfl rfl rfl) ?_
          refine ops_v (v_assign (v := (.int _ _)) rfl rfl) ?_
          refine ops_v (v_assign (v := (.int _ _)) rfl rfl) ?_
          refine ops_nil ?_
          refine W_seq ?_
          refine W_seq ?_
          refine W_region ?_
          refine ops_v (v_move (v := (.int _ _)) rfl rfl) ?_
          refine ops_v (v_eql false rfl rfl rfl (decide_eq_false (by first | omega | (simp only; omega) | rfl | decide))) ?_
          refine ops_nil ?_
          refine W_if_f rfl ?_
          refine W_skip ?_
          refine W_seq ?_
          refine W_region ?_
          refine ops_v (v_move (v := (.int _ _)) rfl rfl) ?_
          refine ops_v (v_move (v := (.int _ _)) rfl rfl) ?_
          refine ops_v (v_assign (v := (.int _ _)) rfl rfl) ?_
          refine ops_v (v_assign (v := (.int _ _)) rfl rfl) ?_
          refine ops_nil ?_
          refine W_ret ?_
          refine ⟨_, (.tmp (v := (.int _ _)) rfl (.tmp (v := (.int _ _)) rfl .nil)), ?_⟩
          exact ⟨rfl, H.tail⟩
          -- (guard.Fix$1: ret; chunks n0,c1,c2,c3,c4,c5,S,F; ptr 1=c1,2=c2,3=c3,4=c4,5=c5,9=n0,32=n0,35=n0,42=n0,52=n0)
section
variable {wb w : World} {R L : List Chunk} {st : St} {o : Option Nat} {p : Nat}
theorem Fix_bad {k id : Int} {v : Bool} (hb : (isN st id && decide (0 ≤ k) && decide (k < st.links)) = false) (H : Own wb (StoreC p st :: R) w) : FnC Tryd.prog 13 [ptr p, xptr o, int k, .bool v, int id] w (fun u w' => u = pairV 0 1 ∧ Own wb (StoreC p st :: R) w') := by
  refine FnC_of Tryd.func13 rfl rfl rfl rfl ?_
  refine W_seq ?_
  refine W_region ?_
  refine ops_box (v := (.pointer _)) (cs := [_]) H rfl rfl rfl ?_
  clear H; intro bn0 w H
  refine ops_box (v := (.int _ _)) (cs := [_]) H rfl rfl rfl ?_
  clear H; intro bn1 w H
  refine ops_box (v := (.bool _)) (cs := [_]) H rfl rfl rfl ?_
  clear H; intro bn2 w H
  refine ops_v (v_assign (v := _) rfl rfl) ?_
  refine ops_v (v_assign (v := _) rfl rfl) ?_
  refine ops_nil ?_
  refine W_seq ?_
  refine W_seq ?_
  refine W_region ?_
  refine ops_load (v := (.pointer _)) 2 H rfl tc25 rfl rfl rfl ?_
  refine ops_load (v := (.int _ _)) 1 H rfl tc3 rfl rfl rfl ?_
  refine ops_v (v_move (v := (.int _ _)) rfl rfl) ?_
  refine ops_call rfl c23 (FnC.ro 3 rfl H (fun _ H => there_ok hb H)) ?_
  clear H; rintro _ w ⟨rfl, H⟩
  refine ops_v (v_not rfl rfl _ rfl) ?_
  refine ops_nil ?_
  refine W_if_t rfl ?_
  refine W_seq ?_
  refine W_region ?_
  refine ops_v (v_assign (v := _) rfl rfl) ?_
  refine ops_v (v_assign (v := _) rfl rfl) ?_
  refine ops_nil ?_
  refine W_ret ?_
  refine ⟨_, (.tmp (v := (.int _ _)) rfl (.tmp (v := (.int _ _)) rfl .nil)), ?_⟩
  exact ⟨rfl, H.tail.tail.tail⟩
  -- (guard.Fix: ret; chunks n2,n1,n0,S; ptr 5=n0,7=n1,8=n2)
set_option maxHeartbeats 1000000 in
theorem Fix_ok {k : Nat} {v : Bool} (hk : k < 16) {s s' : St} {id i e : Int} (h : Fx k v s id s' i e) (hw : Wf s) (hkl : (k : Int) < s.links) (hid : isN s id = true) (H : Own wb (StoreC p s :: R) w) :
    FnC Tryd.prog 13 [ptr p, xptr o, .int .i64 (k : Int), .bool v, int id] w (fun u w' => u = pairV i e ∧ Own wb (StoreC p s' :: R) w') := by
  have hb : (isN s id && decide (0 ≤ (k : Int)) && decide ((k : Int) < s.links)) = true := by simp [hid, hkl]
  refine FnC_of Tryd.func13 rfl rfl rfl rfl ?_
  refine W_seq ?_
  refine W_region ?_
  refine ops_box (v := (.pointer _)) (cs := [_]) H rfl rfl rfl ?_
  clear H; intro bn0 w H
  refine ops_box (v := (.int _ _)) (cs := [_]) H rfl rfl rfl ?_
  clear H; intro bn1 w H
  refine ops_box (v := (.bool _)) (cs := [_]) H rfl rfl rfl ?_
  clear H; intro bn2 w H
  refine ops_v (v_assign (v := _) rfl rfl) ?_
  refine ops_v (v_assign (v := _) rfl rfl) ?_
  refine ops_nil ?_
  refine W_seq ?_
  refine W_seq ?_
  refine W_region ?_
  refine ops_load (v := (.pointer _)) 2 H rfl tc25 rfl rfl rfl ?_
  refine ops_load (v := (.int _ _)) 1 H rfl tc3 rfl rfl rfl ?_
  refine ops_v (v_move (v := (.int _ _)) rfl rfl) ?_
  refine ops_call rfl c23 (FnC.ro 3 rfl H (fun _ H => there_ok hb H)) ?_
  clear H; rintro _ w ⟨rfl, H⟩
  refine ops_v (v_not rfl rfl _ rfl) ?_
  refine ops_nil ?_
  refine W_if_f rfl ?_
  refine W_skip ?_
  refine W_seq ?_
  refine W_region ?_
  refine ops_makeMap H encI rfl ?_
  clear H; intro m w H
  have H := Own.shutF (k := (k : Int)) (v := v) (st := s) H (fun _ _ hh => by simp [look_nil] at hh)
  refine ops_alloc H rfl tz54 ?_
  clear H; intro bn3 w H
  refine ops_store (vs := [_]) (v := (.map _)) (cs' := [_]) 0 H rfl ts54 rfl rfl rfl rfl rfl rfl rfl rfl ?_
  clear H; intro w H
  refine ops_nil ?_
  refine W_seq ?_
  refine W_region ?_
  refine ops_alloc H rfl tz40 ?_
  clear H; intro bn4 w H
  refine ops_nil ?_
  refine W_seq ?_
  refine W_region ?_
  refine ops_v (v_makeFunc rfl) ?_
  refine ops_store (vs := [_]) (v := _) (cs' := [_]) 0 H rfl ts40 rfl rfl rfl rfl rfl rfl rfl rfl ?_
  clear H; intro w H
  refine ops_nil ?_
  refine W_seq ?_
  have H := ((((((H.front 2 rfl).front 6 rfl).front 2 rfl).front 4 rfl).front 5 rfl).front 5 rfl).front 6 rfl
  refine W_region ?_
  refine ops_load (v := _) 4 H rfl tc40 rfl rfl rfl ?_
  refine ops_v (v_move (v := (.int _ _)) rfl rfl) ?_
  refine ops_callV (first := []) rfl rfl c26 (fix1_ok hk h hw hkl hid H) ?_
  clear H; rintro _ w ⟨rfl, H⟩
  refine ops_v (v_extract (v := (.int _ _)) rfl rfl rfl) ?_
  refine ops_v (v_extract (v := (.int _ _)) rfl rfl rfl) ?_
  refine ops_v (v_assign (v := (.int _ _)) rfl rfl) ?_
  refine ops_v (v_assign (v := (.int _ _)) rfl rfl) ?_
  refine ops_nil ?_
  refine W_ret ?_
  refine ⟨_, (.tmp (v := (.int _ _)) rfl (.tmp (v := (.int _ _)) rfl .nil)), ?_⟩
  exact ⟨rfl, (H.tail.tail.tail.tail.tail).swapL.tail⟩
  -- (guard.Fix: ret; chunks c1,c2,c3,c4,c5,S,F; ptr 5=n0,7=n1,8=n2,12=n3,13=c5)
end
end Go.Proofs.YtchikjmhncojfaaDoor.W
