/- The walks of package apply's small functions: caches, sides, links. Conditions: none. -/
import Derived.Test.YtchikjmhncojfaaDoorKeyA
import Derived.Test.YtchikjmhncojfaaDoorApplyM
import Derived.Test.YtchikjmhncojfaaDoorNodeNil
set_option linter.unusedVariables false
namespace Go.Proofs.YtchikjmhncojfaaDoor.W
open Go Go.Proofs Go.RowKit
open Go.Proofs.YtchikjmhncojfaaDoor.M (Br St get getZ isN idx has down Wf rank i64 leafB askB Lifts lnk val sideOf linkOf Ext)

/-- what was made of a key -/
def Hit (F : Int → Int → Int → Int → Int) (st : St) (k : K4) (n : Int) : Prop := isN st k.a = true ∧ isN st k.b = true ∧ isN st k.c = true ∧ Lifts (F k.t) st k.a k.b k.c st n 0
def Valid (F : Int → Int → Int → Int → Int) (st : St) (l : List (K4 × Value)) : Prop := ∀ k v, look l k = some v → ∃ n : Int, v = int n ∧ Hit F st k n
theorem Hit.ext {F : Int → Int → Int → Int → Int} {s t : St} {k : K4} {n : Int} (h : Hit F s k n) (w : Wf s) (x : Ext s t) (wt : Wf t) : Hit F t k n :=
  ⟨x.isN h.1, x.isN h.2.1, x.isN h.2.2.1, h.2.2.2.again w h.1 h.2.1 h.2.2.1 x wt⟩
theorem Valid.ext {F : Int → Int → Int → Int → Int} {s t : St} {l : List (K4 × Value)} (h : Valid F s l) (w : Wf s) (x : Ext s t) (wt : Wf t) : Valid F t l := fun k v hk => by
  obtain ⟨n, hv, hh⟩ := h k v hk
  exact ⟨n, hv, hh.ext w x wt⟩
theorem Valid.nil {F : Int → Int → Int → Int → Int} {s : St} : Valid F s [] := fun k v hk => by simp [look_nil] at hk
theorem Valid.put {F : Int → Int → Int → Int → Int} {s : St} {l : List (K4 × Value)} (h : Valid F s l) {k : K4} {n : Int} (hh : Hit F s k n) : Valid F s (putL l k (int n)) := fun k' v hk => by
  rw [look_putL] at hk
  split at hk
  · rename_i he
    cases hk
    exact ⟨n, rfl, he ▸ hh⟩
  · exact h k' v hk
def CacheB (b r : Nat) (l : List (K4 × Value)) : Chunk := Sep (Blk b [.map (some r)] 49) (MapC encK4 r l)
def CacheX (F : Int → Int → Int → Int → Int) (o : Option Nat) (st : St) : Chunk := match o with
  | none => PureC True
  | some b => ExC fun x : Nat × List (K4 × Value) => Sep (PureC (Valid F st x.2)) (CacheB b x.1 x.2)
def CacheE (o : Option Nat) : Chunk := match o with
  | none => PureC True
  | some b => ExC fun r : Nat => CacheB b r []
section
variable {wb w : World} {R : List Chunk} {F : Int → Int → Int → Int → Int} {st : St} {o : Option Nat} {b : Nat}
theorem Own.openC (H : Own wb (CacheX F (some b) st :: R) w) : ∃ r l, Valid F st l ∧ Own wb (Blk b [.map (some r)] 49 :: MapC encK4 r l :: R) w := by
  obtain ⟨⟨r, l⟩, H⟩ := Own.ex H
  obtain ⟨hv, H⟩ := H.sep.pure
  exact ⟨r, l, hv, H.sep⟩
theorem Own.shutC {r : Nat} {l : List (K4 × Value)} (H : Own wb (Blk b [.map (some r)] 49 :: MapC encK4 r l :: R) w) (hv : Valid F st l) : Own wb (CacheX F (some b) st :: R) w :=
  Own.toEx (f := fun x : Nat × List (K4 × Value) => Sep (PureC (Valid F st x.2)) (CacheB b x.1 x.2)) (r, l) ((H.toSep.toPure hv).toSep)
theorem Own.cacheExt {t : St} (H : Own wb (CacheX F o st :: R) w) (ws : Wf st) (x : Ext st t) (wt : Wf t) : Own wb (CacheX F o t :: R) w := by
  cases o with
  | none => exact H
  | some b =>
    obtain ⟨r, l, hv, H⟩ := H.openC
    exact H.shutC (hv.ext ws x wt)
theorem Own.cacheE (H : Own wb (CacheE o :: R) w) : Own wb (CacheX F o st :: R) w := by
  cases o with
  | none => exact H
  | some b =>
    obtain ⟨r, H⟩ := Own.ex H
    exact H.sep.shutC Valid.nil
theorem keyK : KeyLaw Tryd.prog 76 encK4 := keyLaw_arr4 Tryd.underlying76 Tryd.underlying3 (by kernel_rfl) tc3

theorem CNew_ok (F : Int → Int → Int → Int → Int) (st : St) (H : Own wb R w) : FnC Tryd.prog 10 [] w (fun v w' => ∃ b, v = xptr (some b) ∧ Own wb (CacheX F (some b) st :: R) w') := by
  refine FnC_of Tryd.func10 rfl rfl rfl rfl ?_
  refine W_seq ?_
  refine W_region ?_
  refine ops_v (v_assign (v := _) rfl rfl) ?_
  refine ops_nil ?_
  refine W_seq ?_
  refine W_region ?_
  refine ops_makeMap H encK4 rfl ?_
  clear H; intro m w H
  refine ops_v (v_build (cs := [(.map _)]) rfl bp49 rfl) ?_
  refine ops_box (v := (.agg _)) (cs := [_]) H rfl rfl rfl ?_
  clear H; intro bn0 w H
  refine ops_v (v_assign (v := (.pointer _)) rfl rfl) ?_
  refine ops_nil ?_
  refine W_ret ?_
  refine ⟨_, (.tmp (v := (.pointer _)) rfl .nil), ?_⟩
  exact ⟨_, rfl, H.shutC Valid.nil⟩
  -- (apply.New: ret; chunks n0,m; ptr 3=n0,0=n0)
theorem find_ok (k : K4) (H : Own wb (CacheX F o st :: R) w) : FnC Tryd.prog 40 [xptr o, encK4 k] w
    (fun v w' => (v = .tuple [.int .i64 0, .bool false].toArray ∨ ∃ n, v = .tuple [.int .i64 n, .bool true].toArray ∧ Hit F st k n) ∧ Own wb (CacheX F o st :: R) w') := by
  cases o with
  | none =>
    refine FnC_of Tryd.func40 rfl rfl rfl rfl ?_
    refine W_seq ?_
    refine W_region ?_
    refine ops_box (v := (.agg _)) (cs := [_, _, _, _]) H rfl rfl rfl ?_
    clear H; intro bn0 w H
    refine ops_v (v_assign (v := _) rfl rfl) ?_
    refine ops_v (v_assign (v := _) rfl rfl) ?_
    refine ops_nil ?_
    refine W_seq ?_
    refine W_seq ?_
    refine W_region ?_
    refine ops_v (v_move (v := (.pointer _)) rfl rfl) ?_
    refine ops_v (v_eql_nil _ rfl ip29 rfl rfl rfl) ?_
    refine ops_nil ?_
    refine W_if_t rfl ?_
    refine W_seq ?_
    refine W_region ?_
    refine ops_v (v_assign (v := _) rfl rfl) ?_
    refine ops_v (v_assign (v := _) rfl rfl) ?_
    refine ops_nil ?_
    refine W_ret ?_
    refine ⟨_, (.tmp (v := (.int _ _)) rfl (.tmp (v := (.bool _)) rfl .nil)), ?_⟩
    exact ⟨.inl rfl, H.tail⟩
    -- ((*apply.Cache).find: ret; chunks n0; ptr 3=n0)
  | some b =>
    obtain ⟨r, l, hv, H⟩ := H.openC
    cases hlk : look l k with
    | none =>
      refine FnC_of Tryd.func40 rfl rfl rfl rfl ?_
      refine W_seq ?_
      refine W_region ?_
      refine ops_box (v := (.agg _)) (cs := [_, _, _, _]) H rfl rfl rfl ?_
      clear H; intro bn0 w H
      refine ops_v (v_assign (v := _) rfl rfl) ?_
      refine ops_v (v_assign (v := _) rfl rfl) ?_
      refine ops_nil ?_
      refine W_seq ?_
      refine W_seq ?_
      refine W_region ?_
      refine ops_v (v_move (v := (.pointer _)) rfl rfl) ?_
      refine ops_v (v_eql_nil _ rfl ip29 rfl rfl rfl) ?_
      refine ops_nil ?_
      refine W_if_f rfl ?_
      refine W_skip ?_
      refine W_seq ?_
      refine W_draw (is := [0, 1]) mixed H ?_
      clear H; intro w H
      refine any_take 0 rfl (by kernel_rfl) (by kernel_rfl) (by kernel_rfl) (v_move (v := (.pointer _)) rfl rfl) ?_
      refine any_take 1 rfl (by kernel_rfl) (by kernel_rfl) (by kernel_rfl) (v_nilCheck rfl rfl) ?_
      refine any_take 2 rfl (by kernel_rfl) (by kernel_rfl) (by kernel_rfl) (v_fieldAddr rfl fo49_0 rfl rfl) ?_
      refine any_take 3 rfl (by kernel_rfl) (by kernel_rfl) (by kernel_rfl) (v_load (v := (.map _)) rfl tc47 (fun _ hS => hS.2.1 _ _ _ rfl) rfl rfl) ?_
      refine any_take 4 rfl (by kernel_rfl) (by kernel_rfl) (by kernel_rfl) (v_loadA (vs := [_, _, _, _]) rfl ta76 (fun _ hS => hS.1 _ _ _ rfl) rfl rfl rfl) ?_
      refine any_one 5 rfl (by kernel_rfl) ?_
      refine ops_lookup 2 H keyK Tryd.underlying47 zeroInt rfl rfl rfl rfl hlk ?_
      refine ops_nil ⟨H.stab [(0, 0), (1, 1)] ⟨rfl, rfl, trivial⟩, ?_⟩
      refine any_take 6 rfl (by kernel_rfl) (by kernel_rfl) (by kernel_rfl) (v_move (v := (.tuple _)) rfl rfl) ?_
      refine any_take 7 rfl (by kernel_rfl) (by kernel_rfl) (by kernel_rfl) (v_extract (v := (.int _ _)) rfl rfl rfl) ?_
      refine any_take 8 rfl (by kernel_rfl) (by kernel_rfl) (by kernel_rfl) (v_extract (v := (.bool _)) rfl rfl rfl) ?_
      refine any_take 9 rfl (by kernel_rfl) (by kernel_rfl) (by kernel_rfl) (v_assign (v := (.int _ _)) rfl rfl) ?_
      refine any_take 10 rfl (by kernel_rfl) (by kernel_rfl) (by kernel_rfl) (v_assign (v := (.bool _)) rfl rfl) ?_
      refine any_done (by kernel_rfl) ?_
      refine W_seq ?_
      refine W_region ?_
      refine ops_v (v_move (v := (.int _ _)) rfl rfl) ?_
      refine ops_v (v_move (v := (.bool _)) rfl rfl) ?_
      refine ops_v (v_assign (v := (.int _ _)) rfl rfl) ?_
      refine ops_v (v_assign (v := (.bool _)) rfl rfl) ?_
      refine ops_nil ?_
      refine W_ret ?_
      refine ⟨_, (.tmp (v := (.int _ _)) rfl (.tmp (v := (.bool _)) rfl .nil)), ?_⟩
      exact ⟨.inl rfl, H.tail.shutC hv⟩
      -- ((*apply.Cache).find: ret; chunks n0,c,m; ptr 0=c,3=n0,8=c,11=c,12=c,13=c)
    | some u =>
      obtain ⟨n, rfl, hh⟩ := hv k u hlk
      refine FnC_of Tryd.func40 rfl rfl rfl rfl ?_
      refine W_seq ?_
      refine W_region ?_
      refine ops_box (v := (.agg _)) (cs := [_, _, _, _]) H rfl rfl rfl ?_
      clear H; intro bn0 w H
      refine ops_v (v_assign (v := _) rfl rfl) ?_
      refine ops_v (v_assign (v := _) rfl rfl) ?_
      refine ops_nil ?_
      refine W_seq ?_
      refine W_seq ?_
      refine W_region ?_
      refine ops_v (v_move (v := (.pointer _)) rfl rfl) ?_
      refine ops_v (v_eql_nil _ rfl ip29 rfl rfl rfl) ?_
      refine ops_nil ?_
      refine W_if_f rfl ?_
      refine W_skip ?_
      refine W_seq ?_
      refine W_draw (is := [0, 1]) mixed H ?_
      clear H; intro w H
      refine any_take 0 rfl (by kernel_rfl) (by kernel_rfl) (by kernel_rfl) (v_move (v := (.pointer _)) rfl rfl) ?_
      refine any_take 1 rfl (by kernel_rfl) (by kernel_rfl) (by kernel_rfl) (v_nilCheck rfl rfl) ?_
      refine any_take 2 rfl (by kernel_rfl) (by kernel_rfl) (by kernel_rfl) (v_fieldAddr rfl fo49_0 rfl rfl) ?_
      refine any_take 3 rfl (by kernel_rfl) (by kernel_rfl) (by kernel_rfl) (v_load (v := (.map _)) rfl tc47 (fun _ hS => hS.2.1 _ _ _ rfl) rfl rfl) ?_
      refine any_take 4 rfl (by kernel_rfl) (by kernel_rfl) (by kernel_rfl) (v_loadA (vs := [_, _, _, _]) rfl ta76 (fun _ hS => hS.1 _ _ _ rfl) rfl rfl rfl) ?_
      refine any_one 5 rfl (by kernel_rfl) ?_
      refine ops_lookup 2 H keyK Tryd.underlying47 zeroInt rfl rfl rfl rfl hlk ?_
      refine ops_nil ⟨H.stab [(0, 0), (1, 1)] ⟨rfl, rfl, trivial⟩, ?_⟩
      refine any_take 6 rfl (by kernel_rfl) (by kernel_rfl) (by kernel_rfl) (v_move (v := (.tuple _)) rfl rfl) ?_
      refine any_take 7 rfl (by kernel_rfl) (by kernel_rfl) (by kernel_rfl) (v_extract (v := (.int _ _)) rfl rfl rfl) ?_
      refine any_take 8 rfl (by kernel_rfl) (by kernel_rfl) (by kernel_rfl) (v_extract (v := (.bool _)) rfl rfl rfl) ?_
      refine any_take 9 rfl (by kernel_rfl) (by kernel_rfl) (by kernel_rfl) (v_assign (v := (.int _ _)) rfl rfl) ?_
      refine any_take 10 rfl (by kernel_rfl) (by kernel_rfl) (by kernel_rfl) (v_assign (v := (.bool _)) rfl rfl) ?_
      refine any_done (by kernel_rfl) ?_
      refine W_seq ?_
      refine W_region ?_
      refine ops_v (v_move (v := (.int _ _)) rfl rfl) ?_
      refine ops_v (v_move (v := (.bool _)) rfl rfl) ?_
      refine ops_v (v_assign (v := (.int _ _)) rfl rfl) ?_
      refine ops_v (v_assign (v := (.bool _)) rfl rfl) ?_
      refine ops_nil ?_
      refine W_ret ?_
      refine ⟨_, (.tmp (v := (.int _ _)) rfl (.tmp (v := (.bool _)) rfl .nil)), ?_⟩
      exact ⟨.inr ⟨n, rfl, hh⟩, H.tail.shutC hv⟩
      -- ((*apply.Cache).find: ret; chunks n0,c,m; ptr 0=c,3=n0,8=c,11=c,12=c,13=c)
theorem keep_ok (k : K4) (n : Int) (hh : Hit F st k n) (H : Own wb (CacheX F o st :: R) w) : FnC Tryd.prog 47 [xptr o, encK4 k, int n] w (fun v w' => v = .tuple #[] ∧ Own wb (CacheX F o st :: R) w') := by
  cases o with
  | none =>
    refine FnC_of Tryd.func47 rfl rfl rfl rfl ?_
    refine W_seq ?_
    refine W_region ?_
    refine ops_box (v := (.agg _)) (cs := [_, _, _, _]) H rfl rfl rfl ?_
    clear H; intro bn0 w H
    refine ops_nil ?_
    refine W_seq ?_
    refine W_region ?_
    refine ops_v (v_move (v := (.pointer _)) rfl rfl) ?_
    refine ops_v (v_neq_nil _ rfl ip29 rfl rfl rfl) ?_
    refine ops_nil ?_
    refine W_if_f rfl ?_
    refine W_skip ?_
    refine ⟨_, .nil, ?_⟩
    exact ⟨rfl, H.tail⟩
    -- ((*apply.Cache).keep: end; chunks n0; ptr 4=n0)
  | some b =>
    obtain ⟨r, l, hv, H⟩ := H.openC
    refine FnC_of Tryd.func47 rfl rfl rfl rfl ?_
    refine W_seq ?_
    refine W_region ?_
    refine ops_box (v := (.agg _)) (cs := [_, _, _, _]) H rfl rfl rfl ?_
    clear H; intro bn0 w H
    refine ops_nil ?_
    refine W_seq ?_
    refine W_region ?_
    refine ops_v (v_move (v := (.pointer _)) rfl rfl) ?_
    refine ops_v (v_neq_nil _ rfl ip29 rfl rfl rfl) ?_
    refine ops_nil ?_
    refine W_if_t rfl ?_
    refine W_draw (is := [0, 1]) mixed H ?_
    clear H; intro w H
    refine any_take 0 rfl (by kernel_rfl) (by kernel_rfl) (by kernel_rfl) (v_move (v := (.pointer _)) rfl rfl) ?_
    refine any_take 1 rfl (by kernel_rfl) (by kernel_rfl) (by kernel_rfl) (v_nilCheck rfl rfl) ?_
    refine any_take 2 rfl (by kernel_rfl) (by kernel_rfl) (by kernel_rfl) (v_fieldAddr rfl fo49_0 rfl rfl) ?_
    refine any_take 3 rfl (by kernel_rfl) (by kernel_rfl) (by kernel_rfl) (v_load (v := (.map _)) rfl tc47 (fun _ hS => hS.2.1 _ _ _ rfl) rfl rfl) ?_
    refine any_take 4 rfl (by kernel_rfl) (by kernel_rfl) (by kernel_rfl) (v_loadA (vs := [_, _, _, _]) rfl ta76 (fun _ hS => hS.1 _ _ _ rfl) rfl rfl rfl) ?_
    refine any_take 5 rfl (by kernel_rfl) (by kernel_rfl) (by kernel_rfl) (v_move (v := (.int _ _)) rfl rfl) ?_
    refine any_one 6 rfl (by kernel_rfl) ?_
    refine ops_mapUpdate (v := int n) 2 H keyK Tryd.underlying47 rfl rfl rfl rfl rfl ?_
    clear H; intro w H
    refine ops_nil ⟨H.stab [(0, 0), (1, 1)] ⟨rfl, rfl, trivial⟩, ?_⟩
    refine any_done (by kernel_rfl) ?_
    refine ⟨_, .nil, ?_⟩
    exact ⟨rfl, Own.shutC (l := putL l k (int n)) H.tail (hv.put hh)⟩
    -- ((*apply.Cache).keep: end; chunks n0,c,m; ptr 0=c,4=n0,6=c,8=c,9=c,10=c)
/-! ### Lifters -/
def lifterC (p : Nat) (o : Option Nat) (t : Int) (fv : Value) : List Value := [ptr p, xptr o, int t, fv]
def lifterV (p : Nat) (o : Option Nat) (t : Int) (fv : Value) : Value := .agg (lifterC p o t fv).toArray
theorem side_ok {p : Nat} {t : Int} {fv : Value} {id lk : Int} (hid : isN st id = true) (h16 : lk < 16) (v : Bool) (H : Own wb (StoreC p st :: R) w) :
    FnC Tryd.prog 48 [lifterV p o t fv, int id, int lk, .bool v] w (fun u w' => u = int (sideOf st id lk v) ∧ Own wb (StoreC p st :: R) w') := by
  obtain ⟨b, hg⟩ := M.isN_get hid
  obtain ⟨lf, vl, bl, bs, bf⟩ := b
  have hz := M.getZ_eq hg
  cases lf with
  | true =>
    have hV : nodeV ⟨true, vl, bl, bs, bf⟩ true = .tuple [.agg [.bool true, .int .i64 vl, .int .i64 bl, .int .i64 bs, .int .i64 bf].toArray, .bool true].toArray := rfl
    have hr : sideOf st id lk v = id := by unfold sideOf lnk; rw [hz, if_pos rfl, if_neg (by omega)]
    refine FnC_of Tryd.func48 rfl rfl rfl rfl ?_
    refine W_seq ?_
    refine W_region ?_
    refine ops_box (v := (.agg _)) (cs := [_, _, _, _]) H rfl rfl rfl ?_
    clear H; intro bn0 w H
    refine ops_v (v_assign (v := _) rfl rfl) ?_
    refine ops_nil ?_
    refine W_seq ?_
    refine W_region ?_
    refine ops_v (v_fieldAddr rfl fo74_0 rfl rfl) ?_
    refine ops_load (v := (.pointer _)) 0 H rfl tc25 rfl rfl rfl ?_
    refine ops_v (v_move (v := (.int _ _)) rfl rfl) ?_
    refine ops_call rfl c27 (FnC.ro 1 rfl H (fun _ H' => (by have := Node_ok hg H'; rw [hV] at this; exact this))) ?_
    clear H; rintro _ w ⟨rfl, H⟩
    refine ops_v (v_move (v := (.tuple _)) rfl rfl) ?_
    refine ops_v (v_extract (v := (.agg _)) rfl rfl rfl) ?_
    refine ops_v (v_extract (v := (.bool _)) rfl rfl rfl) ?_
    refine ops_alloc H rfl tz56 ?_
    clear H; intro bn1 w H
    refine ops_store (vs := [_, _, _, _, _]) (v := (.agg _)) (cs' := [_, _, _, _, _]) 0 H rfl ts56 rfl rfl rfl rfl rfl rfl rfl rfl ?_
    clear H; intro w H
    refine ops_v (v_assign (v := (.bool _)) rfl rfl) ?_
    refine ops_nil ?_
    refine W_seq ?_
    refine W_block ?_
    refine W_seq ?_
    refine W_region ?_
    refine ops_v (v_fieldAddr rfl fo56_0 rfl rfl) ?_
    refine ops_load (v := (.bool _)) 0 H rfl tc4 rfl rfl rfl ?_
    refine ops_v (v_move (v := (.bool _)) rfl rfl) ?_
    refine ops_skip rfl rfl ?_
    refine ops_skip rfl rfl ?_
    refine ops_skip rfl rfl ?_
    refine ops_skip rfl rfl ?_
    refine ops_v (v_pick_t (v := (.bool _)) rfl rfl rfl) ?_
    refine ops_v (v_assign (v := (.bool _)) rfl rfl) ?_
    refine ops_nil ?_
    refine W_if_t rfl ?_
    refine W_seq ?_
    refine W_region ?_
    refine ops_v (v_move (v := (.int _ _)) rfl rfl) ?_
    refine ops_v (v_assign (v := (.int _ _)) rfl rfl) ?_
    refine ops_nil ?_
    refine W_ret ?_
    refine ⟨_, (.tmp (v := (.int _ _)) rfl .nil), ?_⟩
    exact ⟨by rw [hr]; rfl, H.tail.tail⟩
    -- ((apply.lifter).side: ret; chunks n1,n0,S; ptr 4=n0,12=n0,9=n1,19=n1)
  | false =>
    have hV : nodeV ⟨false, vl, bl, bs, bf⟩ true = .tuple [.agg [.bool false, .int .i64 vl, .int .i64 bl, .int .i64 bs, .int .i64 bf].toArray, .bool true].toArray := rfl
    have hln : lnk st id = bl := by unfold lnk; rw [hz]; rfl
    by_cases hlk : bl = lk
    · cases v with
      | true =>
        have hr : sideOf st id lk true = bf := by unfold sideOf; rw [hln, if_pos hlk, if_pos rfl, hz]
        refine FnC_of Tryd.func48 rfl rfl rfl rfl ?_
        refine W_seq ?_
        refine W_region ?_
        refine ops_box (v := (.agg _)) (cs := [_, _, _, _]) H rfl rfl rfl ?_
        clear H; intro bn0 w H
        refine ops_v (v_assign (v := _) rfl rfl) ?_
        refine ops_nil ?_
        refine W_seq ?_
        refine W_region ?_
        refine ops_v (v_fieldAddr rfl fo74_0 rfl rfl) ?_
        refine ops_load (v := (.pointer _)) 0 H rfl tc25 rfl rfl rfl ?_
        refine ops_v (v_move (v := (.int _ _)) rfl rfl) ?_
        refine ops_call rfl c27 (FnC.ro 1 rfl H (fun _ H' => (by have := Node_ok hg H'; rw [hV] at this; exact this))) ?_
        clear H; rintro _ w ⟨rfl, H⟩
        refine ops_v (v_move (v := (.tuple _)) rfl rfl) ?_
        refine ops_v (v_extract (v := (.agg _)) rfl rfl rfl) ?_
        refine ops_v (v_extract (v := (.bool _)) rfl rfl rfl) ?_
        refine ops_alloc H rfl tz56 ?_
        clear H; intro bn1 w H
        refine ops_store (vs := [_, _, _, _, _]) (v := (.agg _)) (cs' := [_, _, _, _, _]) 0 H rfl ts56 rfl rfl rfl rfl rfl rfl rfl rfl ?_
        clear H; intro w H
        refine ops_v (v_assign (v := (.bool _)) rfl rfl) ?_
        refine ops_nil ?_
        refine W_seq ?_
        refine W_block ?_
        refine W_seq ?_
        refine W_region ?_
        refine ops_v (v_fieldAddr rfl fo56_0 rfl rfl) ?_
        refine ops_load (v := (.bool _)) 0 H rfl tc4 rfl rfl rfl ?_
        refine ops_v (v_move (v := (.bool _)) rfl rfl) ?_
        refine ops_v (v_fieldAddr rfl fo56_2 rfl rfl) ?_
        refine ops_load (v := (.int _ _)) 0 H rfl tc3 rfl rfl rfl ?_
        refine ops_v (v_move (v := (.int _ _)) rfl rfl) ?_
        refine ops_v (v_neq false rfl rfl rfl (decide_eq_false (by first | omega | (simp only; omega) | rfl | decide))) ?_
        refine ops_v (v_pick_f (v := (.bool _)) rfl rfl rfl) ?_
        refine ops_v (v_assign (v := (.bool _)) rfl rfl) ?_
        refine ops_nil ?_
        refine W_if_f rfl ?_
        refine W_seq ?_
        refine W_region ?_
        refine ops_v (v_move (v := (.bool _)) rfl rfl) ?_
        refine ops_v (v_assign (v := (.bool _)) rfl rfl) ?_
        refine ops_nil ?_
        refine W_if_t rfl ?_
        refine W_seq ?_
        refine W_region ?_
        refine ops_v (v_fieldAddr rfl fo56_4 rfl rfl) ?_
        refine ops_load (v := (.int _ _)) 0 H rfl tc3 rfl rfl rfl ?_
        refine ops_v (v_assign (v := (.int _ _)) rfl rfl) ?_
        refine ops_nil ?_
        refine W_ret ?_
        refine ⟨_, (.tmp (v := (.int _ _)) rfl .nil), ?_⟩
        exact ⟨by rw [hr]; rfl, H.tail.tail⟩
        -- ((apply.lifter).side: ret; chunks n1,n0,S; ptr 4=n0,12=n0,9=n1,19=n1,22=n1,30=n1)
      | false =>
        have hr : sideOf st id lk false = bs := by unfold sideOf; rw [hln, if_pos hlk, if_neg (by decide), hz]
        refine FnC_of Tryd.func48 rfl rfl rfl rfl ?_
        refine W_seq ?_
        refine W_region ?_
        refine ops_box (v := (.agg _)) (cs := [_, _, _, _]) H rfl rfl rfl ?_
        clear H; intro bn0 w H
        refine ops_v (v_assign (v := _) rfl rfl) ?_
        refine ops_nil ?_
        refine W_seq ?_
        refine W_region ?_
        refine ops_v (v_fieldAddr rfl fo74_0 rfl rfl) ?_
        refine ops_load (v := (.pointer _)) 0 H rfl tc25 rfl rfl rfl ?_
        refine ops_v (v_move (v := (.int _ _)) rfl rfl) ?_
        refine ops_call rfl c27 (FnC.ro 1 rfl H (fun _ H' => (by have := Node_ok hg H'; rw [hV] at this; exact this))) ?_
        clear H; rintro _ w ⟨rfl, H⟩
        refine ops_v (v_move (v := (.tuple _)) rfl rfl) ?_
        refine ops_v (v_extract (v := (.agg _)) rfl rfl rfl) ?_
        refine ops_v (v_extract (v := (.bool _)) rfl rfl rfl) ?_
        refine ops_alloc H rfl tz56 ?_
        clear H; intro bn1 w H
        refine ops_store (vs := [_, _, _, _, _]) (v := (.agg _)) (cs' := [_, _, _, _, _]) 0 H rfl ts56 rfl rfl rfl rfl rfl rfl rfl rfl ?_
        clear H; intro w H
        refine ops_v (v_assign (v := (.bool _)) rfl rfl) ?_
        refine ops_nil ?_
        refine W_seq ?_
        refine W_block ?_
        refine W_seq ?_
        refine W_region ?_
        refine ops_v (v_fieldAddr rfl fo56_0 rfl rfl) ?_
        refine ops_load (v := (.bool _)) 0 H rfl tc4 rfl rfl rfl ?_
        refine ops_v (v_move (v := (.bool _)) rfl rfl) ?_
        refine ops_v (v_fieldAddr rfl fo56_2 rfl rfl) ?_
        refine ops_load (v := (.int _ _)) 0 H rfl tc3 rfl rfl rfl ?_
        refine ops_v (v_move (v := (.int _ _)) rfl rfl) ?_
        refine ops_v (v_neq false rfl rfl rfl (decide_eq_false (by first | omega | (simp only; omega) | rfl | decide))) ?_
        refine ops_v (v_pick_f (v := (.bool _)) rfl rfl rfl) ?_
        refine ops_v (v_assign (v := (.bool _)) rfl rfl) ?_
        refine ops_nil ?_
        refine W_if_f rfl ?_
        refine W_seq ?_
        refine W_region ?_
        refine ops_v (v_move (v := (.bool _)) rfl rfl) ?_
        refine ops_v (v_assign (v := (.bool _)) rfl rfl) ?_
        refine ops_nil ?_
        refine W_if_f rfl ?_
        refine W_skip ?_
        refine W_seq ?_
        refine W_region ?_
        refine ops_v (v_fieldAddr rfl fo56_3 rfl rfl) ?_
        refine ops_load (v := (.int _ _)) 0 H rfl tc3 rfl rfl rfl ?_
        refine ops_v (v_assign (v := (.int _ _)) rfl rfl) ?_
        refine ops_nil ?_
        refine W_ret ?_
        refine ⟨_, (.tmp (v := (.int _ _)) rfl .nil), ?_⟩
        exact ⟨by rw [hr]; rfl, H.tail.tail⟩
        -- ((apply.lifter).side: ret; chunks n1,n0,S; ptr 4=n0,12=n0,9=n1,19=n1,22=n1,32=n1)
    · have hr : sideOf st id lk v = id := by unfold sideOf; rw [hln, if_neg hlk]
      refine FnC_of Tryd.func48 rfl rfl rfl rfl ?_
      refine W_seq ?_
      refine W_region ?_
      refine ops_box (v := (.agg _)) (cs := [_, _, _, _]) H rfl rfl rfl ?_
      clear H; intro bn0 w H
      refine ops_v (v_assign (v := _) rfl rfl) ?_
      refine ops_nil ?_
      refine W_seq ?_
      refine W_region ?_
      refine ops_v (v_fieldAddr rfl fo74_0 rfl rfl) ?_
      refine ops_load (v := (.pointer _)) 0 H rfl tc25 rfl rfl rfl ?_
      refine ops_v (v_move (v := (.int _ _)) rfl rfl) ?_
      refine ops_call rfl c27 (FnC.ro 1 rfl H (fun _ H' => (by have := Node_ok hg H'; rw [hV] at this; exact this))) ?_
      clear H; rintro _ w ⟨rfl, H⟩
      refine ops_v (v_move (v := (.tuple _)) rfl rfl) ?_
      refine ops_v (v_extract (v := (.agg _)) rfl rfl rfl) ?_
      refine ops_v (v_extract (v := (.bool _)) rfl rfl rfl) ?_
      refine ops_alloc H rfl tz56 ?_
      clear H; intro bn1 w H
      refine ops_store (vs := [_, _, _, _, _]) (v := (.agg _)) (cs' := [_, _, _, _, _]) 0 H rfl ts56 rfl rfl rfl rfl rfl rfl rfl rfl ?_
      clear H; intro w H
      refine ops_v (v_assign (v := (.bool _)) rfl rfl) ?_
      refine ops_nil ?_
      refine W_seq ?_
      refine W_block ?_
      refine W_seq ?_
      refine W_region ?_
      refine ops_v (v_fieldAddr rfl fo56_0 rfl rfl) ?_
      refine ops_load (v := (.bool _)) 0 H rfl tc4 rfl rfl rfl ?_
      refine ops_v (v_move (v := (.bool _)) rfl rfl) ?_
      refine ops_v (v_fieldAddr rfl fo56_2 rfl rfl) ?_
      refine ops_load (v := (.int _ _)) 0 H rfl tc3 rfl rfl rfl ?_
      refine ops_v (v_move (v := (.int _ _)) rfl rfl) ?_
      refine ops_v (v_neq true rfl rfl rfl (decide_eq_true (by first | omega | (simp only; omega) | rfl | decide))) ?_
      refine ops_v (v_pick_f (v := (.bool _)) rfl rfl rfl) ?_
      refine ops_v (v_assign (v := (.bool _)) rfl rfl) ?_
      refine ops_nil ?_
      refine W_if_t rfl ?_
      refine W_seq ?_
      refine W_region ?_
      refine ops_v (v_move (v := (.int _ _)) rfl rfl) ?_
      refine ops_v (v_assign (v := (.int _ _)) rfl rfl) ?_
      refine ops_nil ?_
      refine W_ret ?_
      refine ⟨_, (.tmp (v := (.int _ _)) rfl .nil), ?_⟩
      exact ⟨by rw [hr]; rfl, H.tail.tail⟩
      -- ((apply.lifter).side: ret; chunks n1,n0,S; ptr 4=n0,12=n0,9=n1,19=n1,22=n1)
end
end Go.Proofs.YtchikjmhncojfaaDoor.W
