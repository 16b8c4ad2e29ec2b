/- The walks of package pick: begun, sides, count, Count. Conditions: none. -/
import Derived.Test.YtchikjmhncojfaaBits
import Derived.Test.YtchikjmhncojfaaCountsM
import Derived.Test.YtchikjmhncojfaaApply4
set_option linter.unusedVariables false
namespace Go.Proofs.Ytchikjmhncojfaa.W
open Go Go.Proofs Go.RowKit
open Go.Proofs.Ytchikjmhncojfaa.M (Br St get getZ isN idx has down Wf rank i64 leafB askB lnk sideOf pcN cz minI countI)
structure K3 where
  id : Int
  link : Int
  most : Int
  deriving DecidableEq
def cellsK3 (k : K3) : List Value := [.int .i64 k.id, .int .i64 k.link, .int .i64 k.most]
def encK3 (k : K3) : Value := .agg (cellsK3 k).toArray
theorem eqK3_run (k k' : K3) (w : World) : (Op.equal 98 (encK3 k) (encK3 k')).run Try.prog w = .ok (decide (k = k')) w := by
  have key : ∀ d, (Op.equalIn (d + 2) 98 (encK3 k) (encK3 k')).run Try.prog w = .ok (decide (k = k')) w := fun d => by
    have hf : Try.prog.underlying 98 = some (.struct (Try.prog.fieldsOf 98)) := by kernel_rfl
    have hst : Try.prog.stoodInHeld 98 = false := by kernel_rfl
    have hin : ∀ w a b, (Op.equalIn (d + 1) 3 (.int .i64 a) (.int .i64 b)).run Try.prog w = .ok (a == b) w := fun w a b => run_equalIn_int w d _ .i64 .i64 a b Try.underlying3
    unfold encK3
    rw [run_equalIn_struct w (d + 1) 98 _ _ hf hst]
    obtain ⟨l, v, k1⟩ := k
    obtain ⟨l', v', k1'⟩ := k'
    simp [Program.fieldsOf, Try.underlying98, Op.eqFields, cellsK3, part, run_isAgg_false tc3, hin]
    by_cases h0 : l = l' <;> by_cases h1 : v = v' <;> by_cases h2 : k1 = k1' <;> simp [h0, h1, h2]
  exact key 9998
theorem keyP : KeyLaw Try.prog 98 encK3 := by
  refine KeyLaw.of_eq Try.underlying98 (fun _ _ => rfl) ?_ ?_ ?_
  · intro b k w
    have key : ∀ d, (Instr.checkKey b (d + 2) 98 (encK3 k)).run Try.prog w = .ok () w := fun d => by
      simp [Instr.checkKey, encK3, cellsK3, run_underlying Try.underlying98, run_underlying Try.underlying3, part, run_isAgg_false tc3]
    exact key 9998
  · exact eqK3_run
  · intro k
    have key : ∀ d, Instr.sameBits (d + 2) (encK3 k) (encK3 k) = true := fun d => by simp [Instr.sameBits, encK3, cellsK3]
    exact key 9998
def ValidP (st : St) (v : Int) (l : List (K3 × Value)) : Prop := ∀ k u, look l k = some u → u = int (pcN ((st.links : Int) - k.link).toNat st v k.id k.link k.most)
def PickX (r : Nat) (st : St) (v : Int) : Chunk := ExC fun l : List (K3 × Value) => Sep (PureC (ValidP st v l)) (MapC encK3 r l)
def pickerC (p : Nat) (v : Int) (r1 r2 : Nat) : List Value := [ptr p, int v, .map (some r1), .map (some r2)]
def pickerV (p : Nat) (v : Int) (r1 r2 : Nat) : Value := .agg (pickerC p v r1 r2).toArray
def atV (id k q : Int) : Value := .agg [.int .i64 id, .int .i64 k, .int .i64 q].toArray
section
variable {wb w : World} {R L : List Chunk} {st : St} {p r r1 r2 : Nat} {v : Int}
theorem Own.openP (H : Own wb L w) (i : Nat) (hi : L[i]? = some (PickX r st v)) : ∃ l, ValidP st v l ∧ Own wb (L.set i (MapC encK3 r l)) w := by
  obtain ⟨l, H'⟩ := Own.ex (H.front i hi)
  obtain ⟨hv, H'⟩ := H'.sep.pure
  exact ⟨l, hv, Own.back i hi H'⟩
theorem Own.shutP {l : List (K3 × Value)} (H : Own wb (MapC encK3 r l :: R) w) (hv : ValidP st v l) : Own wb (PickX r st v :: R) w :=
  Own.toEx (f := fun l : List (K3 × Value) => Sep (PureC (ValidP st v l)) (MapC encK3 r l)) l ((H.toPure hv).toSep)
theorem ValidP.put {l : List (K3 × Value)} (h : ValidP st v l) {k : K3} {n : Int} (hh : n = pcN ((st.links : Int) - k.link).toNat st v k.id k.link k.most) : ValidP st v (putL l k (int n)) := fun k' u hk => by
  rw [look_putL] at hk
  split at hk
  · rename_i he
    cases hk
    rw [he, hh]
  · exact h k' u hk
theorem Own.swapX {A B : Chunk} (H : Own wb (A :: B :: R) w) : Own wb (B :: A :: R) w := H.perm (List.Perm.swap _ _ _)
theorem Own.tail3 {A B C D : Chunk} (H : Own wb (A :: B :: C :: D :: R) w) : Own wb (A :: R) w := by
  have h1 := (H.perm (List.Perm.swap B A _)).tail
  have h2 := (h1.perm (List.Perm.swap C A _)).tail
  exact (h2.perm (List.Perm.swap D A _)).tail
theorem psides_ok {id k q : Int} (hid : isN st id = true) (h0 : 0 ≤ k) (h16 : k < 16) (hq : -2 ≤ q) (hq' : q ≤ 16) (H : Own wb (StoreC p st :: R) w) :
    FnC Try.prog 101 [pickerV p v r1 r2, atV id k q] w (fun u w' => u = .tuple [atV (sideOf st id k false) (k + 1) q, atV (sideOf st id k true) (k + 1) (q - 1)].toArray ∧ Own wb (StoreC p st :: R) w') := by
  obtain ⟨⟨lf, vl, bl, bs, bf⟩, hg⟩ := M.isN_get hid
  have hz := M.getZ_eq hg
  cases lf with
  | true =>
    have hV : nodeV ⟨true, vl, bl, bs, bf⟩ true = .tuple [.agg [.bool true, .int .i64 vl, .int .i64 bl, .int .i64 bs, .int .i64 bf].toArray, .bool true].toArray := rfl
    have hs : ∀ b, sideOf st id k b = id := fun b => by unfold sideOf lnk; rw [hz, if_pos rfl, if_neg (by omega)]
    rw [hs, hs]
    refine FnC_of Try.func101 rfl rfl rfl rfl ?_
    refine W_seq ?_
    refine W_region ?_
    refine ops_box (v := (.agg _)) (cs := [_, _, _, _]) H rfl rfl rfl ?_
    clear H; intro bn0 w H
    refine ops_box (v := (.agg _)) (cs := [_, _, _]) H rfl rfl rfl ?_
    clear H; intro bn1 w H
    refine ops_alloc H rfl tz98 ?_
    clear H; intro bn2 w H
    refine ops_alloc H rfl tz98 ?_
    clear H; intro bn3 w H
    refine ops_nil ?_
    refine W_seq ?_
    refine W_region ?_
    refine ops_v (v_fieldAddr rfl fo96_0 rfl rfl) ?_
    refine ops_load (v := (.pointer _)) 3 H rfl tc27 rfl rfl rfl ?_
    refine ops_v (v_fieldAddr rfl fo98_0 rfl rfl) ?_
    refine ops_load (v := (.int _ _)) 2 H rfl tc3 rfl rfl rfl ?_
    refine ops_call rfl c31 (FnC.ro 4 rfl H (fun _ H' => (by have := Node_ok hg H'; rw [hV] at this; exact this))) ?_
    clear H; rintro _ w ⟨rfl, H⟩
    refine ops_v (v_move (v := (.tuple _)) rfl rfl) ?_
    refine ops_v (v_extract (v := (.agg _)) rfl rfl rfl) ?_
    refine ops_v (v_extract (v := (.bool _)) rfl rfl rfl) ?_
    refine ops_alloc H rfl tz42 ?_
    clear H; intro bn4 w H
    refine ops_store (vs := [_, _, _, _, _]) (v := (.agg _)) (cs' := [_, _, _, _, _]) 0 H rfl ts42 rfl rfl rfl rfl rfl rfl rfl rfl ?_
    clear H; intro w H
    refine ops_v (v_assign (v := (.bool _)) rfl rfl) ?_
    refine ops_nil ?_
    refine W_seq ?_
    refine W_region ?_
    refine ops_v (v_fieldAddr rfl fo98_0 rfl rfl) ?_
    refine ops_load (v := (.int _ _)) 3 H rfl tc3 rfl rfl rfl ?_
    refine ops_v (v_fieldAddr rfl fo98_1 rfl rfl) ?_
    refine ops_load (v := (.int _ _)) 3 H rfl tc3 rfl rfl rfl ?_
    refine ops_v (v_add _ rfl rfl rfl (wrap_in (by omega) (by omega))) ?_
    refine ops_v (v_fieldAddr rfl fo98_2 rfl rfl) ?_
    refine ops_load (v := (.int _ _)) 3 H rfl tc3 rfl rfl rfl ?_
    refine ops_v (v_build (cs := [(.int _ _), (.int _ _), (.int _ _)]) rfl bp98 rfl) ?_
    refine ops_store (vs := [_, _, _]) (v := (.agg _)) (cs' := [_, _, _]) 2 H rfl ts98 rfl rfl rfl rfl rfl rfl rfl rfl ?_
    clear H; intro w H
    refine ops_nil ?_
    refine W_seq ?_
    refine W_region ?_
    refine ops_v (v_fieldAddr rfl fo98_0 rfl rfl) ?_
    refine ops_load (v := (.int _ _)) 3 H rfl tc3 rfl rfl rfl ?_
    refine ops_v (v_fieldAddr rfl fo98_1 rfl rfl) ?_
    refine ops_load (v := (.int _ _)) 3 H rfl tc3 rfl rfl rfl ?_
    refine ops_v (v_add _ rfl rfl rfl (wrap_in (by omega) (by omega))) ?_
    refine ops_v (v_fieldAddr rfl fo98_2 rfl rfl) ?_
    refine ops_load (v := (.int _ _)) 3 H rfl tc3 rfl rfl rfl ?_
    refine ops_v (v_sub _ rfl rfl rfl (wrap_in (by omega) (by omega))) ?_
    refine ops_v (v_build (cs := [(.int _ _), (.int _ _), (.int _ _)]) rfl bp98 rfl) ?_
    refine ops_store (vs := [_, _, _]) (v := (.agg _)) (cs' := [_, _, _]) 1 H rfl ts98 rfl rfl rfl rfl rfl rfl rfl rfl ?_
    clear H; intro w H
    refine ops_nil ?_
    refine W_seq ?_
    refine W_seq ?_
    refine W_region ?_
    refine ops_v (v_fieldAddr rfl fo42_0 rfl rfl) ?_
    refine ops_load (v := (.bool _)) 0 H rfl tc4 rfl rfl rfl ?_
    refine ops_v (v_not rfl rfl _ rfl) ?_
    refine ops_v (v_move (v := (.bool _)) rfl rfl) ?_
    refine ops_skip rfl rfl ?_
    refine ops_skip rfl rfl ?_
    refine ops_skip rfl rfl ?_
    refine ops_skip rfl rfl ?_
    refine ops_skip rfl rfl ?_
    refine ops_v (v_pick_f (v := (.bool _)) rfl rfl rfl) ?_
    refine ops_nil ?_
    refine W_if_f rfl ?_
    refine W_skip ?_
    refine W_ret ?_
    refine ⟨_, (.cell rfl (run_loadA (vs := [_, _, _]) ta98 (H.blk 2 rfl) rfl rfl) (.cell rfl (run_loadA (vs := [_, _, _]) ta98 (H.blk 1 rfl) rfl rfl) .nil)), ?_⟩
    exact ⟨rfl, H.tail.tail.tail.tail.tail⟩
    -- ((pick.picker).sides: ret; chunks n4,n3,n2,n1,n0,S; ptr 2=n0,3=n1,4=n2,5=n3,9=n0,11=n1,6=n4,16=n1,18=n1,21=n1,24=n1,26=n1,29=n1,33=n4)
  | false =>
    have hV : nodeV ⟨false, vl, bl, bs, bf⟩ true = .tuple [.agg [.bool false, .int .i64 vl, .int .i64 bl, .int .i64 bs, .int .i64 bf].toArray, .bool true].toArray := rfl
    have hln : lnk st id = bl := by unfold lnk; rw [hz]; rfl
    by_cases hk : bl = k
    · have hs0 : sideOf st id k false = bs := by unfold sideOf; rw [hln, if_pos hk, hz]; rfl
      have hs1 : sideOf st id k true = bf := by unfold sideOf; rw [hln, if_pos hk, hz]; rfl
      rw [hs0, hs1]
      refine FnC_of Try.func101 rfl rfl rfl rfl ?_
      refine W_seq ?_
      refine W_region ?_
      refine ops_box (v := (.agg _)) (cs := [_, _, _, _]) H rfl rfl rfl ?_
      clear H; intro bn0 w H
      refine ops_box (v := (.agg _)) (cs := [_, _, _]) H rfl rfl rfl ?_
      clear H; intro bn1 w H
      refine ops_alloc H rfl tz98 ?_
      clear H; intro bn2 w H
      refine ops_alloc H rfl tz98 ?_
      clear H; intro bn3 w H
      refine ops_nil ?_
      refine W_seq ?_
      refine W_region ?_
      refine ops_v (v_fieldAddr rfl fo96_0 rfl rfl) ?_
      refine ops_load (v := (.pointer _)) 3 H rfl tc27 rfl rfl rfl ?_
      refine ops_v (v_fieldAddr rfl fo98_0 rfl rfl) ?_
      refine ops_load (v := (.int _ _)) 2 H rfl tc3 rfl rfl rfl ?_
      refine ops_call rfl c31 (FnC.ro 4 rfl H (fun _ H' => (by have := Node_ok hg H'; rw [hV] at this; exact this))) ?_
      clear H; rintro _ w ⟨rfl, H⟩
      refine ops_v (v_move (v := (.tuple _)) rfl rfl) ?_
      refine ops_v (v_extract (v := (.agg _)) rfl rfl rfl) ?_
      refine ops_v (v_extract (v := (.bool _)) rfl rfl rfl) ?_
      refine ops_alloc H rfl tz42 ?_
      clear H; intro bn4 w H
      refine ops_store (vs := [_, _, _, _, _]) (v := (.agg _)) (cs' := [_, _, _, _, _]) 0 H rfl ts42 rfl rfl rfl rfl rfl rfl rfl rfl ?_
      clear H; intro w H
      refine ops_v (v_assign (v := (.bool _)) rfl rfl) ?_
      refine ops_nil ?_
      refine W_seq ?_
      refine W_region ?_
      refine ops_v (v_fieldAddr rfl fo98_0 rfl rfl) ?_
      refine ops_load (v := (.int _ _)) 3 H rfl tc3 rfl rfl rfl ?_
      refine ops_v (v_fieldAddr rfl fo98_1 rfl rfl) ?_
      refine ops_load (v := (.int _ _)) 3 H rfl tc3 rfl rfl rfl ?_
      refine ops_v (v_add _ rfl rfl rfl (wrap_in (by omega) (by omega))) ?_
      refine ops_v (v_fieldAddr rfl fo98_2 rfl rfl) ?_
      refine ops_load (v := (.int _ _)) 3 H rfl tc3 rfl rfl rfl ?_
      refine ops_v (v_build (cs := [(.int _ _), (.int _ _), (.int _ _)]) rfl bp98 rfl) ?_
      refine ops_store (vs := [_, _, _]) (v := (.agg _)) (cs' := [_, _, _]) 2 H rfl ts98 rfl rfl rfl rfl rfl rfl rfl rfl ?_
      clear H; intro w H
      refine ops_nil ?_
      refine W_seq ?_
      refine W_region ?_
      refine ops_v (v_fieldAddr rfl fo98_0 rfl rfl) ?_
      refine ops_load (v := (.int _ _)) 3 H rfl tc3 rfl rfl rfl ?_
      refine ops_v (v_fieldAddr rfl fo98_1 rfl rfl) ?_
      refine ops_load (v := (.int _ _)) 3 H rfl tc3 rfl rfl rfl ?_
      refine ops_v (v_add _ rfl rfl rfl (wrap_in (by omega) (by omega))) ?_
      refine ops_v (v_fieldAddr rfl fo98_2 rfl rfl) ?_
      refine ops_load (v := (.int _ _)) 3 H rfl tc3 rfl rfl rfl ?_
      refine ops_v (v_sub _ rfl rfl rfl (wrap_in (by omega) (by omega))) ?_
      refine ops_v (v_build (cs := [(.int _ _), (.int _ _), (.int _ _)]) rfl bp98 rfl) ?_
      refine ops_store (vs := [_, _, _]) (v := (.agg _)) (cs' := [_, _, _]) 1 H rfl ts98 rfl rfl rfl rfl rfl rfl rfl rfl ?_
      clear H; intro w H
      refine ops_nil ?_
      refine W_seq ?_
      refine W_seq ?_
      refine W_region ?_
      refine ops_v (v_fieldAddr rfl fo42_0 rfl rfl) ?_
      refine ops_load (v := (.bool _)) 0 H rfl tc4 rfl rfl rfl ?_
      refine ops_v (v_not rfl rfl _ rfl) ?_
      refine ops_v (v_move (v := (.bool _)) rfl rfl) ?_
      refine ops_v (v_fieldAddr rfl fo42_2 rfl rfl) ?_
      refine ops_load (v := (.int _ _)) 0 H rfl tc3 rfl rfl rfl ?_
      refine ops_v (v_fieldAddr rfl fo98_1 rfl rfl) ?_
      refine ops_load (v := (.int _ _)) 3 H rfl tc3 rfl rfl rfl ?_
      refine ops_v (v_eql true rfl rfl rfl (decide_eq_true (by first | omega | (simp only; omega) | rfl | decide))) ?_
      refine ops_v (v_pick_t (v := (.bool _)) rfl rfl rfl) ?_
      refine ops_nil ?_
      refine W_if_t rfl ?_
      refine W_draw (is := [0]) mixed H ?_
      clear H; intro w H
      refine any_take 0 rfl (by kernel_rfl) (by kernel_rfl) (by kernel_rfl) (v_fieldAddr rfl fo42_3 rfl rfl) ?_
      refine any_take 1 rfl (by kernel_rfl) (by kernel_rfl) (by kernel_rfl) (v_load (v := (.int _ _)) rfl tc3 (fun _ hS => hS.1 _ _ _ rfl) rfl rfl) ?_
      refine any_take 2 rfl (by kernel_rfl) (by kernel_rfl) (by kernel_rfl) (v_fieldAddr rfl fo42_4 rfl rfl) ?_
      refine any_take 3 rfl (by kernel_rfl) (by kernel_rfl) (by kernel_rfl) (v_load (v := (.int _ _)) rfl tc3 (fun _ hS => hS.1 _ _ _ rfl) rfl rfl) ?_
      refine any_take 4 rfl (by kernel_rfl) (by kernel_rfl) (by kernel_rfl) (v_fieldAddr rfl fo98_0 rfl rfl) ?_
      refine any_one 5 rfl (by kernel_rfl) ?_
      refine ops_store (vs := [_]) (v := (.int _ _)) (cs' := [_, _, _]) 2 H rfl ts3 rfl rfl rfl rfl rfl rfl rfl rfl ?_
      clear H; intro w H
      refine ops_nil ⟨H.stab [(0, 0)] ⟨rfl, trivial⟩, ?_⟩
      refine any_take 6 rfl (by kernel_rfl) (by kernel_rfl) (by kernel_rfl) (v_fieldAddr rfl fo98_0 rfl rfl) ?_
      refine any_one 7 rfl (by kernel_rfl) ?_
      refine ops_store (vs := [_]) (v := (.int _ _)) (cs' := [_, _, _]) 1 H rfl ts3 rfl rfl rfl rfl rfl rfl rfl rfl ?_
      clear H; intro w H
      refine ops_nil ⟨H.stab [(0, 0)] ⟨rfl, trivial⟩, ?_⟩
      refine any_done (by kernel_rfl) ?_
      refine W_ret ?_
      refine ⟨_, (.cell rfl (run_loadA (vs := [_, _, _]) ta98 (H.blk 2 rfl) rfl rfl) (.cell rfl (run_loadA (vs := [_, _, _]) ta98 (H.blk 1 rfl) rfl rfl) .nil)), ?_⟩
      exact ⟨rfl, H.tail.tail.tail.tail.tail⟩
      -- ((pick.picker).sides: ret; chunks n4,n3,n2,n1,n0,S; ptr 2=n0,3=n1,4=n2,5=n3,9=n0,11=n1,6=n4,16=n1,18=n1,21=n1,24=n1,26=n1,29=n1,33=n4,37=n4,39=n1,43=n4,45=n4,47=n2,48=n3)
    · have hs : ∀ b, sideOf st id k b = id := fun b => by unfold sideOf; rw [hln, if_neg hk]
      rw [hs, hs]
      refine FnC_of Try.func101 rfl rfl rfl rfl ?_
      refine W_seq ?_
      refine W_region ?_
      refine ops_box (v := (.agg _)) (cs := [_, _, _, _]) H rfl rfl rfl ?_
      clear H; intro bn0 w H
      refine ops_box (v := (.agg _)) (cs := [_, _, _]) H rfl rfl rfl ?_
      clear H; intro bn1 w H
      refine ops_alloc H rfl tz98 ?_
      clear H; intro bn2 w H
      refine ops_alloc H rfl tz98 ?_
      clear H; intro bn3 w H
      refine ops_nil ?_
      refine W_seq ?_
      refine W_region ?_
      refine ops_v (v_fieldAddr rfl fo96_0 rfl rfl) ?_
      refine ops_load (v := (.pointer _)) 3 H rfl tc27 rfl rfl rfl ?_
      refine ops_v (v_fieldAddr rfl fo98_0 rfl rfl) ?_
      refine ops_load (v := (.int _ _)) 2 H rfl tc3 rfl rfl rfl ?_
      refine ops_call rfl c31 (FnC.ro 4 rfl H (fun _ H' => (by have := Node_ok hg H'; rw [hV] at this; exact this))) ?_
      clear H; rintro _ w ⟨rfl, H⟩
      refine ops_v (v_move (v := (.tuple _)) rfl rfl) ?_
      refine ops_v (v_extract (v := (.agg _)) rfl rfl rfl) ?_
      refine ops_v (v_extract (v := (.bool _)) rfl rfl rfl) ?_
      refine ops_alloc H rfl tz42 ?_
      clear H; intro bn4 w H
      refine ops_store (vs := [_, _, _, _, _]) (v := (.agg _)) (cs' := [_, _, _, _, _]) 0 H rfl ts42 rfl rfl rfl rfl rfl rfl rfl rfl ?_
      clear H; intro w H
      refine ops_v (v_assign (v := (.bool _)) rfl rfl) ?_
      refine ops_nil ?_
      refine W_seq ?_
      refine W_region ?_
      refine ops_v (v_fieldAddr rfl fo98_0 rfl rfl) ?_
      refine ops_load (v := (.int _ _)) 3 H rfl tc3 rfl rfl rfl ?_
      refine ops_v (v_fieldAddr rfl fo98_1 rfl rfl) ?_
      refine ops_load (v := (.int _ _)) 3 H rfl tc3 rfl rfl rfl ?_
      refine ops_v (v_add _ rfl rfl rfl (wrap_in (by omega) (by omega))) ?_
      refine ops_v (v_fieldAddr rfl fo98_2 rfl rfl) ?_
      refine ops_load (v := (.int _ _)) 3 H rfl tc3 rfl rfl rfl ?_
      refine ops_v (v_build (cs := [(.int _ _), (.int _ _), (.int _ _)]) rfl bp98 rfl) ?_
      refine ops_store (vs := [_, _, _]) (v := (.agg _)) (cs' := [_, _, _]) 2 H rfl ts98 rfl rfl rfl rfl rfl rfl rfl rfl ?_
      clear H; intro w H
      refine ops_nil ?_
      refine W_seq ?_
      refine W_region ?_
      refine ops_v (v_fieldAddr rfl fo98_0 rfl rfl) ?_
      refine ops_load (v := (.int _ _)) 3 H rfl tc3 rfl rfl rfl ?_
      refine ops_v (v_fieldAddr rfl fo98_1 rfl rfl) ?_
      refine ops_load (v := (.int _ _)) 3 H rfl tc3 rfl rfl rfl ?_
      refine ops_v (v_add _ rfl rfl rfl (wrap_in (by omega) (by omega))) ?_
      refine ops_v (v_fieldAddr rfl fo98_2 rfl rfl) ?_
      refine ops_load (v := (.int _ _)) 3 H rfl tc3 rfl rfl rfl ?_
      refine ops_v (v_sub _ rfl rfl rfl (wrap_in (by omega) (by omega))) ?_
      refine ops_v (v_build (cs := [(.int _ _), (.int _ _), (.int _ _)]) rfl bp98 rfl) ?_
      refine ops_store (vs := [_, _, _]) (v := (.agg _)) (cs' := [_, _, _]) 1 H rfl ts98 rfl rfl rfl rfl rfl rfl rfl rfl ?_
      clear H; intro w H
      refine ops_nil ?_
      refine W_seq ?_
      refine W_seq ?_
      refine W_region ?_
      refine ops_v (v_fieldAddr rfl fo42_0 rfl rfl) ?_
      refine ops_load (v := (.bool _)) 0 H rfl tc4 rfl rfl rfl ?_
      refine ops_v (v_not rfl rfl _ rfl) ?_
      refine ops_v (v_move (v := (.bool _)) rfl rfl) ?_
      refine ops_v (v_fieldAddr rfl fo42_2 rfl rfl) ?_
      refine ops_load (v := (.int _ _)) 0 H rfl tc3 rfl rfl rfl ?_
      refine ops_v (v_fieldAddr rfl fo98_1 rfl rfl) ?_
      refine ops_load (v := (.int _ _)) 3 H rfl tc3 rfl rfl rfl ?_
      refine ops_v (v_eql false rfl rfl rfl (decide_eq_false (by first | omega | (simp only; omega) | rfl | decide))) ?_
      refine ops_v (v_pick_t (v := (.bool _)) rfl rfl rfl) ?_
      refine ops_nil ?_
      refine W_if_f rfl ?_
      refine W_skip ?_
      refine W_ret ?_
      refine ⟨_, (.cell rfl (run_loadA (vs := [_, _, _]) ta98 (H.blk 2 rfl) rfl rfl) (.cell rfl (run_loadA (vs := [_, _, _]) ta98 (H.blk 1 rfl) rfl rfl) .nil)), ?_⟩
      exact ⟨rfl, H.tail.tail.tail.tail.tail⟩
      -- ((pick.picker).sides: ret; chunks n4,n3,n2,n1,n0,S; ptr 2=n0,3=n1,4=n2,5=n3,9=n0,11=n1,6=n4,16=n1,18=n1,21=n1,24=n1,26=n1,29=n1,33=n4,37=n4,39=n1)

set_option maxRecDepth 4000 in
set_option maxHeartbeats 1000000 in
theorem pcount_ok (hw : Wf st) : ∀ (d : Nat) {k : Nat} {id q : Int} {wb w : World} {R : List Chunk}, k + d = st.links → isN st id = true → (k : Int) ≤ lnk st id → -2 ≤ q → q ≤ 16 → Own wb (StoreC p st :: PickX r1 st v :: R) w →
    FnC Try.prog 85 [pickerV p v r1 r2, atV id k q] w (fun u w' => u = int (pcN d st v id k q) ∧ Own wb (StoreC p st :: PickX r1 st v :: R) w') := by
  intro d
  induction d with
  | zero =>
    intro k id q wb w R hkd hid hlk hq hq' H
    have hl := hw.links
    have rr := M.lnk_range hw hid
    obtain ⟨⟨lf, vl, bl, bs, bf⟩, hg⟩ := M.isN_get hid
    have hz := M.getZ_eq hg
    have hlf := M.lnk_16 hw hg (by omega)
    simp only at hlf
    subst hlf
    have hV : nodeV ⟨true, vl, bl, bs, bf⟩ true = .tuple [.agg [.bool true, .int .i64 vl, .int .i64 bl, .int .i64 bs, .int .i64 bf].toArray, .bool true].toArray := rfl
    have hpc : pcN 0 st v id k q = if q < 0 then 0 else if vl = v then cz 0 q else 0 := by unfold pcN; rw [hz]; simp
    rw [hpc]
    by_cases c0 : q < 0
    · rw [if_pos c0]
      refine FnC_of Try.func85 rfl rfl rfl rfl ?_
      refine W_seq ?_
      refine W_region ?_
      refine ops_box (v := (.agg _)) (cs := [_, _, _, _]) H rfl rfl rfl ?_
      clear H; intro bn0 w H
      refine ops_box (v := (.agg _)) (cs := [_, _, _]) H rfl rfl rfl ?_
      clear H; intro bn1 w H
      refine ops_v (v_assign (v := _) rfl rfl) ?_
      refine ops_nil ?_
      refine W_seq ?_
      refine W_seq ?_
      refine W_region ?_
      refine ops_v (v_fieldAddr rfl fo96_0 rfl rfl) ?_
      refine ops_load (v := (.pointer _)) 1 H rfl tc27 rfl rfl rfl ?_
      refine ops_v (v_fieldAddr rfl fo98_0 rfl rfl) ?_
      refine ops_load (v := (.int _ _)) 0 H rfl tc3 rfl rfl rfl ?_
      refine ops_call rfl c31 (FnC.ro 2 rfl H (fun _ H' => (by have := Node_ok hg H'; rw [hV] at this; exact this))) ?_
      clear H; rintro _ w ⟨rfl, H⟩
      refine ops_v (v_move (v := (.tuple _)) rfl rfl) ?_
      refine ops_v (v_extract (v := (.agg _)) rfl rfl rfl) ?_
      refine ops_v (v_extract (v := (.bool _)) rfl rfl rfl) ?_
      refine ops_alloc H rfl tz42 ?_
      clear H; intro bn2 w H
      refine ops_store (vs := [_, _, _, _, _]) (v := (.agg _)) (cs' := [_, _, _, _, _]) 0 H rfl ts42 rfl rfl rfl rfl rfl rfl rfl rfl ?_
      clear H; intro w H
      refine ops_v (v_assign (v := (.bool _)) rfl rfl) ?_
      refine ops_nil ?_
      refine W_block ?_
      refine W_seq ?_
      refine W_region ?_
      refine ops_v (v_fieldAddr rfl fo98_2 rfl rfl) ?_
      refine ops_load (v := (.int _ _)) 1 H rfl tc3 rfl rfl rfl ?_
      refine ops_v (v_lss true rfl rfl rfl (decide_eq_true (by first | omega | (simp only; omega) | rfl | decide))) ?_
      refine ops_v (v_assign (v := (.bool _)) rfl rfl) ?_
      refine ops_nil ?_
      refine W_if_t rfl ?_
      refine W_seq ?_
      refine W_region ?_
      refine ops_v (v_assign (v := _) rfl rfl) ?_
      refine ops_nil ?_
      refine W_ret ?_
      refine ⟨_, (.tmp (v := (.int _ _)) rfl .nil), ?_⟩
      exact ⟨rfl, H.tail.tail.tail⟩
      -- ((pick.picker).count: ret; chunks n2,n1,n0,S,P; ptr 2=n0,3=n1,13=n0,15=n1,5=n2,21=n1)
    · rw [if_neg c0]
      by_cases c1 : vl = v
      · rw [if_pos c1]
        have hc : countI ((st.links : Int) - (k : Int)) q = cz 0 q := by
          have := M.count_cz (n := 0) (m := q) (by omega) (by omega) (by omega)
          rw [show ((st.links : Int) - (k : Int)) = ((0 : Nat) : Int) by omega]
          exact this
        refine FnC_of Try.func85 rfl rfl rfl rfl ?_
        refine W_seq ?_
        refine W_region ?_
        refine ops_box (v := (.agg _)) (cs := [_, _, _, _]) H rfl rfl rfl ?_
        clear H; intro bn0 w H
        refine ops_box (v := (.agg _)) (cs := [_, _, _]) H rfl rfl rfl ?_
        clear H; intro bn1 w H
        refine ops_v (v_assign (v := _) rfl rfl) ?_
        refine ops_nil ?_
        refine W_seq ?_
        refine W_seq ?_
        refine W_region ?_
        refine ops_v (v_fieldAddr rfl fo96_0 rfl rfl) ?_
        refine ops_load (v := (.pointer _)) 1 H rfl tc27 rfl rfl rfl ?_
        refine ops_v (v_fieldAddr rfl fo98_0 rfl rfl) ?_
        refine ops_load (v := (.int _ _)) 0 H rfl tc3 rfl rfl rfl ?_
        refine ops_call rfl c31 (FnC.ro 2 rfl H (fun _ H' => (by have := Node_ok hg H'; rw [hV] at this; exact this))) ?_
        clear H; rintro _ w ⟨rfl, H⟩
        refine ops_v (v_move (v := (.tuple _)) rfl rfl) ?_
        refine ops_v (v_extract (v := (.agg _)) rfl rfl rfl) ?_
        refine ops_v (v_extract (v := (.bool _)) rfl rfl rfl) ?_
        refine ops_alloc H rfl tz42 ?_
        clear H; intro bn2 w H
        refine ops_store (vs := [_, _, _, _, _]) (v := (.agg _)) (cs' := [_, _, _, _, _]) 0 H rfl ts42 rfl rfl rfl rfl rfl rfl rfl rfl ?_
        clear H; intro w H
        refine ops_v (v_assign (v := (.bool _)) rfl rfl) ?_
        refine ops_nil ?_
        refine W_block ?_
        refine W_seq ?_
        refine W_region ?_
        refine ops_v (v_fieldAddr rfl fo98_2 rfl rfl) ?_
        refine ops_load (v := (.int _ _)) 1 H rfl tc3 rfl rfl rfl ?_
        refine ops_v (v_lss false rfl rfl rfl (decide_eq_false (by first | omega | (simp only; omega) | rfl | decide))) ?_
        refine ops_v (v_assign (v := (.bool _)) rfl rfl) ?_
        refine ops_nil ?_
        refine W_if_f rfl ?_
        refine W_seq ?_
        refine W_region ?_
        refine ops_v (v_fieldAddr rfl fo42_0 rfl rfl) ?_
        refine ops_load (v := (.bool _)) 0 H rfl tc4 rfl rfl rfl ?_
        refine ops_v (v_move (v := (.bool _)) rfl rfl) ?_
        refine ops_v (v_fieldAddr rfl fo42_1 rfl rfl) ?_
        refine ops_load (v := (.int _ _)) 0 H rfl tc3 rfl rfl rfl ?_
        refine ops_v (v_fieldAddr rfl fo96_1 rfl rfl) ?_
        refine ops_load (v := (.int _ _)) 2 H rfl tc3 rfl rfl rfl ?_
        refine ops_v (v_neq false rfl rfl rfl (decide_eq_false (by first | omega | (simp only; omega) | rfl | decide))) ?_
        refine ops_v (v_pick_t (v := (.bool _)) rfl rfl rfl) ?_
        refine ops_v (v_assign (v := (.bool _)) rfl rfl) ?_
        refine ops_nil ?_
        refine W_if_f rfl ?_
        refine W_seq ?_
        refine W_region ?_
        refine ops_v (v_fieldAddr rfl fo42_0 rfl rfl) ?_
        refine ops_load (v := (.bool _)) 0 H rfl tc4 rfl rfl rfl ?_
        refine ops_v (v_assign (v := (.bool _)) rfl rfl) ?_
        refine ops_nil ?_
        refine W_if_t rfl ?_
        refine W_seq ?_
        refine W_draw (is := [2, 1]) mixed H ?_
        clear H; intro w H
        refine any_take 0 rfl (by kernel_rfl) (by kernel_rfl) (by kernel_rfl) (v_fieldAddr rfl fo96_0 rfl rfl) ?_
        refine any_take 1 rfl (by kernel_rfl) (by kernel_rfl) (by kernel_rfl) (v_load (v := (.pointer _)) rfl tc27 (fun _ hS => hS.1 _ _ _ rfl) rfl rfl) ?_
        refine any_take 3 rfl (by kernel_rfl) (by kernel_rfl) (by kernel_rfl) (v_fieldAddr rfl fo98_1 rfl rfl) ?_
        refine any_take 4 rfl (by kernel_rfl) (by kernel_rfl) (by kernel_rfl) (v_load (v := (.int _ _)) rfl tc3 (fun _ hS => hS.2.1 _ _ _ rfl) rfl rfl) ?_
        refine any_take 6 rfl (by kernel_rfl) (by kernel_rfl) (by kernel_rfl) (v_fieldAddr rfl fo98_2 rfl rfl) ?_
        refine any_take 7 rfl (by kernel_rfl) (by kernel_rfl) (by kernel_rfl) (v_load (v := (.int _ _)) rfl tc3 (fun _ hS => hS.2.1 _ _ _ rfl) rfl rfl) ?_
        refine any_one 2 rfl (by kernel_rfl) ?_
        refine ops_call rfl c28 (FnC.ro 3 rfl H (fun _ => Links_ok)) ?_
        clear H; rintro _ w ⟨rfl, H⟩
        refine ops_nil ⟨H.stab [(2, 2), (1, 1)] ⟨rfl, rfl, trivial⟩, ?_⟩
        refine any_take 5 rfl (by kernel_rfl) (by kernel_rfl) (by kernel_rfl) (v_sub _ rfl rfl rfl (wrap_in (by omega) (by omega))) ?_
        refine any_one 8 rfl (by kernel_rfl) ?_
        refine ops_call rfl c62 ((by have := BCount_ok ((st.links : Int) - (k : Int)) q H; rw [hc] at this; exact this)) ?_
        clear H; rintro _ w ⟨rfl, H⟩
        refine ops_nil ⟨H.stab [(2, 2), (1, 1)] ⟨rfl, rfl, trivial⟩, ?_⟩
        refine any_take 9 rfl (by kernel_rfl) (by kernel_rfl) (by kernel_rfl) (v_assign (v := (.int _ _)) rfl rfl) ?_
        refine any_done (by kernel_rfl) ?_
        refine W_ret ?_
        refine ⟨_, (.tmp (v := (.int _ _)) rfl .nil), ?_⟩
        exact ⟨rfl, H.tail.tail.tail⟩
        -- ((pick.picker).count: ret; chunks n2,n1,n0,S,P; ptr 2=n0,3=n1,13=n0,15=n1,5=n2,21=n1,25=n2,28=n2,30=n0,35=n2,37=n0,40=n1,43=n1)
      · rw [if_neg c1]
        refine FnC_of Try.func85 rfl rfl rfl rfl ?_
        refine W_seq ?_
        refine W_region ?_
        refine ops_box (v := (.agg _)) (cs := [_, _, _, _]) H rfl rfl rfl ?_
        clear H; intro bn0 w H
        refine ops_box (v := (.agg _)) (cs := [_, _, _]) H rfl rfl rfl ?_
        clear H; intro bn1 w H
        refine ops_v (v_assign (v := _) rfl rfl) ?_
        refine ops_nil ?_
        refine W_seq ?_
        refine W_seq ?_
        refine W_region ?_
        refine ops_v (v_fieldAddr rfl fo96_0 rfl rfl) ?_
        refine ops_load (v := (.pointer _)) 1 H rfl tc27 rfl rfl rfl ?_
        refine ops_v (v_fieldAddr rfl fo98_0 rfl rfl) ?_
        refine ops_load (v := (.int _ _)) 0 H rfl tc3 rfl rfl rfl ?_
        refine ops_call rfl c31 (FnC.ro 2 rfl H (fun _ H' => (by have := Node_ok hg H'; rw [hV] at this; exact this))) ?_
        clear H; rintro _ w ⟨rfl, H⟩
        refine ops_v (v_move (v := (.tuple _)) rfl rfl) ?_
        refine ops_v (v_extract (v := (.agg _)) rfl rfl rfl) ?_
        refine ops_v (v_extract (v := (.bool _)) rfl rfl rfl) ?_
        refine ops_alloc H rfl tz42 ?_
        clear H; intro bn2 w H
        refine ops_store (vs := [_, _, _, _, _]) (v := (.agg _)) (cs' := [_, _, _, _, _]) 0 H rfl ts42 rfl rfl rfl rfl rfl rfl rfl rfl ?_
        clear H; intro w H
        refine ops_v (v_assign (v := (.bool _)) rfl rfl) ?_
        refine ops_nil ?_
        refine W_block ?_
        refine W_seq ?_
        refine W_region ?_
        refine ops_v (v_fieldAddr rfl fo98_2 rfl rfl) ?_
        refine ops_load (v := (.int _ _)) 1 H rfl tc3 rfl rfl rfl ?_
        refine ops_v (v_lss false rfl rfl rfl (decide_eq_false (by first | omega | (simp only; omega) | rfl | decide))) ?_
        refine ops_v (v_assign (v := (.bool _)) rfl rfl) ?_
        refine ops_nil ?_
        refine W_if_f rfl ?_
        refine W_seq ?_
        refine W_region ?_
        refine ops_v (v_fieldAddr rfl fo42_0 rfl rfl) ?_
        refine ops_load (v := (.bool _)) 0 H rfl tc4 rfl rfl rfl ?_
        refine ops_v (v_move (v := (.bool _)) rfl rfl) ?_
        refine ops_v (v_fieldAddr rfl fo42_1 rfl rfl) ?_
        refine ops_load (v := (.int _ _)) 0 H rfl tc3 rfl rfl rfl ?_
        refine ops_v (v_fieldAddr rfl fo96_1 rfl rfl) ?_
        refine ops_load (v := (.int _ _)) 2 H rfl tc3 rfl rfl rfl ?_
        refine ops_v (v_neq true rfl rfl rfl (decide_eq_true (by first | omega | (simp only; omega) | rfl | decide))) ?_
        refine ops_v (v_pick_t (v := (.bool _)) rfl rfl rfl) ?_
        refine ops_v (v_assign (v := (.bool _)) rfl rfl) ?_
        refine ops_nil ?_
        refine W_if_t rfl ?_
        refine W_seq ?_
        refine W_region ?_
        refine ops_v (v_assign (v := _) rfl rfl) ?_
        refine ops_nil ?_
        refine W_ret ?_
        refine ⟨_, (.tmp (v := (.int _ _)) rfl .nil), ?_⟩
        exact ⟨rfl, H.tail.tail.tail⟩
        -- ((pick.picker).count: ret; chunks n2,n1,n0,S,P; ptr 2=n0,3=n1,13=n0,15=n1,5=n2,21=n1,25=n2,28=n2,30=n0)
  | succ d ih =>
    intro k id q wb w R hkd hid hlk hq hq' H
    have hl := hw.links
    have rr := M.lnk_range hw hid
    obtain ⟨⟨lf, vl, bl, bs, bf⟩, hg⟩ := M.isN_get hid
    have hz := M.getZ_eq hg
    cases lf with
    | true =>
      have hV : nodeV ⟨true, vl, bl, bs, bf⟩ true = .tuple [.agg [.bool true, .int .i64 vl, .int .i64 bl, .int .i64 bs, .int .i64 bf].toArray, .bool true].toArray := rfl
      have hpc : pcN (d + 1) st v id k q = if q < 0 then 0 else if vl = v then cz (d + 1) q else 0 := by unfold pcN; rw [hz]; simp
      rw [hpc]
      by_cases c0 : q < 0
      · rw [if_pos c0]
        refine FnC_of Try.func85 rfl rfl rfl rfl ?_
        refine W_seq ?_
        refine W_region ?_
        refine ops_box (v := (.agg _)) (cs := [_, _, _, _]) H rfl rfl rfl ?_
        clear H; intro bn0 w H
        refine ops_box (v := (.agg _)) (cs := [_, _, _]) H rfl rfl rfl ?_
        clear H; intro bn1 w H
        refine ops_v (v_assign (v := _) rfl rfl) ?_
        refine ops_nil ?_
        refine W_seq ?_
        refine W_seq ?_
        refine W_region ?_
        refine ops_v (v_fieldAddr rfl fo96_0 rfl rfl) ?_
        refine ops_load (v := (.pointer _)) 1 H rfl tc27 rfl rfl rfl ?_
        refine ops_v (v_fieldAddr rfl fo98_0 rfl rfl) ?_
        refine ops_load (v := (.int _ _)) 0 H rfl tc3 rfl rfl rfl ?_
        refine ops_call rfl c31 (FnC.ro 2 rfl H (fun _ H' => (by have := Node_ok hg H'; rw [hV] at this; exact this))) ?_
        clear H; rintro _ w ⟨rfl, H⟩
        refine ops_v (v_move (v := (.tuple _)) rfl rfl) ?_
        refine ops_v (v_extract (v := (.agg _)) rfl rfl rfl) ?_
        refine ops_v (v_extract (v := (.bool _)) rfl rfl rfl) ?_
        refine ops_alloc H rfl tz42 ?_
        clear H; intro bn2 w H
        refine ops_store (vs := [_, _, _, _, _]) (v := (.agg _)) (cs' := [_, _, _, _, _]) 0 H rfl ts42 rfl rfl rfl rfl rfl rfl rfl rfl ?_
        clear H; intro w H
        refine ops_v (v_assign (v := (.bool _)) rfl rfl) ?_
        refine ops_nil ?_
        refine W_block ?_
        refine W_seq ?_
        refine W_region ?_
        refine ops_v (v_fieldAddr rfl fo98_2 rfl rfl) ?_
        refine ops_load (v := (.int _ _)) 1 H rfl tc3 rfl rfl rfl ?_
        refine ops_v (v_lss true rfl rfl rfl (decide_eq_true (by first | omega | (simp only; omega) | rfl | decide))) ?_
        refine ops_v (v_assign (v := (.bool _)) rfl rfl) ?_
        refine ops_nil ?_
        refine W_if_t rfl ?_
        refine W_seq ?_
        refine W_region ?_
        refine ops_v (v_assign (v := _) rfl rfl) ?_
        refine ops_nil ?_
        refine W_ret ?_
        refine ⟨_, (.tmp (v := (.int _ _)) rfl .nil), ?_⟩
        exact ⟨rfl, H.tail.tail.tail⟩
        -- ((pick.picker).count: ret; chunks n2,n1,n0,S,P; ptr 2=n0,3=n1,13=n0,15=n1,5=n2,21=n1)
      · rw [if_neg c0]
        by_cases c1 : vl = v
        · rw [if_pos c1]
          have hc : countI ((st.links : Int) - (k : Int)) q = cz (d + 1) q := by
            have := M.count_cz (n := d + 1) (m := q) (by omega) (by omega) (by omega)
            rw [show ((st.links : Int) - (k : Int)) = ((d + 1 : Nat) : Int) by omega]
            exact this
          refine FnC_of Try.func85 rfl rfl rfl rfl ?_
          refine W_seq ?_
          refine W_region ?_
          refine ops_box (v := (.agg _)) (cs := [_, _, _, _]) H rfl rfl rfl ?_
          clear H; intro bn0 w H
          refine ops_box (v := (.agg _)) (cs := [_, _, _]) H rfl rfl rfl ?_
          clear H; intro bn1 w H
          refine ops_v (v_assign (v := _) rfl rfl) ?_
          refine ops_nil ?_
          refine W_seq ?_
          refine W_seq ?_
          refine W_region ?_
          refine ops_v (v_fieldAddr rfl fo96_0 rfl rfl) ?_
          refine ops_load (v := (.pointer _)) 1 H rfl tc27 rfl rfl rfl ?_
          refine ops_v (v_fieldAddr rfl fo98_0 rfl rfl) ?_
          refine ops_load (v := (.int _ _)) 0 H rfl tc3 rfl rfl rfl ?_
          refine ops_call rfl c31 (FnC.ro 2 rfl H (fun _ H' => (by have := Node_ok hg H'; rw [hV] at this; exact this))) ?_
          clear H; rintro _ w ⟨rfl, H⟩
          refine ops_v (v_move (v := (.tuple _)) rfl rfl) ?_
          refine ops_v (v_extract (v := (.agg _)) rfl rfl rfl) ?_
          refine ops_v (v_extract (v := (.bool _)) rfl rfl rfl) ?_
          refine ops_alloc H rfl tz42 ?_
          clear H; intro bn2 w H
          refine ops_store (vs := [_, _, _, _, _]) (v := (.agg _)) (cs' := [_, _, _, _, _]) 0 H rfl ts42 rfl rfl rfl rfl rfl rfl rfl rfl ?_
          clear H; intro w H
          refine ops_v (v_assign (v := (.bool _)) rfl rfl) ?_
          refine ops_nil ?_
          refine W_block ?_
          refine W_seq ?_
          refine W_region ?_
          refine ops_v (v_fieldAddr rfl fo98_2 rfl rfl) ?_
          refine ops_load (v := (.int _ _)) 1 H rfl tc3 rfl rfl rfl ?_
          refine ops_v (v_lss false rfl rfl rfl (decide_eq_false (by first | omega | (simp only; omega) | rfl | decide))) ?_
          refine ops_v (v_assign (v := (.bool _)) rfl rfl) ?_
          refine ops_nil ?_
          refine W_if_f rfl ?_
          refine W_seq ?_
          refine W_region ?_
          refine ops_v (v_fieldAddr rfl fo42_0 rfl rfl) ?_
          refine ops_load (v := (.bool _)) 0 H rfl tc4 rfl rfl rfl ?_
          refine ops_v (v_move (v := (.bool _)) rfl rfl) ?_
          refine ops_v (v_fieldAddr rfl fo42_1 rfl rfl) ?_
          refine ops_load (v := (.int _ _)) 0 H rfl tc3 rfl rfl rfl ?_
          refine ops_v (v_fieldAddr rfl fo96_1 rfl rfl) ?_
          refine ops_load (v := (.int _ _)) 2 H rfl tc3 rfl rfl rfl ?_
          refine ops_v (v_neq false rfl rfl rfl (decide_eq_false (by first | omega | (simp only; omega) | rfl | decide))) ?_
          refine ops_v (v_pick_t (v := (.bool _)) rfl rfl rfl) ?_
          refine ops_v (v_assign (v := (.bool _)) rfl rfl) ?_
          refine ops_nil ?_
          refine W_if_f rfl ?_
          refine W_seq ?_
          refine W_region ?_
          refine ops_v (v_fieldAddr rfl fo42_0 rfl rfl) ?_
          refine ops_load (v := (.bool _)) 0 H rfl tc4 rfl rfl rfl ?_
          refine ops_v (v_assign (v := (.bool _)) rfl rfl) ?_
          refine ops_nil ?_
          refine W_if_t rfl ?_
          refine W_seq ?_
          refine W_draw (is := [2, 1]) mixed H ?_
          clear H; intro w H
          refine any_take 0 rfl (by kernel_rfl) (by kernel_rfl) (by kernel_rfl) (v_fieldAddr rfl fo96_0 rfl rfl) ?_
          refine any_take 1 rfl (by kernel_rfl) (by kernel_rfl) (by kernel_rfl) (v_load (v := (.pointer _)) rfl tc27 (fun _ hS => hS.1 _ _ _ rfl) rfl rfl) ?_
          refine any_take 3 rfl (by kernel_rfl) (by kernel_rfl) (by kernel_rfl) (v_fieldAddr rfl fo98_1 rfl rfl) ?_
          refine any_take 4 rfl (by kernel_rfl) (by kernel_rfl) (by kernel_rfl) (v_load (v := (.int _ _)) rfl tc3 (fun _ hS => hS.2.1 _ _ _ rfl) rfl rfl) ?_
          refine any_take 6 rfl (by kernel_rfl) (by kernel_rfl) (by kernel_rfl) (v_fieldAddr rfl fo98_2 rfl rfl) ?_
          refine any_take 7 rfl (by kernel_rfl) (by kernel_rfl) (by kernel_rfl) (v_load (v := (.int _ _)) rfl tc3 (fun _ hS => hS.2.1 _ _ _ rfl) rfl rfl) ?_
          refine any_one 2 rfl (by kernel_rfl) ?_
          refine ops_call rfl c28 (FnC.ro 3 rfl H (fun _ => Links_ok)) ?_
          clear H; rintro _ w ⟨rfl, H⟩
          refine ops_nil ⟨H.stab [(2, 2), (1, 1)] ⟨rfl, rfl, trivial⟩, ?_⟩
          refine any_take 5 rfl (by kernel_rfl) (by kernel_rfl) (by kernel_rfl) (v_sub _ rfl rfl rfl (wrap_in (by omega) (by omega))) ?_
          refine any_one 8 rfl (by kernel_rfl) ?_
          refine ops_call rfl c62 ((by have := BCount_ok ((st.links : Int) - (k : Int)) q H; rw [hc] at this; exact this)) ?_
          clear H; rintro _ w ⟨rfl, H⟩
          refine ops_nil ⟨H.stab [(2, 2), (1, 1)] ⟨rfl, rfl, trivial⟩, ?_⟩
          refine any_take 9 rfl (by kernel_rfl) (by kernel_rfl) (by kernel_rfl) (v_assign (v := (.int _ _)) rfl rfl) ?_
          refine any_done (by kernel_rfl) ?_
          refine W_ret ?_
          refine ⟨_, (.tmp (v := (.int _ _)) rfl .nil), ?_⟩
          exact ⟨rfl, H.tail.tail.tail⟩
          -- ((pick.picker).count: ret; chunks n2,n1,n0,S,P; ptr 2=n0,3=n1,13=n0,15=n1,5=n2,21=n1,25=n2,28=n2,30=n0,35=n2,37=n0,40=n1,43=n1)
        · rw [if_neg c1]
          refine FnC_of Try.func85 rfl rfl rfl rfl ?_
          refine W_seq ?_
          refine W_region ?_
          refine ops_box (v := (.agg _)) (cs := [_, _, _, _]) H rfl rfl rfl ?_
          clear H; intro bn0 w H
          refine ops_box (v := (.agg _)) (cs := [_, _, _]) H rfl rfl rfl ?_
          clear H; intro bn1 w H
          refine ops_v (v_assign (v := _) rfl rfl) ?_
          refine ops_nil ?_
          refine W_seq ?_
          refine W_seq ?_
          refine W_region ?_
          refine ops_v (v_fieldAddr rfl fo96_0 rfl rfl) ?_
          refine ops_load (v := (.pointer _)) 1 H rfl tc27 rfl rfl rfl ?_
          refine ops_v (v_fieldAddr rfl fo98_0 rfl rfl) ?_
          refine ops_load (v := (.int _ _)) 0 H rfl tc3 rfl rfl rfl ?_
          refine ops_call rfl c31 (FnC.ro 2 rfl H (fun _ H' => (by have := Node_ok hg H'; rw [hV] at this; exact this))) ?_
          clear H; rintro _ w ⟨rfl, H⟩
          refine ops_v (v_move (v := (.tuple _)) rfl rfl) ?_
          refine ops_v (v_extract (v := (.agg _)) rfl rfl rfl) ?_
          refine ops_v (v_extract (v := (.bool _)) rfl rfl rfl) ?_
          refine ops_alloc H rfl tz42 ?_
          clear H; intro bn2 w H
          refine ops_store (vs := [_, _, _, _, _]) (v := (.agg _)) (cs' := [_, _, _, _, _]) 0 H rfl ts42 rfl rfl rfl rfl rfl rfl rfl rfl ?_
          clear H; intro w H
          refine ops_v (v_assign (v := (.bool _)) rfl rfl) ?_
          refine ops_nil ?_
          refine W_block ?_
          refine W_seq ?_
          refine W_region ?_
          refine ops_v (v_fieldAddr rfl fo98_2 rfl rfl) ?_
          refine ops_load (v := (.int _ _)) 1 H rfl tc3 rfl rfl rfl ?_
          refine ops_v (v_lss false rfl rfl rfl (decide_eq_false (by first | omega | (simp only; omega) | rfl | decide))) ?_
          refine ops_v (v_assign (v := (.bool _)) rfl rfl) ?_
          refine ops_nil ?_
          refine W_if_f rfl ?_
          refine W_seq ?_
          refine W_region ?_
          refine ops_v (v_fieldAddr rfl fo42_0 rfl rfl) ?_
          refine ops_load (v := (.bool _)) 0 H rfl tc4 rfl rfl rfl ?_
          refine ops_v (v_move (v := (.bool _)) rfl rfl) ?_
          refine ops_v (v_fieldAddr rfl fo42_1 rfl rfl) ?_
          refine ops_load (v := (.int _ _)) 0 H rfl tc3 rfl rfl rfl ?_
          refine ops_v (v_fieldAddr rfl fo96_1 rfl rfl) ?_
          refine ops_load (v := (.int _ _)) 2 H rfl tc3 rfl rfl rfl ?_
          refine ops_v (v_neq true rfl rfl rfl (decide_eq_true (by first | omega | (simp only; omega) | rfl | decide))) ?_
          refine ops_v (v_pick_t (v := (.bool _)) rfl rfl rfl) ?_
          refine ops_v (v_assign (v := (.bool _)) rfl rfl) ?_
          refine ops_nil ?_
          refine W_if_t rfl ?_
          refine W_seq ?_
          refine W_region ?_
          refine ops_v (v_assign (v := _) rfl rfl) ?_
          refine ops_nil ?_
          refine W_ret ?_
          refine ⟨_, (.tmp (v := (.int _ _)) rfl .nil), ?_⟩
          exact ⟨rfl, H.tail.tail.tail⟩
          -- ((pick.picker).count: ret; chunks n2,n1,n0,S,P; ptr 2=n0,3=n1,13=n0,15=n1,5=n2,21=n1,25=n2,28=n2,30=n0)
    | false =>
      have hV : nodeV ⟨false, vl, bl, bs, bf⟩ true = .tuple [.agg [.bool false, .int .i64 vl, .int .i64 bl, .int .i64 bs, .int .i64 bf].toArray, .bool true].toArray := rfl
      have hpc : pcN (d + 1) st v id k q = if q < 0 then 0 else pcN d st v (sideOf st id k false) (k + 1) q + pcN d st v (sideOf st id k true) (k + 1) (q - 1) := by conv => lhs; unfold pcN; rw [hz]; simp
      by_cases c0 : q < 0
      · rw [hpc, if_pos c0]
        refine FnC_of Try.func85 rfl rfl rfl rfl ?_
        refine W_seq ?_
        refine W_region ?_
        refine ops_box (v := (.agg _)) (cs := [_, _, _, _]) H rfl rfl rfl ?_
        clear H; intro bn0 w H
        refine ops_box (v := (.agg _)) (cs := [_, _, _]) H rfl rfl rfl ?_
        clear H; intro bn1 w H
        refine ops_v (v_assign (v := _) rfl rfl) ?_
        refine ops_nil ?_
        refine W_seq ?_
        refine W_seq ?_
        refine W_region ?_
        refine ops_v (v_fieldAddr rfl fo96_0 rfl rfl) ?_
        refine ops_load (v := (.pointer _)) 1 H rfl tc27 rfl rfl rfl ?_
        refine ops_v (v_fieldAddr rfl fo98_0 rfl rfl) ?_
        refine ops_load (v := (.int _ _)) 0 H rfl tc3 rfl rfl rfl ?_
        refine ops_call rfl c31 (FnC.ro 2 rfl H (fun _ H' => (by have := Node_ok hg H'; rw [hV] at this; exact this))) ?_
        clear H; rintro _ w ⟨rfl, H⟩
        refine ops_v (v_move (v := (.tuple _)) rfl rfl) ?_
        refine ops_v (v_extract (v := (.agg _)) rfl rfl rfl) ?_
        refine ops_v (v_extract (v := (.bool _)) rfl rfl rfl) ?_
        refine ops_alloc H rfl tz42 ?_
        clear H; intro bn2 w H
        refine ops_store (vs := [_, _, _, _, _]) (v := (.agg _)) (cs' := [_, _, _, _, _]) 0 H rfl ts42 rfl rfl rfl rfl rfl rfl rfl rfl ?_
        clear H; intro w H
        refine ops_v (v_assign (v := (.bool _)) rfl rfl) ?_
        refine ops_nil ?_
        refine W_block ?_
        refine W_seq ?_
        refine W_region ?_
        refine ops_v (v_fieldAddr rfl fo98_2 rfl rfl) ?_
        refine ops_load (v := (.int _ _)) 1 H rfl tc3 rfl rfl rfl ?_
        refine ops_v (v_lss true rfl rfl rfl (decide_eq_true (by first | omega | (simp only; omega) | rfl | decide))) ?_
        refine ops_v (v_assign (v := (.bool _)) rfl rfl) ?_
        refine ops_nil ?_
        refine W_if_t rfl ?_
        refine W_seq ?_
        refine W_region ?_
        refine ops_v (v_assign (v := _) rfl rfl) ?_
        refine ops_nil ?_
        refine W_ret ?_
        refine ⟨_, (.tmp (v := (.int _ _)) rfl .nil), ?_⟩
        exact ⟨rfl, H.tail.tail.tail⟩
        -- ((pick.picker).count: ret; chunks n2,n1,n0,S,P; ptr 2=n0,3=n1,13=n0,15=n1,5=n2,21=n1)
      · obtain ⟨l, hv, H⟩ := H.openP 1 rfl
        cases hlk2 : look l ⟨id, k, q⟩ with
        | some u =>
          have hu := hv _ _ hlk2
          simp only [show (((st.links : Int) - (k : Int))).toNat = d + 1 by omega] at hu
          subst hu
          refine FnC_of Try.func85 rfl rfl rfl rfl ?_
          refine W_seq ?_
          refine W_region ?_
          refine ops_box (v := (.agg _)) (cs := [_, _, _, _]) H rfl rfl rfl ?_
          clear H; intro bn0 w H
          refine ops_box (v := (.agg _)) (cs := [_, _, _]) H rfl rfl rfl ?_
          clear H; intro bn1 w H
          refine ops_v (v_assign (v := _) rfl rfl) ?_
          refine ops_nil ?_
          refine W_seq ?_
          refine W_seq ?_
          refine W_region ?_
          refine ops_v (v_fieldAddr rfl fo96_0 rfl rfl) ?_
          refine ops_load (v := (.pointer _)) 1 H rfl tc27 rfl rfl rfl ?_
          refine ops_v (v_fieldAddr rfl fo98_0 rfl rfl) ?_
          refine ops_load (v := (.int _ _)) 0 H rfl tc3 rfl rfl rfl ?_
          refine ops_call rfl c31 (FnC.ro 2 rfl H (fun _ H' => (by have := Node_ok hg H'; rw [hV] at this; exact this))) ?_
          clear H; rintro _ w ⟨rfl, H⟩
          refine ops_v (v_move (v := (.tuple _)) rfl rfl) ?_
          refine ops_v (v_extract (v := (.agg _)) rfl rfl rfl) ?_
          refine ops_v (v_extract (v := (.bool _)) rfl rfl rfl) ?_
          refine ops_alloc H rfl tz42 ?_
          clear H; intro bn2 w H
          refine ops_store (vs := [_, _, _, _, _]) (v := (.agg _)) (cs' := [_, _, _, _, _]) 0 H rfl ts42 rfl rfl rfl rfl rfl rfl rfl rfl ?_
          clear H; intro w H
          refine ops_v (v_assign (v := (.bool _)) rfl rfl) ?_
          refine ops_nil ?_
          refine W_block ?_
          refine W_seq ?_
          refine W_region ?_
          refine ops_v (v_fieldAddr rfl fo98_2 rfl rfl) ?_
          refine ops_load (v := (.int _ _)) 1 H rfl tc3 rfl rfl rfl ?_
          refine ops_v (v_lss false rfl rfl rfl (decide_eq_false (by first | omega | (simp only; omega) | rfl | decide))) ?_
          refine ops_v (v_assign (v := (.bool _)) rfl rfl) ?_
          refine ops_nil ?_
          refine W_if_f rfl ?_
          refine W_seq ?_
          refine W_region ?_
          refine ops_v (v_fieldAddr rfl fo42_0 rfl rfl) ?_
          refine ops_load (v := (.bool _)) 0 H rfl tc4 rfl rfl rfl ?_
          refine ops_v (v_move (v := (.bool _)) rfl rfl) ?_
          refine ops_skip rfl rfl ?_
          refine ops_skip rfl rfl ?_
          refine ops_skip rfl rfl ?_
          refine ops_skip rfl rfl ?_
          refine ops_skip rfl rfl ?_
          refine ops_v (v_pick_f (v := (.bool _)) rfl rfl rfl) ?_
          refine ops_v (v_assign (v := (.bool _)) rfl rfl) ?_
          refine ops_nil ?_
          refine W_if_f rfl ?_
          refine W_seq ?_
          refine W_region ?_
          refine ops_v (v_fieldAddr rfl fo42_0 rfl rfl) ?_
          refine ops_load (v := (.bool _)) 0 H rfl tc4 rfl rfl rfl ?_
          refine ops_v (v_assign (v := (.bool _)) rfl rfl) ?_
          refine ops_nil ?_
          refine W_if_f rfl ?_
          refine W_skip ?_
          refine W_seq ?_
          refine W_seq ?_
          refine W_region ?_
          refine ops_v (v_fieldAddr rfl fo96_2 rfl rfl) ?_
          refine ops_load (v := (.map _)) 2 H rfl tc94 rfl rfl rfl ?_
          refine ops_loadA (vs := [_, _, _]) 1 H rfl ta98 rfl rfl rfl rfl ?_
          refine ops_lookup (k := (⟨id, k, q⟩ : K3)) 4 H keyP Try.underlying94 zeroInt rfl rfl rfl rfl hlk2 ?_
          refine ops_v (v_move (v := (.tuple _)) rfl rfl) ?_
          refine ops_v (v_extract (v := (.int _ _)) rfl rfl rfl) ?_
          refine ops_v (v_extract (v := (.bool _)) rfl rfl rfl) ?_
          refine ops_v (v_assign (v := (.int _ _)) rfl rfl) ?_
          refine ops_v (v_assign (v := (.bool _)) rfl rfl) ?_
          refine ops_nil ?_
          refine W_seq ?_
          refine W_region ?_
          refine ops_v (v_move (v := (.bool _)) rfl rfl) ?_
          refine ops_nil ?_
          refine W_if_t rfl ?_
          refine W_seq ?_
          refine W_region ?_
          refine ops_v (v_move (v := (.int _ _)) rfl rfl) ?_
          refine ops_v (v_assign (v := (.int _ _)) rfl rfl) ?_
          refine ops_nil ?_
          refine W_ret ?_
          refine ⟨_, (.tmp (v := (.int _ _)) rfl .nil), ?_⟩
          have H := H.mapAt 4 rfl (fun _ H => H.shutP hv)
          exact ⟨rfl, H.tail.tail.tail⟩
          -- ((pick.picker).count: ret; chunks n2,n1,n0,S,P; ptr 2=n0,3=n1,13=n0,15=n1,5=n2,21=n1,25=n2,35=n2,47=n0)
        | none =>
          have hk16 : (k : Int) < 16 := by omega
          have s0 := M.side_lnk hw hid hlk hk16 false
          have s1 := M.side_lnk hw hid hlk hk16 true
          have e1 : ((k : Int) + 1) = ((k + 1 : Nat) : Int) := by push_cast; rfl
          have b0 := M.pcN_range st v d (sideOf st id k false) ((k : Int) + 1) q
          have b1 := M.pcN_range st v d (sideOf st id k true) ((k : Int) + 1) (q - 1)
          have hpow : (2 : Int) ^ d ≤ 65536 := by
            have : (2 : Nat) ^ d ≤ 2 ^ 16 := Nat.pow_le_pow_right (by decide) (by omega)
            have e : ((2 ^ d : Nat) : Int) = (2 : Int) ^ d := by push_cast; rfl
            omega
          rw [if_neg c0] at hpc
          have ih0 : ∀ {wb w : World} {R : List Chunk}, Own wb (StoreC p st :: PickX r1 st v :: R) w → FnC Try.prog 85 [pickerV p v r1 r2, atV (sideOf st id k false) ((k : Int) + 1) q] w (fun u w' => u = int (pcN d st v (sideOf st id k false) ((k : Int) + 1) q) ∧ Own wb (StoreC p st :: PickX r1 st v :: R) w') := fun H => by
            rw [e1]; exact ih (by omega) s0.1 (by have := s0.2; omega) hq hq' H
          have ih1 : ∀ {wb w : World} {R : List Chunk}, Own wb (StoreC p st :: PickX r1 st v :: R) w → FnC Try.prog 85 [pickerV p v r1 r2, atV (sideOf st id k true) ((k : Int) + 1) (q - 1)] w (fun u w' => u = int (pcN d st v (sideOf st id k true) ((k : Int) + 1) (q - 1)) ∧ Own wb (StoreC p st :: PickX r1 st v :: R) w') := fun H => by
            rw [e1]; exact ih (by omega) s1.1 (by have := s1.2; omega) (by omega) (by omega) H
          refine FnC_of Try.func85 rfl rfl rfl rfl ?_
          refine W_seq ?_
          refine W_region ?_
          refine ops_box (v := (.agg _)) (cs := [_, _, _, _]) H rfl rfl rfl ?_
          clear H; intro bn0 w H
          refine ops_box (v := (.agg _)) (cs := [_, _, _]) H rfl rfl rfl ?_
          clear H; intro bn1 w H
          refine ops_v (v_assign (v := _) rfl rfl) ?_
          refine ops_nil ?_
          refine W_seq ?_
          refine W_seq ?_
          refine W_region ?_
          refine ops_v (v_fieldAddr rfl fo96_0 rfl rfl) ?_
          refine ops_load (v := (.pointer _)) 1 H rfl tc27 rfl rfl rfl ?_
          refine ops_v (v_fieldAddr rfl fo98_0 rfl rfl) ?_
          refine ops_load (v := (.int _ _)) 0 H rfl tc3 rfl rfl rfl ?_
          refine ops_call rfl c31 (FnC.ro 2 rfl H (fun _ H' => (by have := Node_ok hg H'; rw [hV] at this; exact this))) ?_
          clear H; rintro _ w ⟨rfl, H⟩
          refine ops_v (v_move (v := (.tuple _)) rfl rfl) ?_
          refine ops_v (v_extract (v := (.agg _)) rfl rfl rfl) ?_
          refine ops_v (v_extract (v := (.bool _)) rfl rfl rfl) ?_
          refine ops_alloc H rfl tz42 ?_
          clear H; intro bn2 w H
          refine ops_store (vs := [_, _, _, _, _]) (v := (.agg _)) (cs' := [_, _, _, _, _]) 0 H rfl ts42 rfl rfl rfl rfl rfl rfl rfl rfl ?_
          clear H; intro w H
          refine ops_v (v_assign (v := (.bool _)) rfl rfl) ?_
          refine ops_nil ?_
          refine W_block ?_
          refine W_seq ?_
          refine W_region ?_
          refine ops_v (v_fieldAddr rfl fo98_2 rfl rfl) ?_
          refine ops_load (v := (.int _ _)) 1 H rfl tc3 rfl rfl rfl ?_
          refine ops_v (v_lss false rfl rfl rfl (decide_eq_false (by first | omega | (simp only; omega) | rfl | decide))) ?_
          refine ops_v (v_assign (v := (.bool _)) rfl rfl) ?_
          refine ops_nil ?_
          refine W_if_f rfl ?_
          refine W_seq ?_
          refine W_region ?_
          refine ops_v (v_fieldAddr rfl fo42_0 rfl rfl) ?_
          refine ops_load (v := (.bool _)) 0 H rfl tc4 rfl rfl rfl ?_
          refine ops_v (v_move (v := (.bool _)) rfl rfl) ?_
          refine ops_skip rfl rfl ?_
          refine ops_skip rfl rfl ?_
          refine ops_skip rfl rfl ?_
          refine ops_skip rfl rfl ?_
          refine ops_skip rfl rfl ?_
          refine ops_v (v_pick_f (v := (.bool _)) rfl rfl rfl) ?_
          refine ops_v (v_assign (v := (.bool _)) rfl rfl) ?_
          refine ops_nil ?_
          refine W_if_f rfl ?_
          refine W_seq ?_
          refine W_region ?_
          refine ops_v (v_fieldAddr rfl fo42_0 rfl rfl) ?_
          refine ops_load (v := (.bool _)) 0 H rfl tc4 rfl rfl rfl ?_
          refine ops_v (v_assign (v := (.bool _)) rfl rfl) ?_
          refine ops_nil ?_
          refine W_if_f rfl ?_
          refine W_skip ?_
          refine W_seq ?_
          refine W_seq ?_
          refine W_region ?_
          refine ops_v (v_fieldAddr rfl fo96_2 rfl rfl) ?_
          refine ops_load (v := (.map _)) 2 H rfl tc94 rfl rfl rfl ?_
          refine ops_loadA (vs := [_, _, _]) 1 H rfl ta98 rfl rfl rfl rfl ?_
          refine ops_lookup (k := (⟨id, k, q⟩ : K3)) 4 H keyP Try.underlying94 zeroInt rfl rfl rfl rfl hlk2 ?_
          refine ops_v (v_move (v := (.tuple _)) rfl rfl) ?_
          refine ops_v (v_extract (v := (.int _ _)) rfl rfl rfl) ?_
          refine ops_v (v_extract (v := (.bool _)) rfl rfl rfl) ?_
          refine ops_v (v_assign (v := (.int _ _)) rfl rfl) ?_
          refine ops_v (v_assign (v := (.bool _)) rfl rfl) ?_
          refine ops_nil ?_
          refine W_seq ?_
          have H := H.mapAt 4 rfl (fun _ H => H.shutP hv)
          refine W_region ?_
          refine ops_v (v_move (v := (.bool _)) rfl rfl) ?_
          refine ops_nil ?_
          refine W_if_f rfl ?_
          refine W_skip ?_
          refine W_seq ?_
          refine W_region ?_
          refine ops_loadA (vs := [_, _, _, _]) 2 H rfl ta96 rfl rfl rfl rfl ?_
          refine ops_loadA (vs := [_, _, _]) 1 H rfl ta98 rfl rfl rfl rfl ?_
          refine ops_call rfl c101 (FnC.ro 3 rfl H (fun _ H => psides_ok hid (by omega) hk16 hq hq' H)) ?_
          clear H; rintro _ w ⟨rfl, H⟩
          refine ops_v (v_move (v := (.tuple _)) rfl rfl) ?_
          refine ops_v (v_extract (v := (.agg _)) rfl rfl rfl) ?_
          refine ops_v (v_extract (v := (.agg _)) rfl rfl rfl) ?_
          refine ops_alloc H rfl tz98 ?_
          clear H; intro bn3 w H
          refine ops_alloc H rfl tz98 ?_
          clear H; intro bn4 w H
          refine ops_store (vs := [_, _, _]) (v := (.agg _)) (cs' := [_, _, _]) 1 H rfl ts98 rfl rfl rfl rfl rfl rfl rfl rfl ?_
          clear H; intro w H
          refine ops_store (vs := [_, _, _]) (v := (.agg _)) (cs' := [_, _, _]) 0 H rfl ts98 rfl rfl rfl rfl rfl rfl rfl rfl ?_
          clear H; intro w H
          refine ops_nil ?_
          refine W_seq ?_
          refine W_draw (is := [4, 1, 0]) mixed H ?_
          clear H; intro w H
          refine any_take 0 rfl (by kernel_rfl) (by kernel_rfl) (by kernel_rfl) (v_loadA (vs := [_, _, _, _]) rfl ta96 (fun _ hS => hS.1 _ _ _ rfl) rfl rfl rfl) ?_
          refine any_take 1 rfl (by kernel_rfl) (by kernel_rfl) (by kernel_rfl) (v_loadA (vs := [_, _, _]) rfl ta98 (fun _ hS => hS.2.1 _ _ _ rfl) rfl rfl rfl) ?_
          refine any_take 3 rfl (by kernel_rfl) (by kernel_rfl) (by kernel_rfl) (v_loadA (vs := [_, _, _, _]) rfl ta96 (fun _ hS => hS.1 _ _ _ rfl) rfl rfl rfl) ?_
          refine any_take 4 rfl (by kernel_rfl) (by kernel_rfl) (by kernel_rfl) (v_loadA (vs := [_, _, _]) rfl ta98 (fun _ hS => hS.2.2.1 _ _ _ rfl) rfl rfl rfl) ?_
          refine any_one 2 rfl (by kernel_rfl) ?_
          refine ops_call rfl c85 (FnC.mid (A := [_, _, _, _, _]) (B := [_, _]) (B' := [_, _]) H (fun _ H => ih0 H)) ?_
          clear H; rintro _ w ⟨rfl, H⟩
          simp only [List.cons_append, List.nil_append] at H
          refine ops_nil ⟨H.stab [(4, 4), (1, 1), (0, 0)] ⟨rfl, rfl, rfl, trivial⟩, ?_⟩
          refine any_one 5 rfl (by kernel_rfl) ?_
          refine ops_call rfl c85 (FnC.mid (A := [_, _, _, _, _]) (B := [_, _]) (B' := [_, _]) H (fun _ H => ih1 H)) ?_
          clear H; rintro _ w ⟨rfl, H⟩
          simp only [List.cons_append, List.nil_append] at H
          refine ops_nil ⟨H.stab [(4, 4), (1, 1), (0, 0)] ⟨rfl, rfl, rfl, trivial⟩, ?_⟩
          refine any_take 6 rfl (by kernel_rfl) (by kernel_rfl) (by kernel_rfl) (v_add _ rfl rfl rfl (wrap_in (by omega) (by omega))) ?_
          refine any_take 7 rfl (by kernel_rfl) (by kernel_rfl) (by kernel_rfl) (v_assign (v := (.int _ _)) rfl rfl) ?_
          refine any_done (by kernel_rfl) ?_
          refine W_seq ?_
          obtain ⟨l', hv', H⟩ := H.openP 6 rfl
          refine W_region ?_
          refine ops_v (v_fieldAddr rfl fo96_2 rfl rfl) ?_
          refine ops_load (v := (.map _)) 4 H rfl tc94 rfl rfl rfl ?_
          refine ops_loadA (vs := [_, _, _]) 3 H rfl ta98 rfl rfl rfl rfl ?_
          refine ops_v (v_move (v := (.int _ _)) rfl rfl) ?_
          refine ops_mapUpdate (k := (⟨id, k, q⟩ : K3)) (v := int (pcN d st v (sideOf st id k false) ((k : Int) + 1) q + pcN d st v (sideOf st id k true) ((k : Int) + 1) (q - 1))) 6 H keyP Try.underlying94 rfl rfl rfl rfl rfl ?_
          clear H; intro w H
          refine ops_nil ?_
          refine W_seq ?_
          refine W_region ?_
          refine ops_v (v_move (v := (.int _ _)) rfl rfl) ?_
          refine ops_v (v_assign (v := (.int _ _)) rfl rfl) ?_
          refine ops_nil ?_
          refine W_ret ?_
          refine ⟨_, (.tmp (v := (.int _ _)) rfl .nil), ?_⟩
          have H := H.mapAt 6 rfl (fun _ H => H.shutP (hv'.put (k := ⟨id, k, q⟩) (by rw [← hpc]; simp only; rw [show (((st.links : Int) - (k : Int))).toNat = d + 1 by omega])))
          exact ⟨by rw [hpc]; rfl, H.tail.tail.tail.tail.tail⟩
          -- ((pick.picker).count: ret; chunks n4,n3,n2,n1,n0,S,P; ptr 2=n0,3=n1,13=n0,15=n1,5=n2,21=n1,25=n2,35=n2,47=n0,9=n3,10=n4)
theorem begun_ok {id most v : Int} (hid : isN st id = true) (H : Own wb (StoreC p st :: R) w) :
    FnC Try.prog 84 [ptr p, int id, int most, int v] w (fun u w' => ∃ r1 r2, u = .tuple [pickerV p v r1 r2, atV id 0 (minI most st.links), .bool true].toArray ∧ Own wb (StoreC p st :: PickX r1 st v :: R) w') := by
  refine FnC_of Try.func84 rfl rfl rfl rfl ?_
  refine W_seq ?_
  refine W_region ?_
  refine ops_alloc H rfl tz96 ?_
  clear H; intro bn0 w H
  refine ops_alloc H rfl tz98 ?_
  clear H; intro bn1 w H
  refine ops_v (v_assign (v := _) rfl rfl) ?_
  refine ops_nil ?_
  refine W_seq ?_
  refine W_region ?_
  refine ops_v (v_move (v := (.pointer _)) rfl rfl) ?_
  refine ops_v (v_move (v := (.int _ _)) rfl rfl) ?_
  refine ops_call rfl c31 (FnC.ro 2 rfl H (fun _ H => NodeIs hid H)) ?_
  clear H; rintro _ w ⟨rfl, H⟩
  refine ops_v (v_move (v := (.tuple _)) rfl rfl) ?_
  refine ops_v (v_extract (v := (.agg _)) rfl rfl rfl) ?_
  refine ops_v (v_extract (v := (.bool _)) rfl rfl rfl) ?_
  refine ops_alloc H rfl tz42 ?_
  clear H; intro bn2 w H
  refine ops_store (vs := [_, _, _, _, _]) (v := (.agg _)) (cs' := [_, _, _, _, _]) 0 H rfl ts42 rfl rfl rfl rfl rfl rfl rfl rfl ?_
  clear H; intro w H
  refine ops_v (v_assign (v := (.bool _)) rfl rfl) ?_
  refine ops_nil ?_
  refine W_seq ?_
  refine W_region ?_
  refine ops_v (v_move (v := (.pointer _)) rfl rfl) ?_
  refine ops_v (v_move (v := (.int _ _)) rfl rfl) ?_
  refine ops_makeMap H encK3 rfl ?_
  clear H; intro m1 w H
  refine ops_makeMap H encK3 rfl ?_
  clear H; intro m2 w H
  refine ops_v (v_build (cs := [(.pointer _), (.int _ _), (.map _), (.map _)]) rfl bp96 rfl) ?_
  refine ops_v (v_move (v := (.int _ _)) rfl rfl) ?_
  refine ops_v (v_move (v := (.int _ _)) rfl rfl) ?_
  refine ops_v (v_move (v := (.pointer _)) rfl rfl) ?_
  refine ops_call rfl c28 (FnC.ro 5 rfl H (fun _ => Links_ok)) ?_
  clear H; rintro _ w ⟨rfl, H⟩
  refine ops_v (v_min (c := minI most st.links) rfl rfl rfl rfl) ?_
  refine ops_v (v_build (cs := [(.int _ _), (.int _ _), (.int _ _)]) rfl bp98 rfl) ?_
  refine ops_v (v_move (v := (.bool _)) rfl rfl) ?_
  refine ops_store (vs := [_, _, _, _]) (v := (.agg _)) (cs' := [_, _, _, _]) 4 H rfl ts96 rfl rfl rfl rfl rfl rfl rfl rfl ?_
  clear H; intro w H
  refine ops_store (vs := [_, _, _]) (v := (.agg _)) (cs' := [_, _, _]) 3 H rfl ts98 rfl rfl rfl rfl rfl rfl rfl rfl ?_
  clear H; intro w H
  refine ops_v (v_assign (v := (.bool _)) rfl rfl) ?_
  refine ops_nil ?_
  refine W_ret ?_
  refine ⟨_, (.cell rfl (run_loadA (vs := [_, _, _, _]) ta96 (H.blk 4 rfl) rfl rfl) (.cell rfl (run_loadA (vs := [_, _, _]) ta98 (H.blk 3 rfl) rfl rfl) (.tmp (v := (.bool _)) rfl .nil))), ?_⟩
  exact ⟨m1, m2, rfl, Own.swapX (Own.shutP (Own.tail3 H.tail) (fun _ _ h => by simp [look_nil] at h))⟩
  -- (pick.begun: ret; chunks m2,m1,n2,n1,n0,S; ptr 8=n0,9=n1,11=n2)
theorem PCount_ok (hw : Wf st) {id most v : Int} (hid : isN st id = true) (hm : -2 ≤ most) (H : Own wb (StoreC p st :: R) w) :
    FnC Try.prog 64 [ptr p, int id, int most, int v] w (fun u w' => u = int (pcN st.links st v id 0 (minI most st.links)) ∧ Own wb (StoreC p st :: R) w') := by
  have hl := hw.links
  have hmin : -2 ≤ minI most st.links ∧ minI most st.links ≤ 16 := by unfold minI; split <;> omega
  have hc : ∀ {wb w : World} {R : List Chunk} {r1 r2 : Nat}, Own wb (StoreC p st :: PickX r1 st v :: R) w → FnC Try.prog 85 [pickerV p v r1 r2, atV id 0 (minI most st.links)] w (fun u w' => u = int (pcN st.links st v id 0 (minI most st.links)) ∧ Own wb (StoreC p st :: PickX r1 st v :: R) w') := fun H =>
    pcount_ok hw st.links (k := 0) (by omega) hid (M.lnk_range hw hid).1 hmin.1 hmin.2 H
  refine FnC_of Try.func64 rfl rfl rfl rfl ?_
  refine W_seq ?_
  refine W_region ?_
  refine ops_v (v_assign (v := _) rfl rfl) ?_
  refine ops_nil ?_
  refine W_seq ?_
  refine W_region ?_
  refine ops_v (v_move (v := (.pointer _)) rfl rfl) ?_
  refine ops_v (v_move (v := (.int _ _)) rfl rfl) ?_
  refine ops_v (v_move (v := (.int _ _)) rfl rfl) ?_
  refine ops_v (v_move (v := (.int _ _)) rfl rfl) ?_
  refine ops_call rfl c84 (begun_ok hid H) ?_
  clear H; rintro _ w ⟨r1, r2, rfl, H⟩
  refine ops_v (v_move (v := (.tuple _)) rfl rfl) ?_
  refine ops_v (v_extract (v := (.agg _)) rfl rfl rfl) ?_
  refine ops_v (v_extract (v := (.agg _)) rfl rfl rfl) ?_
  refine ops_v (v_extract (v := (.bool _)) rfl rfl rfl) ?_
  refine ops_alloc H rfl tz96 ?_
  clear H; intro bn0 w H
  refine ops_alloc H rfl tz98 ?_
  clear H; intro bn1 w H
  refine ops_store (vs := [_, _, _, _]) (v := (.agg _)) (cs' := [_, _, _, _]) 1 H rfl ts96 rfl rfl rfl rfl rfl rfl rfl rfl ?_
  clear H; intro w H
  refine ops_store (vs := [_, _, _]) (v := (.agg _)) (cs' := [_, _, _]) 0 H rfl ts98 rfl rfl rfl rfl rfl rfl rfl rfl ?_
  clear H; intro w H
  refine ops_v (v_assign (v := (.bool _)) rfl rfl) ?_
  refine ops_nil ?_
  refine W_seq ?_
  refine W_seq ?_
  refine W_region ?_
  refine ops_v (v_move (v := (.bool _)) rfl rfl) ?_
  refine ops_v (v_not rfl rfl _ rfl) ?_
  refine ops_nil ?_
  refine W_if_f rfl ?_
  refine W_skip ?_
  refine W_seq ?_
  refine W_region ?_
  refine ops_loadA (vs := [_, _, _, _]) 1 H rfl ta96 rfl rfl rfl rfl ?_
  refine ops_loadA (vs := [_, _, _]) 0 H rfl ta98 rfl rfl rfl rfl ?_
  refine ops_call rfl c85 (FnC.mid (A := [_, _]) (B := [_, _]) (B' := [_, _]) H (fun _ H => hc H)) ?_
  clear H; rintro _ w ⟨rfl, H⟩
  simp only [List.cons_append, List.nil_append] at H
  refine ops_v (v_assign (v := (.int _ _)) rfl rfl) ?_
  refine ops_nil ?_
  refine W_ret ?_
  refine ⟨_, (.tmp (v := (.int _ _)) rfl .nil), ?_⟩
  exact ⟨rfl, (Own.swapX H.tail.tail).tail⟩
  -- (pick.Count: ret; chunks n1,n0,S,P; ptr 9=n0,10=n1)
end
end Go.Proofs.Ytchikjmhncojfaa.W
