/- NodeSides of layer 13: what Make makes tells, by its link, what one of both sides tells. Conditions: none. -/
import Derived.Test.YtchikjmhncojfaaMade
import Derived.Test.YtchikjmhncojfaaSidesM
import Derived.Test.YtchikjmhncojfaaHead
import Derived.ProofKit
import Derived.OpenShut
set_option linter.unusedVariables false
namespace Go.Proofs.Ytchikjmhncojfaa.nodeSides
open Go Go.Proofs Go.RowKit Go.ChangeShapes Go.WideShapes Go.ChangeAt Go.Proofs.Ytchikjmhncojfaa.W
open Go.Proofs.Ytchikjmhncojfaa.M (Br St get getZ isN idx has down Wf rank i64 leafB askB R4 MadeOk)
variable {w wb : World} {R : List Chunk}
theorem under_off {s : St} (hw : Wf s) {a : Int} {b : Br} (hb : get s a = some b) : M.under s 0 a = false ↔ b.leaf = false ∧ b.link = 0 := by
  rw [M.under_eq hb, Bool.or_eq_false_iff, decide_eq_false_iff_not]
  constructor
  · rintro ⟨h1, h2⟩
    exact ⟨h1, by have := (hw.ask hb h1).2.1; omega⟩
  · rintro ⟨h1, h2⟩
    exact ⟨h1, by omega⟩
set_option maxHeartbeats 2000000 in
theorem law_ok (H : Own wb R w) (links one two f : Int) (i1 : i64 links) (i2 : i64 one) (i3 : i64 two) (i4 : i64 f) (v : Value) (l : List R4) (hr : RawIs wb v l) :
    FnC Try.prog 8 [int links, v, int one, int two, int f] w (fun u w' => u = .bool true ∧ ∃ R', Own wb R' w') := by
  have lo := M.pick_lo (c := links) (n := 6) (by decide)
  have hi := M.pick_hi (c := links) (n := 6) (by decide)
  have flo := M.pick_lo (c := f) (n := 64) (by decide)
  have fhi := M.pick_hi (c := f) (n := 64) (by decide)
  obtain ⟨rp, rcap, hv, _⟩ := id hr
  subst hv
  refine FnC_of Try.func8 rfl rfl rfl rfl ?_
  refine W_seq ?_
  refine W_region ?_
  refine ops_v (v_assign (v := _) rfl rfl) ?_
  refine ops_nil ?_
  refine W_seq ?_
  refine W_region ?_
  refine ops_call rfl c24 (awake13_ok H) ?_
  clear H; rintro _ w ⟨rfl, H⟩
  refine ops_v (v_assign (v := (.bool _)) rfl rfl) ?_
  refine ops_nil ?_
  refine W_seq ?_
  refine W_region ?_
  refine ops_v (v_move (v := (.int _ _)) rfl rfl) ?_
  refine ops_call rfl c25 (pick13_ok H links 6 i1 (by decide)) ?_
  clear H; rintro _ w ⟨rfl, H⟩
  refine ops_v (v_add _ rfl rfl rfl (wrap_in (by omega) (by omega))) ?_
  refine ops_v (v_assign (v := (.int _ _)) rfl rfl) ?_
  refine ops_nil ?_
  refine W_seq ?_
  refine W_region ?_
  refine ops_v (v_move (v := (.int _ _)) rfl rfl) ?_
  refine ops_v (v_move (v := (.slice _ _ _)) rfl rfl) ?_
  refine ops_call rfl c37 (Made_ok H _ (by omega) (by omega) _ l hr) ?_
  clear H; rintro _ w ⟨p, st, q, cap, ids, rfl, hm, H⟩
  refine ops_v (v_move (v := (.tuple _)) rfl rfl) ?_
  refine ops_v (v_extract (v := (.pointer _)) rfl rfl rfl) ?_
  refine ops_v (v_extract (v := (.slice _ _ _)) rfl rfl rfl) ?_
  refine ops_v (v_assign (v := (.pointer _)) rfl rfl) ?_
  refine ops_v (v_assign (v := (.slice _ _ _)) rfl rfl) ?_
  refine ops_nil ?_
  refine W_seq ?_
  refine W_seq ?_
  -- (backstaylaw13.NodeSides: until; chunks s,S; ptr )
  rcases Nat.eq_zero_or_pos ids.length with h0 | h0
  · have h0' : (ids.length : Int) = 0 := by omega
    refine W_region ?_
    refine ops_v (v_move (v := (.slice _ _ _)) rfl rfl) ?_
    refine ops_v (v_len rfl sl40 rfl) ?_
    refine ops_v (v_eql true rfl rfl rfl (decide_eq_true (by first | omega | (simp only; omega) | rfl | decide))) ?_
    refine ops_nil ?_
    refine W_if_t rfl ?_
    refine W_seq ?_
    refine W_region ?_
    refine ops_v (v_move (v := (.bool _)) rfl rfl) ?_
    refine ops_v (v_assign (v := (.bool _)) rfl rfl) ?_
    refine ops_nil ?_
    refine W_ret ?_
    refine ⟨_, (.tmp (v := (.bool _)) rfl .nil), ?_⟩
    exact ⟨rfl, _, H⟩
    -- (backstaylaw13.NodeSides: ret; chunks s,S; ptr )
  · have h0' : (0 : Int) < (ids.length : Int) := by omega
    have h0'' : ¬ ((ids.length : Int) = 0) := by omega
    obtain ⟨g, rfl⟩ := H.slSome 0 rfl h0
    have getI : ∀ c : Int, ∃ a, ids[(M.pick c ids.length).toNat]? = some a := fun c => ⟨ids[(M.pick c ids.length).toNat]'(by have := M.pick_hi (c := c) h0'; have := M.pick_lo (c := c) h0'; omega), by simp⟩
    obtain ⟨a, ha⟩ := getI one
    obtain ⟨b, hb⟩ := getI two
    have ia := hm.nodes a (List.mem_of_getElem? ha)
    have ib := hm.nodes b (List.mem_of_getElem? hb)
    have ha' : (ints ids)[0 + (M.pick one ids.length).toNat * 1]? = some (.int .i64 a) := by rw [Nat.zero_add, Nat.mul_one]; simp [ints, ha]
    have hb' : (ints ids)[0 + (M.pick two ids.length).toNat * 1]? = some (.int .i64 b) := by rw [Nat.zero_add, Nat.mul_one]; simp [ints, hb]
    have c1 := M.pick_lo (c := one) h0'
    have c2 := M.pick_hi (c := one) h0'
    have d1 := M.pick_lo (c := two) h0'
    have d2 := M.pick_hi (c := two) h0'
    have hw := hm.wf
    have hmm := hw.most
    have hl1 := hm.links
    have hl2 := hm.most
    have hl3 := hm.few
    generalize hX : M.pick f 64 = X at flo fhi
    obtain ⟨x, hx⟩ := Option.isSome_iff_exists.1 ia
    obtain ⟨y, hy⟩ := Option.isSome_iff_exists.1 ib
    refine W_region ?_
    refine ops_v (v_move (v := (.slice _ _ _)) rfl rfl) ?_
    refine ops_v (v_len rfl sl40 rfl) ?_
    refine ops_v (v_eql false rfl rfl rfl (decide_eq_false (by first | omega | (simp only; omega) | rfl | decide))) ?_
    refine ops_nil ?_
    refine W_if_f rfl ?_
    refine W_skip ?_
    refine W_seq ?_
    refine W_region ?_
    refine ops_v (v_move (v := (.slice _ _ _)) rfl rfl) ?_
    refine ops_v (v_move (v := (.int _ _)) rfl rfl) ?_
    refine ops_v (v_move (v := (.slice _ _ _)) rfl rfl) ?_
    refine ops_v (v_len rfl sl40 rfl) ?_
    refine ops_call rfl c25 (pick13_ok H one ids.length i2 h0') ?_
    clear H; rintro _ w ⟨rfl, H⟩
    refine ops_v (v_indexAddr_sl rfl se40 rfl rfl (by omega) (by omega)) ?_
    refine ops_loadSl (v := .int .i64 a) 0 H rfl tc3 rfl rfl ha' ?_
    refine ops_v (v_assign (v := (.int _ _)) rfl rfl) ?_
    refine ops_nil ?_
    refine W_seq ?_
    refine W_region ?_
    refine ops_v (v_move (v := (.slice _ _ _)) rfl rfl) ?_
    refine ops_v (v_move (v := (.int _ _)) rfl rfl) ?_
    refine ops_v (v_move (v := (.slice _ _ _)) rfl rfl) ?_
    refine ops_v (v_len rfl sl40 rfl) ?_
    refine ops_call rfl c25 (pick13_ok H two ids.length i3 h0') ?_
    clear H; rintro _ w ⟨rfl, H⟩
    refine ops_v (v_indexAddr_sl rfl se40 rfl rfl (by omega) (by omega)) ?_
    refine ops_loadSl (v := .int .i64 b) 0 H rfl tc3 rfl rfl hb' ?_
    refine ops_v (v_assign (v := (.int _ _)) rfl rfl) ?_
    refine ops_nil ?_
    refine W_seq ?_
    refine W_region ?_
    refine ops_v (v_move (v := (.int _ _)) rfl rfl) ?_
    refine ops_call rfl c25 (pick13_ok H f 64 i4 (by decide)) ?_
    clear H; rintro _ w ⟨rfl, H⟩
    rw [hX]
    refine ops_v (v_assign (v := (.int _ _)) rfl rfl) ?_
    refine ops_nil ?_
    refine W_seq ?_
    -- (backstaylaw13.NodeSides: until; chunks s,S; ptr )
    have ua := under_off hw hx
    have ub := under_off hw hy
    cases hok : M.makeOk st 0 a b with
    | false =>
      have hmk := M.make_bad hok
      have hdis : (x.leaf = false ∧ x.link = 0) ∨ (y.leaf = false ∧ y.link = 0) := by
        rw [← ua, ← ub]
        have h1 : decide ((0 : Int) < st.links) = true := decide_eq_true (by omega)
        simp only [M.makeOk, h1, Int.le_refl, decide_true, Bool.true_and, Bool.and_eq_false_iff] at hok
        exact hok
      rcases x with ⟨xb, xv, xl, xs, xf⟩
      rcases y with ⟨yb, yv, yl, ys, yf⟩
      simp only at hdis
      by_cases hxx : xb = false ∧ xl = 0
      · obtain ⟨rfl, hx0⟩ := hxx
        refine W_region ?_
        refine ops_v (v_move (v := (.pointer _)) rfl rfl) ?_
        refine ops_v (v_move (v := (.int _ _)) rfl rfl) ?_
        refine ops_v (v_move (v := (.int _ _)) rfl rfl) ?_
        refine ops_call rfl c39 (FnC.at 1 rfl H (fun _ H => Make_ok hmm hmk H)) ?_
        clear H; rintro _ w ⟨rfl, H⟩
        refine ops_v (v_move (v := (.tuple _)) rfl rfl) ?_
        refine ops_v (v_extract (v := (.int _ _)) rfl rfl rfl) ?_
        refine ops_v (v_extract (v := (.int _ _)) rfl rfl rfl) ?_
        refine ops_v (v_assign (v := (.int _ _)) rfl rfl) ?_
        refine ops_v (v_assign (v := (.int _ _)) rfl rfl) ?_
        refine ops_nil ?_
        refine W_seq ?_
        refine W_region ?_
        refine ops_v (v_move (v := (.pointer _)) rfl rfl) ?_
        refine ops_v (v_move (v := (.int _ _)) rfl rfl) ?_
        refine ops_call rfl c31 (FnC.ro 1 rfl H (fun _ => Node_ok hx)) ?_
        clear H; rintro _ w ⟨rfl, H⟩
        refine ops_v (v_move (v := (.tuple _)) rfl rfl) ?_
        refine ops_v (v_extract (v := (.agg _)) rfl rfl rfl) ?_
        refine ops_v (v_extract (v := (.bool _)) rfl rfl rfl) ?_
        refine ops_alloc H rfl tz42 ?_
        clear H; intro bn0 w H
        refine ops_store (vs := [_, _, _, _, _]) (v := (.agg _)) (cs' := [_, _, _, _, _]) 0 H rfl ts42 rfl rfl rfl rfl rfl rfl rfl rfl ?_
        clear H; intro w H
        refine ops_v (v_assign (v := (.bool _)) rfl rfl) ?_
        refine ops_nil ?_
        refine W_seq ?_
        refine W_region ?_
        refine ops_v (v_move (v := (.pointer _)) rfl rfl) ?_
        refine ops_v (v_move (v := (.int _ _)) rfl rfl) ?_
        refine ops_call rfl c31 (FnC.ro 2 rfl H (fun _ => Node_ok hy)) ?_
        clear H; rintro _ w ⟨rfl, H⟩
        refine ops_v (v_move (v := (.tuple _)) rfl rfl) ?_
        refine ops_v (v_extract (v := (.agg _)) rfl rfl rfl) ?_
        refine ops_v (v_extract (v := (.bool _)) rfl rfl rfl) ?_
        refine ops_alloc H rfl tz42 ?_
        clear H; intro bn1 w H
        refine ops_store (vs := [_, _, _, _, _]) (v := (.agg _)) (cs' := [_, _, _, _, _]) 0 H rfl ts42 rfl rfl rfl rfl rfl rfl rfl rfl ?_
        clear H; intro w H
        refine ops_v (v_assign (v := (.bool _)) rfl rfl) ?_
        refine ops_nil ?_
        refine W_seq ?_
        refine W_seq ?_
        refine W_region ?_
        refine ops_v (v_fieldAddr rfl fo42_0 rfl rfl) ?_
        refine ops_load (v := (.bool _)) 1 H rfl tc4 rfl rfl rfl ?_
        refine ops_v (v_not rfl rfl _ rfl) ?_
        refine ops_v (v_move (v := (.bool _)) rfl rfl) ?_
        refine ops_v (v_fieldAddr rfl fo42_2 rfl rfl) ?_
        refine ops_load (v := (.int _ _)) 1 H rfl tc3 rfl rfl rfl ?_
        refine ops_v (v_eql true rfl rfl rfl (decide_eq_true (by first | omega | (simp only; omega) | rfl | decide))) ?_
        refine ops_v (v_pick_t (v := (.bool _)) rfl rfl rfl) ?_
        refine ops_v (v_move (v := (.bool _)) rfl rfl) ?_
        refine ops_skip rfl rfl ?_
        refine ops_skip rfl rfl ?_
        refine ops_skip rfl rfl ?_
        refine ops_skip rfl rfl ?_
        refine ops_skip rfl rfl ?_
        refine ops_skip rfl rfl ?_
        refine ops_skip rfl rfl ?_
        refine ops_skip rfl rfl ?_
        refine ops_v (v_pick_t (v := (.bool _)) rfl rfl rfl) ?_
        refine ops_nil ?_
        refine W_if_t rfl ?_
        refine W_seq ?_
        refine W_region ?_
        refine ops_v (v_move (v := (.bool _)) rfl rfl) ?_
        refine ops_v (v_move (v := (.bool _)) rfl rfl) ?_
        refine ops_v (v_move (v := (.int _ _)) rfl rfl) ?_
        refine ops_v (v_eql _ rfl rfl rfl rfl) ?_
        refine ops_v (v_pick_t (v := (.bool _)) rfl rfl rfl) ?_
        refine ops_v (v_assign (v := (.bool _)) rfl rfl) ?_
        refine ops_nil ?_
        refine W_ret ?_
        refine ⟨_, (.tmp (v := (.bool _)) rfl .nil), ?_⟩
        exact ⟨rfl, _, H⟩
        -- (backstaylaw13.NodeSides: ret; chunks n1,n0,s,S; ptr 20=n0,22=n1)
      · obtain ⟨rfl, hy0⟩ := hdis.resolve_left hxx
        cases xb with
        | true =>
          refine W_region ?_
          refine ops_v (v_move (v := (.pointer _)) rfl rfl) ?_
          refine ops_v (v_move (v := (.int _ _)) rfl rfl) ?_
          refine ops_v (v_move (v := (.int _ _)) rfl rfl) ?_
          refine ops_call rfl c39 (FnC.at 1 rfl H (fun _ H => Make_ok hmm hmk H)) ?_
          clear H; rintro _ w ⟨rfl, H⟩
          refine ops_v (v_move (v := (.tuple _)) rfl rfl) ?_
          refine ops_v (v_extract (v := (.int _ _)) rfl rfl rfl) ?_
          refine ops_v (v_extract (v := (.int _ _)) rfl rfl rfl) ?_
          refine ops_v (v_assign (v := (.int _ _)) rfl rfl) ?_
          refine ops_v (v_assign (v := (.int _ _)) rfl rfl) ?_
          refine ops_nil ?_
          refine W_seq ?_
          refine W_region ?_
          refine ops_v (v_move (v := (.pointer _)) rfl rfl) ?_
          refine ops_v (v_move (v := (.int _ _)) rfl rfl) ?_
          refine ops_call rfl c31 (FnC.ro 1 rfl H (fun _ => Node_ok hx)) ?_
          clear H; rintro _ w ⟨rfl, H⟩
          refine ops_v (v_move (v := (.tuple _)) rfl rfl) ?_
          refine ops_v (v_extract (v := (.agg _)) rfl rfl rfl) ?_
          refine ops_v (v_extract (v := (.bool _)) rfl rfl rfl) ?_
          refine ops_alloc H rfl tz42 ?_
          clear H; intro bn0 w H
          refine ops_store (vs := [_, _, _, _, _]) (v := (.agg _)) (cs' := [_, _, _, _, _]) 0 H rfl ts42 rfl rfl rfl rfl rfl rfl rfl rfl ?_
          clear H; intro w H
          refine ops_v (v_assign (v := (.bool _)) rfl rfl) ?_
          refine ops_nil ?_
          refine W_seq ?_
          refine W_region ?_
          refine ops_v (v_move (v := (.pointer _)) rfl rfl) ?_
          refine ops_v (v_move (v := (.int _ _)) rfl rfl) ?_
          refine ops_call rfl c31 (FnC.ro 2 rfl H (fun _ => Node_ok hy)) ?_
          clear H; rintro _ w ⟨rfl, H⟩
          refine ops_v (v_move (v := (.tuple _)) rfl rfl) ?_
          refine ops_v (v_extract (v := (.agg _)) rfl rfl rfl) ?_
          refine ops_v (v_extract (v := (.bool _)) rfl rfl rfl) ?_
          refine ops_alloc H rfl tz42 ?_
          clear H; intro bn1 w H
          refine ops_store (vs := [_, _, _, _, _]) (v := (.agg _)) (cs' := [_, _, _, _, _]) 0 H rfl ts42 rfl rfl rfl rfl rfl rfl rfl rfl ?_
          clear H; intro w H
          refine ops_v (v_assign (v := (.bool _)) rfl rfl) ?_
          refine ops_nil ?_
          refine W_seq ?_
          refine W_seq ?_
          refine W_region ?_
          refine ops_v (v_fieldAddr rfl fo42_0 rfl rfl) ?_
          refine ops_load (v := (.bool _)) 1 H rfl tc4 rfl rfl rfl ?_
          refine ops_v (v_not rfl rfl _ rfl) ?_
          refine ops_v (v_move (v := (.bool _)) rfl rfl) ?_
          refine ops_skip rfl rfl ?_
          refine ops_skip rfl rfl ?_
          refine ops_skip rfl rfl ?_
          refine ops_v (v_pick_f (v := (.bool _)) rfl rfl rfl) ?_
          refine ops_v (v_move (v := (.bool _)) rfl rfl) ?_
          refine ops_v (v_fieldAddr rfl fo42_0 rfl rfl) ?_
          refine ops_load (v := (.bool _)) 0 H rfl tc4 rfl rfl rfl ?_
          refine ops_v (v_not rfl rfl _ rfl) ?_
          refine ops_v (v_move (v := (.bool _)) rfl rfl) ?_
          refine ops_v (v_fieldAddr rfl fo42_2 rfl rfl) ?_
          refine ops_load (v := (.int _ _)) 0 H rfl tc3 rfl rfl rfl ?_
          refine ops_v (v_eql true rfl rfl rfl (decide_eq_true (by first | omega | (simp only; omega) | rfl | decide))) ?_
          refine ops_v (v_pick_t (v := (.bool _)) rfl rfl rfl) ?_
          refine ops_v (v_pick_f (v := (.bool _)) rfl rfl rfl) ?_
          refine ops_nil ?_
          refine W_if_t rfl ?_
          refine W_seq ?_
          refine W_region ?_
          refine ops_v (v_move (v := (.bool _)) rfl rfl) ?_
          refine ops_v (v_move (v := (.bool _)) rfl rfl) ?_
          refine ops_v (v_move (v := (.int _ _)) rfl rfl) ?_
          refine ops_v (v_eql _ rfl rfl rfl rfl) ?_
          refine ops_v (v_pick_t (v := (.bool _)) rfl rfl rfl) ?_
          refine ops_v (v_assign (v := (.bool _)) rfl rfl) ?_
          refine ops_nil ?_
          refine W_ret ?_
          refine ⟨_, (.tmp (v := (.bool _)) rfl .nil), ?_⟩
          exact ⟨rfl, _, H⟩
          -- (backstaylaw13.NodeSides: ret; chunks n1,n0,s,S; ptr 20=n0,22=n1)
        | false =>
          have hx0 : ¬ xl = 0 := fun h => hxx ⟨rfl, h⟩
          refine W_region ?_
          refine ops_v (v_move (v := (.pointer _)) rfl rfl) ?_
          refine ops_v (v_move (v := (.int _ _)) rfl rfl) ?_
          refine ops_v (v_move (v := (.int _ _)) rfl rfl) ?_
          refine ops_call rfl c39 (FnC.at 1 rfl H (fun _ H => Make_ok hmm hmk H)) ?_
          clear H; rintro _ w ⟨rfl, H⟩
          refine ops_v (v_move (v := (.tuple _)) rfl rfl) ?_
          refine ops_v (v_extract (v := (.int _ _)) rfl rfl rfl) ?_
          refine ops_v (v_extract (v := (.int _ _)) rfl rfl rfl) ?_
          refine ops_v (v_assign (v := (.int _ _)) rfl rfl) ?_
          refine ops_v (v_assign (v := (.int _ _)) rfl rfl) ?_
          refine ops_nil ?_
          refine W_seq ?_
          refine W_region ?_
          refine ops_v (v_move (v := (.pointer _)) rfl rfl) ?_
          refine ops_v (v_move (v := (.int _ _)) rfl rfl) ?_
          refine ops_call rfl c31 (FnC.ro 1 rfl H (fun _ => Node_ok hx)) ?_
          clear H; rintro _ w ⟨rfl, H⟩
          refine ops_v (v_move (v := (.tuple _)) rfl rfl) ?_
          refine ops_v (v_extract (v := (.agg _)) rfl rfl rfl) ?_
          refine ops_v (v_extract (v := (.bool _)) rfl rfl rfl) ?_
          refine ops_alloc H rfl tz42 ?_
          clear H; intro bn0 w H
          refine ops_store (vs := [_, _, _, _, _]) (v := (.agg _)) (cs' := [_, _, _, _, _]) 0 H rfl ts42 rfl rfl rfl rfl rfl rfl rfl rfl ?_
          clear H; intro w H
          refine ops_v (v_assign (v := (.bool _)) rfl rfl) ?_
          refine ops_nil ?_
          refine W_seq ?_
          refine W_region ?_
          refine ops_v (v_move (v := (.pointer _)) rfl rfl) ?_
          refine ops_v (v_move (v := (.int _ _)) rfl rfl) ?_
          refine ops_call rfl c31 (FnC.ro 2 rfl H (fun _ => Node_ok hy)) ?_
          clear H; rintro _ w ⟨rfl, H⟩
          refine ops_v (v_move (v := (.tuple _)) rfl rfl) ?_
          refine ops_v (v_extract (v := (.agg _)) rfl rfl rfl) ?_
          refine ops_v (v_extract (v := (.bool _)) rfl rfl rfl) ?_
          refine ops_alloc H rfl tz42 ?_
          clear H; intro bn1 w H
          refine ops_store (vs := [_, _, _, _, _]) (v := (.agg _)) (cs' := [_, _, _, _, _]) 0 H rfl ts42 rfl rfl rfl rfl rfl rfl rfl rfl ?_
          clear H; intro w H
          refine ops_v (v_assign (v := (.bool _)) rfl rfl) ?_
          refine ops_nil ?_
          refine W_seq ?_
          refine W_seq ?_
          refine W_region ?_
          refine ops_v (v_fieldAddr rfl fo42_0 rfl rfl) ?_
          refine ops_load (v := (.bool _)) 1 H rfl tc4 rfl rfl rfl ?_
          refine ops_v (v_not rfl rfl _ rfl) ?_
          refine ops_v (v_move (v := (.bool _)) rfl rfl) ?_
          refine ops_v (v_fieldAddr rfl fo42_2 rfl rfl) ?_
          refine ops_load (v := (.int _ _)) 1 H rfl tc3 rfl rfl rfl ?_
          refine ops_v (v_eql false rfl rfl rfl (decide_eq_false (by first | omega | (simp only; omega) | rfl | decide))) ?_
          refine ops_v (v_pick_t (v := (.bool _)) rfl rfl rfl) ?_
          refine ops_v (v_move (v := (.bool _)) rfl rfl) ?_
          refine ops_v (v_fieldAddr rfl fo42_0 rfl rfl) ?_
          refine ops_load (v := (.bool _)) 0 H rfl tc4 rfl rfl rfl ?_
          refine ops_v (v_not rfl rfl _ rfl) ?_
          refine ops_v (v_move (v := (.bool _)) rfl rfl) ?_
          refine ops_v (v_fieldAddr rfl fo42_2 rfl rfl) ?_
          refine ops_load (v := (.int _ _)) 0 H rfl tc3 rfl rfl rfl ?_
          refine ops_v (v_eql true rfl rfl rfl (decide_eq_true (by first | omega | (simp only; omega) | rfl | decide))) ?_
          refine ops_v (v_pick_t (v := (.bool _)) rfl rfl rfl) ?_
          refine ops_v (v_pick_f (v := (.bool _)) rfl rfl rfl) ?_
          refine ops_nil ?_
          refine W_if_t rfl ?_
          refine W_seq ?_
          refine W_region ?_
          refine ops_v (v_move (v := (.bool _)) rfl rfl) ?_
          refine ops_v (v_move (v := (.bool _)) rfl rfl) ?_
          refine ops_v (v_move (v := (.int _ _)) rfl rfl) ?_
          refine ops_v (v_eql _ rfl rfl rfl rfl) ?_
          refine ops_v (v_pick_t (v := (.bool _)) rfl rfl rfl) ?_
          refine ops_v (v_assign (v := (.bool _)) rfl rfl) ?_
          refine ops_nil ?_
          refine W_ret ?_
          refine ⟨_, (.tmp (v := (.bool _)) rfl .nil), ?_⟩
          exact ⟨rfl, _, H⟩
          -- (backstaylaw13.NodeSides: ret; chunks n1,n0,s,S; ptr 20=n0,22=n1)
    | true =>
      obtain ⟨k1, k2, k3, k4⟩ := M.makeOk_iff.1 hok
      have xoff : ¬ (x.leaf = false ∧ x.link = 0) := fun h => by have := ua.2 h; rw [k3] at this; cases this
      have yoff : ¬ (y.leaf = false ∧ y.link = 0) := fun h => by have := ub.2 h; rw [k4] at this; cases this
      obtain ⟨s', k, hmk, w', hext, hlen, r1, r2, r3, r4, r5⟩ := M.sides (f := X) hw hok (by omega)
      have hx' := hext.get hx
      have hy' := hext.get hy
      have n1 := M.count_le s' k
      have n2 := M.count_le s' a
      have n3 := M.count_le s' b
      have hX2 : X.tmod 2 = X % 2 := Int.tmod_eq_emod_of_nonneg flo
      have hmax : (if (M.count s' a : Int) < (M.count s' b : Int) then (M.count s' b : Int) else (M.count s' a : Int)) ≤ M.count s' k := by split <;> omega
      clear ua ub hx hy
      rcases x with ⟨xb, xv, xl, xs, xf⟩
      rcases y with ⟨yb, yv, yl, ys, yf⟩
      simp only at xoff yoff
      cases xb with
      | true =>
        cases yb with
        | true =>
          by_cases hodd : X % 2 = 1
          · have hwant : M.eval s' k X = M.eval s' b X := by rw [r1, if_pos hodd]
            skip
            by_cases hne : a = b
            · refine W_region ?_
              refine ops_v (v_move (v := (.pointer _)) rfl rfl) ?_
              refine ops_v (v_move (v := (.int _ _)) rfl rfl) ?_
              refine ops_v (v_move (v := (.int _ _)) rfl rfl) ?_
              refine ops_call rfl c39 (FnC.at 1 rfl H (fun _ H => Make_ok hmm hmk H)) ?_
              clear H; rintro _ w ⟨rfl, H⟩
              refine ops_v (v_move (v := (.tuple _)) rfl rfl) ?_
              refine ops_v (v_extract (v := (.int _ _)) rfl rfl rfl) ?_
              refine ops_v (v_extract (v := (.int _ _)) rfl rfl rfl) ?_
              refine ops_v (v_assign (v := (.int _ _)) rfl rfl) ?_
              refine ops_v (v_assign (v := (.int _ _)) rfl rfl) ?_
              refine ops_nil ?_
              refine W_seq ?_
              refine W_region ?_
              refine ops_v (v_move (v := (.pointer _)) rfl rfl) ?_
              refine ops_v (v_move (v := (.int _ _)) rfl rfl) ?_
              refine ops_call rfl c31 (FnC.ro 1 rfl H (fun _ => Node_ok hx')) ?_
              clear H; rintro _ w ⟨rfl, H⟩
              refine ops_v (v_move (v := (.tuple _)) rfl rfl) ?_
              refine ops_v (v_extract (v := (.agg _)) rfl rfl rfl) ?_
              refine ops_v (v_extract (v := (.bool _)) rfl rfl rfl) ?_
              refine ops_alloc H rfl tz42 ?_
              clear H; intro bn0 w H
              refine ops_store (vs := [_, _, _, _, _]) (v := (.agg _)) (cs' := [_, _, _, _, _]) 0 H rfl ts42 rfl rfl rfl rfl rfl rfl rfl rfl ?_
              clear H; intro w H
              refine ops_v (v_assign (v := (.bool _)) rfl rfl) ?_
              refine ops_nil ?_
              refine W_seq ?_
              refine W_region ?_
              refine ops_v (v_move (v := (.pointer _)) rfl rfl) ?_
              refine ops_v (v_move (v := (.int _ _)) rfl rfl) ?_
              refine ops_call rfl c31 (FnC.ro 2 rfl H (fun _ => Node_ok hy')) ?_
              clear H; rintro _ w ⟨rfl, H⟩
              refine ops_v (v_move (v := (.tuple _)) rfl rfl) ?_
              refine ops_v (v_extract (v := (.agg _)) rfl rfl rfl) ?_
              refine ops_v (v_extract (v := (.bool _)) rfl rfl rfl) ?_
              refine ops_alloc H rfl tz42 ?_
              clear H; intro bn1 w H
              refine ops_store (vs := [_, _, _, _, _]) (v := (.agg _)) (cs' := [_, _, _, _, _]) 0 H rfl ts42 rfl rfl rfl rfl rfl rfl rfl rfl ?_
              clear H; intro w H
              refine ops_v (v_assign (v := (.bool _)) rfl rfl) ?_
              refine ops_nil ?_
              refine W_seq ?_
              refine W_seq ?_
              refine W_region ?_
              refine ops_v (v_fieldAddr rfl fo42_0 rfl rfl) ?_
              refine ops_load (v := (.bool _)) 1 H rfl tc4 rfl rfl rfl ?_
              refine ops_v (v_not rfl rfl _ rfl) ?_
              refine ops_v (v_move (v := (.bool _)) rfl rfl) ?_
              refine ops_skip rfl rfl ?_
              refine ops_skip rfl rfl ?_
              refine ops_skip rfl rfl ?_
              refine ops_v (v_pick_f (v := (.bool _)) rfl rfl rfl) ?_
              refine ops_v (v_move (v := (.bool _)) rfl rfl) ?_
              refine ops_v (v_fieldAddr rfl fo42_0 rfl rfl) ?_
              refine ops_load (v := (.bool _)) 0 H rfl tc4 rfl rfl rfl ?_
              refine ops_v (v_not rfl rfl _ rfl) ?_
              refine ops_v (v_move (v := (.bool _)) rfl rfl) ?_
              refine ops_skip rfl rfl ?_
              refine ops_skip rfl rfl ?_
              refine ops_skip rfl rfl ?_
              refine ops_v (v_pick_f (v := (.bool _)) rfl rfl rfl) ?_
              refine ops_v (v_pick_f (v := (.bool _)) rfl rfl rfl) ?_
              refine ops_nil ?_
              refine W_if_f rfl ?_
              refine W_skip ?_
              refine W_seq ?_
              refine W_region ?_
              refine ops_v (v_move (v := (.pointer _)) rfl rfl) ?_
              refine ops_v (v_move (v := (.int _ _)) rfl rfl) ?_
              refine ops_v (v_move (v := (.int _ _)) rfl rfl) ?_
              refine ops_call rfl c33 (FnC.ro 3 rfl H (fun _ => Eval_ok w' a X)) ?_
              clear H; rintro _ w ⟨rfl, H⟩
              refine ops_v (v_assign (v := (.int _ _)) rfl rfl) ?_
              refine ops_nil ?_
              refine W_seq ?_
              refine W_seq ?_
              refine W_region ?_
              refine ops_v (v_move (v := (.int _ _)) rfl rfl) ?_
              refine ops_v (v_rem (X % 2) rfl rfl rfl (by decide) hX2) ?_
              refine ops_v (v_eql true rfl rfl rfl (decide_eq_true (by first | omega | (simp only; omega) | rfl | decide))) ?_
              refine ops_nil ?_
              refine W_if_t rfl ?_
              refine W_region ?_
              refine ops_v (v_move (v := (.pointer _)) rfl rfl) ?_
              refine ops_v (v_move (v := (.int _ _)) rfl rfl) ?_
              refine ops_v (v_move (v := (.int _ _)) rfl rfl) ?_
              refine ops_call rfl c33 (FnC.ro 3 rfl H (fun _ => Eval_ok w' b X)) ?_
              clear H; rintro _ w ⟨rfl, H⟩
              refine ops_v (v_assign (v := (.int _ _)) rfl rfl) ?_
              refine ops_nil ?_
              refine W_seq ?_
              refine W_region ?_
              refine ops_v (v_move (v := (.bool _)) rfl rfl) ?_
              refine ops_v (v_move (v := (.bool _)) rfl rfl) ?_
              refine ops_v (v_move (v := (.int _ _)) rfl rfl) ?_
              refine ops_v (v_eql true rfl rfl rfl (decide_eq_true (by first | omega | (simp only; omega) | rfl | decide))) ?_
              refine ops_v (v_pick_t (v := (.bool _)) rfl rfl rfl) ?_
              refine ops_v (v_move (v := (.bool _)) rfl rfl) ?_
              refine ops_v (v_move (v := (.pointer _)) rfl rfl) ?_
              refine ops_v (v_move (v := (.int _ _)) rfl rfl) ?_
              refine ops_v (v_move (v := (.int _ _)) rfl rfl) ?_
              refine ops_call rfl c33 (FnC.ro 3 rfl H (fun _ => Eval_ok w' k X)) ?_
              clear H; rintro _ w ⟨rfl, H⟩
              refine ops_v (v_move (v := (.int _ _)) rfl rfl) ?_
              refine ops_v (v_eql true rfl rfl rfl (decide_eq_true (by first | omega | (simp only; omega) | rfl | decide))) ?_
              refine ops_v (v_pick_t (v := (.bool _)) rfl rfl rfl) ?_
              refine ops_v (v_move (v := (.bool _)) rfl rfl) ?_
              refine ops_v (v_move (v := (.pointer _)) rfl rfl) ?_
              refine ops_v (v_move (v := (.int _ _)) rfl rfl) ?_
              refine ops_call rfl c35 (FnC.ro 3 rfl H (fun _ => Count_ok w' k)) ?_
              clear H; rintro _ w ⟨rfl, H⟩
              refine ops_v (v_move (v := (.pointer _)) rfl rfl) ?_
              refine ops_v (v_move (v := (.int _ _)) rfl rfl) ?_
              refine ops_call rfl c35 (FnC.ro 3 rfl H (fun _ => Count_ok w' a)) ?_
              clear H; rintro _ w ⟨rfl, H⟩
              refine ops_v (v_move (v := (.pointer _)) rfl rfl) ?_
              refine ops_v (v_move (v := (.int _ _)) rfl rfl) ?_
              refine ops_call rfl c35 (FnC.ro 3 rfl H (fun _ => Count_ok w' b)) ?_
              clear H; rintro _ w ⟨rfl, H⟩
              refine ops_v (v_add _ rfl rfl rfl (wrap_in (by omega) (by omega))) ?_
              refine ops_v (v_add _ rfl rfl rfl (wrap_in (by omega) (by omega))) ?_
              refine ops_v (v_leq true rfl rfl rfl (decide_eq_true (by first | omega | (simp only; omega) | rfl | decide))) ?_
              refine ops_v (v_pick_t (v := (.bool _)) rfl rfl rfl) ?_
              refine ops_v (v_move (v := (.bool _)) rfl rfl) ?_
              refine ops_v (v_move (v := (.pointer _)) rfl rfl) ?_
              refine ops_v (v_move (v := (.int _ _)) rfl rfl) ?_
              refine ops_call rfl c35 (FnC.ro 3 rfl H (fun _ => Count_ok w' k)) ?_
              clear H; rintro _ w ⟨rfl, H⟩
              refine ops_v (v_move (v := (.pointer _)) rfl rfl) ?_
              refine ops_v (v_move (v := (.int _ _)) rfl rfl) ?_
              refine ops_call rfl c35 (FnC.ro 3 rfl H (fun _ => Count_ok w' a)) ?_
              clear H; rintro _ w ⟨rfl, H⟩
              refine ops_v (v_move (v := (.pointer _)) rfl rfl) ?_
              refine ops_v (v_move (v := (.int _ _)) rfl rfl) ?_
              refine ops_call rfl c35 (FnC.ro 3 rfl H (fun _ => Count_ok w' b)) ?_
              clear H; rintro _ w ⟨rfl, H⟩
              refine ops_v (v_max rfl rfl rfl rfl) ?_
              refine ops_v (v_geq true rfl rfl rfl (decide_eq_true (by first | omega | (simp only; omega) | rfl | decide))) ?_
              refine ops_v (v_pick_t (v := (.bool _)) rfl rfl rfl) ?_
              refine ops_v (v_move (v := (.bool _)) rfl rfl) ?_
              refine ops_v (v_move (v := (.int _ _)) rfl rfl) ?_
              refine ops_v (v_move (v := (.int _ _)) rfl rfl) ?_
              refine ops_v (v_neq false rfl rfl rfl (decide_eq_false (by first | omega | (simp only; omega) | rfl | decide))) ?_
              refine ops_v (v_move (v := (.bool _)) rfl rfl) ?_
              refine ops_v (v_move (v := (.int _ _)) rfl rfl) ?_
              refine ops_v (v_move (v := (.int _ _)) rfl rfl) ?_
              refine ops_v (v_eql true rfl rfl rfl (decide_eq_true (by first | omega | (simp only; omega) | rfl | decide))) ?_
              refine ops_v (v_pick_f (v := (.bool _)) rfl rfl rfl) ?_
              refine ops_v (v_pick_t (v := (.bool _)) rfl rfl rfl) ?_
              refine ops_v (v_assign (v := (.bool _)) rfl rfl) ?_
              refine ops_nil ?_
              refine W_ret ?_
              refine ⟨_, (.tmp (v := (.bool _)) rfl .nil), ?_⟩
              exact ⟨rfl, _, H⟩
              -- (backstaylaw13.NodeSides: ret; chunks n1,n0,s,S; ptr 20=n0,22=n1)
            · refine W_region ?_
              refine ops_v (v_move (v := (.pointer _)) rfl rfl) ?_
              refine ops_v (v_move (v := (.int _ _)) rfl rfl) ?_
              refine ops_v (v_move (v := (.int _ _)) rfl rfl) ?_
              refine ops_call rfl c39 (FnC.at 1 rfl H (fun _ H => Make_ok hmm hmk H)) ?_
              clear H; rintro _ w ⟨rfl, H⟩
              refine ops_v (v_move (v := (.tuple _)) rfl rfl) ?_
              refine ops_v (v_extract (v := (.int _ _)) rfl rfl rfl) ?_
              refine ops_v (v_extract (v := (.int _ _)) rfl rfl rfl) ?_
              refine ops_v (v_assign (v := (.int _ _)) rfl rfl) ?_
              refine ops_v (v_assign (v := (.int _ _)) rfl rfl) ?_
              refine ops_nil ?_
              refine W_seq ?_
              refine W_region ?_
              refine ops_v (v_move (v := (.pointer _)) rfl rfl) ?_
              refine ops_v (v_move (v := (.int _ _)) rfl rfl) ?_
              refine ops_call rfl c31 (FnC.ro 1 rfl H (fun _ => Node_ok hx')) ?_
              clear H; rintro _ w ⟨rfl, H⟩
              refine ops_v (v_move (v := (.tuple _)) rfl rfl) ?_
              refine ops_v (v_extract (v := (.agg _)) rfl rfl rfl) ?_
              refine ops_v (v_extract (v := (.bool _)) rfl rfl rfl) ?_
              refine ops_alloc H rfl tz42 ?_
              clear H; intro bn0 w H
              refine ops_store (vs := [_, _, _, _, _]) (v := (.agg _)) (cs' := [_, _, _, _, _]) 0 H rfl ts42 rfl rfl rfl rfl rfl rfl rfl rfl ?_
              clear H; intro w H
              refine ops_v (v_assign (v := (.bool _)) rfl rfl) ?_
              refine ops_nil ?_
              refine W_seq ?_
              refine W_region ?_
              refine ops_v (v_move (v := (.pointer _)) rfl rfl) ?_
              refine ops_v (v_move (v := (.int _ _)) rfl rfl) ?_
              refine ops_call rfl c31 (FnC.ro 2 rfl H (fun _ => Node_ok hy')) ?_
              clear H; rintro _ w ⟨rfl, H⟩
              refine ops_v (v_move (v := (.tuple _)) rfl rfl) ?_
              refine ops_v (v_extract (v := (.agg _)) rfl rfl rfl) ?_
              refine ops_v (v_extract (v := (.bool _)) rfl rfl rfl) ?_
              refine ops_alloc H rfl tz42 ?_
              clear H; intro bn1 w H
              refine ops_store (vs := [_, _, _, _, _]) (v := (.agg _)) (cs' := [_, _, _, _, _]) 0 H rfl ts42 rfl rfl rfl rfl rfl rfl rfl rfl ?_
              clear H; intro w H
              refine ops_v (v_assign (v := (.bool _)) rfl rfl) ?_
              refine ops_nil ?_
              refine W_seq ?_
              refine W_seq ?_
              refine W_region ?_
              refine ops_v (v_fieldAddr rfl fo42_0 rfl rfl) ?_
              refine ops_load (v := (.bool _)) 1 H rfl tc4 rfl rfl rfl ?_
              refine ops_v (v_not rfl rfl _ rfl) ?_
              refine ops_v (v_move (v := (.bool _)) rfl rfl) ?_
              refine ops_skip rfl rfl ?_
              refine ops_skip rfl rfl ?_
              refine ops_skip rfl rfl ?_
              refine ops_v (v_pick_f (v := (.bool _)) rfl rfl rfl) ?_
              refine ops_v (v_move (v := (.bool _)) rfl rfl) ?_
              refine ops_v (v_fieldAddr rfl fo42_0 rfl rfl) ?_
              refine ops_load (v := (.bool _)) 0 H rfl tc4 rfl rfl rfl ?_
              refine ops_v (v_not rfl rfl _ rfl) ?_
              refine ops_v (v_move (v := (.bool _)) rfl rfl) ?_
              refine ops_skip rfl rfl ?_
              refine ops_skip rfl rfl ?_
              refine ops_skip rfl rfl ?_
              refine ops_v (v_pick_f (v := (.bool _)) rfl rfl rfl) ?_
              refine ops_v (v_pick_f (v := (.bool _)) rfl rfl rfl) ?_
              refine ops_nil ?_
              refine W_if_f rfl ?_
              refine W_skip ?_
              refine W_seq ?_
              refine W_region ?_
              refine ops_v (v_move (v := (.pointer _)) rfl rfl) ?_
              refine ops_v (v_move (v := (.int _ _)) rfl rfl) ?_
              refine ops_v (v_move (v := (.int _ _)) rfl rfl) ?_
              refine ops_call rfl c33 (FnC.ro 3 rfl H (fun _ => Eval_ok w' a X)) ?_
              clear H; rintro _ w ⟨rfl, H⟩
              refine ops_v (v_assign (v := (.int _ _)) rfl rfl) ?_
              refine ops_nil ?_
              refine W_seq ?_
              refine W_seq ?_
              refine W_region ?_
              refine ops_v (v_move (v := (.int _ _)) rfl rfl) ?_
              refine ops_v (v_rem (X % 2) rfl rfl rfl (by decide) hX2) ?_
              refine ops_v (v_eql true rfl rfl rfl (decide_eq_true (by first | omega | (simp only; omega) | rfl | decide))) ?_
              refine ops_nil ?_
              refine W_if_t rfl ?_
              refine W_region ?_
              refine ops_v (v_move (v := (.pointer _)) rfl rfl) ?_
              refine ops_v (v_move (v := (.int _ _)) rfl rfl) ?_
              refine ops_v (v_move (v := (.int _ _)) rfl rfl) ?_
              refine ops_call rfl c33 (FnC.ro 3 rfl H (fun _ => Eval_ok w' b X)) ?_
              clear H; rintro _ w ⟨rfl, H⟩
              refine ops_v (v_assign (v := (.int _ _)) rfl rfl) ?_
              refine ops_nil ?_
              refine W_seq ?_
              refine W_region ?_
              refine ops_v (v_move (v := (.bool _)) rfl rfl) ?_
              refine ops_v (v_move (v := (.bool _)) rfl rfl) ?_
              refine ops_v (v_move (v := (.int _ _)) rfl rfl) ?_
              refine ops_v (v_eql true rfl rfl rfl (decide_eq_true (by first | omega | (simp only; omega) | rfl | decide))) ?_
              refine ops_v (v_pick_t (v := (.bool _)) rfl rfl rfl) ?_
              refine ops_v (v_move (v := (.bool _)) rfl rfl) ?_
              refine ops_v (v_move (v := (.pointer _)) rfl rfl) ?_
              refine ops_v (v_move (v := (.int _ _)) rfl rfl) ?_
              refine ops_v (v_move (v := (.int _ _)) rfl rfl) ?_
              refine ops_call rfl c33 (FnC.ro 3 rfl H (fun _ => Eval_ok w' k X)) ?_
              clear H; rintro _ w ⟨rfl, H⟩
              refine ops_v (v_move (v := (.int _ _)) rfl rfl) ?_
              refine ops_v (v_eql true rfl rfl rfl (decide_eq_true (by first | omega | (simp only; omega) | rfl | decide))) ?_
              refine ops_v (v_pick_t (v := (.bool _)) rfl rfl rfl) ?_
              refine ops_v (v_move (v := (.bool _)) rfl rfl) ?_
              refine ops_v (v_move (v := (.pointer _)) rfl rfl) ?_
              refine ops_v (v_move (v := (.int _ _)) rfl rfl) ?_
              refine ops_call rfl c35 (FnC.ro 3 rfl H (fun _ => Count_ok w' k)) ?_
              clear H; rintro _ w ⟨rfl, H⟩
              refine ops_v (v_move (v := (.pointer _)) rfl rfl) ?_
              refine ops_v (v_move (v := (.int _ _)) rfl rfl) ?_
              refine ops_call rfl c35 (FnC.ro 3 rfl H (fun _ => Count_ok w' a)) ?_
              clear H; rintro _ w ⟨rfl, H⟩
              refine ops_v (v_move (v := (.pointer _)) rfl rfl) ?_
              refine ops_v (v_move (v := (.int _ _)) rfl rfl) ?_
              refine ops_call rfl c35 (FnC.ro 3 rfl H (fun _ => Count_ok w' b)) ?_
              clear H; rintro _ w ⟨rfl, H⟩
              refine ops_v (v_add _ rfl rfl rfl (wrap_in (by omega) (by omega))) ?_
              refine ops_v (v_add _ rfl rfl rfl (wrap_in (by omega) (by omega))) ?_
              refine ops_v (v_leq true rfl rfl rfl (decide_eq_true (by first | omega | (simp only; omega) | rfl | decide))) ?_
              refine ops_v (v_pick_t (v := (.bool _)) rfl rfl rfl) ?_
              refine ops_v (v_move (v := (.bool _)) rfl rfl) ?_
              refine ops_v (v_move (v := (.pointer _)) rfl rfl) ?_
              refine ops_v (v_move (v := (.int _ _)) rfl rfl) ?_
              refine ops_call rfl c35 (FnC.ro 3 rfl H (fun _ => Count_ok w' k)) ?_
              clear H; rintro _ w ⟨rfl, H⟩
              refine ops_v (v_move (v := (.pointer _)) rfl rfl) ?_
              refine ops_v (v_move (v := (.int _ _)) rfl rfl) ?_
              refine ops_call rfl c35 (FnC.ro 3 rfl H (fun _ => Count_ok w' a)) ?_
              clear H; rintro _ w ⟨rfl, H⟩
              refine ops_v (v_move (v := (.pointer _)) rfl rfl) ?_
              refine ops_v (v_move (v := (.int _ _)) rfl rfl) ?_
              refine ops_call rfl c35 (FnC.ro 3 rfl H (fun _ => Count_ok w' b)) ?_
              clear H; rintro _ w ⟨rfl, H⟩
              refine ops_v (v_max rfl rfl rfl rfl) ?_
              refine ops_v (v_geq true rfl rfl rfl (decide_eq_true (by first | omega | (simp only; omega) | rfl | decide))) ?_
              refine ops_v (v_pick_t (v := (.bool _)) rfl rfl rfl) ?_
              refine ops_v (v_move (v := (.bool _)) rfl rfl) ?_
              refine ops_v (v_move (v := (.int _ _)) rfl rfl) ?_
              refine ops_v (v_move (v := (.int _ _)) rfl rfl) ?_
              refine ops_v (v_neq true rfl rfl rfl (decide_eq_true (by first | omega | (simp only; omega) | rfl | decide))) ?_
              refine ops_v (v_move (v := (.bool _)) rfl rfl) ?_
              refine ops_skip rfl rfl ?_
              refine ops_skip rfl rfl ?_
              refine ops_skip rfl rfl ?_
              refine ops_v (v_pick_t (v := (.bool _)) rfl rfl rfl) ?_
              refine ops_v (v_pick_t (v := (.bool _)) rfl rfl rfl) ?_
              refine ops_v (v_assign (v := (.bool _)) rfl rfl) ?_
              refine ops_nil ?_
              refine W_ret ?_
              refine ⟨_, (.tmp (v := (.bool _)) rfl .nil), ?_⟩
              exact ⟨rfl, _, H⟩
              -- (backstaylaw13.NodeSides: ret; chunks n1,n0,s,S; ptr 20=n0,22=n1)
          · have hwant : M.eval s' k X = M.eval s' a X := by rw [r1, if_neg hodd]
            skip
            by_cases hne : a = b
            · refine W_region ?_
              refine ops_v (v_move (v := (.pointer _)) rfl rfl) ?_
              refine ops_v (v_move (v := (.int _ _)) rfl rfl) ?_
              refine ops_v (v_move (v := (.int _ _)) rfl rfl) ?_
              refine ops_call rfl c39 (FnC.at 1 rfl H (fun _ H => Make_ok hmm hmk H)) ?_
              clear H; rintro _ w ⟨rfl, H⟩
              refine ops_v (v_move (v := (.tuple _)) rfl rfl) ?_
              refine ops_v (v_extract (v := (.int _ _)) rfl rfl rfl) ?_
              refine ops_v (v_extract (v := (.int _ _)) rfl rfl rfl) ?_
              refine ops_v (v_assign (v := (.int _ _)) rfl rfl) ?_
              refine ops_v (v_assign (v := (.int _ _)) rfl rfl) ?_
              refine ops_nil ?_
              refine W_seq ?_
              refine W_region ?_
              refine ops_v (v_move (v := (.pointer _)) rfl rfl) ?_
              refine ops_v (v_move (v := (.int _ _)) rfl rfl) ?_
              refine ops_call rfl c31 (FnC.ro 1 rfl H (fun _ => Node_ok hx')) ?_
              clear H; rintro _ w ⟨rfl, H⟩
              refine ops_v (v_move (v := (.tuple _)) rfl rfl) ?_
              refine ops_v (v_extract (v := (.agg _)) rfl rfl rfl) ?_
              refine ops_v (v_extract (v := (.bool _)) rfl rfl rfl) ?_
              refine ops_alloc H rfl tz42 ?_
              clear H; intro bn0 w H
              refine ops_store (vs := [_, _, _, _, _]) (v := (.agg _)) (cs' := [_, _, _, _, _]) 0 H rfl ts42 rfl rfl rfl rfl rfl rfl rfl rfl ?_
              clear H; intro w H
              refine ops_v (v_assign (v := (.bool _)) rfl rfl) ?_
              refine ops_nil ?_
              refine W_seq ?_
              refine W_region ?_
              refine ops_v (v_move (v := (.pointer _)) rfl rfl) ?_
              refine ops_v (v_move (v := (.int _ _)) rfl rfl) ?_
              refine ops_call rfl c31 (FnC.ro 2 rfl H (fun _ => Node_ok hy')) ?_
              clear H; rintro _ w ⟨rfl, H⟩
              refine ops_v (v_move (v := (.tuple _)) rfl rfl) ?_
              refine ops_v (v_extract (v := (.agg _)) rfl rfl rfl) ?_
              refine ops_v (v_extract (v := (.bool _)) rfl rfl rfl) ?_
              refine ops_alloc H rfl tz42 ?_
              clear H; intro bn1 w H
              refine ops_store (vs := [_, _, _, _, _]) (v := (.agg _)) (cs' := [_, _, _, _, _]) 0 H rfl ts42 rfl rfl rfl rfl rfl rfl rfl rfl ?_
              clear H; intro w H
              refine ops_v (v_assign (v := (.bool _)) rfl rfl) ?_
              refine ops_nil ?_
              refine W_seq ?_
              refine W_seq ?_
              refine W_region ?_
              refine ops_v (v_fieldAddr rfl fo42_0 rfl rfl) ?_
              refine ops_load (v := (.bool _)) 1 H rfl tc4 rfl rfl rfl ?_
              refine ops_v (v_not rfl rfl _ rfl) ?_
              refine ops_v (v_move (v := (.bool _)) rfl rfl) ?_
              refine ops_skip rfl rfl ?_
              refine ops_skip rfl rfl ?_
              refine ops_skip rfl rfl ?_
              refine ops_v (v_pick_f (v := (.bool _)) rfl rfl rfl) ?_
              refine ops_v (v_move (v := (.bool _)) rfl rfl) ?_
              refine ops_v (v_fieldAddr rfl fo42_0 rfl rfl) ?_
              refine ops_load (v := (.bool _)) 0 H rfl tc4 rfl rfl rfl ?_
              refine ops_v (v_not rfl rfl _ rfl) ?_
              refine ops_v (v_move (v := (.bool _)) rfl rfl) ?_
              refine ops_skip rfl rfl ?_
              refine ops_skip rfl rfl ?_
              refine ops_skip rfl rfl ?_
              refine ops_v (v_pick_f (v := (.bool _)) rfl rfl rfl) ?_
              refine ops_v (v_pick_f (v := (.bool _)) rfl rfl rfl) ?_
              refine ops_nil ?_
              refine W_if_f rfl ?_
              refine W_skip ?_
              refine W_seq ?_
              refine W_region ?_
              refine ops_v (v_move (v := (.pointer _)) rfl rfl) ?_
              refine ops_v (v_move (v := (.int _ _)) rfl rfl) ?_
              refine ops_v (v_move (v := (.int _ _)) rfl rfl) ?_
              refine ops_call rfl c33 (FnC.ro 3 rfl H (fun _ => Eval_ok w' a X)) ?_
              clear H; rintro _ w ⟨rfl, H⟩
              refine ops_v (v_assign (v := (.int _ _)) rfl rfl) ?_
              refine ops_nil ?_
              refine W_seq ?_
              refine W_seq ?_
              refine W_region ?_
              refine ops_v (v_move (v := (.int _ _)) rfl rfl) ?_
              refine ops_v (v_rem (X % 2) rfl rfl rfl (by decide) hX2) ?_
              refine ops_v (v_eql false rfl rfl rfl (decide_eq_false (by first | omega | (simp only; omega) | rfl | decide))) ?_
              refine ops_nil ?_
              refine W_if_f rfl ?_
              refine W_skip ?_
              refine W_seq ?_
              refine W_region ?_
              refine ops_v (v_move (v := (.bool _)) rfl rfl) ?_
              refine ops_v (v_move (v := (.bool _)) rfl rfl) ?_
              refine ops_v (v_move (v := (.int _ _)) rfl rfl) ?_
              refine ops_v (v_eql true rfl rfl rfl (decide_eq_true (by first | omega | (simp only; omega) | rfl | decide))) ?_
              refine ops_v (v_pick_t (v := (.bool _)) rfl rfl rfl) ?_
              refine ops_v (v_move (v := (.bool _)) rfl rfl) ?_
              refine ops_v (v_move (v := (.pointer _)) rfl rfl) ?_
              refine ops_v (v_move (v := (.int _ _)) rfl rfl) ?_
              refine ops_v (v_move (v := (.int _ _)) rfl rfl) ?_
              refine ops_call rfl c33 (FnC.ro 3 rfl H (fun _ => Eval_ok w' k X)) ?_
              clear H; rintro _ w ⟨rfl, H⟩
              refine ops_v (v_move (v := (.int _ _)) rfl rfl) ?_
              refine ops_v (v_eql true rfl rfl rfl (decide_eq_true (by first | omega | (simp only; omega) | rfl | decide))) ?_
              refine ops_v (v_pick_t (v := (.bool _)) rfl rfl rfl) ?_
              refine ops_v (v_move (v := (.bool _)) rfl rfl) ?_
              refine ops_v (v_move (v := (.pointer _)) rfl rfl) ?_
              refine ops_v (v_move (v := (.int _ _)) rfl rfl) ?_
              refine ops_call rfl c35 (FnC.ro 3 rfl H (fun _ => Count_ok w' k)) ?_
              clear H; rintro _ w ⟨rfl, H⟩
              refine ops_v (v_move (v := (.pointer _)) rfl rfl) ?_
              refine ops_v (v_move (v := (.int _ _)) rfl rfl) ?_
              refine ops_call rfl c35 (FnC.ro 3 rfl H (fun _ => Count_ok w' a)) ?_
              clear H; rintro _ w ⟨rfl, H⟩
              refine ops_v (v_move (v := (.pointer _)) rfl rfl) ?_
              refine ops_v (v_move (v := (.int _ _)) rfl rfl) ?_
              refine ops_call rfl c35 (FnC.ro 3 rfl H (fun _ => Count_ok w' b)) ?_
              clear H; rintro _ w ⟨rfl, H⟩
              refine ops_v (v_add _ rfl rfl rfl (wrap_in (by omega) (by omega))) ?_
              refine ops_v (v_add _ rfl rfl rfl (wrap_in (by omega) (by omega))) ?_
              refine ops_v (v_leq true rfl rfl rfl (decide_eq_true (by first | omega | (simp only; omega) | rfl | decide))) ?_
              refine ops_v (v_pick_t (v := (.bool _)) rfl rfl rfl) ?_
              refine ops_v (v_move (v := (.bool _)) rfl rfl) ?_
              refine ops_v (v_move (v := (.pointer _)) rfl rfl) ?_
              refine ops_v (v_move (v := (.int _ _)) rfl rfl) ?_
              refine ops_call rfl c35 (FnC.ro 3 rfl H (fun _ => Count_ok w' k)) ?_
              clear H; rintro _ w ⟨rfl, H⟩
              refine ops_v (v_move (v := (.pointer _)) rfl rfl) ?_
              refine ops_v (v_move (v := (.int _ _)) rfl rfl) ?_
              refine ops_call rfl c35 (FnC.ro 3 rfl H (fun _ => Count_ok w' a)) ?_
              clear H; rintro _ w ⟨rfl, H⟩
              refine ops_v (v_move (v := (.pointer _)) rfl rfl) ?_
              refine ops_v (v_move (v := (.int _ _)) rfl rfl) ?_
              refine ops_call rfl c35 (FnC.ro 3 rfl H (fun _ => Count_ok w' b)) ?_
              clear H; rintro _ w ⟨rfl, H⟩
              refine ops_v (v_max rfl rfl rfl rfl) ?_
              refine ops_v (v_geq true rfl rfl rfl (decide_eq_true (by first | omega | (simp only; omega) | rfl | decide))) ?_
              refine ops_v (v_pick_t (v := (.bool _)) rfl rfl rfl) ?_
              refine ops_v (v_move (v := (.bool _)) rfl rfl) ?_
              refine ops_v (v_move (v := (.int _ _)) rfl rfl) ?_
              refine ops_v (v_move (v := (.int _ _)) rfl rfl) ?_
              refine ops_v (v_neq false rfl rfl rfl (decide_eq_false (by first | omega | (simp only; omega) | rfl | decide))) ?_
              refine ops_v (v_move (v := (.bool _)) rfl rfl) ?_
              refine ops_v (v_move (v := (.int _ _)) rfl rfl) ?_
              refine ops_v (v_move (v := (.int _ _)) rfl rfl) ?_
              refine ops_v (v_eql true rfl rfl rfl (decide_eq_true (by first | omega | (simp only; omega) | rfl | decide))) ?_
              refine ops_v (v_pick_f (v := (.bool _)) rfl rfl rfl) ?_
              refine ops_v (v_pick_t (v := (.bool _)) rfl rfl rfl) ?_
              refine ops_v (v_assign (v := (.bool _)) rfl rfl) ?_
              refine ops_nil ?_
              refine W_ret ?_
              refine ⟨_, (.tmp (v := (.bool _)) rfl .nil), ?_⟩
              exact ⟨rfl, _, H⟩
              -- (backstaylaw13.NodeSides: ret; chunks n1,n0,s,S; ptr 20=n0,22=n1)
            · refine W_region ?_
              refine ops_v (v_move (v := (.pointer _)) rfl rfl) ?_
              refine ops_v (v_move (v := (.int _ _)) rfl rfl) ?_
              refine ops_v (v_move (v := (.int _ _)) rfl rfl) ?_
              refine ops_call rfl c39 (FnC.at 1 rfl H (fun _ H => Make_ok hmm hmk H)) ?_
              clear H; rintro _ w ⟨rfl, H⟩
              refine ops_v (v_move (v := (.tuple _)) rfl rfl) ?_
              refine ops_v (v_extract (v := (.int _ _)) rfl rfl rfl) ?_
              refine ops_v (v_extract (v := (.int _ _)) rfl rfl rfl) ?_
              refine ops_v (v_assign (v := (.int _ _)) rfl rfl) ?_
              refine ops_v (v_assign (v := (.int _ _)) rfl rfl) ?_
              refine ops_nil ?_
              refine W_seq ?_
              refine W_region ?_
              refine ops_v (v_move (v := (.pointer _)) rfl rfl) ?_
              refine ops_v (v_move (v := (.int _ _)) rfl rfl) ?_
              refine ops_call rfl c31 (FnC.ro 1 rfl H (fun _ => Node_ok hx')) ?_
              clear H; rintro _ w ⟨rfl, H⟩
              refine ops_v (v_move (v := (.tuple _)) rfl rfl) ?_
              refine ops_v (v_extract (v := (.agg _)) rfl rfl rfl) ?_
              refine ops_v (v_extract (v := (.bool _)) rfl rfl rfl) ?_
              refine ops_alloc H rfl tz42 ?_
              clear H; intro bn0 w H
              refine ops_store (vs := [_, _, _, _, _]) (v := (.agg _)) (cs' := [_, _, _, _, _]) 0 H rfl ts42 rfl rfl rfl rfl rfl rfl rfl rfl ?_
              clear H; intro w H
              refine ops_v (v_assign (v := (.bool _)) rfl rfl) ?_
              refine ops_nil ?_
              refine W_seq ?_
              refine W_region ?_
              refine ops_v (v_move (v := (.pointer _)) rfl rfl) ?_
              refine ops_v (v_move (v := (.int _ _)) rfl rfl) ?_
              refine ops_call rfl c31 (FnC.ro 2 rfl H (fun _ => Node_ok hy')) ?_
              clear H; rintro _ w ⟨rfl, H⟩
              refine ops_v (v_move (v := (.tuple _)) rfl rfl) ?_
              refine ops_v (v_extract (v := (.agg _)) rfl rfl rfl) ?_
              refine ops_v (v_extract (v := (.bool _)) rfl rfl rfl) ?_
              refine ops_alloc H rfl tz42 ?_
              clear H; intro bn1 w H
              refine ops_store (vs := [_, _, _, _, _]) (v := (.agg _)) (cs' := [_, _, _, _, _]) 0 H rfl ts42 rfl rfl rfl rfl rfl rfl rfl rfl ?_
              clear H; intro w H
              refine ops_v (v_assign (v := (.bool _)) rfl rfl) ?_
              refine ops_nil ?_
              refine W_seq ?_
              refine W_seq ?_
              refine W_region ?_
              refine ops_v (v_fieldAddr rfl fo42_0 rfl rfl) ?_
              refine ops_load (v := (.bool _)) 1 H rfl tc4 rfl rfl rfl ?_
              refine ops_v (v_not rfl rfl _ rfl) ?_
              refine ops_v (v_move (v := (.bool _)) rfl rfl) ?_
              refine ops_skip rfl rfl ?_
              refine ops_skip rfl rfl ?_
              refine ops_skip rfl rfl ?_
              refine ops_v (v_pick_f (v := (.bool _)) rfl rfl rfl) ?_
              refine ops_v (v_move (v := (.bool _)) rfl rfl) ?_
              refine ops_v (v_fieldAddr rfl fo42_0 rfl rfl) ?_
              refine ops_load (v := (.bool _)) 0 H rfl tc4 rfl rfl rfl ?_
              refine ops_v (v_not rfl rfl _ rfl) ?_
              refine ops_v (v_move (v := (.bool _)) rfl rfl) ?_
              refine ops_skip rfl rfl ?_
              refine ops_skip rfl rfl ?_
              refine ops_skip rfl rfl ?_
              refine ops_v (v_pick_f (v := (.bool _)) rfl rfl rfl) ?_
              refine ops_v (v_pick_f (v := (.bool _)) rfl rfl rfl) ?_
              refine ops_nil ?_
              refine W_if_f rfl ?_
              refine W_skip ?_
              refine W_seq ?_
              refine W_region ?_
              refine ops_v (v_move (v := (.pointer _)) rfl rfl) ?_
              refine ops_v (v_move (v := (.int _ _)) rfl rfl) ?_
              refine ops_v (v_move (v := (.int _ _)) rfl rfl) ?_
              refine ops_call rfl c33 (FnC.ro 3 rfl H (fun _ => Eval_ok w' a X)) ?_
              clear H; rintro _ w ⟨rfl, H⟩
              refine ops_v (v_assign (v := (.int _ _)) rfl rfl) ?_
              refine ops_nil ?_
              refine W_seq ?_
              refine W_seq ?_
              refine W_region ?_
              refine ops_v (v_move (v := (.int _ _)) rfl rfl) ?_
              refine ops_v (v_rem (X % 2) rfl rfl rfl (by decide) hX2) ?_
              refine ops_v (v_eql false rfl rfl rfl (decide_eq_false (by first | omega | (simp only; omega) | rfl | decide))) ?_
              refine ops_nil ?_
              refine W_if_f rfl ?_
              refine W_skip ?_
              refine W_seq ?_
              refine W_region ?_
              refine ops_v (v_move (v := (.bool _)) rfl rfl) ?_
              refine ops_v (v_move (v := (.bool _)) rfl rfl) ?_
              refine ops_v (v_move (v := (.int _ _)) rfl rfl) ?_
              refine ops_v (v_eql true rfl rfl rfl (decide_eq_true (by first | omega | (simp only; omega) | rfl | decide))) ?_
              refine ops_v (v_pick_t (v := (.bool _)) rfl rfl rfl) ?_
              refine ops_v (v_move (v := (.bool _)) rfl rfl) ?_
              refine ops_v (v_move (v := (.pointer _)) rfl rfl) ?_
              refine ops_v (v_move (v := (.int _ _)) rfl rfl) ?_
              refine ops_v (v_move (v := (.int _ _)) rfl rfl) ?_
              refine ops_call rfl c33 (FnC.ro 3 rfl H (fun _ => Eval_ok w' k X)) ?_
              clear H; rintro _ w ⟨rfl, H⟩
              refine ops_v (v_move (v := (.int _ _)) rfl rfl) ?_
              refine ops_v (v_eql true rfl rfl rfl (decide_eq_true (by first | omega | (simp only; omega) | rfl | decide))) ?_
              refine ops_v (v_pick_t (v := (.bool _)) rfl rfl rfl) ?_
              refine ops_v (v_move (v := (.bool _)) rfl rfl) ?_
              refine ops_v (v_move (v := (.pointer _)) rfl rfl) ?_
              refine ops_v (v_move (v := (.int _ _)) rfl rfl) ?_
              refine ops_call rfl c35 (FnC.ro 3 rfl H (fun _ => Count_ok w' k)) ?_
              clear H; rintro _ w ⟨rfl, H⟩
              refine ops_v (v_move (v := (.pointer _)) rfl rfl) ?_
              refine ops_v (v_move (v := (.int _ _)) rfl rfl) ?_
              refine ops_call rfl c35 (FnC.ro 3 rfl H (fun _ => Count_ok w' a)) ?_
              clear H; rintro _ w ⟨rfl, H⟩
              refine ops_v (v_move (v := (.pointer _)) rfl rfl) ?_
              refine ops_v (v_move (v := (.int _ _)) rfl rfl) ?_
              refine ops_call rfl c35 (FnC.ro 3 rfl H (fun _ => Count_ok w' b)) ?_
              clear H; rintro _ w ⟨rfl, H⟩
              refine ops_v (v_add _ rfl rfl rfl (wrap_in (by omega) (by omega))) ?_
              refine ops_v (v_add _ rfl rfl rfl (wrap_in (by omega) (by omega))) ?_
              refine ops_v (v_leq true rfl rfl rfl (decide_eq_true (by first | omega | (simp only; omega) | rfl | decide))) ?_
              refine ops_v (v_pick_t (v := (.bool _)) rfl rfl rfl) ?_
              refine ops_v (v_move (v := (.bool _)) rfl rfl) ?_
              refine ops_v (v_move (v := (.pointer _)) rfl rfl) ?_
              refine ops_v (v_move (v := (.int _ _)) rfl rfl) ?_
              refine ops_call rfl c35 (FnC.ro 3 rfl H (fun _ => Count_ok w' k)) ?_
              clear H; rintro _ w ⟨rfl, H⟩
              refine ops_v (v_move (v := (.pointer _)) rfl rfl) ?_
              refine ops_v (v_move (v := (.int _ _)) rfl rfl) ?_
              refine ops_call rfl c35 (FnC.ro 3 rfl H (fun _ => Count_ok w' a)) ?_
              clear H; rintro _ w ⟨rfl, H⟩
              refine ops_v (v_move (v := (.pointer _)) rfl rfl) ?_
              refine ops_v (v_move (v := (.int _ _)) rfl rfl) ?_
              refine ops_call rfl c35 (FnC.ro 3 rfl H (fun _ => Count_ok w' b)) ?_
              clear H; rintro _ w ⟨rfl, H⟩
              refine ops_v (v_max rfl rfl rfl rfl) ?_
              refine ops_v (v_geq true rfl rfl rfl (decide_eq_true (by first | omega | (simp only; omega) | rfl | decide))) ?_
              refine ops_v (v_pick_t (v := (.bool _)) rfl rfl rfl) ?_
              refine ops_v (v_move (v := (.bool _)) rfl rfl) ?_
              refine ops_v (v_move (v := (.int _ _)) rfl rfl) ?_
              refine ops_v (v_move (v := (.int _ _)) rfl rfl) ?_
              refine ops_v (v_neq true rfl rfl rfl (decide_eq_true (by first | omega | (simp only; omega) | rfl | decide))) ?_
              refine ops_v (v_move (v := (.bool _)) rfl rfl) ?_
              refine ops_skip rfl rfl ?_
              refine ops_skip rfl rfl ?_
              refine ops_skip rfl rfl ?_
              refine ops_v (v_pick_t (v := (.bool _)) rfl rfl rfl) ?_
              refine ops_v (v_pick_t (v := (.bool _)) rfl rfl rfl) ?_
              refine ops_v (v_assign (v := (.bool _)) rfl rfl) ?_
              refine ops_nil ?_
              refine W_ret ?_
              refine ⟨_, (.tmp (v := (.bool _)) rfl .nil), ?_⟩
              exact ⟨rfl, _, H⟩
              -- (backstaylaw13.NodeSides: ret; chunks n1,n0,s,S; ptr 20=n0,22=n1)
        | false =>
          have hy0 : ¬ yl = 0 := fun h => yoff ⟨rfl, h⟩
          by_cases hodd : X % 2 = 1
          · have hwant : M.eval s' k X = M.eval s' b X := by rw [r1, if_pos hodd]
            skip
            by_cases hne : a = b
            · refine W_region ?_
              refine ops_v (v_move (v := (.pointer _)) rfl rfl) ?_
              refine ops_v (v_move (v := (.int _ _)) rfl rfl) ?_
              refine ops_v (v_move (v := (.int _ _)) rfl rfl) ?_
              refine ops_call rfl c39 (FnC.at 1 rfl H (fun _ H => Make_ok hmm hmk H)) ?_
              clear H; rintro _ w ⟨rfl, H⟩
              refine ops_v (v_move (v := (.tuple _)) rfl rfl) ?_
              refine ops_v (v_extract (v := (.int _ _)) rfl rfl rfl) ?_
              refine ops_v (v_extract (v := (.int _ _)) rfl rfl rfl) ?_
              refine ops_v (v_assign (v := (.int _ _)) rfl rfl) ?_
              refine ops_v (v_assign (v := (.int _ _)) rfl rfl) ?_
              refine ops_nil ?_
              refine W_seq ?_
              refine W_region ?_
              refine ops_v (v_move (v := (.pointer _)) rfl rfl) ?_
              refine ops_v (v_move (v := (.int _ _)) rfl rfl) ?_
              refine ops_call rfl c31 (FnC.ro 1 rfl H (fun _ => Node_ok hx')) ?_
              clear H; rintro _ w ⟨rfl, H⟩
              refine ops_v (v_move (v := (.tuple _)) rfl rfl) ?_
              refine ops_v (v_extract (v := (.agg _)) rfl rfl rfl) ?_
              refine ops_v (v_extract (v := (.bool _)) rfl rfl rfl) ?_
              refine ops_alloc H rfl tz42 ?_
              clear H; intro bn0 w H
              refine ops_store (vs := [_, _, _, _, _]) (v := (.agg _)) (cs' := [_, _, _, _, _]) 0 H rfl ts42 rfl rfl rfl rfl rfl rfl rfl rfl ?_
              clear H; intro w H
              refine ops_v (v_assign (v := (.bool _)) rfl rfl) ?_
              refine ops_nil ?_
              refine W_seq ?_
              refine W_region ?_
              refine ops_v (v_move (v := (.pointer _)) rfl rfl) ?_
              refine ops_v (v_move (v := (.int _ _)) rfl rfl) ?_
              refine ops_call rfl c31 (FnC.ro 2 rfl H (fun _ => Node_ok hy')) ?_
              clear H; rintro _ w ⟨rfl, H⟩
              refine ops_v (v_move (v := (.tuple _)) rfl rfl) ?_
              refine ops_v (v_extract (v := (.agg _)) rfl rfl rfl) ?_
              refine ops_v (v_extract (v := (.bool _)) rfl rfl rfl) ?_
              refine ops_alloc H rfl tz42 ?_
              clear H; intro bn1 w H
              refine ops_store (vs := [_, _, _, _, _]) (v := (.agg _)) (cs' := [_, _, _, _, _]) 0 H rfl ts42 rfl rfl rfl rfl rfl rfl rfl rfl ?_
              clear H; intro w H
              refine ops_v (v_assign (v := (.bool _)) rfl rfl) ?_
              refine ops_nil ?_
              refine W_seq ?_
              refine W_seq ?_
              refine W_region ?_
              refine ops_v (v_fieldAddr rfl fo42_0 rfl rfl) ?_
              refine ops_load (v := (.bool _)) 1 H rfl tc4 rfl rfl rfl ?_
              refine ops_v (v_not rfl rfl _ rfl) ?_
              refine ops_v (v_move (v := (.bool _)) rfl rfl) ?_
              refine ops_skip rfl rfl ?_
              refine ops_skip rfl rfl ?_
              refine ops_skip rfl rfl ?_
              refine ops_v (v_pick_f (v := (.bool _)) rfl rfl rfl) ?_
              refine ops_v (v_move (v := (.bool _)) rfl rfl) ?_
              refine ops_v (v_fieldAddr rfl fo42_0 rfl rfl) ?_
              refine ops_load (v := (.bool _)) 0 H rfl tc4 rfl rfl rfl ?_
              refine ops_v (v_not rfl rfl _ rfl) ?_
              refine ops_v (v_move (v := (.bool _)) rfl rfl) ?_
              refine ops_v (v_fieldAddr rfl fo42_2 rfl rfl) ?_
              refine ops_load (v := (.int _ _)) 0 H rfl tc3 rfl rfl rfl ?_
              refine ops_v (v_eql false rfl rfl rfl (decide_eq_false (by first | omega | (simp only; omega) | rfl | decide))) ?_
              refine ops_v (v_pick_t (v := (.bool _)) rfl rfl rfl) ?_
              refine ops_v (v_pick_f (v := (.bool _)) rfl rfl rfl) ?_
              refine ops_nil ?_
              refine W_if_f rfl ?_
              refine W_skip ?_
              refine W_seq ?_
              refine W_region ?_
              refine ops_v (v_move (v := (.pointer _)) rfl rfl) ?_
              refine ops_v (v_move (v := (.int _ _)) rfl rfl) ?_
              refine ops_v (v_move (v := (.int _ _)) rfl rfl) ?_
              refine ops_call rfl c33 (FnC.ro 3 rfl H (fun _ => Eval_ok w' a X)) ?_
              clear H; rintro _ w ⟨rfl, H⟩
              refine ops_v (v_assign (v := (.int _ _)) rfl rfl) ?_
              refine ops_nil ?_
              refine W_seq ?_
              refine W_seq ?_
              refine W_region ?_
              refine ops_v (v_move (v := (.int _ _)) rfl rfl) ?_
              refine ops_v (v_rem (X % 2) rfl rfl rfl (by decide) hX2) ?_
              refine ops_v (v_eql true rfl rfl rfl (decide_eq_true (by first | omega | (simp only; omega) | rfl | decide))) ?_
              refine ops_nil ?_
              refine W_if_t rfl ?_
              refine W_region ?_
              refine ops_v (v_move (v := (.pointer _)) rfl rfl) ?_
              refine ops_v (v_move (v := (.int _ _)) rfl rfl) ?_
              refine ops_v (v_move (v := (.int _ _)) rfl rfl) ?_
              refine ops_call rfl c33 (FnC.ro 3 rfl H (fun _ => Eval_ok w' b X)) ?_
              clear H; rintro _ w ⟨rfl, H⟩
              refine ops_v (v_assign (v := (.int _ _)) rfl rfl) ?_
              refine ops_nil ?_
              refine W_seq ?_
              refine W_region ?_
              refine ops_v (v_move (v := (.bool _)) rfl rfl) ?_
              refine ops_v (v_move (v := (.bool _)) rfl rfl) ?_
              refine ops_v (v_move (v := (.int _ _)) rfl rfl) ?_
              refine ops_v (v_eql true rfl rfl rfl (decide_eq_true (by first | omega | (simp only; omega) | rfl | decide))) ?_
              refine ops_v (v_pick_t (v := (.bool _)) rfl rfl rfl) ?_
              refine ops_v (v_move (v := (.bool _)) rfl rfl) ?_
              refine ops_v (v_move (v := (.pointer _)) rfl rfl) ?_
              refine ops_v (v_move (v := (.int _ _)) rfl rfl) ?_
              refine ops_v (v_move (v := (.int _ _)) rfl rfl) ?_
              refine ops_call rfl c33 (FnC.ro 3 rfl H (fun _ => Eval_ok w' k X)) ?_
              clear H; rintro _ w ⟨rfl, H⟩
              refine ops_v (v_move (v := (.int _ _)) rfl rfl) ?_
              refine ops_v (v_eql true rfl rfl rfl (decide_eq_true (by first | omega | (simp only; omega) | rfl | decide))) ?_
              refine ops_v (v_pick_t (v := (.bool _)) rfl rfl rfl) ?_
              refine ops_v (v_move (v := (.bool _)) rfl rfl) ?_
              refine ops_v (v_move (v := (.pointer _)) rfl rfl) ?_
              refine ops_v (v_move (v := (.int _ _)) rfl rfl) ?_
              refine ops_call rfl c35 (FnC.ro 3 rfl H (fun _ => Count_ok w' k)) ?_
              clear H; rintro _ w ⟨rfl, H⟩
              refine ops_v (v_move (v := (.pointer _)) rfl rfl) ?_
              refine ops_v (v_move (v := (.int _ _)) rfl rfl) ?_
              refine ops_call rfl c35 (FnC.ro 3 rfl H (fun _ => Count_ok w' a)) ?_
              clear H; rintro _ w ⟨rfl, H⟩
              refine ops_v (v_move (v := (.pointer _)) rfl rfl) ?_
              refine ops_v (v_move (v := (.int _ _)) rfl rfl) ?_
              refine ops_call rfl c35 (FnC.ro 3 rfl H (fun _ => Count_ok w' b)) ?_
              clear H; rintro _ w ⟨rfl, H⟩
              refine ops_v (v_add _ rfl rfl rfl (wrap_in (by omega) (by omega))) ?_
              refine ops_v (v_add _ rfl rfl rfl (wrap_in (by omega) (by omega))) ?_
              refine ops_v (v_leq true rfl rfl rfl (decide_eq_true (by first | omega | (simp only; omega) | rfl | decide))) ?_
              refine ops_v (v_pick_t (v := (.bool _)) rfl rfl rfl) ?_
              refine ops_v (v_move (v := (.bool _)) rfl rfl) ?_
              refine ops_v (v_move (v := (.pointer _)) rfl rfl) ?_
              refine ops_v (v_move (v := (.int _ _)) rfl rfl) ?_
              refine ops_call rfl c35 (FnC.ro 3 rfl H (fun _ => Count_ok w' k)) ?_
              clear H; rintro _ w ⟨rfl, H⟩
              refine ops_v (v_move (v := (.pointer _)) rfl rfl) ?_
              refine ops_v (v_move (v := (.int _ _)) rfl rfl) ?_
              refine ops_call rfl c35 (FnC.ro 3 rfl H (fun _ => Count_ok w' a)) ?_
              clear H; rintro _ w ⟨rfl, H⟩
              refine ops_v (v_move (v := (.pointer _)) rfl rfl) ?_
              refine ops_v (v_move (v := (.int _ _)) rfl rfl) ?_
              refine ops_call rfl c35 (FnC.ro 3 rfl H (fun _ => Count_ok w' b)) ?_
              clear H; rintro _ w ⟨rfl, H⟩
              refine ops_v (v_max rfl rfl rfl rfl) ?_
              refine ops_v (v_geq true rfl rfl rfl (decide_eq_true (by first | omega | (simp only; omega) | rfl | decide))) ?_
              refine ops_v (v_pick_t (v := (.bool _)) rfl rfl rfl) ?_
              refine ops_v (v_move (v := (.bool _)) rfl rfl) ?_
              refine ops_v (v_move (v := (.int _ _)) rfl rfl) ?_
              refine ops_v (v_move (v := (.int _ _)) rfl rfl) ?_
              refine ops_v (v_neq false rfl rfl rfl (decide_eq_false (by first | omega | (simp only; omega) | rfl | decide))) ?_
              refine ops_v (v_move (v := (.bool _)) rfl rfl) ?_
              refine ops_v (v_move (v := (.int _ _)) rfl rfl) ?_
              refine ops_v (v_move (v := (.int _ _)) rfl rfl) ?_
              refine ops_v (v_eql true rfl rfl rfl (decide_eq_true (by first | omega | (simp only; omega) | rfl | decide))) ?_
              refine ops_v (v_pick_f (v := (.bool _)) rfl rfl rfl) ?_
              refine ops_v (v_pick_t (v := (.bool _)) rfl rfl rfl) ?_
              refine ops_v (v_assign (v := (.bool _)) rfl rfl) ?_
              refine ops_nil ?_
              refine W_ret ?_
              refine ⟨_, (.tmp (v := (.bool _)) rfl .nil), ?_⟩
              exact ⟨rfl, _, H⟩
              -- (backstaylaw13.NodeSides: ret; chunks n1,n0,s,S; ptr 20=n0,22=n1)
            · refine W_region ?_
              refine ops_v (v_move (v := (.pointer _)) rfl rfl) ?_
              refine ops_v (v_move (v := (.int _ _)) rfl rfl) ?_
              refine ops_v (v_move (v := (.int _ _)) rfl rfl) ?_
              refine ops_call rfl c39 (FnC.at 1 rfl H (fun _ H => Make_ok hmm hmk H)) ?_
              clear H; rintro _ w ⟨rfl, H⟩
              refine ops_v (v_move (v := (.tuple _)) rfl rfl) ?_
              refine ops_v (v_extract (v := (.int _ _)) rfl rfl rfl) ?_
              refine ops_v (v_extract (v := (.int _ _)) rfl rfl rfl) ?_
              refine ops_v (v_assign (v := (.int _ _)) rfl rfl) ?_
              refine ops_v (v_assign (v := (.int _ _)) rfl rfl) ?_
              refine ops_nil ?_
              refine W_seq ?_
              refine W_region ?_
              refine ops_v (v_move (v := (.pointer _)) rfl rfl) ?_
              refine ops_v (v_move (v := (.int _ _)) rfl rfl) ?_
              refine ops_call rfl c31 (FnC.ro 1 rfl H (fun _ => Node_ok hx')) ?_
              clear H; rintro _ w ⟨rfl, H⟩
              refine ops_v (v_move (v := (.tuple _)) rfl rfl) ?_
              refine ops_v (v_extract (v := (.agg _)) rfl rfl rfl) ?_
              refine ops_v (v_extract (v := (.bool _)) rfl rfl rfl) ?_
              refine ops_alloc H rfl tz42 ?_
              clear H; intro bn0 w H
              refine ops_store (vs := [_, _, _, _, _]) (v := (.agg _)) (cs' := [_, _, _, _, _]) 0 H rfl ts42 rfl rfl rfl rfl rfl rfl rfl rfl ?_
              clear H; intro w H
              refine ops_v (v_assign (v := (.bool _)) rfl rfl) ?_
              refine ops_nil ?_
              refine W_seq ?_
              refine W_region ?_
              refine ops_v (v_move (v := (.pointer _)) rfl rfl) ?_
              refine ops_v (v_move (v := (.int _ _)) rfl rfl) ?_
              refine ops_call rfl c31 (FnC.ro 2 rfl H (fun _ => Node_ok hy')) ?_
              clear H; rintro _ w ⟨rfl, H⟩
              refine ops_v (v_move (v := (.tuple _)) rfl rfl) ?_
              refine ops_v (v_extract (v := (.agg _)) rfl rfl rfl) ?_
              refine ops_v (v_extract (v := (.bool _)) rfl rfl rfl) ?_
              refine ops_alloc H rfl tz42 ?_
              clear H; intro bn1 w H
              refine ops_store (vs := [_, _, _, _, _]) (v := (.agg _)) (cs' := [_, _, _, _, _]) 0 H rfl ts42 rfl rfl rfl rfl rfl rfl rfl rfl ?_
              clear H; intro w H
              refine ops_v (v_assign (v := (.bool _)) rfl rfl) ?_
              refine ops_nil ?_
              refine W_seq ?_
              refine W_seq ?_
              refine W_region ?_
              refine ops_v (v_fieldAddr rfl fo42_0 rfl rfl) ?_
              refine ops_load (v := (.bool _)) 1 H rfl tc4 rfl rfl rfl ?_
              refine ops_v (v_not rfl rfl _ rfl) ?_
              refine ops_v (v_move (v := (.bool _)) rfl rfl) ?_
              refine ops_skip rfl rfl ?_
              refine ops_skip rfl rfl ?_
              refine ops_skip rfl rfl ?_
              refine ops_v (v_pick_f (v := (.bool _)) rfl rfl rfl) ?_
              refine ops_v (v_move (v := (.bool _)) rfl rfl) ?_
              refine ops_v (v_fieldAddr rfl fo42_0 rfl rfl) ?_
              refine ops_load (v := (.bool _)) 0 H rfl tc4 rfl rfl rfl ?_
              refine ops_v (v_not rfl rfl _ rfl) ?_
              refine ops_v (v_move (v := (.bool _)) rfl rfl) ?_
              refine ops_v (v_fieldAddr rfl fo42_2 rfl rfl) ?_
              refine ops_load (v := (.int _ _)) 0 H rfl tc3 rfl rfl rfl ?_
              refine ops_v (v_eql false rfl rfl rfl (decide_eq_false (by first | omega | (simp only; omega) | rfl | decide))) ?_
              refine ops_v (v_pick_t (v := (.bool _)) rfl rfl rfl) ?_
              refine ops_v (v_pick_f (v := (.bool _)) rfl rfl rfl) ?_
              refine ops_nil ?_
              refine W_if_f rfl ?_
              refine W_skip ?_
              refine W_seq ?_
              refine W_region ?_
              refine ops_v (v_move (v := (.pointer _)) rfl rfl) ?_
              refine ops_v (v_move (v := (.int _ _)) rfl rfl) ?_
              refine ops_v (v_move (v := (.int _ _)) rfl rfl) ?_
              refine ops_call rfl c33 (FnC.ro 3 rfl H (fun _ => Eval_ok w' a X)) ?_
              clear H; rintro _ w ⟨rfl, H⟩
              refine ops_v (v_assign (v := (.int _ _)) rfl rfl) ?_
              refine ops_nil ?_
              refine W_seq ?_
              refine W_seq ?_
              refine W_region ?_
              refine ops_v (v_move (v := (.int _ _)) rfl rfl) ?_
              refine ops_v (v_rem (X % 2) rfl rfl rfl (by decide) hX2) ?_
              refine ops_v (v_eql true rfl rfl rfl (decide_eq_true (by first | omega | (simp only; omega) | rfl | decide))) ?_
              refine ops_nil ?_
              refine W_if_t rfl ?_
              refine W_region ?_
              refine ops_v (v_move (v := (.pointer _)) rfl rfl) ?_
              refine ops_v (v_move (v := (.int _ _)) rfl rfl) ?_
              refine ops_v (v_move (v := (.int _ _)) rfl rfl) ?_
              refine ops_call rfl c33 (FnC.ro 3 rfl H (fun _ => Eval_ok w' b X)) ?_
              clear H; rintro _ w ⟨rfl, H⟩
              refine ops_v (v_assign (v := (.int _ _)) rfl rfl) ?_
              refine ops_nil ?_
              refine W_seq ?_
              refine W_region ?_
              refine ops_v (v_move (v := (.bool _)) rfl rfl) ?_
              refine ops_v (v_move (v := (.bool _)) rfl rfl) ?_
              refine ops_v (v_move (v := (.int _ _)) rfl rfl) ?_
              refine ops_v (v_eql true rfl rfl rfl (decide_eq_true (by first | omega | (simp only; omega) | rfl | decide))) ?_
              refine ops_v (v_pick_t (v := (.bool _)) rfl rfl rfl) ?_
              refine ops_v (v_move (v := (.bool _)) rfl rfl) ?_
              refine ops_v (v_move (v := (.pointer _)) rfl rfl) ?_
              refine ops_v (v_move (v := (.int _ _)) rfl rfl) ?_
              refine ops_v (v_move (v := (.int _ _)) rfl rfl) ?_
              refine ops_call rfl c33 (FnC.ro 3 rfl H (fun _ => Eval_ok w' k X)) ?_
              clear H; rintro _ w ⟨rfl, H⟩
              refine ops_v (v_move (v := (.int _ _)) rfl rfl) ?_
              refine ops_v (v_eql true rfl rfl rfl (decide_eq_true (by first | omega | (simp only; omega) | rfl | decide))) ?_
              refine ops_v (v_pick_t (v := (.bool _)) rfl rfl rfl) ?_
              refine ops_v (v_move (v := (.bool _)) rfl rfl) ?_
              refine ops_v (v_move (v := (.pointer _)) rfl rfl) ?_
              refine ops_v (v_move (v := (.int _ _)) rfl rfl) ?_
              refine ops_call rfl c35 (FnC.ro 3 rfl H (fun _ => Count_ok w' k)) ?_
              clear H; rintro _ w ⟨rfl, H⟩
              refine ops_v (v_move (v := (.pointer _)) rfl rfl) ?_
              refine ops_v (v_move (v := (.int _ _)) rfl rfl) ?_
              refine ops_call rfl c35 (FnC.ro 3 rfl H (fun _ => Count_ok w' a)) ?_
              clear H; rintro _ w ⟨rfl, H⟩
              refine ops_v (v_move (v := (.pointer _)) rfl rfl) ?_
              refine ops_v (v_move (v := (.int _ _)) rfl rfl) ?_
              refine ops_call rfl c35 (FnC.ro 3 rfl H (fun _ => Count_ok w' b)) ?_
              clear H; rintro _ w ⟨rfl, H⟩
              refine ops_v (v_add _ rfl rfl rfl (wrap_in (by omega) (by omega))) ?_
              refine ops_v (v_add _ rfl rfl rfl (wrap_in (by omega) (by omega))) ?_
              refine ops_v (v_leq true rfl rfl rfl (decide_eq_true (by first | omega | (simp only; omega) | rfl | decide))) ?_
              refine ops_v (v_pick_t (v := (.bool _)) rfl rfl rfl) ?_
              refine ops_v (v_move (v := (.bool _)) rfl rfl) ?_
              refine ops_v (v_move (v := (.pointer _)) rfl rfl) ?_
              refine ops_v (v_move (v := (.int _ _)) rfl rfl) ?_
              refine ops_call rfl c35 (FnC.ro 3 rfl H (fun _ => Count_ok w' k)) ?_
              clear H; rintro _ w ⟨rfl, H⟩
              refine ops_v (v_move (v := (.pointer _)) rfl rfl) ?_
              refine ops_v (v_move (v := (.int _ _)) rfl rfl) ?_
              refine ops_call rfl c35 (FnC.ro 3 rfl H (fun _ => Count_ok w' a)) ?_
              clear H; rintro _ w ⟨rfl, H⟩
              refine ops_v (v_move (v := (.pointer _)) rfl rfl) ?_
              refine ops_v (v_move (v := (.int _ _)) rfl rfl) ?_
              refine ops_call rfl c35 (FnC.ro 3 rfl H (fun _ => Count_ok w' b)) ?_
              clear H; rintro _ w ⟨rfl, H⟩
              refine ops_v (v_max rfl rfl rfl rfl) ?_
              refine ops_v (v_geq true rfl rfl rfl (decide_eq_true (by first | omega | (simp only; omega) | rfl | decide))) ?_
              refine ops_v (v_pick_t (v := (.bool _)) rfl rfl rfl) ?_
              refine ops_v (v_move (v := (.bool _)) rfl rfl) ?_
              refine ops_v (v_move (v := (.int _ _)) rfl rfl) ?_
              refine ops_v (v_move (v := (.int _ _)) rfl rfl) ?_
              refine ops_v (v_neq true rfl rfl rfl (decide_eq_true (by first | omega | (simp only; omega) | rfl | decide))) ?_
              refine ops_v (v_move (v := (.bool _)) rfl rfl) ?_
              refine ops_skip rfl rfl ?_
              refine ops_skip rfl rfl ?_
              refine ops_skip rfl rfl ?_
              refine ops_v (v_pick_t (v := (.bool _)) rfl rfl rfl) ?_
              refine ops_v (v_pick_t (v := (.bool _)) rfl rfl rfl) ?_
              refine ops_v (v_assign (v := (.bool _)) rfl rfl) ?_
              refine ops_nil ?_
              refine W_ret ?_
              refine ⟨_, (.tmp (v := (.bool _)) rfl .nil), ?_⟩
              exact ⟨rfl, _, H⟩
              -- (backstaylaw13.NodeSides: ret; chunks n1,n0,s,S; ptr 20=n0,22=n1)
          · have hwant : M.eval s' k X = M.eval s' a X := by rw [r1, if_neg hodd]
            skip
            by_cases hne : a = b
            · refine W_region ?_
              refine ops_v (v_move (v := (.pointer _)) rfl rfl) ?_
              refine ops_v (v_move (v := (.int _ _)) rfl rfl) ?_
              refine ops_v (v_move (v := (.int _ _)) rfl rfl) ?_
              refine ops_call rfl c39 (FnC.at 1 rfl H (fun _ H => Make_ok hmm hmk H)) ?_
              clear H; rintro _ w ⟨rfl, H⟩
              refine ops_v (v_move (v := (.tuple _)) rfl rfl) ?_
              refine ops_v (v_extract (v := (.int _ _)) rfl rfl rfl) ?_
              refine ops_v (v_extract (v := (.int _ _)) rfl rfl rfl) ?_
              refine ops_v (v_assign (v := (.int _ _)) rfl rfl) ?_
              refine ops_v (v_assign (v := (.int _ _)) rfl rfl) ?_
              refine ops_nil ?_
              refine W_seq ?_
              refine W_region ?_
              refine ops_v (v_move (v := (.pointer _)) rfl rfl) ?_
              refine ops_v (v_move (v := (.int _ _)) rfl rfl) ?_
              refine ops_call rfl c31 (FnC.ro 1 rfl H (fun _ => Node_ok hx')) ?_
              clear H; rintro _ w ⟨rfl, H⟩
              refine ops_v (v_move (v := (.tuple _)) rfl rfl) ?_
              refine ops_v (v_extract (v := (.agg _)) rfl rfl rfl) ?_
              refine ops_v (v_extract (v := (.bool _)) rfl rfl rfl) ?_
              refine ops_alloc H rfl tz42 ?_
              clear H; intro bn0 w H
              refine ops_store (vs := [_, _, _, _, _]) (v := (.agg _)) (cs' := [_, _, _, _, _]) 0 H rfl ts42 rfl rfl rfl rfl rfl rfl rfl rfl ?_
              clear H; intro w H
              refine ops_v (v_assign (v := (.bool _)) rfl rfl) ?_
              refine ops_nil ?_
              refine W_seq ?_
              refine W_region ?_
              refine ops_v (v_move (v := (.pointer _)) rfl rfl) ?_
              refine ops_v (v_move (v := (.int _ _)) rfl rfl) ?_
              refine ops_call rfl c31 (FnC.ro 2 rfl H (fun _ => Node_ok hy')) ?_
              clear H; rintro _ w ⟨rfl, H⟩
              refine ops_v (v_move (v := (.tuple _)) rfl rfl) ?_
              refine ops_v (v_extract (v := (.agg _)) rfl rfl rfl) ?_
              refine ops_v (v_extract (v := (.bool _)) rfl rfl rfl) ?_
              refine ops_alloc H rfl tz42 ?_
              clear H; intro bn1 w H
              refine ops_store (vs := [_, _, _, _, _]) (v := (.agg _)) (cs' := [_, _, _, _, _]) 0 H rfl ts42 rfl rfl rfl rfl rfl rfl rfl rfl ?_
              clear H; intro w H
              refine ops_v (v_assign (v := (.bool _)) rfl rfl) ?_
              refine ops_nil ?_
              refine W_seq ?_
              refine W_seq ?_
              refine W_region ?_
              refine ops_v (v_fieldAddr rfl fo42_0 rfl rfl) ?_
              refine ops_load (v := (.bool _)) 1 H rfl tc4 rfl rfl rfl ?_
              refine ops_v (v_not rfl rfl _ rfl) ?_
              refine ops_v (v_move (v := (.bool _)) rfl rfl) ?_
              refine ops_skip rfl rfl ?_
              refine ops_skip rfl rfl ?_
              refine ops_skip rfl rfl ?_
              refine ops_v (v_pick_f (v := (.bool _)) rfl rfl rfl) ?_
              refine ops_v (v_move (v := (.bool _)) rfl rfl) ?_
              refine ops_v (v_fieldAddr rfl fo42_0 rfl rfl) ?_
              refine ops_load (v := (.bool _)) 0 H rfl tc4 rfl rfl rfl ?_
              refine ops_v (v_not rfl rfl _ rfl) ?_
              refine ops_v (v_move (v := (.bool _)) rfl rfl) ?_
              refine ops_v (v_fieldAddr rfl fo42_2 rfl rfl) ?_
              refine ops_load (v := (.int _ _)) 0 H rfl tc3 rfl rfl rfl ?_
              refine ops_v (v_eql false rfl rfl rfl (decide_eq_false (by first | omega | (simp only; omega) | rfl | decide))) ?_
              refine ops_v (v_pick_t (v := (.bool _)) rfl rfl rfl) ?_
              refine ops_v (v_pick_f (v := (.bool _)) rfl rfl rfl) ?_
              refine ops_nil ?_
              refine W_if_f rfl ?_
              refine W_skip ?_
              refine W_seq ?_
              refine W_region ?_
              refine ops_v (v_move (v := (.pointer _)) rfl rfl) ?_
              refine ops_v (v_move (v := (.int _ _)) rfl rfl) ?_
              refine ops_v (v_move (v := (.int _ _)) rfl rfl) ?_
              refine ops_call rfl c33 (FnC.ro 3 rfl H (fun _ => Eval_ok w' a X)) ?_
              clear H; rintro _ w ⟨rfl, H⟩
              refine ops_v (v_assign (v := (.int _ _)) rfl rfl) ?_
              refine ops_nil ?_
              refine W_seq ?_
              refine W_seq ?_
              refine W_region ?_
              refine ops_v (v_move (v := (.int _ _)) rfl rfl) ?_
              refine ops_v (v_rem (X % 2) rfl rfl rfl (by decide) hX2) ?_
              refine ops_v (v_eql false rfl rfl rfl (decide_eq_false (by first | omega | (simp only; omega) | rfl | decide))) ?_
              refine ops_nil ?_
              refine W_if_f rfl ?_
              refine W_skip ?_
              refine W_seq ?_
              refine W_region ?_
              refine ops_v (v_move (v := (.bool _)) rfl rfl) ?_
              refine ops_v (v_move (v := (.bool _)) rfl rfl) ?_
              refine ops_v (v_move (v := (.int _ _)) rfl rfl) ?_
              refine ops_v (v_eql true rfl rfl rfl (decide_eq_true (by first | omega | (simp only; omega) | rfl | decide))) ?_
              refine ops_v (v_pick_t (v := (.bool _)) rfl rfl rfl) ?_
              refine ops_v (v_move (v := (.bool _)) rfl rfl) ?_
              refine ops_v (v_move (v := (.pointer _)) rfl rfl) ?_
              refine ops_v (v_move (v := (.int _ _)) rfl rfl) ?_
              refine ops_v (v_move (v := (.int _ _)) rfl rfl) ?_
              refine ops_call rfl c33 (FnC.ro 3 rfl H (fun _ => Eval_ok w' k X)) ?_
              clear H; rintro _ w ⟨rfl, H⟩
              refine ops_v (v_move (v := (.int _ _)) rfl rfl) ?_
              refine ops_v (v_eql true rfl rfl rfl (decide_eq_true (by first | omega | (simp only; omega) | rfl | decide))) ?_
              refine ops_v (v_pick_t (v := (.bool _)) rfl rfl rfl) ?_
              refine ops_v (v_move (v := (.bool _)) rfl rfl) ?_
              refine ops_v (v_move (v := (.pointer _)) rfl rfl) ?_
              refine ops_v (v_move (v := (.int _ _)) rfl rfl) ?_
              refine ops_call rfl c35 (FnC.ro 3 rfl H (fun _ => Count_ok w' k)) ?_
              clear H; rintro _ w ⟨rfl, H⟩
              refine ops_v (v_move (v := (.pointer _)) rfl rfl) ?_
              refine ops_v (v_move (v := (.int _ _)) rfl rfl) ?_
              refine ops_call rfl c35 (FnC.ro 3 rfl H (fun _ => Count_ok w' a)) ?_
              clear H; rintro _ w ⟨rfl, H⟩
              refine ops_v (v_move (v := (.pointer _)) rfl rfl) ?_
              refine ops_v (v_move (v := (.int _ _)) rfl rfl) ?_
              refine ops_call rfl c35 (FnC.ro 3 rfl H (fun _ => Count_ok w' b)) ?_
              clear H; rintro _ w ⟨rfl, H⟩
              refine ops_v (v_add _ rfl rfl rfl (wrap_in (by omega) (by omega))) ?_
              refine ops_v (v_add _ rfl rfl rfl (wrap_in (by omega) (by omega))) ?_
              refine ops_v (v_leq true rfl rfl rfl (decide_eq_true (by first | omega | (simp only; omega) | rfl | decide))) ?_
              refine ops_v (v_pick_t (v := (.bool _)) rfl rfl rfl) ?_
              refine ops_v (v_move (v := (.bool _)) rfl rfl) ?_
              refine ops_v (v_move (v := (.pointer _)) rfl rfl) ?_
              refine ops_v (v_move (v := (.int _ _)) rfl rfl) ?_
              refine ops_call rfl c35 (FnC.ro 3 rfl H (fun _ => Count_ok w' k)) ?_
              clear H; rintro _ w ⟨rfl, H⟩
              refine ops_v (v_move (v := (.pointer _)) rfl rfl) ?_
              refine ops_v (v_move (v := (.int _ _)) rfl rfl) ?_
              refine ops_call rfl c35 (FnC.ro 3 rfl H (fun _ => Count_ok w' a)) ?_
              clear H; rintro _ w ⟨rfl, H⟩
              refine ops_v (v_move (v := (.pointer _)) rfl rfl) ?_
              refine ops_v (v_move (v := (.int _ _)) rfl rfl) ?_
              refine ops_call rfl c35 (FnC.ro 3 rfl H (fun _ => Count_ok w' b)) ?_
              clear H; rintro _ w ⟨rfl, H⟩
              refine ops_v (v_max rfl rfl rfl rfl) ?_
              refine ops_v (v_geq true rfl rfl rfl (decide_eq_true (by first | omega | (simp only; omega) | rfl | decide))) ?_
              refine ops_v (v_pick_t (v := (.bool _)) rfl rfl rfl) ?_
              refine ops_v (v_move (v := (.bool _)) rfl rfl) ?_
              refine ops_v (v_move (v := (.int _ _)) rfl rfl) ?_
              refine ops_v (v_move (v := (.int _ _)) rfl rfl) ?_
              refine ops_v (v_neq false rfl rfl rfl (decide_eq_false (by first | omega | (simp only; omega) | rfl | decide))) ?_
              refine ops_v (v_move (v := (.bool _)) rfl rfl) ?_
              refine ops_v (v_move (v := (.int _ _)) rfl rfl) ?_
              refine ops_v (v_move (v := (.int _ _)) rfl rfl) ?_
              refine ops_v (v_eql true rfl rfl rfl (decide_eq_true (by first | omega | (simp only; omega) | rfl | decide))) ?_
              refine ops_v (v_pick_f (v := (.bool _)) rfl rfl rfl) ?_
              refine ops_v (v_pick_t (v := (.bool _)) rfl rfl rfl) ?_
              refine ops_v (v_assign (v := (.bool _)) rfl rfl) ?_
              refine ops_nil ?_
              refine W_ret ?_
              refine ⟨_, (.tmp (v := (.bool _)) rfl .nil), ?_⟩
              exact ⟨rfl, _, H⟩
              -- (backstaylaw13.NodeSides: ret; chunks n1,n0,s,S; ptr 20=n0,22=n1)
            · refine W_region ?_
              refine ops_v (v_move (v := (.pointer _)) rfl rfl) ?_
              refine ops_v (v_move (v := (.int _ _)) rfl rfl) ?_
              refine ops_v (v_move (v := (.int _ _)) rfl rfl) ?_
              refine ops_call rfl c39 (FnC.at 1 rfl H (fun _ H => Make_ok hmm hmk H)) ?_
              clear H; rintro _ w ⟨rfl, H⟩
              refine ops_v (v_move (v := (.tuple _)) rfl rfl) ?_
              refine ops_v (v_extract (v := (.int _ _)) rfl rfl rfl) ?_
              refine ops_v (v_extract (v := (.int _ _)) rfl rfl rfl) ?_
              refine ops_v (v_assign (v := (.int _ _)) rfl rfl) ?_
              refine ops_v (v_assign (v := (.int _ _)) rfl rfl) ?_
              refine ops_nil ?_
              refine W_seq ?_
              refine W_region ?_
              refine ops_v (v_move (v := (.pointer _)) rfl rfl) ?_
              refine ops_v (v_move (v := (.int _ _)) rfl rfl) ?_
              refine ops_call rfl c31 (FnC.ro 1 rfl H (fun _ => Node_ok hx')) ?_
              clear H; rintro _ w ⟨rfl, H⟩
              refine ops_v (v_move (v := (.tuple _)) rfl rfl) ?_
              refine ops_v (v_extract (v := (.agg _)) rfl rfl rfl) ?_
              refine ops_v (v_extract (v := (.bool _)) rfl rfl rfl) ?_
              refine ops_alloc H rfl tz42 ?_
              clear H; intro bn0 w H
              refine ops_store (vs := [_, _, _, _, _]) (v := (.agg _)) (cs' := [_, _, _, _, _]) 0 H rfl ts42 rfl rfl rfl rfl rfl rfl rfl rfl ?_
              clear H; intro w H
              refine ops_v (v_assign (v := (.bool _)) rfl rfl) ?_
              refine ops_nil ?_
              refine W_seq ?_
              refine W_region ?_
              refine ops_v (v_move (v := (.pointer _)) rfl rfl) ?_
              refine ops_v (v_move (v := (.int _ _)) rfl rfl) ?_
              refine ops_call rfl c31 (FnC.ro 2 rfl H (fun _ => Node_ok hy')) ?_
              clear H; rintro _ w ⟨rfl, H⟩
              refine ops_v (v_move (v := (.tuple _)) rfl rfl) ?_
              refine ops_v (v_extract (v := (.agg _)) rfl rfl rfl) ?_
              refine ops_v (v_extract (v := (.bool _)) rfl rfl rfl) ?_
              refine ops_alloc H rfl tz42 ?_
              clear H; intro bn1 w H
              refine ops_store (vs := [_, _, _, _, _]) (v := (.agg _)) (cs' := [_, _, _, _, _]) 0 H rfl ts42 rfl rfl rfl rfl rfl rfl rfl rfl ?_
              clear H; intro w H
              refine ops_v (v_assign (v := (.bool _)) rfl rfl) ?_
              refine ops_nil ?_
              refine W_seq ?_
              refine W_seq ?_
              refine W_region ?_
              refine ops_v (v_fieldAddr rfl fo42_0 rfl rfl) ?_
              refine ops_load (v := (.bool _)) 1 H rfl tc4 rfl rfl rfl ?_
              refine ops_v (v_not rfl rfl _ rfl) ?_
              refine ops_v (v_move (v := (.bool _)) rfl rfl) ?_
              refine ops_skip rfl rfl ?_
              refine ops_skip rfl rfl ?_
              refine ops_skip rfl rfl ?_
              refine ops_v (v_pick_f (v := (.bool _)) rfl rfl rfl) ?_
              refine ops_v (v_move (v := (.bool _)) rfl rfl) ?_
              refine ops_v (v_fieldAddr rfl fo42_0 rfl rfl) ?_
              refine ops_load (v := (.bool _)) 0 H rfl tc4 rfl rfl rfl ?_
              refine ops_v (v_not rfl rfl _ rfl) ?_
              refine ops_v (v_move (v := (.bool _)) rfl rfl) ?_
              refine ops_v (v_fieldAddr rfl fo42_2 rfl rfl) ?_
              refine ops_load (v := (.int _ _)) 0 H rfl tc3 rfl rfl rfl ?_
              refine ops_v (v_eql false rfl rfl rfl (decide_eq_false (by first | omega | (simp only; omega) | rfl | decide))) ?_
              refine ops_v (v_pick_t (v := (.bool _)) rfl rfl rfl) ?_
              refine ops_v (v_pick_f (v := (.bool _)) rfl rfl rfl) ?_
              refine ops_nil ?_
              refine W_if_f rfl ?_
              refine W_skip ?_
              refine W_seq ?_
              refine W_region ?_
              refine ops_v (v_move (v := (.pointer _)) rfl rfl) ?_
              refine ops_v (v_move (v := (.int _ _)) rfl rfl) ?_
              refine ops_v (v_move (v := (.int _ _)) rfl rfl) ?_
              refine ops_call rfl c33 (FnC.ro 3 rfl H (fun _ => Eval_ok w' a X)) ?_
              clear H; rintro _ w ⟨rfl, H⟩
              refine ops_v (v_assign (v := (.int _ _)) rfl rfl) ?_
              refine ops_nil ?_
              refine W_seq ?_
              refine W_seq ?_
              refine W_region ?_
              refine ops_v (v_move (v := (.int _ _)) rfl rfl) ?_
              refine ops_v (v_rem (X % 2) rfl rfl rfl (by decide) hX2) ?_
              refine ops_v (v_eql false rfl rfl rfl (decide_eq_false (by first | omega | (simp only; omega) | rfl | decide))) ?_
              refine ops_nil ?_
              refine W_if_f rfl ?_
              refine W_skip ?_
              refine W_seq ?_
              refine W_region ?_
              refine ops_v (v_move (v := (.bool _)) rfl rfl) ?_
              refine ops_v (v_move (v := (.bool _)) rfl rfl) ?_
              refine ops_v (v_move (v := (.int _ _)) rfl rfl) ?_
              refine ops_v (v_eql true rfl rfl rfl (decide_eq_true (by first | omega | (simp only; omega) | rfl | decide))) ?_
              refine ops_v (v_pick_t (v := (.bool _)) rfl rfl rfl) ?_
              refine ops_v (v_move (v := (.bool _)) rfl rfl) ?_
              refine ops_v (v_move (v := (.pointer _)) rfl rfl) ?_
              refine ops_v (v_move (v := (.int _ _)) rfl rfl) ?_
              refine ops_v (v_move (v := (.int _ _)) rfl rfl) ?_
              refine ops_call rfl c33 (FnC.ro 3 rfl H (fun _ => Eval_ok w' k X)) ?_
              clear H; rintro _ w ⟨rfl, H⟩
              refine ops_v (v_move (v := (.int _ _)) rfl rfl) ?_
              refine ops_v (v_eql true rfl rfl rfl (decide_eq_true (by first | omega | (simp only; omega) | rfl | decide))) ?_
              refine ops_v (v_pick_t (v := (.bool _)) rfl rfl rfl) ?_
              refine ops_v (v_move (v := (.bool _)) rfl rfl) ?_
              refine ops_v (v_move (v := (.pointer _)) rfl rfl) ?_
              refine ops_v (v_move (v := (.int _ _)) rfl rfl) ?_
              refine ops_call rfl c35 (FnC.ro 3 rfl H (fun _ => Count_ok w' k)) ?_
              clear H; rintro _ w ⟨rfl, H⟩
              refine ops_v (v_move (v := (.pointer _)) rfl rfl) ?_
              refine ops_v (v_move (v := (.int _ _)) rfl rfl) ?_
              refine ops_call rfl c35 (FnC.ro 3 rfl H (fun _ => Count_ok w' a)) ?_
              clear H; rintro _ w ⟨rfl, H⟩
              refine ops_v (v_move (v := (.pointer _)) rfl rfl) ?_
              refine ops_v (v_move (v := (.int _ _)) rfl rfl) ?_
              refine ops_call rfl c35 (FnC.ro 3 rfl H (fun _ => Count_ok w' b)) ?_
              clear H; rintro _ w ⟨rfl, H⟩
              refine ops_v (v_add _ rfl rfl rfl (wrap_in (by omega) (by omega))) ?_
              refine ops_v (v_add _ rfl rfl rfl (wrap_in (by omega) (by omega))) ?_
              refine ops_v (v_leq true rfl rfl rfl (decide_eq_true (by first | omega | (simp only; omega) | rfl | decide))) ?_
              refine ops_v (v_pick_t (v := (.bool _)) rfl rfl rfl) ?_
              refine ops_v (v_move (v := (.bool _)) rfl rfl) ?_
              refine ops_v (v_move (v := (.pointer _)) rfl rfl) ?_
              refine ops_v (v_move (v := (.int _ _)) rfl rfl) ?_
              refine ops_call rfl c35 (FnC.ro 3 rfl H (fun _ => Count_ok w' k)) ?_
              clear H; rintro _ w ⟨rfl, H⟩
              refine ops_v (v_move (v := (.pointer _)) rfl rfl) ?_
              refine ops_v (v_move (v := (.int _ _)) rfl rfl) ?_
              refine ops_call rfl c35 (FnC.ro 3 rfl H (fun _ => Count_ok w' a)) ?_
              clear H; rintro _ w ⟨rfl, H⟩
              refine ops_v (v_move (v := (.pointer _)) rfl rfl) ?_
              refine ops_v (v_move (v := (.int _ _)) rfl rfl) ?_
              refine ops_call rfl c35 (FnC.ro 3 rfl H (fun _ => Count_ok w' b)) ?_
              clear H; rintro _ w ⟨rfl, H⟩
              refine ops_v (v_max rfl rfl rfl rfl) ?_
              refine ops_v (v_geq true rfl rfl rfl (decide_eq_true (by first | omega | (simp only; omega) | rfl | decide))) ?_
              refine ops_v (v_pick_t (v := (.bool _)) rfl rfl rfl) ?_
              refine ops_v (v_move (v := (.bool _)) rfl rfl) ?_
              refine ops_v (v_move (v := (.int _ _)) rfl rfl) ?_
              refine ops_v (v_move (v := (.int _ _)) rfl rfl) ?_
              refine ops_v (v_neq true rfl rfl rfl (decide_eq_true (by first | omega | (simp only; omega) | rfl | decide))) ?_
              refine ops_v (v_move (v := (.bool _)) rfl rfl) ?_
              refine ops_skip rfl rfl ?_
              refine ops_skip rfl rfl ?_
              refine ops_skip rfl rfl ?_
              refine ops_v (v_pick_t (v := (.bool _)) rfl rfl rfl) ?_
              refine ops_v (v_pick_t (v := (.bool _)) rfl rfl rfl) ?_
              refine ops_v (v_assign (v := (.bool _)) rfl rfl) ?_
              refine ops_nil ?_
              refine W_ret ?_
              refine ⟨_, (.tmp (v := (.bool _)) rfl .nil), ?_⟩
              exact ⟨rfl, _, H⟩
              -- (backstaylaw13.NodeSides: ret; chunks n1,n0,s,S; ptr 20=n0,22=n1)
      | false =>
        have hx0 : ¬ xl = 0 := fun h => xoff ⟨rfl, h⟩
        cases yb with
        | true =>
          by_cases hodd : X % 2 = 1
          · have hwant : M.eval s' k X = M.eval s' b X := by rw [r1, if_pos hodd]
            skip
            by_cases hne : a = b
            · refine W_region ?_
              refine ops_v (v_move (v := (.pointer _)) rfl rfl) ?_
              refine ops_v (v_move (v := (.int _ _)) rfl rfl) ?_
              refine ops_v (v_move (v := (.int _ _)) rfl rfl) ?_
              refine ops_call rfl c39 (FnC.at 1 rfl H (fun _ H => Make_ok hmm hmk H)) ?_
              clear H; rintro _ w ⟨rfl, H⟩
              refine ops_v (v_move (v := (.tuple _)) rfl rfl) ?_
              refine ops_v (v_extract (v := (.int _ _)) rfl rfl rfl) ?_
              refine ops_v (v_extract (v := (.int _ _)) rfl rfl rfl) ?_
              refine ops_v (v_assign (v := (.int _ _)) rfl rfl) ?_
              refine ops_v (v_assign (v := (.int _ _)) rfl rfl) ?_
              refine ops_nil ?_
              refine W_seq ?_
              refine W_region ?_
              refine ops_v (v_move (v := (.pointer _)) rfl rfl) ?_
              refine ops_v (v_move (v := (.int _ _)) rfl rfl) ?_
              refine ops_call rfl c31 (FnC.ro 1 rfl H (fun _ => Node_ok hx')) ?_
              clear H; rintro _ w ⟨rfl, H⟩
              refine ops_v (v_move (v := (.tuple _)) rfl rfl) ?_
              refine ops_v (v_extract (v := (.agg _)) rfl rfl rfl) ?_
              refine ops_v (v_extract (v := (.bool _)) rfl rfl rfl) ?_
              refine ops_alloc H rfl tz42 ?_
              clear H; intro bn0 w H
              refine ops_store (vs := [_, _, _, _, _]) (v := (.agg _)) (cs' := [_, _, _, _, _]) 0 H rfl ts42 rfl rfl rfl rfl rfl rfl rfl rfl ?_
              clear H; intro w H
              refine ops_v (v_assign (v := (.bool _)) rfl rfl) ?_
              refine ops_nil ?_
              refine W_seq ?_
              refine W_region ?_
              refine ops_v (v_move (v := (.pointer _)) rfl rfl) ?_
              refine ops_v (v_move (v := (.int _ _)) rfl rfl) ?_
              refine ops_call rfl c31 (FnC.ro 2 rfl H (fun _ => Node_ok hy')) ?_
              clear H; rintro _ w ⟨rfl, H⟩
              refine ops_v (v_move (v := (.tuple _)) rfl rfl) ?_
              refine ops_v (v_extract (v := (.agg _)) rfl rfl rfl) ?_
              refine ops_v (v_extract (v := (.bool _)) rfl rfl rfl) ?_
              refine ops_alloc H rfl tz42 ?_
              clear H; intro bn1 w H
              refine ops_store (vs := [_, _, _, _, _]) (v := (.agg _)) (cs' := [_, _, _, _, _]) 0 H rfl ts42 rfl rfl rfl rfl rfl rfl rfl rfl ?_
              clear H; intro w H
              refine ops_v (v_assign (v := (.bool _)) rfl rfl) ?_
              refine ops_nil ?_
              refine W_seq ?_
              refine W_seq ?_
              refine W_region ?_
              refine ops_v (v_fieldAddr rfl fo42_0 rfl rfl) ?_
              refine ops_load (v := (.bool _)) 1 H rfl tc4 rfl rfl rfl ?_
              refine ops_v (v_not rfl rfl _ rfl) ?_
              refine ops_v (v_move (v := (.bool _)) rfl rfl) ?_
              refine ops_v (v_fieldAddr rfl fo42_2 rfl rfl) ?_
              refine ops_load (v := (.int _ _)) 1 H rfl tc3 rfl rfl rfl ?_
              refine ops_v (v_eql false rfl rfl rfl (decide_eq_false (by first | omega | (simp only; omega) | rfl | decide))) ?_
              refine ops_v (v_pick_t (v := (.bool _)) rfl rfl rfl) ?_
              refine ops_v (v_move (v := (.bool _)) rfl rfl) ?_
              refine ops_v (v_fieldAddr rfl fo42_0 rfl rfl) ?_
              refine ops_load (v := (.bool _)) 0 H rfl tc4 rfl rfl rfl ?_
              refine ops_v (v_not rfl rfl _ rfl) ?_
              refine ops_v (v_move (v := (.bool _)) rfl rfl) ?_
              refine ops_skip rfl rfl ?_
              refine ops_skip rfl rfl ?_
              refine ops_skip rfl rfl ?_
              refine ops_v (v_pick_f (v := (.bool _)) rfl rfl rfl) ?_
              refine ops_v (v_pick_f (v := (.bool _)) rfl rfl rfl) ?_
              refine ops_nil ?_
              refine W_if_f rfl ?_
              refine W_skip ?_
              refine W_seq ?_
              refine W_region ?_
              refine ops_v (v_move (v := (.pointer _)) rfl rfl) ?_
              refine ops_v (v_move (v := (.int _ _)) rfl rfl) ?_
              refine ops_v (v_move (v := (.int _ _)) rfl rfl) ?_
              refine ops_call rfl c33 (FnC.ro 3 rfl H (fun _ => Eval_ok w' a X)) ?_
              clear H; rintro _ w ⟨rfl, H⟩
              refine ops_v (v_assign (v := (.int _ _)) rfl rfl) ?_
              refine ops_nil ?_
              refine W_seq ?_
              refine W_seq ?_
              refine W_region ?_
              refine ops_v (v_move (v := (.int _ _)) rfl rfl) ?_
              refine ops_v (v_rem (X % 2) rfl rfl rfl (by decide) hX2) ?_
              refine ops_v (v_eql true rfl rfl rfl (decide_eq_true (by first | omega | (simp only; omega) | rfl | decide))) ?_
              refine ops_nil ?_
              refine W_if_t rfl ?_
              refine W_region ?_
              refine ops_v (v_move (v := (.pointer _)) rfl rfl) ?_
              refine ops_v (v_move (v := (.int _ _)) rfl rfl) ?_
              refine ops_v (v_move (v := (.int _ _)) rfl rfl) ?_
              refine ops_call rfl c33 (FnC.ro 3 rfl H (fun _ => Eval_ok w' b X)) ?_
              clear H; rintro _ w ⟨rfl, H⟩
              refine ops_v (v_assign (v := (.int _ _)) rfl rfl) ?_
              refine ops_nil ?_
              refine W_seq ?_
              refine W_region ?_
              refine ops_v (v_move (v := (.bool _)) rfl rfl) ?_
              refine ops_v (v_move (v := (.bool _)) rfl rfl) ?_
              refine ops_v (v_move (v := (.int _ _)) rfl rfl) ?_
              refine ops_v (v_eql true rfl rfl rfl (decide_eq_true (by first | omega | (simp only; omega) | rfl | decide))) ?_
              refine ops_v (v_pick_t (v := (.bool _)) rfl rfl rfl) ?_
              refine ops_v (v_move (v := (.bool _)) rfl rfl) ?_
              refine ops_v (v_move (v := (.pointer _)) rfl rfl) ?_
              refine ops_v (v_move (v := (.int _ _)) rfl rfl) ?_
              refine ops_v (v_move (v := (.int _ _)) rfl rfl) ?_
              refine ops_call rfl c33 (FnC.ro 3 rfl H (fun _ => Eval_ok w' k X)) ?_
              clear H; rintro _ w ⟨rfl, H⟩
              refine ops_v (v_move (v := (.int _ _)) rfl rfl) ?_
              refine ops_v (v_eql true rfl rfl rfl (decide_eq_true (by first | omega | (simp only; omega) | rfl | decide))) ?_
              refine ops_v (v_pick_t (v := (.bool _)) rfl rfl rfl) ?_
              refine ops_v (v_move (v := (.bool _)) rfl rfl) ?_
              refine ops_v (v_move (v := (.pointer _)) rfl rfl) ?_
              refine ops_v (v_move (v := (.int _ _)) rfl rfl) ?_
              refine ops_call rfl c35 (FnC.ro 3 rfl H (fun _ => Count_ok w' k)) ?_
              clear H; rintro _ w ⟨rfl, H⟩
              refine ops_v (v_move (v := (.pointer _)) rfl rfl) ?_
              refine ops_v (v_move (v := (.int _ _)) rfl rfl) ?_
              refine ops_call rfl c35 (FnC.ro 3 rfl H (fun _ => Count_ok w' a)) ?_
              clear H; rintro _ w ⟨rfl, H⟩
              refine ops_v (v_move (v := (.pointer _)) rfl rfl) ?_
              refine ops_v (v_move (v := (.int _ _)) rfl rfl) ?_
              refine ops_call rfl c35 (FnC.ro 3 rfl H (fun _ => Count_ok w' b)) ?_
              clear H; rintro _ w ⟨rfl, H⟩
              refine ops_v (v_add _ rfl rfl rfl (wrap_in (by omega) (by omega))) ?_
              refine ops_v (v_add _ rfl rfl rfl (wrap_in (by omega) (by omega))) ?_
              refine ops_v (v_leq true rfl rfl rfl (decide_eq_true (by first | omega | (simp only; omega) | rfl | decide))) ?_
              refine ops_v (v_pick_t (v := (.bool _)) rfl rfl rfl) ?_
              refine ops_v (v_move (v := (.bool _)) rfl rfl) ?_
              refine ops_v (v_move (v := (.pointer _)) rfl rfl) ?_
              refine ops_v (v_move (v := (.int _ _)) rfl rfl) ?_
              refine ops_call rfl c35 (FnC.ro 3 rfl H (fun _ => Count_ok w' k)) ?_
              clear H; rintro _ w ⟨rfl, H⟩
              refine ops_v (v_move (v := (.pointer _)) rfl rfl) ?_
              refine ops_v (v_move (v := (.int _ _)) rfl rfl) ?_
              refine ops_call rfl c35 (FnC.ro 3 rfl H (fun _ => Count_ok w' a)) ?_
              clear H; rintro _ w ⟨rfl, H⟩
              refine ops_v (v_move (v := (.pointer _)) rfl rfl) ?_
              refine ops_v (v_move (v := (.int _ _)) rfl rfl) ?_
              refine ops_call rfl c35 (FnC.ro 3 rfl H (fun _ => Count_ok w' b)) ?_
              clear H; rintro _ w ⟨rfl, H⟩
              refine ops_v (v_max rfl rfl rfl rfl) ?_
              refine ops_v (v_geq true rfl rfl rfl (decide_eq_true (by first | omega | (simp only; omega) | rfl | decide))) ?_
              refine ops_v (v_pick_t (v := (.bool _)) rfl rfl rfl) ?_
              refine ops_v (v_move (v := (.bool _)) rfl rfl) ?_
              refine ops_v (v_move (v := (.int _ _)) rfl rfl) ?_
              refine ops_v (v_move (v := (.int _ _)) rfl rfl) ?_
              refine ops_v (v_neq false rfl rfl rfl (decide_eq_false (by first | omega | (simp only; omega) | rfl | decide))) ?_
              refine ops_v (v_move (v := (.bool _)) rfl rfl) ?_
              refine ops_v (v_move (v := (.int _ _)) rfl rfl) ?_
              refine ops_v (v_move (v := (.int _ _)) rfl rfl) ?_
              refine ops_v (v_eql true rfl rfl rfl (decide_eq_true (by first | omega | (simp only; omega) | rfl | decide))) ?_
              refine ops_v (v_pick_f (v := (.bool _)) rfl rfl rfl) ?_
              refine ops_v (v_pick_t (v := (.bool _)) rfl rfl rfl) ?_
              refine ops_v (v_assign (v := (.bool _)) rfl rfl) ?_
              refine ops_nil ?_
              refine W_ret ?_
              refine ⟨_, (.tmp (v := (.bool _)) rfl .nil), ?_⟩
              exact ⟨rfl, _, H⟩
              -- (backstaylaw13.NodeSides: ret; chunks n1,n0,s,S; ptr 20=n0,22=n1)
            · refine W_region ?_
              refine ops_v (v_move (v := (.pointer _)) rfl rfl) ?_
              refine ops_v (v_move (v := (.int _ _)) rfl rfl) ?_
              refine ops_v (v_move (v := (.int _ _)) rfl rfl) ?_
              refine ops_call rfl c39 (FnC.at 1 rfl H (fun _ H => Make_ok hmm hmk H)) ?_
              clear H; rintro _ w ⟨rfl, H⟩
              refine ops_v (v_move (v := (.tuple _)) rfl rfl) ?_
              refine ops_v (v_extract (v := (.int _ _)) rfl rfl rfl) ?_
              refine ops_v (v_extract (v := (.int _ _)) rfl rfl rfl) ?_
              refine ops_v (v_assign (v := (.int _ _)) rfl rfl) ?_
              refine ops_v (v_assign (v := (.int _ _)) rfl rfl) ?_
              refine ops_nil ?_
              refine W_seq ?_
              refine W_region ?_
              refine ops_v (v_move (v := (.pointer _)) rfl rfl) ?_
              refine ops_v (v_move (v := (.int _ _)) rfl rfl) ?_
              refine ops_call rfl c31 (FnC.ro 1 rfl H (fun _ => Node_ok hx')) ?_
              clear H; rintro _ w ⟨rfl, H⟩
              refine ops_v (v_move (v := (.tuple _)) rfl rfl) ?_
              refine ops_v (v_extract (v := (.agg _)) rfl rfl rfl) ?_
              refine ops_v (v_extract (v := (.bool _)) rfl rfl rfl) ?_
              refine ops_alloc H rfl tz42 ?_
              clear H; intro bn0 w H
              refine ops_store (vs := [_, _, _, _, _]) (v := (.agg _)) (cs' := [_, _, _, _, _]) 0 H rfl ts42 rfl rfl rfl rfl rfl rfl rfl rfl ?_
              clear H; intro w H
              refine ops_v (v_assign (v := (.bool _)) rfl rfl) ?_
              refine ops_nil ?_
              refine W_seq ?_
              refine W_region ?_
              refine ops_v (v_move (v := (.pointer _)) rfl rfl) ?_
              refine ops_v (v_move (v := (.int _ _)) rfl rfl) ?_
              refine ops_call rfl c31 (FnC.ro 2 rfl H (fun _ => Node_ok hy')) ?_
              clear H; rintro _ w ⟨rfl, H⟩
              refine ops_v (v_move (v := (.tuple _)) rfl rfl) ?_
              refine ops_v (v_extract (v := (.agg _)) rfl rfl rfl) ?_
              refine ops_v (v_extract (v := (.bool _)) rfl rfl rfl) ?_
              refine ops_alloc H rfl tz42 ?_
              clear H; intro bn1 w H
              refine ops_store (vs := [_, _, _, _, _]) (v := (.agg _)) (cs' := [_, _, _, _, _]) 0 H rfl ts42 rfl rfl rfl rfl rfl rfl rfl rfl ?_
              clear H; intro w H
              refine ops_v (v_assign (v := (.bool _)) rfl rfl) ?_
              refine ops_nil ?_
              refine W_seq ?_
              refine W_seq ?_
              refine W_region ?_
              refine ops_v (v_fieldAddr rfl fo42_0 rfl rfl) ?_
              refine ops_load (v := (.bool _)) 1 H rfl tc4 rfl rfl rfl ?_
              refine ops_v (v_not rfl rfl _ rfl) ?_
              refine ops_v (v_move (v := (.bool _)) rfl rfl) ?_
              refine ops_v (v_fieldAddr rfl fo42_2 rfl rfl) ?_
              refine ops_load (v := (.int _ _)) 1 H rfl tc3 rfl rfl rfl ?_
              refine ops_v (v_eql false rfl rfl rfl (decide_eq_false (by first | omega | (simp only; omega) | rfl | decide))) ?_
              refine ops_v (v_pick_t (v := (.bool _)) rfl rfl rfl) ?_
              refine ops_v (v_move (v := (.bool _)) rfl rfl) ?_
              refine ops_v (v_fieldAddr rfl fo42_0 rfl rfl) ?_
              refine ops_load (v := (.bool _)) 0 H rfl tc4 rfl rfl rfl ?_
              refine ops_v (v_not rfl rfl _ rfl) ?_
              refine ops_v (v_move (v := (.bool _)) rfl rfl) ?_
              refine ops_skip rfl rfl ?_
              refine ops_skip rfl rfl ?_
              refine ops_skip rfl rfl ?_
              refine ops_v (v_pick_f (v := (.bool _)) rfl rfl rfl) ?_
              refine ops_v (v_pick_f (v := (.bool _)) rfl rfl rfl) ?_
              refine ops_nil ?_
              refine W_if_f rfl ?_
              refine W_skip ?_
              refine W_seq ?_
              refine W_region ?_
              refine ops_v (v_move (v := (.pointer _)) rfl rfl) ?_
              refine ops_v (v_move (v := (.int _ _)) rfl rfl) ?_
              refine ops_v (v_move (v := (.int _ _)) rfl rfl) ?_
              refine ops_call rfl c33 (FnC.ro 3 rfl H (fun _ => Eval_ok w' a X)) ?_
              clear H; rintro _ w ⟨rfl, H⟩
              refine ops_v (v_assign (v := (.int _ _)) rfl rfl) ?_
              refine ops_nil ?_
              refine W_seq ?_
              refine W_seq ?_
              refine W_region ?_
              refine ops_v (v_move (v := (.int _ _)) rfl rfl) ?_
              refine ops_v (v_rem (X % 2) rfl rfl rfl (by decide) hX2) ?_
              refine ops_v (v_eql true rfl rfl rfl (decide_eq_true (by first | omega | (simp only; omega) | rfl | decide))) ?_
              refine ops_nil ?_
              refine W_if_t rfl ?_
              refine W_region ?_
              refine ops_v (v_move (v := (.pointer _)) rfl rfl) ?_
              refine ops_v (v_move (v := (.int _ _)) rfl rfl) ?_
              refine ops_v (v_move (v := (.int _ _)) rfl rfl) ?_
              refine ops_call rfl c33 (FnC.ro 3 rfl H (fun _ => Eval_ok w' b X)) ?_
              clear H; rintro _ w ⟨rfl, H⟩
              refine ops_v (v_assign (v := (.int _ _)) rfl rfl) ?_
              refine ops_nil ?_
              refine W_seq ?_
              refine W_region ?_
              refine ops_v (v_move (v := (.bool _)) rfl rfl) ?_
              refine ops_v (v_move (v := (.bool _)) rfl rfl) ?_
              refine ops_v (v_move (v := (.int _ _)) rfl rfl) ?_
              refine ops_v (v_eql true rfl rfl rfl (decide_eq_true (by first | omega | (simp only; omega) | rfl | decide))) ?_
              refine ops_v (v_pick_t (v := (.bool _)) rfl rfl rfl) ?_
              refine ops_v (v_move (v := (.bool _)) rfl rfl) ?_
              refine ops_v (v_move (v := (.pointer _)) rfl rfl) ?_
              refine ops_v (v_move (v := (.int _ _)) rfl rfl) ?_
              refine ops_v (v_move (v := (.int _ _)) rfl rfl) ?_
              refine ops_call rfl c33 (FnC.ro 3 rfl H (fun _ => Eval_ok w' k X)) ?_
              clear H; rintro _ w ⟨rfl, H⟩
              refine ops_v (v_move (v := (.int _ _)) rfl rfl) ?_
              refine ops_v (v_eql true rfl rfl rfl (decide_eq_true (by first | omega | (simp only; omega) | rfl | decide))) ?_
              refine ops_v (v_pick_t (v := (.bool _)) rfl rfl rfl) ?_
              refine ops_v (v_move (v := (.bool _)) rfl rfl) ?_
              refine ops_v (v_move (v := (.pointer _)) rfl rfl) ?_
              refine ops_v (v_move (v := (.int _ _)) rfl rfl) ?_
              refine ops_call rfl c35 (FnC.ro 3 rfl H (fun _ => Count_ok w' k)) ?_
              clear H; rintro _ w ⟨rfl, H⟩
              refine ops_v (v_move (v := (.pointer _)) rfl rfl) ?_
              refine ops_v (v_move (v := (.int _ _)) rfl rfl) ?_
              refine ops_call rfl c35 (FnC.ro 3 rfl H (fun _ => Count_ok w' a)) ?_
              clear H; rintro _ w ⟨rfl, H⟩
              refine ops_v (v_move (v := (.pointer _)) rfl rfl) ?_
              refine ops_v (v_move (v := (.int _ _)) rfl rfl) ?_
              refine ops_call rfl c35 (FnC.ro 3 rfl H (fun _ => Count_ok w' b)) ?_
              clear H; rintro _ w ⟨rfl, H⟩
              refine ops_v (v_add _ rfl rfl rfl (wrap_in (by omega) (by omega))) ?_
              refine ops_v (v_add _ rfl rfl rfl (wrap_in (by omega) (by omega))) ?_
              refine ops_v (v_leq true rfl rfl rfl (decide_eq_true (by first | omega | (simp only; omega) | rfl | decide))) ?_
              refine ops_v (v_pick_t (v := (.bool _)) rfl rfl rfl) ?_
              refine ops_v (v_move (v := (.bool _)) rfl rfl) ?_
              refine ops_v (v_move (v := (.pointer _)) rfl rfl) ?_
              refine ops_v (v_move (v := (.int _ _)) rfl rfl) ?_
              refine ops_call rfl c35 (FnC.ro 3 rfl H (fun _ => Count_ok w' k)) ?_
              clear H; rintro _ w ⟨rfl, H⟩
              refine ops_v (v_move (v := (.pointer _)) rfl rfl) ?_
              refine ops_v (v_move (v := (.int _ _)) rfl rfl) ?_
              refine ops_call rfl c35 (FnC.ro 3 rfl H (fun _ => Count_ok w' a)) ?_
              clear H; rintro _ w ⟨rfl, H⟩
              refine ops_v (v_move (v := (.pointer _)) rfl rfl) ?_
              refine ops_v (v_move (v := (.int _ _)) rfl rfl) ?_
              refine ops_call rfl c35 (FnC.ro 3 rfl H (fun _ => Count_ok w' b)) ?_
              clear H; rintro _ w ⟨rfl, H⟩
              refine ops_v (v_max rfl rfl rfl rfl) ?_
              refine ops_v (v_geq true rfl rfl rfl (decide_eq_true (by first | omega | (simp only; omega) | rfl | decide))) ?_
              refine ops_v (v_pick_t (v := (.bool _)) rfl rfl rfl) ?_
              refine ops_v (v_move (v := (.bool _)) rfl rfl) ?_
              refine ops_v (v_move (v := (.int _ _)) rfl rfl) ?_
              refine ops_v (v_move (v := (.int _ _)) rfl rfl) ?_
              refine ops_v (v_neq true rfl rfl rfl (decide_eq_true (by first | omega | (simp only; omega) | rfl | decide))) ?_
              refine ops_v (v_move (v := (.bool _)) rfl rfl) ?_
              refine ops_skip rfl rfl ?_
              refine ops_skip rfl rfl ?_
              refine ops_skip rfl rfl ?_
              refine ops_v (v_pick_t (v := (.bool _)) rfl rfl rfl) ?_
              refine ops_v (v_pick_t (v := (.bool _)) rfl rfl rfl) ?_
              refine ops_v (v_assign (v := (.bool _)) rfl rfl) ?_
              refine ops_nil ?_
              refine W_ret ?_
              refine ⟨_, (.tmp (v := (.bool _)) rfl .nil), ?_⟩
              exact ⟨rfl, _, H⟩
              -- (backstaylaw13.NodeSides: ret; chunks n1,n0,s,S; ptr 20=n0,22=n1)
          · have hwant : M.eval s' k X = M.eval s' a X := by rw [r1, if_neg hodd]
            skip
            by_cases hne : a = b
            · refine W_region ?_
              refine ops_v (v_move (v := (.pointer _)) rfl rfl) ?_
              refine ops_v (v_move (v := (.int _ _)) rfl rfl) ?_
              refine ops_v (v_move (v := (.int _ _)) rfl rfl) ?_
              refine ops_call rfl c39 (FnC.at 1 rfl H (fun _ H => Make_ok hmm hmk H)) ?_
              clear H; rintro _ w ⟨rfl, H⟩
              refine ops_v (v_move (v := (.tuple _)) rfl rfl) ?_
              refine ops_v (v_extract (v := (.int _ _)) rfl rfl rfl) ?_
              refine ops_v (v_extract (v := (.int _ _)) rfl rfl rfl) ?_
              refine ops_v (v_assign (v := (.int _ _)) rfl rfl) ?_
              refine ops_v (v_assign (v := (.int _ _)) rfl rfl) ?_
              refine ops_nil ?_
              refine W_seq ?_
              refine W_region ?_
              refine ops_v (v_move (v := (.pointer _)) rfl rfl) ?_
              refine ops_v (v_move (v := (.int _ _)) rfl rfl) ?_
              refine ops_call rfl c31 (FnC.ro 1 rfl H (fun _ => Node_ok hx')) ?_
              clear H; rintro _ w ⟨rfl, H⟩
              refine ops_v (v_move (v := (.tuple _)) rfl rfl) ?_
              refine ops_v (v_extract (v := (.agg _)) rfl rfl rfl) ?_
              refine ops_v (v_extract (v := (.bool _)) rfl rfl rfl) ?_
              refine ops_alloc H rfl tz42 ?_
              clear H; intro bn0 w H
              refine ops_store (vs := [_, _, _, _, _]) (v := (.agg _)) (cs' := [_, _, _, _, _]) 0 H rfl ts42 rfl rfl rfl rfl rfl rfl rfl rfl ?_
              clear H; intro w H
              refine ops_v (v_assign (v := (.bool _)) rfl rfl) ?_
              refine ops_nil ?_
              refine W_seq ?_
              refine W_region ?_
              refine ops_v (v_move (v := (.pointer _)) rfl rfl) ?_
              refine ops_v (v_move (v := (.int _ _)) rfl rfl) ?_
              refine ops_call rfl c31 (FnC.ro 2 rfl H (fun _ => Node_ok hy')) ?_
              clear H; rintro _ w ⟨rfl, H⟩
              refine ops_v (v_move (v := (.tuple _)) rfl rfl) ?_
              refine ops_v (v_extract (v := (.agg _)) rfl rfl rfl) ?_
              refine ops_v (v_extract (v := (.bool _)) rfl rfl rfl) ?_
              refine ops_alloc H rfl tz42 ?_
              clear H; intro bn1 w H
              refine ops_store (vs := [_, _, _, _, _]) (v := (.agg _)) (cs' := [_, _, _, _, _]) 0 H rfl ts42 rfl rfl rfl rfl rfl rfl rfl rfl ?_
              clear H; intro w H
              refine ops_v (v_assign (v := (.bool _)) rfl rfl) ?_
              refine ops_nil ?_
              refine W_seq ?_
              refine W_seq ?_
              refine W_region ?_
              refine ops_v (v_fieldAddr rfl fo42_0 rfl rfl) ?_
              refine ops_load (v := (.bool _)) 1 H rfl tc4 rfl rfl rfl ?_
              refine ops_v (v_not rfl rfl _ rfl) ?_
              refine ops_v (v_move (v := (.bool _)) rfl rfl) ?_
              refine ops_v (v_fieldAddr rfl fo42_2 rfl rfl) ?_
              refine ops_load (v := (.int _ _)) 1 H rfl tc3 rfl rfl rfl ?_
              refine ops_v (v_eql false rfl rfl rfl (decide_eq_false (by first | omega | (simp only; omega) | rfl | decide))) ?_
              refine ops_v (v_pick_t (v := (.bool _)) rfl rfl rfl) ?_
              refine ops_v (v_move (v := (.bool _)) rfl rfl) ?_
              refine ops_v (v_fieldAddr rfl fo42_0 rfl rfl) ?_
              refine ops_load (v := (.bool _)) 0 H rfl tc4 rfl rfl rfl ?_
              refine ops_v (v_not rfl rfl _ rfl) ?_
              refine ops_v (v_move (v := (.bool _)) rfl rfl) ?_
              refine ops_skip rfl rfl ?_
              refine ops_skip rfl rfl ?_
              refine ops_skip rfl rfl ?_
              refine ops_v (v_pick_f (v := (.bool _)) rfl rfl rfl) ?_
              refine ops_v (v_pick_f (v := (.bool _)) rfl rfl rfl) ?_
              refine ops_nil ?_
              refine W_if_f rfl ?_
              refine W_skip ?_
              refine W_seq ?_
              refine W_region ?_
              refine ops_v (v_move (v := (.pointer _)) rfl rfl) ?_
              refine ops_v (v_move (v := (.int _ _)) rfl rfl) ?_
              refine ops_v (v_move (v := (.int _ _)) rfl rfl) ?_
              refine ops_call rfl c33 (FnC.ro 3 rfl H (fun _ => Eval_ok w' a X)) ?_
              clear H; rintro _ w ⟨rfl, H⟩
              refine ops_v (v_assign (v := (.int _ _)) rfl rfl) ?_
              refine ops_nil ?_
              refine W_seq ?_
              refine W_seq ?_
              refine W_region ?_
              refine ops_v (v_move (v := (.int _ _)) rfl rfl) ?_
              refine ops_v (v_rem (X % 2) rfl rfl rfl (by decide) hX2) ?_
              refine ops_v (v_eql false rfl rfl rfl (decide_eq_false (by first | omega | (simp only; omega) | rfl | decide))) ?_
              refine ops_nil ?_
              refine W_if_f rfl ?_
              refine W_skip ?_
              refine W_seq ?_
              refine W_region ?_
              refine ops_v (v_move (v := (.bool _)) rfl rfl) ?_
              refine ops_v (v_move (v := (.bool _)) rfl rfl) ?_
              refine ops_v (v_move (v := (.int _ _)) rfl rfl) ?_
              refine ops_v (v_eql true rfl rfl rfl (decide_eq_true (by first | omega | (simp only; omega) | rfl | decide))) ?_
              refine ops_v (v_pick_t (v := (.bool _)) rfl rfl rfl) ?_
              refine ops_v (v_move (v := (.bool _)) rfl rfl) ?_
              refine ops_v (v_move (v := (.pointer _)) rfl rfl) ?_
              refine ops_v (v_move (v := (.int _ _)) rfl rfl) ?_
              refine ops_v (v_move (v := (.int _ _)) rfl rfl) ?_
              refine ops_call rfl c33 (FnC.ro 3 rfl H (fun _ => Eval_ok w' k X)) ?_
              clear H; rintro _ w ⟨rfl, H⟩
              refine ops_v (v_move (v := (.int _ _)) rfl rfl) ?_
              refine ops_v (v_eql true rfl rfl rfl (decide_eq_true (by first | omega | (simp only; omega) | rfl | decide))) ?_
              refine ops_v (v_pick_t (v := (.bool _)) rfl rfl rfl) ?_
              refine ops_v (v_move (v := (.bool _)) rfl rfl) ?_
              refine ops_v (v_move (v := (.pointer _)) rfl rfl) ?_
              refine ops_v (v_move (v := (.int _ _)) rfl rfl) ?_
              refine ops_call rfl c35 (FnC.ro 3 rfl H (fun _ => Count_ok w' k)) ?_
              clear H; rintro _ w ⟨rfl, H⟩
              refine ops_v (v_move (v := (.pointer _)) rfl rfl) ?_
              refine ops_v (v_move (v := (.int _ _)) rfl rfl) ?_
              refine ops_call rfl c35 (FnC.ro 3 rfl H (fun _ => Count_ok w' a)) ?_
              clear H; rintro _ w ⟨rfl, H⟩
              refine ops_v (v_move (v := (.pointer _)) rfl rfl) ?_
              refine ops_v (v_move (v := (.int _ _)) rfl rfl) ?_
              refine ops_call rfl c35 (FnC.ro 3 rfl H (fun _ => Count_ok w' b)) ?_
              clear H; rintro _ w ⟨rfl, H⟩
              refine ops_v (v_add _ rfl rfl rfl (wrap_in (by omega) (by omega))) ?_
              refine ops_v (v_add _ rfl rfl rfl (wrap_in (by omega) (by omega))) ?_
              refine ops_v (v_leq true rfl rfl rfl (decide_eq_true (by first | omega | (simp only; omega) | rfl | decide))) ?_
              refine ops_v (v_pick_t (v := (.bool _)) rfl rfl rfl) ?_
              refine ops_v (v_move (v := (.bool _)) rfl rfl) ?_
              refine ops_v (v_move (v := (.pointer _)) rfl rfl) ?_
              refine ops_v (v_move (v := (.int _ _)) rfl rfl) ?_
              refine ops_call rfl c35 (FnC.ro 3 rfl H (fun _ => Count_ok w' k)) ?_
              clear H; rintro _ w ⟨rfl, H⟩
              refine ops_v (v_move (v := (.pointer _)) rfl rfl) ?_
              refine ops_v (v_move (v := (.int _ _)) rfl rfl) ?_
              refine ops_call rfl c35 (FnC.ro 3 rfl H (fun _ => Count_ok w' a)) ?_
              clear H; rintro _ w ⟨rfl, H⟩
              refine ops_v (v_move (v := (.pointer _)) rfl rfl) ?_
              refine ops_v (v_move (v := (.int _ _)) rfl rfl) ?_
              refine ops_call rfl c35 (FnC.ro 3 rfl H (fun _ => Count_ok w' b)) ?_
              clear H; rintro _ w ⟨rfl, H⟩
              refine ops_v (v_max rfl rfl rfl rfl) ?_
              refine ops_v (v_geq true rfl rfl rfl (decide_eq_true (by first | omega | (simp only; omega) | rfl | decide))) ?_
              refine ops_v (v_pick_t (v := (.bool _)) rfl rfl rfl) ?_
              refine ops_v (v_move (v := (.bool _)) rfl rfl) ?_
              refine ops_v (v_move (v := (.int _ _)) rfl rfl) ?_
              refine ops_v (v_move (v := (.int _ _)) rfl rfl) ?_
              refine ops_v (v_neq false rfl rfl rfl (decide_eq_false (by first | omega | (simp only; omega) | rfl | decide))) ?_
              refine ops_v (v_move (v := (.bool _)) rfl rfl) ?_
              refine ops_v (v_move (v := (.int _ _)) rfl rfl) ?_
              refine ops_v (v_move (v := (.int _ _)) rfl rfl) ?_
              refine ops_v (v_eql true rfl rfl rfl (decide_eq_true (by first | omega | (simp only; omega) | rfl | decide))) ?_
              refine ops_v (v_pick_f (v := (.bool _)) rfl rfl rfl) ?_
              refine ops_v (v_pick_t (v := (.bool _)) rfl rfl rfl) ?_
              refine ops_v (v_assign (v := (.bool _)) rfl rfl) ?_
              refine ops_nil ?_
              refine W_ret ?_
              refine ⟨_, (.tmp (v := (.bool _)) rfl .nil), ?_⟩
              exact ⟨rfl, _, H⟩
              -- (backstaylaw13.NodeSides: ret; chunks n1,n0,s,S; ptr 20=n0,22=n1)
            · refine W_region ?_
              refine ops_v (v_move (v := (.pointer _)) rfl rfl) ?_
              refine ops_v (v_move (v := (.int _ _)) rfl rfl) ?_
              refine ops_v (v_move (v := (.int _ _)) rfl rfl) ?_
              refine ops_call rfl c39 (FnC.at 1 rfl H (fun _ H => Make_ok hmm hmk H)) ?_
              clear H; rintro _ w ⟨rfl, H⟩
              refine ops_v (v_move (v := (.tuple _)) rfl rfl) ?_
              refine ops_v (v_extract (v := (.int _ _)) rfl rfl rfl) ?_
              refine ops_v (v_extract (v := (.int _ _)) rfl rfl rfl) ?_
              refine ops_v (v_assign (v := (.int _ _)) rfl rfl) ?_
              refine ops_v (v_assign (v := (.int _ _)) rfl rfl) ?_
              refine ops_nil ?_
              refine W_seq ?_
              refine W_region ?_
              refine ops_v (v_move (v := (.pointer _)) rfl rfl) ?_
              refine ops_v (v_move (v := (.int _ _)) rfl rfl) ?_
              refine ops_call rfl c31 (FnC.ro 1 rfl H (fun _ => Node_ok hx')) ?_
              clear H; rintro _ w ⟨rfl, H⟩
              refine ops_v (v_move (v := (.tuple _)) rfl rfl) ?_
              refine ops_v (v_extract (v := (.agg _)) rfl rfl rfl) ?_
              refine ops_v (v_extract (v := (.bool _)) rfl rfl rfl) ?_
              refine ops_alloc H rfl tz42 ?_
              clear H; intro bn0 w H
              refine ops_store (vs := [_, _, _, _, _]) (v := (.agg _)) (cs' := [_, _, _, _, _]) 0 H rfl ts42 rfl rfl rfl rfl rfl rfl rfl rfl ?_
              clear H; intro w H
              refine ops_v (v_assign (v := (.bool _)) rfl rfl) ?_
              refine ops_nil ?_
              refine W_seq ?_
              refine W_region ?_
              refine ops_v (v_move (v := (.pointer _)) rfl rfl) ?_
              refine ops_v (v_move (v := (.int _ _)) rfl rfl) ?_
              refine ops_call rfl c31 (FnC.ro 2 rfl H (fun _ => Node_ok hy')) ?_
              clear H; rintro _ w ⟨rfl, H⟩
              refine ops_v (v_move (v := (.tuple _)) rfl rfl) ?_
              refine ops_v (v_extract (v := (.agg _)) rfl rfl rfl) ?_
              refine ops_v (v_extract (v := (.bool _)) rfl rfl rfl) ?_
              refine ops_alloc H rfl tz42 ?_
              clear H; intro bn1 w H
              refine ops_store (vs := [_, _, _, _, _]) (v := (.agg _)) (cs' := [_, _, _, _, _]) 0 H rfl ts42 rfl rfl rfl rfl rfl rfl rfl rfl ?_
              clear H; intro w H
              refine ops_v (v_assign (v := (.bool _)) rfl rfl) ?_
              refine ops_nil ?_
              refine W_seq ?_
              refine W_seq ?_
              refine W_region ?_
              refine ops_v (v_fieldAddr rfl fo42_0 rfl rfl) ?_
              refine ops_load (v := (.bool _)) 1 H rfl tc4 rfl rfl rfl ?_
              refine ops_v (v_not rfl rfl _ rfl) ?_
              refine ops_v (v_move (v := (.bool _)) rfl rfl) ?_
              refine ops_v (v_fieldAddr rfl fo42_2 rfl rfl) ?_
              refine ops_load (v := (.int _ _)) 1 H rfl tc3 rfl rfl rfl ?_
              refine ops_v (v_eql false rfl rfl rfl (decide_eq_false (by first | omega | (simp only; omega) | rfl | decide))) ?_
              refine ops_v (v_pick_t (v := (.bool _)) rfl rfl rfl) ?_
              refine ops_v (v_move (v := (.bool _)) rfl rfl) ?_
              refine ops_v (v_fieldAddr rfl fo42_0 rfl rfl) ?_
              refine ops_load (v := (.bool _)) 0 H rfl tc4 rfl rfl rfl ?_
              refine ops_v (v_not rfl rfl _ rfl) ?_
              refine ops_v (v_move (v := (.bool _)) rfl rfl) ?_
              refine ops_skip rfl rfl ?_
              refine ops_skip rfl rfl ?_
              refine ops_skip rfl rfl ?_
              refine ops_v (v_pick_f (v := (.bool _)) rfl rfl rfl) ?_
              refine ops_v (v_pick_f (v := (.bool _)) rfl rfl rfl) ?_
              refine ops_nil ?_
              refine W_if_f rfl ?_
              refine W_skip ?_
              refine W_seq ?_
              refine W_region ?_
              refine ops_v (v_move (v := (.pointer _)) rfl rfl) ?_
              refine ops_v (v_move (v := (.int _ _)) rfl rfl) ?_
              refine ops_v (v_move (v := (.int _ _)) rfl rfl) ?_
              refine ops_call rfl c33 (FnC.ro 3 rfl H (fun _ => Eval_ok w' a X)) ?_
              clear H; rintro _ w ⟨rfl, H⟩
              refine ops_v (v_assign (v := (.int _ _)) rfl rfl) ?_
              refine ops_nil ?_
              refine W_seq ?_
              refine W_seq ?_
              refine W_region ?_
              refine ops_v (v_move (v := (.int _ _)) rfl rfl) ?_
              refine ops_v (v_rem (X % 2) rfl rfl rfl (by decide) hX2) ?_
              refine ops_v (v_eql false rfl rfl rfl (decide_eq_false (by first | omega | (simp only; omega) | rfl | decide))) ?_
              refine ops_nil ?_
              refine W_if_f rfl ?_
              refine W_skip ?_
              refine W_seq ?_
              refine W_region ?_
              refine ops_v (v_move (v := (.bool _)) rfl rfl) ?_
              refine ops_v (v_move (v := (.bool _)) rfl rfl) ?_
              refine ops_v (v_move (v := (.int _ _)) rfl rfl) ?_
              refine ops_v (v_eql true rfl rfl rfl (decide_eq_true (by first | omega | (simp only; omega) | rfl | decide))) ?_
              refine ops_v (v_pick_t (v := (.bool _)) rfl rfl rfl) ?_
              refine ops_v (v_move (v := (.bool _)) rfl rfl) ?_
              refine ops_v (v_move (v := (.pointer _)) rfl rfl) ?_
              refine ops_v (v_move (v := (.int _ _)) rfl rfl) ?_
              refine ops_v (v_move (v := (.int _ _)) rfl rfl) ?_
              refine ops_call rfl c33 (FnC.ro 3 rfl H (fun _ => Eval_ok w' k X)) ?_
              clear H; rintro _ w ⟨rfl, H⟩
              refine ops_v (v_move (v := (.int _ _)) rfl rfl) ?_
              refine ops_v (v_eql true rfl rfl rfl (decide_eq_true (by first | omega | (simp only; omega) | rfl | decide))) ?_
              refine ops_v (v_pick_t (v := (.bool _)) rfl rfl rfl) ?_
              refine ops_v (v_move (v := (.bool _)) rfl rfl) ?_
              refine ops_v (v_move (v := (.pointer _)) rfl rfl) ?_
              refine ops_v (v_move (v := (.int _ _)) rfl rfl) ?_
              refine ops_call rfl c35 (FnC.ro 3 rfl H (fun _ => Count_ok w' k)) ?_
              clear H; rintro _ w ⟨rfl, H⟩
              refine ops_v (v_move (v := (.pointer _)) rfl rfl) ?_
              refine ops_v (v_move (v := (.int _ _)) rfl rfl) ?_
              refine ops_call rfl c35 (FnC.ro 3 rfl H (fun _ => Count_ok w' a)) ?_
              clear H; rintro _ w ⟨rfl, H⟩
              refine ops_v (v_move (v := (.pointer _)) rfl rfl) ?_
              refine ops_v (v_move (v := (.int _ _)) rfl rfl) ?_
              refine ops_call rfl c35 (FnC.ro 3 rfl H (fun _ => Count_ok w' b)) ?_
              clear H; rintro _ w ⟨rfl, H⟩
              refine ops_v (v_add _ rfl rfl rfl (wrap_in (by omega) (by omega))) ?_
              refine ops_v (v_add _ rfl rfl rfl (wrap_in (by omega) (by omega))) ?_
              refine ops_v (v_leq true rfl rfl rfl (decide_eq_true (by first | omega | (simp only; omega) | rfl | decide))) ?_
              refine ops_v (v_pick_t (v := (.bool _)) rfl rfl rfl) ?_
              refine ops_v (v_move (v := (.bool _)) rfl rfl) ?_
              refine ops_v (v_move (v := (.pointer _)) rfl rfl) ?_
              refine ops_v (v_move (v := (.int _ _)) rfl rfl) ?_
              refine ops_call rfl c35 (FnC.ro 3 rfl H (fun _ => Count_ok w' k)) ?_
              clear H; rintro _ w ⟨rfl, H⟩
              refine ops_v (v_move (v := (.pointer _)) rfl rfl) ?_
              refine ops_v (v_move (v := (.int _ _)) rfl rfl) ?_
              refine ops_call rfl c35 (FnC.ro 3 rfl H (fun _ => Count_ok w' a)) ?_
              clear H; rintro _ w ⟨rfl, H⟩
              refine ops_v (v_move (v := (.pointer _)) rfl rfl) ?_
              refine ops_v (v_move (v := (.int _ _)) rfl rfl) ?_
              refine ops_call rfl c35 (FnC.ro 3 rfl H (fun _ => Count_ok w' b)) ?_
              clear H; rintro _ w ⟨rfl, H⟩
              refine ops_v (v_max rfl rfl rfl rfl) ?_
              refine ops_v (v_geq true rfl rfl rfl (decide_eq_true (by first | omega | (simp only; omega) | rfl | decide))) ?_
              refine ops_v (v_pick_t (v := (.bool _)) rfl rfl rfl) ?_
              refine ops_v (v_move (v := (.bool _)) rfl rfl) ?_
              refine ops_v (v_move (v := (.int _ _)) rfl rfl) ?_
              refine ops_v (v_move (v := (.int _ _)) rfl rfl) ?_
              refine ops_v (v_neq true rfl rfl rfl (decide_eq_true (by first | omega | (simp only; omega) | rfl | decide))) ?_
              refine ops_v (v_move (v := (.bool _)) rfl rfl) ?_
              refine ops_skip rfl rfl ?_
              refine ops_skip rfl rfl ?_
              refine ops_skip rfl rfl ?_
              refine ops_v (v_pick_t (v := (.bool _)) rfl rfl rfl) ?_
              refine ops_v (v_pick_t (v := (.bool _)) rfl rfl rfl) ?_
              refine ops_v (v_assign (v := (.bool _)) rfl rfl) ?_
              refine ops_nil ?_
              refine W_ret ?_
              refine ⟨_, (.tmp (v := (.bool _)) rfl .nil), ?_⟩
              exact ⟨rfl, _, H⟩
              -- (backstaylaw13.NodeSides: ret; chunks n1,n0,s,S; ptr 20=n0,22=n1)
        | false =>
          have hy0 : ¬ yl = 0 := fun h => yoff ⟨rfl, h⟩
          by_cases hodd : X % 2 = 1
          · have hwant : M.eval s' k X = M.eval s' b X := by rw [r1, if_pos hodd]
            skip
            by_cases hne : a = b
            · refine W_region ?_
              refine ops_v (v_move (v := (.pointer _)) rfl rfl) ?_
              refine ops_v (v_move (v := (.int _ _)) rfl rfl) ?_
              refine ops_v (v_move (v := (.int _ _)) rfl rfl) ?_
              refine ops_call rfl c39 (FnC.at 1 rfl H (fun _ H => Make_ok hmm hmk H)) ?_
              clear H; rintro _ w ⟨rfl, H⟩
              refine ops_v (v_move (v := (.tuple _)) rfl rfl) ?_
              refine ops_v (v_extract (v := (.int _ _)) rfl rfl rfl) ?_
              refine ops_v (v_extract (v := (.int _ _)) rfl rfl rfl) ?_
              refine ops_v (v_assign (v := (.int _ _)) rfl rfl) ?_
              refine ops_v (v_assign (v := (.int _ _)) rfl rfl) ?_
              refine ops_nil ?_
              refine W_seq ?_
              refine W_region ?_
              refine ops_v (v_move (v := (.pointer _)) rfl rfl) ?_
              refine ops_v (v_move (v := (.int _ _)) rfl rfl) ?_
              refine ops_call rfl c31 (FnC.ro 1 rfl H (fun _ => Node_ok hx')) ?_
              clear H; rintro _ w ⟨rfl, H⟩
              refine ops_v (v_move (v := (.tuple _)) rfl rfl) ?_
              refine ops_v (v_extract (v := (.agg _)) rfl rfl rfl) ?_
              refine ops_v (v_extract (v := (.bool _)) rfl rfl rfl) ?_
              refine ops_alloc H rfl tz42 ?_
              clear H; intro bn0 w H
              refine ops_store (vs := [_, _, _, _, _]) (v := (.agg _)) (cs' := [_, _, _, _, _]) 0 H rfl ts42 rfl rfl rfl rfl rfl rfl rfl rfl ?_
              clear H; intro w H
              refine ops_v (v_assign (v := (.bool _)) rfl rfl) ?_
              refine ops_nil ?_
              refine W_seq ?_
              refine W_region ?_
              refine ops_v (v_move (v := (.pointer _)) rfl rfl) ?_
              refine ops_v (v_move (v := (.int _ _)) rfl rfl) ?_
              refine ops_call rfl c31 (FnC.ro 2 rfl H (fun _ => Node_ok hy')) ?_
              clear H; rintro _ w ⟨rfl, H⟩
              refine ops_v (v_move (v := (.tuple _)) rfl rfl) ?_
              refine ops_v (v_extract (v := (.agg _)) rfl rfl rfl) ?_
              refine ops_v (v_extract (v := (.bool _)) rfl rfl rfl) ?_
              refine ops_alloc H rfl tz42 ?_
              clear H; intro bn1 w H
              refine ops_store (vs := [_, _, _, _, _]) (v := (.agg _)) (cs' := [_, _, _, _, _]) 0 H rfl ts42 rfl rfl rfl rfl rfl rfl rfl rfl ?_
              clear H; intro w H
              refine ops_v (v_assign (v := (.bool _)) rfl rfl) ?_
              refine ops_nil ?_
              refine W_seq ?_
              refine W_seq ?_
              refine W_region ?_
              refine ops_v (v_fieldAddr rfl fo42_0 rfl rfl) ?_
              refine ops_load (v := (.bool _)) 1 H rfl tc4 rfl rfl rfl ?_
              refine ops_v (v_not rfl rfl _ rfl) ?_
              refine ops_v (v_move (v := (.bool _)) rfl rfl) ?_
              refine ops_v (v_fieldAddr rfl fo42_2 rfl rfl) ?_
              refine ops_load (v := (.int _ _)) 1 H rfl tc3 rfl rfl rfl ?_
              refine ops_v (v_eql false rfl rfl rfl (decide_eq_false (by first | omega | (simp only; omega) | rfl | decide))) ?_
              refine ops_v (v_pick_t (v := (.bool _)) rfl rfl rfl) ?_
              refine ops_v (v_move (v := (.bool _)) rfl rfl) ?_
              refine ops_v (v_fieldAddr rfl fo42_0 rfl rfl) ?_
              refine ops_load (v := (.bool _)) 0 H rfl tc4 rfl rfl rfl ?_
              refine ops_v (v_not rfl rfl _ rfl) ?_
              refine ops_v (v_move (v := (.bool _)) rfl rfl) ?_
              refine ops_v (v_fieldAddr rfl fo42_2 rfl rfl) ?_
              refine ops_load (v := (.int _ _)) 0 H rfl tc3 rfl rfl rfl ?_
              refine ops_v (v_eql false rfl rfl rfl (decide_eq_false (by first | omega | (simp only; omega) | rfl | decide))) ?_
              refine ops_v (v_pick_t (v := (.bool _)) rfl rfl rfl) ?_
              refine ops_v (v_pick_f (v := (.bool _)) rfl rfl rfl) ?_
              refine ops_nil ?_
              refine W_if_f rfl ?_
              refine W_skip ?_
              refine W_seq ?_
              refine W_region ?_
              refine ops_v (v_move (v := (.pointer _)) rfl rfl) ?_
              refine ops_v (v_move (v := (.int _ _)) rfl rfl) ?_
              refine ops_v (v_move (v := (.int _ _)) rfl rfl) ?_
              refine ops_call rfl c33 (FnC.ro 3 rfl H (fun _ => Eval_ok w' a X)) ?_
              clear H; rintro _ w ⟨rfl, H⟩
              refine ops_v (v_assign (v := (.int _ _)) rfl rfl) ?_
              refine ops_nil ?_
              refine W_seq ?_
              refine W_seq ?_
              refine W_region ?_
              refine ops_v (v_move (v := (.int _ _)) rfl rfl) ?_
              refine ops_v (v_rem (X % 2) rfl rfl rfl (by decide) hX2) ?_
              refine ops_v (v_eql true rfl rfl rfl (decide_eq_true (by first | omega | (simp only; omega) | rfl | decide))) ?_
              refine ops_nil ?_
              refine W_if_t rfl ?_
              refine W_region ?_
              refine ops_v (v_move (v := (.pointer _)) rfl rfl) ?_
              refine ops_v (v_move (v := (.int _ _)) rfl rfl) ?_
              refine ops_v (v_move (v := (.int _ _)) rfl rfl) ?_
              refine ops_call rfl c33 (FnC.ro 3 rfl H (fun _ => Eval_ok w' b X)) ?_
              clear H; rintro _ w ⟨rfl, H⟩
              refine ops_v (v_assign (v := (.int _ _)) rfl rfl) ?_
              refine ops_nil ?_
              refine W_seq ?_
              refine W_region ?_
              refine ops_v (v_move (v := (.bool _)) rfl rfl) ?_
              refine ops_v (v_move (v := (.bool _)) rfl rfl) ?_
              refine ops_v (v_move (v := (.int _ _)) rfl rfl) ?_
              refine ops_v (v_eql true rfl rfl rfl (decide_eq_true (by first | omega | (simp only; omega) | rfl | decide))) ?_
              refine ops_v (v_pick_t (v := (.bool _)) rfl rfl rfl) ?_
              refine ops_v (v_move (v := (.bool _)) rfl rfl) ?_
              refine ops_v (v_move (v := (.pointer _)) rfl rfl) ?_
              refine ops_v (v_move (v := (.int _ _)) rfl rfl) ?_
              refine ops_v (v_move (v := (.int _ _)) rfl rfl) ?_
              refine ops_call rfl c33 (FnC.ro 3 rfl H (fun _ => Eval_ok w' k X)) ?_
              clear H; rintro _ w ⟨rfl, H⟩
              refine ops_v (v_move (v := (.int _ _)) rfl rfl) ?_
              refine ops_v (v_eql true rfl rfl rfl (decide_eq_true (by first | omega | (simp only; omega) | rfl | decide))) ?_
              refine ops_v (v_pick_t (v := (.bool _)) rfl rfl rfl) ?_
              refine ops_v (v_move (v := (.bool _)) rfl rfl) ?_
              refine ops_v (v_move (v := (.pointer _)) rfl rfl) ?_
              refine ops_v (v_move (v := (.int _ _)) rfl rfl) ?_
              refine ops_call rfl c35 (FnC.ro 3 rfl H (fun _ => Count_ok w' k)) ?_
              clear H; rintro _ w ⟨rfl, H⟩
              refine ops_v (v_move (v := (.pointer _)) rfl rfl) ?_
              refine ops_v (v_move (v := (.int _ _)) rfl rfl) ?_
              refine ops_call rfl c35 (FnC.ro 3 rfl H (fun _ => Count_ok w' a)) ?_
              clear H; rintro _ w ⟨rfl, H⟩
              refine ops_v (v_move (v := (.pointer _)) rfl rfl) ?_
              refine ops_v (v_move (v := (.int _ _)) rfl rfl) ?_
              refine ops_call rfl c35 (FnC.ro 3 rfl H (fun _ => Count_ok w' b)) ?_
              clear H; rintro _ w ⟨rfl, H⟩
              refine ops_v (v_add _ rfl rfl rfl (wrap_in (by omega) (by omega))) ?_
              refine ops_v (v_add _ rfl rfl rfl (wrap_in (by omega) (by omega))) ?_
              refine ops_v (v_leq true rfl rfl rfl (decide_eq_true (by first | omega | (simp only; omega) | rfl | decide))) ?_
              refine ops_v (v_pick_t (v := (.bool _)) rfl rfl rfl) ?_
              refine ops_v (v_move (v := (.bool _)) rfl rfl) ?_
              refine ops_v (v_move (v := (.pointer _)) rfl rfl) ?_
              refine ops_v (v_move (v := (.int _ _)) rfl rfl) ?_
              refine ops_call rfl c35 (FnC.ro 3 rfl H (fun _ => Count_ok w' k)) ?_
              clear H; rintro _ w ⟨rfl, H⟩
              refine ops_v (v_move (v := (.pointer _)) rfl rfl) ?_
              refine ops_v (v_move (v := (.int _ _)) rfl rfl) ?_
              refine ops_call rfl c35 (FnC.ro 3 rfl H (fun _ => Count_ok w' a)) ?_
              clear H; rintro _ w ⟨rfl, H⟩
              refine ops_v (v_move (v := (.pointer _)) rfl rfl) ?_
              refine ops_v (v_move (v := (.int _ _)) rfl rfl) ?_
              refine ops_call rfl c35 (FnC.ro 3 rfl H (fun _ => Count_ok w' b)) ?_
              clear H; rintro _ w ⟨rfl, H⟩
              refine ops_v (v_max rfl rfl rfl rfl) ?_
              refine ops_v (v_geq true rfl rfl rfl (decide_eq_true (by first | omega | (simp only; omega) | rfl | decide))) ?_
              refine ops_v (v_pick_t (v := (.bool _)) rfl rfl rfl) ?_
              refine ops_v (v_move (v := (.bool _)) rfl rfl) ?_
              refine ops_v (v_move (v := (.int _ _)) rfl rfl) ?_
              refine ops_v (v_move (v := (.int _ _)) rfl rfl) ?_
              refine ops_v (v_neq false rfl rfl rfl (decide_eq_false (by first | omega | (simp only; omega) | rfl | decide))) ?_
              refine ops_v (v_move (v := (.bool _)) rfl rfl) ?_
              refine ops_v (v_move (v := (.int _ _)) rfl rfl) ?_
              refine ops_v (v_move (v := (.int _ _)) rfl rfl) ?_
              refine ops_v (v_eql true rfl rfl rfl (decide_eq_true (by first | omega | (simp only; omega) | rfl | decide))) ?_
              refine ops_v (v_pick_f (v := (.bool _)) rfl rfl rfl) ?_
              refine ops_v (v_pick_t (v := (.bool _)) rfl rfl rfl) ?_
              refine ops_v (v_assign (v := (.bool _)) rfl rfl) ?_
              refine ops_nil ?_
              refine W_ret ?_
              refine ⟨_, (.tmp (v := (.bool _)) rfl .nil), ?_⟩
              exact ⟨rfl, _, H⟩
              -- (backstaylaw13.NodeSides: ret; chunks n1,n0,s,S; ptr 20=n0,22=n1)
            · refine W_region ?_
              refine ops_v (v_move (v := (.pointer _)) rfl rfl) ?_
              refine ops_v (v_move (v := (.int _ _)) rfl rfl) ?_
              refine ops_v (v_move (v := (.int _ _)) rfl rfl) ?_
              refine ops_call rfl c39 (FnC.at 1 rfl H (fun _ H => Make_ok hmm hmk H)) ?_
              clear H; rintro _ w ⟨rfl, H⟩
              refine ops_v (v_move (v := (.tuple _)) rfl rfl) ?_
              refine ops_v (v_extract (v := (.int _ _)) rfl rfl rfl) ?_
              refine ops_v (v_extract (v := (.int _ _)) rfl rfl rfl) ?_
              refine ops_v (v_assign (v := (.int _ _)) rfl rfl) ?_
              refine ops_v (v_assign (v := (.int _ _)) rfl rfl) ?_
              refine ops_nil ?_
              refine W_seq ?_
              refine W_region ?_
              refine ops_v (v_move (v := (.pointer _)) rfl rfl) ?_
              refine ops_v (v_move (v := (.int _ _)) rfl rfl) ?_
              refine ops_call rfl c31 (FnC.ro 1 rfl H (fun _ => Node_ok hx')) ?_
              clear H; rintro _ w ⟨rfl, H⟩
              refine ops_v (v_move (v := (.tuple _)) rfl rfl) ?_
              refine ops_v (v_extract (v := (.agg _)) rfl rfl rfl) ?_
              refine ops_v (v_extract (v := (.bool _)) rfl rfl rfl) ?_
              refine ops_alloc H rfl tz42 ?_
              clear H; intro bn0 w H
              refine ops_store (vs := [_, _, _, _, _]) (v := (.agg _)) (cs' := [_, _, _, _, _]) 0 H rfl ts42 rfl rfl rfl rfl rfl rfl rfl rfl ?_
              clear H; intro w H
              refine ops_v (v_assign (v := (.bool _)) rfl rfl) ?_
              refine ops_nil ?_
              refine W_seq ?_
              refine W_region ?_
              refine ops_v (v_move (v := (.pointer _)) rfl rfl) ?_
              refine ops_v (v_move (v := (.int _ _)) rfl rfl) ?_
              refine ops_call rfl c31 (FnC.ro 2 rfl H (fun _ => Node_ok hy')) ?_
              clear H; rintro _ w ⟨rfl, H⟩
              refine ops_v (v_move (v := (.tuple _)) rfl rfl) ?_
              refine ops_v (v_extract (v := (.agg _)) rfl rfl rfl) ?_
              refine ops_v (v_extract (v := (.bool _)) rfl rfl rfl) ?_
              refine ops_alloc H rfl tz42 ?_
              clear H; intro bn1 w H
              refine ops_store (vs := [_, _, _, _, _]) (v := (.agg _)) (cs' := [_, _, _, _, _]) 0 H rfl ts42 rfl rfl rfl rfl rfl rfl rfl rfl ?_
              clear H; intro w H
              refine ops_v (v_assign (v := (.bool _)) rfl rfl) ?_
              refine ops_nil ?_
              refine W_seq ?_
              refine W_seq ?_
              refine W_region ?_
              refine ops_v (v_fieldAddr rfl fo42_0 rfl rfl) ?_
              refine ops_load (v := (.bool _)) 1 H rfl tc4 rfl rfl rfl ?_
              refine ops_v (v_not rfl rfl _ rfl) ?_
              refine ops_v (v_move (v := (.bool _)) rfl rfl) ?_
              refine ops_v (v_fieldAddr rfl fo42_2 rfl rfl) ?_
              refine ops_load (v := (.int _ _)) 1 H rfl tc3 rfl rfl rfl ?_
              refine ops_v (v_eql false rfl rfl rfl (decide_eq_false (by first | omega | (simp only; omega) | rfl | decide))) ?_
              refine ops_v (v_pick_t (v := (.bool _)) rfl rfl rfl) ?_
              refine ops_v (v_move (v := (.bool _)) rfl rfl) ?_
              refine ops_v (v_fieldAddr rfl fo42_0 rfl rfl) ?_
              refine ops_load (v := (.bool _)) 0 H rfl tc4 rfl rfl rfl ?_
              refine ops_v (v_not rfl rfl _ rfl) ?_
              refine ops_v (v_move (v := (.bool _)) rfl rfl) ?_
              refine ops_v (v_fieldAddr rfl fo42_2 rfl rfl) ?_
              refine ops_load (v := (.int _ _)) 0 H rfl tc3 rfl rfl rfl ?_
              refine ops_v (v_eql false rfl rfl rfl (decide_eq_false (by first | omega | (simp only; omega) | rfl | decide))) ?_
              refine ops_v (v_pick_t (v := (.bool _)) rfl rfl rfl) ?_
              refine ops_v (v_pick_f (v := (.bool _)) rfl rfl rfl) ?_
              refine ops_nil ?_
              refine W_if_f rfl ?_
              refine W_skip ?_
              refine W_seq ?_
              refine W_region ?_
              refine ops_v (v_move (v := (.pointer _)) rfl rfl) ?_
              refine ops_v (v_move (v := (.int _ _)) rfl rfl) ?_
              refine ops_v (v_move (v := (.int _ _)) rfl rfl) ?_
              refine ops_call rfl c33 (FnC.ro 3 rfl H (fun _ => Eval_ok w' a X)) ?_
              clear H; rintro _ w ⟨rfl, H⟩
              refine ops_v (v_assign (v := (.int _ _)) rfl rfl) ?_
              refine ops_nil ?_
              refine W_seq ?_
              refine W_seq ?_
              refine W_region ?_
              refine ops_v (v_move (v := (.int _ _)) rfl rfl) ?_
              refine ops_v (v_rem (X % 2) rfl rfl rfl (by decide) hX2) ?_
              refine ops_v (v_eql true rfl rfl rfl (decide_eq_true (by first | omega | (simp only; omega) | rfl | decide))) ?_
              refine ops_nil ?_
              refine W_if_t rfl ?_
              refine W_region ?_
              refine ops_v (v_move (v := (.pointer _)) rfl rfl) ?_
              refine ops_v (v_move (v := (.int _ _)) rfl rfl) ?_
              refine ops_v (v_move (v := (.int _ _)) rfl rfl) ?_
              refine ops_call rfl c33 (FnC.ro 3 rfl H (fun _ => Eval_ok w' b X)) ?_
              clear H; rintro _ w ⟨rfl, H⟩
              refine ops_v (v_assign (v := (.int _ _)) rfl rfl) ?_
              refine ops_nil ?_
              refine W_seq ?_
              refine W_region ?_
              refine ops_v (v_move (v := (.bool _)) rfl rfl) ?_
              refine ops_v (v_move (v := (.bool _)) rfl rfl) ?_
              refine ops_v (v_move (v := (.int _ _)) rfl rfl) ?_
              refine ops_v (v_eql true rfl rfl rfl (decide_eq_true (by first | omega | (simp only; omega) | rfl | decide))) ?_
              refine ops_v (v_pick_t (v := (.bool _)) rfl rfl rfl) ?_
              refine ops_v (v_move (v := (.bool _)) rfl rfl) ?_
              refine ops_v (v_move (v := (.pointer _)) rfl rfl) ?_
              refine ops_v (v_move (v := (.int _ _)) rfl rfl) ?_
              refine ops_v (v_move (v := (.int _ _)) rfl rfl) ?_
              refine ops_call rfl c33 (FnC.ro 3 rfl H (fun _ => Eval_ok w' k X)) ?_
              clear H; rintro _ w ⟨rfl, H⟩
              refine ops_v (v_move (v := (.int _ _)) rfl rfl) ?_
              refine ops_v (v_eql true rfl rfl rfl (decide_eq_true (by first | omega | (simp only; omega) | rfl | decide))) ?_
              refine ops_v (v_pick_t (v := (.bool _)) rfl rfl rfl) ?_
              refine ops_v (v_move (v := (.bool _)) rfl rfl) ?_
              refine ops_v (v_move (v := (.pointer _)) rfl rfl) ?_
              refine ops_v (v_move (v := (.int _ _)) rfl rfl) ?_
              refine ops_call rfl c35 (FnC.ro 3 rfl H (fun _ => Count_ok w' k)) ?_
              clear H; rintro _ w ⟨rfl, H⟩
              refine ops_v (v_move (v := (.pointer _)) rfl rfl) ?_
              refine ops_v (v_move (v := (.int _ _)) rfl rfl) ?_
              refine ops_call rfl c35 (FnC.ro 3 rfl H (fun _ => Count_ok w' a)) ?_
              clear H; rintro _ w ⟨rfl, H⟩
              refine ops_v (v_move (v := (.pointer _)) rfl rfl) ?_
              refine ops_v (v_move (v := (.int _ _)) rfl rfl) ?_
              refine ops_call rfl c35 (FnC.ro 3 rfl H (fun _ => Count_ok w' b)) ?_
              clear H; rintro _ w ⟨rfl, H⟩
              refine ops_v (v_add _ rfl rfl rfl (wrap_in (by omega) (by omega))) ?_
              refine ops_v (v_add _ rfl rfl rfl (wrap_in (by omega) (by omega))) ?_
              refine ops_v (v_leq true rfl rfl rfl (decide_eq_true (by first | omega | (simp only; omega) | rfl | decide))) ?_
              refine ops_v (v_pick_t (v := (.bool _)) rfl rfl rfl) ?_
              refine ops_v (v_move (v := (.bool _)) rfl rfl) ?_
              refine ops_v (v_move (v := (.pointer _)) rfl rfl) ?_
              refine ops_v (v_move (v := (.int _ _)) rfl rfl) ?_
              refine ops_call rfl c35 (FnC.ro 3 rfl H (fun _ => Count_ok w' k)) ?_
              clear H; rintro _ w ⟨rfl, H⟩
              refine ops_v (v_move (v := (.pointer _)) rfl rfl) ?_
              refine ops_v (v_move (v := (.int _ _)) rfl rfl) ?_
              refine ops_call rfl c35 (FnC.ro 3 rfl H (fun _ => Count_ok w' a)) ?_
              clear H; rintro _ w ⟨rfl, H⟩
              refine ops_v (v_move (v := (.pointer _)) rfl rfl) ?_
              refine ops_v (v_move (v := (.int _ _)) rfl rfl) ?_
              refine ops_call rfl c35 (FnC.ro 3 rfl H (fun _ => Count_ok w' b)) ?_
              clear H; rintro _ w ⟨rfl, H⟩
              refine ops_v (v_max rfl rfl rfl rfl) ?_
              refine ops_v (v_geq true rfl rfl rfl (decide_eq_true (by first | omega | (simp only; omega) | rfl | decide))) ?_
              refine ops_v (v_pick_t (v := (.bool _)) rfl rfl rfl) ?_
              refine ops_v (v_move (v := (.bool _)) rfl rfl) ?_
              refine ops_v (v_move (v := (.int _ _)) rfl rfl) ?_
              refine ops_v (v_move (v := (.int _ _)) rfl rfl) ?_
              refine ops_v (v_neq true rfl rfl rfl (decide_eq_true (by first | omega | (simp only; omega) | rfl | decide))) ?_
              refine ops_v (v_move (v := (.bool _)) rfl rfl) ?_
              refine ops_skip rfl rfl ?_
              refine ops_skip rfl rfl ?_
              refine ops_skip rfl rfl ?_
              refine ops_v (v_pick_t (v := (.bool _)) rfl rfl rfl) ?_
              refine ops_v (v_pick_t (v := (.bool _)) rfl rfl rfl) ?_
              refine ops_v (v_assign (v := (.bool _)) rfl rfl) ?_
              refine ops_nil ?_
              refine W_ret ?_
              refine ⟨_, (.tmp (v := (.bool _)) rfl .nil), ?_⟩
              exact ⟨rfl, _, H⟩
              -- (backstaylaw13.NodeSides: ret; chunks n1,n0,s,S; ptr 20=n0,22=n1)
          · have hwant : M.eval s' k X = M.eval s' a X := by rw [r1, if_neg hodd]
            skip
            by_cases hne : a = b
            · refine W_region ?_
              refine ops_v (v_move (v := (.pointer _)) rfl rfl) ?_
              refine ops_v (v_move (v := (.int _ _)) rfl rfl) ?_
              refine ops_v (v_move (v := (.int _ _)) rfl rfl) ?_
              refine ops_call rfl c39 (FnC.at 1 rfl H (fun _ H => Make_ok hmm hmk H)) ?_
              clear H; rintro _ w ⟨rfl, H⟩
              refine ops_v (v_move (v := (.tuple _)) rfl rfl) ?_
              refine ops_v (v_extract (v := (.int _ _)) rfl rfl rfl) ?_
              refine ops_v (v_extract (v := (.int _ _)) rfl rfl rfl) ?_
              refine ops_v (v_assign (v := (.int _ _)) rfl rfl) ?_
              refine ops_v (v_assign (v := (.int _ _)) rfl rfl) ?_
              refine ops_nil ?_
              refine W_seq ?_
              refine W_region ?_
              refine ops_v (v_move (v := (.pointer _)) rfl rfl) ?_
              refine ops_v (v_move (v := (.int _ _)) rfl rfl) ?_
              refine ops_call rfl c31 (FnC.ro 1 rfl H (fun _ => Node_ok hx')) ?_
              clear H; rintro _ w ⟨rfl, H⟩
              refine ops_v (v_move (v := (.tuple _)) rfl rfl) ?_
              refine ops_v (v_extract (v := (.agg _)) rfl rfl rfl) ?_
              refine ops_v (v_extract (v := (.bool _)) rfl rfl rfl) ?_
              refine ops_alloc H rfl tz42 ?_
              clear H; intro bn0 w H
              refine ops_store (vs := [_, _, _, _, _]) (v := (.agg _)) (cs' := [_, _, _, _, _]) 0 H rfl ts42 rfl rfl rfl rfl rfl rfl rfl rfl ?_
              clear H; intro w H
              refine ops_v (v_assign (v := (.bool _)) rfl rfl) ?_
              refine ops_nil ?_
              refine W_seq ?_
              refine W_region ?_
              refine ops_v (v_move (v := (.pointer _)) rfl rfl) ?_
              refine ops_v (v_move (v := (.int _ _)) rfl rfl) ?_
              refine ops_call rfl c31 (FnC.ro 2 rfl H (fun _ => Node_ok hy')) ?_
              clear H; rintro _ w ⟨rfl, H⟩
              refine ops_v (v_move (v := (.tuple _)) rfl rfl) ?_
              refine ops_v (v_extract (v := (.agg _)) rfl rfl rfl) ?_
              refine ops_v (v_extract (v := (.bool _)) rfl rfl rfl) ?_
              refine ops_alloc H rfl tz42 ?_
              clear H; intro bn1 w H
              refine ops_store (vs := [_, _, _, _, _]) (v := (.agg _)) (cs' := [_, _, _, _, _]) 0 H rfl ts42 rfl rfl rfl rfl rfl rfl rfl rfl ?_
              clear H; intro w H
              refine ops_v (v_assign (v := (.bool _)) rfl rfl) ?_
              refine ops_nil ?_
              refine W_seq ?_
              refine W_seq ?_
              refine W_region ?_
              refine ops_v (v_fieldAddr rfl fo42_0 rfl rfl) ?_
              refine ops_load (v := (.bool _)) 1 H rfl tc4 rfl rfl rfl ?_
              refine ops_v (v_not rfl rfl _ rfl) ?_
              refine ops_v (v_move (v := (.bool _)) rfl rfl) ?_
              refine ops_v (v_fieldAddr rfl fo42_2 rfl rfl) ?_
              refine ops_load (v := (.int _ _)) 1 H rfl tc3 rfl rfl rfl ?_
              refine ops_v (v_eql false rfl rfl rfl (decide_eq_false (by first | omega | (simp only; omega) | rfl | decide))) ?_
              refine ops_v (v_pick_t (v := (.bool _)) rfl rfl rfl) ?_
              refine ops_v (v_move (v := (.bool _)) rfl rfl) ?_
              refine ops_v (v_fieldAddr rfl fo42_0 rfl rfl) ?_
              refine ops_load (v := (.bool _)) 0 H rfl tc4 rfl rfl rfl ?_
              refine ops_v (v_not rfl rfl _ rfl) ?_
              refine ops_v (v_move (v := (.bool _)) rfl rfl) ?_
              refine ops_v (v_fieldAddr rfl fo42_2 rfl rfl) ?_
              refine ops_load (v := (.int _ _)) 0 H rfl tc3 rfl rfl rfl ?_
              refine ops_v (v_eql false rfl rfl rfl (decide_eq_false (by first | omega | (simp only; omega) | rfl | decide))) ?_
              refine ops_v (v_pick_t (v := (.bool _)) rfl rfl rfl) ?_
              refine ops_v (v_pick_f (v := (.bool _)) rfl rfl rfl) ?_
              refine ops_nil ?_
              refine W_if_f rfl ?_
              refine W_skip ?_
              refine W_seq ?_
              refine W_region ?_
              refine ops_v (v_move (v := (.pointer _)) rfl rfl) ?_
              refine ops_v (v_move (v := (.int _ _)) rfl rfl) ?_
              refine ops_v (v_move (v := (.int _ _)) rfl rfl) ?_
              refine ops_call rfl c33 (FnC.ro 3 rfl H (fun _ => Eval_ok w' a X)) ?_
              clear H; rintro _ w ⟨rfl, H⟩
              refine ops_v (v_assign (v := (.int _ _)) rfl rfl) ?_
              refine ops_nil ?_
              refine W_seq ?_
              refine W_seq ?_
              refine W_region ?_
              refine ops_v (v_move (v := (.int _ _)) rfl rfl) ?_
              refine ops_v (v_rem (X % 2) rfl rfl rfl (by decide) hX2) ?_
              refine ops_v (v_eql false rfl rfl rfl (decide_eq_false (by first | omega | (simp only; omega) | rfl | decide))) ?_
              refine ops_nil ?_
              refine W_if_f rfl ?_
              refine W_skip ?_
              refine W_seq ?_
              refine W_region ?_
              refine ops_v (v_move (v := (.bool _)) rfl rfl) ?_
              refine ops_v (v_move (v := (.bool _)) rfl rfl) ?_
              refine ops_v (v_move (v := (.int _ _)) rfl rfl) ?_
              refine ops_v (v_eql true rfl rfl rfl (decide_eq_true (by first | omega | (simp only; omega) | rfl | decide))) ?_
              refine ops_v (v_pick_t (v := (.bool _)) rfl rfl rfl) ?_
              refine ops_v (v_move (v := (.bool _)) rfl rfl) ?_
              refine ops_v (v_move (v := (.pointer _)) rfl rfl) ?_
              refine ops_v (v_move (v := (.int _ _)) rfl rfl) ?_
              refine ops_v (v_move (v := (.int _ _)) rfl rfl) ?_
              refine ops_call rfl c33 (FnC.ro 3 rfl H (fun _ => Eval_ok w' k X)) ?_
              clear H; rintro _ w ⟨rfl, H⟩
              refine ops_v (v_move (v := (.int _ _)) rfl rfl) ?_
              refine ops_v (v_eql true rfl rfl rfl (decide_eq_true (by first | omega | (simp only; omega) | rfl | decide))) ?_
              refine ops_v (v_pick_t (v := (.bool _)) rfl rfl rfl) ?_
              refine ops_v (v_move (v := (.bool _)) rfl rfl) ?_
              refine ops_v (v_move (v := (.pointer _)) rfl rfl) ?_
              refine ops_v (v_move (v := (.int _ _)) rfl rfl) ?_
              refine ops_call rfl c35 (FnC.ro 3 rfl H (fun _ => Count_ok w' k)) ?_
              clear H; rintro _ w ⟨rfl, H⟩
              refine ops_v (v_move (v := (.pointer _)) rfl rfl) ?_
              refine ops_v (v_move (v := (.int _ _)) rfl rfl) ?_
              refine ops_call rfl c35 (FnC.ro 3 rfl H (fun _ => Count_ok w' a)) ?_
              clear H; rintro _ w ⟨rfl, H⟩
              refine ops_v (v_move (v := (.pointer _)) rfl rfl) ?_
              refine ops_v (v_move (v := (.int _ _)) rfl rfl) ?_
              refine ops_call rfl c35 (FnC.ro 3 rfl H (fun _ => Count_ok w' b)) ?_
              clear H; rintro _ w ⟨rfl, H⟩
              refine ops_v (v_add _ rfl rfl rfl (wrap_in (by omega) (by omega))) ?_
              refine ops_v (v_add _ rfl rfl rfl (wrap_in (by omega) (by omega))) ?_
              refine ops_v (v_leq true rfl rfl rfl (decide_eq_true (by first | omega | (simp only; omega) | rfl | decide))) ?_
              refine ops_v (v_pick_t (v := (.bool _)) rfl rfl rfl) ?_
              refine ops_v (v_move (v := (.bool _)) rfl rfl) ?_
              refine ops_v (v_move (v := (.pointer _)) rfl rfl) ?_
              refine ops_v (v_move (v := (.int _ _)) rfl rfl) ?_
              refine ops_call rfl c35 (FnC.ro 3 rfl H (fun _ => Count_ok w' k)) ?_
              clear H; rintro _ w ⟨rfl, H⟩
              refine ops_v (v_move (v := (.pointer _)) rfl rfl) ?_
              refine ops_v (v_move (v := (.int _ _)) rfl rfl) ?_
              refine ops_call rfl c35 (FnC.ro 3 rfl H (fun _ => Count_ok w' a)) ?_
              clear H; rintro _ w ⟨rfl, H⟩
              refine ops_v (v_move (v := (.pointer _)) rfl rfl) ?_
              refine ops_v (v_move (v := (.int _ _)) rfl rfl) ?_
              refine ops_call rfl c35 (FnC.ro 3 rfl H (fun _ => Count_ok w' b)) ?_
              clear H; rintro _ w ⟨rfl, H⟩
              refine ops_v (v_max rfl rfl rfl rfl) ?_
              refine ops_v (v_geq true rfl rfl rfl (decide_eq_true (by first | omega | (simp only; omega) | rfl | decide))) ?_
              refine ops_v (v_pick_t (v := (.bool _)) rfl rfl rfl) ?_
              refine ops_v (v_move (v := (.bool _)) rfl rfl) ?_
              refine ops_v (v_move (v := (.int _ _)) rfl rfl) ?_
              refine ops_v (v_move (v := (.int _ _)) rfl rfl) ?_
              refine ops_v (v_neq false rfl rfl rfl (decide_eq_false (by first | omega | (simp only; omega) | rfl | decide))) ?_
              refine ops_v (v_move (v := (.bool _)) rfl rfl) ?_
              refine ops_v (v_move (v := (.int _ _)) rfl rfl) ?_
              refine ops_v (v_move (v := (.int _ _)) rfl rfl) ?_
              refine ops_v (v_eql true rfl rfl rfl (decide_eq_true (by first | omega | (simp only; omega) | rfl | decide))) ?_
              refine ops_v (v_pick_f (v := (.bool _)) rfl rfl rfl) ?_
              refine ops_v (v_pick_t (v := (.bool _)) rfl rfl rfl) ?_
              refine ops_v (v_assign (v := (.bool _)) rfl rfl) ?_
              refine ops_nil ?_
              refine W_ret ?_
              refine ⟨_, (.tmp (v := (.bool _)) rfl .nil), ?_⟩
              exact ⟨rfl, _, H⟩
              -- (backstaylaw13.NodeSides: ret; chunks n1,n0,s,S; ptr 20=n0,22=n1)
            · refine W_region ?_
              refine ops_v (v_move (v := (.pointer _)) rfl rfl) ?_
              refine ops_v (v_move (v := (.int _ _)) rfl rfl) ?_
              refine ops_v (v_move (v := (.int _ _)) rfl rfl) ?_
              refine ops_call rfl c39 (FnC.at 1 rfl H (fun _ H => Make_ok hmm hmk H)) ?_
              clear H; rintro _ w ⟨rfl, H⟩
              refine ops_v (v_move (v := (.tuple _)) rfl rfl) ?_
              refine ops_v (v_extract (v := (.int _ _)) rfl rfl rfl) ?_
              refine ops_v (v_extract (v := (.int _ _)) rfl rfl rfl) ?_
              refine ops_v (v_assign (v := (.int _ _)) rfl rfl) ?_
              refine ops_v (v_assign (v := (.int _ _)) rfl rfl) ?_
              refine ops_nil ?_
              refine W_seq ?_
              refine W_region ?_
              refine ops_v (v_move (v := (.pointer _)) rfl rfl) ?_
              refine ops_v (v_move (v := (.int _ _)) rfl rfl) ?_
              refine ops_call rfl c31 (FnC.ro 1 rfl H (fun _ => Node_ok hx')) ?_
              clear H; rintro _ w ⟨rfl, H⟩
              refine ops_v (v_move (v := (.tuple _)) rfl rfl) ?_
              refine ops_v (v_extract (v := (.agg _)) rfl rfl rfl) ?_
              refine ops_v (v_extract (v := (.bool _)) rfl rfl rfl) ?_
              refine ops_alloc H rfl tz42 ?_
              clear H; intro bn0 w H
              refine ops_store (vs := [_, _, _, _, _]) (v := (.agg _)) (cs' := [_, _, _, _, _]) 0 H rfl ts42 rfl rfl rfl rfl rfl rfl rfl rfl ?_
              clear H; intro w H
              refine ops_v (v_assign (v := (.bool _)) rfl rfl) ?_
              refine ops_nil ?_
              refine W_seq ?_
              refine W_region ?_
              refine ops_v (v_move (v := (.pointer _)) rfl rfl) ?_
              refine ops_v (v_move (v := (.int _ _)) rfl rfl) ?_
              refine ops_call rfl c31 (FnC.ro 2 rfl H (fun _ => Node_ok hy')) ?_
              clear H; rintro _ w ⟨rfl, H⟩
              refine ops_v (v_move (v := (.tuple _)) rfl rfl) ?_
              refine ops_v (v_extract (v := (.agg _)) rfl rfl rfl) ?_
              refine ops_v (v_extract (v := (.bool _)) rfl rfl rfl) ?_
              refine ops_alloc H rfl tz42 ?_
              clear H; intro bn1 w H
              refine ops_store (vs := [_, _, _, _, _]) (v := (.agg _)) (cs' := [_, _, _, _, _]) 0 H rfl ts42 rfl rfl rfl rfl rfl rfl rfl rfl ?_
              clear H; intro w H
              refine ops_v (v_assign (v := (.bool _)) rfl rfl) ?_
              refine ops_nil ?_
              refine W_seq ?_
              refine W_seq ?_
              refine W_region ?_
              refine ops_v (v_fieldAddr rfl fo42_0 rfl rfl) ?_
              refine ops_load (v := (.bool _)) 1 H rfl tc4 rfl rfl rfl ?_
              refine ops_v (v_not rfl rfl _ rfl) ?_
              refine ops_v (v_move (v := (.bool _)) rfl rfl) ?_
              refine ops_v (v_fieldAddr rfl fo42_2 rfl rfl) ?_
              refine ops_load (v := (.int _ _)) 1 H rfl tc3 rfl rfl rfl ?_
              refine ops_v (v_eql false rfl rfl rfl (decide_eq_false (by first | omega | (simp only; omega) | rfl | decide))) ?_
              refine ops_v (v_pick_t (v := (.bool _)) rfl rfl rfl) ?_
              refine ops_v (v_move (v := (.bool _)) rfl rfl) ?_
              refine ops_v (v_fieldAddr rfl fo42_0 rfl rfl) ?_
              refine ops_load (v := (.bool _)) 0 H rfl tc4 rfl rfl rfl ?_
              refine ops_v (v_not rfl rfl _ rfl) ?_
              refine ops_v (v_move (v := (.bool _)) rfl rfl) ?_
              refine ops_v (v_fieldAddr rfl fo42_2 rfl rfl) ?_
              refine ops_load (v := (.int _ _)) 0 H rfl tc3 rfl rfl rfl ?_
              refine ops_v (v_eql false rfl rfl rfl (decide_eq_false (by first | omega | (simp only; omega) | rfl | decide))) ?_
              refine ops_v (v_pick_t (v := (.bool _)) rfl rfl rfl) ?_
              refine ops_v (v_pick_f (v := (.bool _)) rfl rfl rfl) ?_
              refine ops_nil ?_
              refine W_if_f rfl ?_
              refine W_skip ?_
              refine W_seq ?_
              refine W_region ?_
              refine ops_v (v_move (v := (.pointer _)) rfl rfl) ?_
              refine ops_v (v_move (v := (.int _ _)) rfl rfl) ?_
              refine ops_v (v_move (v := (.int _ _)) rfl rfl) ?_
              refine ops_call rfl c33 (FnC.ro 3 rfl H (fun _ => Eval_ok w' a X)) ?_
              clear H; rintro _ w ⟨rfl, H⟩
              refine ops_v (v_assign (v := (.int _ _)) rfl rfl) ?_
              refine ops_nil ?_
              refine W_seq ?_
              refine W_seq ?_
              refine W_region ?_
              refine ops_v (v_move (v := (.int _ _)) rfl rfl) ?_
              refine ops_v (v_rem (X % 2) rfl rfl rfl (by decide) hX2) ?_
              refine ops_v (v_eql false rfl rfl rfl (decide_eq_false (by first | omega | (simp only; omega) | rfl | decide))) ?_
              refine ops_nil ?_
              refine W_if_f rfl ?_
              refine W_skip ?_
              refine W_seq ?_
              refine W_region ?_
              refine ops_v (v_move (v := (.bool _)) rfl rfl) ?_
              refine ops_v (v_move (v := (.bool _)) rfl rfl) ?_
              refine ops_v (v_move (v := (.int _ _)) rfl rfl) ?_
              refine ops_v (v_eql true rfl rfl rfl (decide_eq_true (by first | omega | (simp only; omega) | rfl | decide))) ?_
              refine ops_v (v_pick_t (v := (.bool _)) rfl rfl rfl) ?_
              refine ops_v (v_move (v := (.bool _)) rfl rfl) ?_
              refine ops_v (v_move (v := (.pointer _)) rfl rfl) ?_
              refine ops_v (v_move (v := (.int _ _)) rfl rfl) ?_
              refine ops_v (v_move (v := (.int _ _)) rfl rfl) ?_
              refine ops_call rfl c33 (FnC.ro 3 rfl H (fun _ => Eval_ok w' k X)) ?_
              clear H; rintro _ w ⟨rfl, H⟩
              refine ops_v (v_move (v := (.int _ _)) rfl rfl) ?_
              refine ops_v (v_eql true rfl rfl rfl (decide_eq_true (by first | omega | (simp only; omega) | rfl | decide))) ?_
              refine ops_v (v_pick_t (v := (.bool _)) rfl rfl rfl) ?_
              refine ops_v (v_move (v := (.bool _)) rfl rfl) ?_
              refine ops_v (v_move (v := (.pointer _)) rfl rfl) ?_
              refine ops_v (v_move (v := (.int _ _)) rfl rfl) ?_
              refine ops_call rfl c35 (FnC.ro 3 rfl H (fun _ => Count_ok w' k)) ?_
              clear H; rintro _ w ⟨rfl, H⟩
              refine ops_v (v_move (v := (.pointer _)) rfl rfl) ?_
              refine ops_v (v_move (v := (.int _ _)) rfl rfl) ?_
              refine ops_call rfl c35 (FnC.ro 3 rfl H (fun _ => Count_ok w' a)) ?_
              clear H; rintro _ w ⟨rfl, H⟩
              refine ops_v (v_move (v := (.pointer _)) rfl rfl) ?_
              refine ops_v (v_move (v := (.int _ _)) rfl rfl) ?_
              refine ops_call rfl c35 (FnC.ro 3 rfl H (fun _ => Count_ok w' b)) ?_
              clear H; rintro _ w ⟨rfl, H⟩
              refine ops_v (v_add _ rfl rfl rfl (wrap_in (by omega) (by omega))) ?_
              refine ops_v (v_add _ rfl rfl rfl (wrap_in (by omega) (by omega))) ?_
              refine ops_v (v_leq true rfl rfl rfl (decide_eq_true (by first | omega | (simp only; omega) | rfl | decide))) ?_
              refine ops_v (v_pick_t (v := (.bool _)) rfl rfl rfl) ?_
              refine ops_v (v_move (v := (.bool _)) rfl rfl) ?_
              refine ops_v (v_move (v := (.pointer _)) rfl rfl) ?_
              refine ops_v (v_move (v := (.int _ _)) rfl rfl) ?_
              refine ops_call rfl c35 (FnC.ro 3 rfl H (fun _ => Count_ok w' k)) ?_
              clear H; rintro _ w ⟨rfl, H⟩
              refine ops_v (v_move (v := (.pointer _)) rfl rfl) ?_
              refine ops_v (v_move (v := (.int _ _)) rfl rfl) ?_
              refine ops_call rfl c35 (FnC.ro 3 rfl H (fun _ => Count_ok w' a)) ?_
              clear H; rintro _ w ⟨rfl, H⟩
              refine ops_v (v_move (v := (.pointer _)) rfl rfl) ?_
              refine ops_v (v_move (v := (.int _ _)) rfl rfl) ?_
              refine ops_call rfl c35 (FnC.ro 3 rfl H (fun _ => Count_ok w' b)) ?_
              clear H; rintro _ w ⟨rfl, H⟩
              refine ops_v (v_max rfl rfl rfl rfl) ?_
              refine ops_v (v_geq true rfl rfl rfl (decide_eq_true (by first | omega | (simp only; omega) | rfl | decide))) ?_
              refine ops_v (v_pick_t (v := (.bool _)) rfl rfl rfl) ?_
              refine ops_v (v_move (v := (.bool _)) rfl rfl) ?_
              refine ops_v (v_move (v := (.int _ _)) rfl rfl) ?_
              refine ops_v (v_move (v := (.int _ _)) rfl rfl) ?_
              refine ops_v (v_neq true rfl rfl rfl (decide_eq_true (by first | omega | (simp only; omega) | rfl | decide))) ?_
              refine ops_v (v_move (v := (.bool _)) rfl rfl) ?_
              refine ops_skip rfl rfl ?_
              refine ops_skip rfl rfl ?_
              refine ops_skip rfl rfl ?_
              refine ops_v (v_pick_t (v := (.bool _)) rfl rfl rfl) ?_
              refine ops_v (v_pick_t (v := (.bool _)) rfl rfl rfl) ?_
              refine ops_v (v_assign (v := (.bool _)) rfl rfl) ?_
              refine ops_nil ?_
              refine W_ret ?_
              refine ⟨_, (.tmp (v := (.bool _)) rfl .nil), ?_⟩
              exact ⟨rfl, _, H⟩
              -- (backstaylaw13.NodeSides: ret; chunks n1,n0,s,S; ptr 20=n0,22=n1)
theorem walk (W : World) (links : Int) (i1 : i64 links) (v : Value) (l : List R4) (hr : RawIs W v l) (one : Int) (i2 : i64 one) (two : Int) (i3 : i64 two) (f : Int) (i4 : i64 f) :
    FnC Try.prog 8 [int links, v, int one, int two, int f] W (fun v w' => v = .bool true ∧ Base W w') :=
  (law_ok (Own.start W) links one two f i1 i2 i3 i4 v l hr).mono (fun _ _ ⟨a, _, H⟩ => ⟨a, H.base⟩)
theorem own : ownKnob Try.prog.godebug = none := by kernel_rfl
set_option maxRecDepth 100000 in
theorem lifted (os : Os) (started : os.Started) (H : Type) (enc : TypeId × Value → H) :
    ReturnsInHanded {} Try.checked os 8 .any (Rows.nodeSidesSpec.pre6 enc Try.prog Try.f8 Rows.nodeSidesRow.domain false) (Rows.nodeSidesSpec.post enc Try.prog Try.f8 false true false false) := by
  refine returnsInHanded_of_change (C := Try.checked) own started (by kernel_rfl) Try.func8
    (ChangeSpec.witness6 (enc := enc) (C := Try.checked) false ⟨#[], #[.int .i64 0, .slice none 0 0, .int .i64 0, .int .i64 0, .int .i64 0], []⟩ 8 (by kernel_rfl) (by kernel_rfl) (by kernel_rfl) (by kernel_rfl)) ?_
  intro W base args ds gs before hval0 hW hcnd _
  have hval : ∀ (j : Nat) t v, Try.f8.params[j]? = some t → args[j]? = some v → Value.okWide Try.prog W .any base t v := hval0
  have hW' := hW
  obtain ⟨p, q, hA0, hV, rfl, hfz, hnd⟩ := hW
  have hA : DataW.TrodAll enc Try.prog W 0 (fun _ => true) true Try.f8.params.toList args.toList ds p := hA0
  rw [Try.params8] at hA hval
  obtain ⟨v0, vs0, d0, ds0, p0, q0, hargs, rfl, rfl, h0, r0⟩ := trodAll_cons hA
  obtain ⟨v1, vs1, d1, ds1, p1, q1, rfl, rfl, rfl, h1, r1⟩ := trodAll_cons r0
  obtain ⟨v2, vs2, d2, ds2, p2, q2, rfl, rfl, rfl, h2, r2⟩ := trodAll_cons r1
  obtain ⟨v3, vs3, d3, ds3, p3, q3, rfl, rfl, rfl, h3, r3⟩ := trodAll_cons r2
  obtain ⟨v4, vs4, d4, ds4, p4, q4, rfl, rfl, rfl, h4, r4⟩ := trodAll_cons r3
  obtain ⟨rfl, rfl, rfl⟩ := trodAll_nil r4
  obtain rfl : args = #[v0, v1, v2, v3, v4] := by cases args; simp_all
  obtain ⟨rfl, rfl⟩ := trodVars_none hV
  obtain ⟨a0, rfl, rfl, rfl, x0⟩ := open_int Try.underlying3 (hval 0 3 v0 rfl rfl) h0
  have k1 := h1
  have lt1 : ∀ x ∈ p1, x.block < W.heap.size := by obtain ⟨m, hm⟩ := k1; exact DataW.trod_lt m _ _ _ hm
  obtain ⟨l1, w1⟩ := raw_of_trod h1 (okWide_slice Try.underlying22 (hval 1 22 v1 rfl rfl))
  obtain ⟨a2, rfl, rfl, rfl, x2⟩ := open_int Try.underlying3 (hval 2 3 v2 rfl rfl) h2
  obtain ⟨a3, rfl, rfl, rfl, x3⟩ := open_int Try.underlying3 (hval 3 3 v3 rfl rfl) h3
  obtain ⟨a4, rfl, rfl, rfl, x4⟩ := open_int Try.underlying3 (hval 4 3 v4 rfl rfl) h4
  clear hA0 hval0
  refine Calls.mono (walk W a0 (bounds_i64 x0) v1 l1 w1 a2 (bounds_i64 x2) a3 (bounds_i64 x3) a4 (bounds_i64 x4)) ?_
  rintro e W' ⟨_, rfl, rfl, hb⟩
  have bel := hb.below
  exact ⟨_, rfl, _, _, _, [], _, [], hW', trodAll_mk1 (shut_bool Try.underlying4 _), (trodAll_cons_mk (shut_int Try.underlying3 x0) (trodAll_cons_mk (Below.trod laidOut (by kernel_rfl) (of_decide_eq_true (by kernel_rfl)) k1 bel lt1) (trodAll_cons_mk (shut_int Try.underlying3 x2) (trodAll_cons_mk (shut_int Try.underlying3 x3) (trodAll_cons_mk (shut_int Try.underlying3 x4) trodAll_mk0))))), rfl, bel.frame _, fun h => by cases h⟩
theorem closed : joinedFacts Try.prog 8 Try.f8 Rows.nodeSidesSpec Rows.nodeSidesRow = true := Go.Proofs.Ytchikjmhncojfaa.Head.joined (by kernel_rfl) rfl rfl (by kernel_rfl) (by kernel_rfl) (by kernel_rfl) (by kernel_rfl)
theorem over : Rows.nodeSidesRow.holds Try.pinned (OpenSpec.ofChange Rows.nodeSidesSpec) :=
  OpenClaim.holds_of_wide 8 Try.f8 rfl rfl rfl rfl rfl rfl rfl ⟨rfl, rfl, rfl, rfl, rfl⟩ rfl rfl rfl rfl rfl (by kernel_rfl) Try.func8 closed
    (of_decide_eq_true (by kernel_rfl)) (by unfold Func.isWrapper; first | (rw [if_pos (by decide +kernel)]; kernel_rfl) | (rw [if_neg (by decide +kernel)]; exact ⟨rfl, rfl⟩))
    (fun os started H enc _ => lifted os started H enc)
/-- The statement. -/
theorem proved : Rows.NodeSidesSaid := over
end Go.Proofs.Ytchikjmhncojfaa.nodeSides
