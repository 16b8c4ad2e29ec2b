/- ApplyNodes of layer 14: the nodes that come are those alone to which one comes from the node that is told. Conditions: none. -/
import Derived.Test.YtchikjmhncojfaaLaw14
import Derived.Test.YtchikjmhncojfaaOrderM
import Derived.Test.YtchikjmhncojfaaHead
import Derived.ProofKit
import Derived.OpenShut
set_option linter.unusedVariables false
namespace Go.Proofs.Ytchikjmhncojfaa.applyNodes
open Go Go.Proofs Go.RowKit Go.ChangeShapes Go.WideShapes Go.ChangeAt Go.Proofs.Ytchikjmhncojfaa.W
open Go.Proofs.Ytchikjmhncojfaa.M (Br St get getZ isN idx has down Wf rank i64 leafB askB R4 MadeOk Lifts Ext opF oneF twoF chooseF tr Tells Room6)
variable {w wb : World} {R : List Chunk}
theorem step_nil {p : Nat} {s s' : St} {r : R4} {a b i e : Int} (h : Lifts (opF (M.stepT r)) s a (M.stepB r a b) (M.stepC r a b) s' i e) (hr : r.ok) (hw : Wf s) (ia : isN s a = true) (ib : isN s b = true) (H : Own wb (StoreC p s :: R) w) :
    FnC Try.prog 51 [ptr p, .pointer none, .agg (cells4 r).toArray, int a, int b] w (fun u w' => u = pairV i e ∧ Own wb (StoreC p s' :: R) w') :=
  (step_ok (o := none) h hr hw ia ib (H.toPure trivial (p := True)).swap2).mono fun _ _ ⟨hv, H⟩ => ⟨hv, H.swap2.tail⟩
set_option maxRecDepth 8000 in
set_option maxHeartbeats 2000000 in
theorem law_ok (H : Own wb R w) (links : Int) (i1 : i64 links) (v : Value) (l : List R4) (hr : RawIs wb v l) (r : R4) (hro : r.ok) :
    FnC Try.prog 12 [int links, v, .agg (cells4 r).toArray] w (fun u w' => u = .bool true ∧ ∃ R', Own wb R' w') := by
  have lo := M.pick_lo (c := links) (n := 7) (by decide)
  have hi := M.pick_hi (c := links) (n := 7) (by decide)
  obtain ⟨rp, rcap, hv, _⟩ := id hr
  subst hv
  generalize hn : M.pick links 7 = n at lo hi
  refine FnC_of Try.func12 rfl rfl rfl rfl ?_
  refine W_seq ?_
  refine W_region ?_
  refine ops_box (v := (.agg _)) (cs := [_, _, _, _]) H rfl rfl rfl ?_
  clear H; intro bn0 w H
  refine ops_v (v_assign (v := _) rfl rfl) ?_
  refine ops_nil ?_
  refine W_seq ?_
  refine W_region ?_
  refine ops_call rfl c40 (awake14_ok H) ?_
  clear H; rintro _ w ⟨rfl, H⟩
  refine ops_v (v_assign (v := (.bool _)) rfl rfl) ?_
  refine ops_nil ?_
  refine W_seq ?_
  refine W_region ?_
  refine ops_v (v_move (v := (.int _ _)) rfl rfl) ?_
  refine ops_call rfl c41 (pick14_ok H links 7 i1 (by decide)) ?_
  clear H; rintro _ w ⟨rfl, H⟩
  rw [hn]
  refine ops_v (v_assign (v := (.int _ _)) rfl rfl) ?_
  refine ops_nil ?_
  refine W_seq ?_
  refine W_region ?_
  refine ops_v (v_move (v := (.int _ _)) rfl rfl) ?_
  refine ops_v (v_move (v := (.slice _ _ _)) rfl rfl) ?_
  refine ops_call rfl c37 (Made_ok H n lo (by omega) _ l hr) ?_
  clear H; rintro _ w ⟨p, st, q, cap, ids, rfl, hm, H⟩
  refine ops_v (v_move (v := (.tuple _)) rfl rfl) ?_
  refine ops_v (v_extract (v := (.pointer _)) rfl rfl rfl) ?_
  refine ops_v (v_extract (v := (.slice _ _ _)) rfl rfl rfl) ?_
  refine ops_v (v_assign (v := (.pointer _)) rfl rfl) ?_
  refine ops_v (v_assign (v := (.slice _ _ _)) rfl rfl) ?_
  refine ops_nil ?_
  refine W_seq ?_
  refine W_seq ?_
  -- (backstaylaw14.ApplyNodes: until; chunks s,S,n0; ptr 5=n0)
  generalize bn0 = bx at *
  rcases Nat.eq_zero_or_pos ids.length with h0 | h0
  · have h0' : (ids.length : Int) = 0 := by omega
    refine W_region ?_
    refine ops_v (v_move (v := (.slice _ _ _)) rfl rfl) ?_
    refine ops_v (v_len rfl sl40 rfl) ?_
    refine ops_v (v_eql true rfl rfl rfl (decide_eq_true (by first | omega | (simp only; omega) | rfl | decide))) ?_
    refine ops_nil ?_
    refine W_if_t rfl ?_
    refine W_seq ?_
    refine W_region ?_
    refine ops_v (v_move (v := (.bool _)) rfl rfl) ?_
    refine ops_v (v_assign (v := (.bool _)) rfl rfl) ?_
    refine ops_nil ?_
    refine W_ret ?_
    refine ⟨_, (.tmp (v := (.bool _)) rfl .nil), ?_⟩
    exact ⟨rfl, _, H⟩
    -- (backstaylaw14.ApplyNodes: ret; chunks s,S,x; ptr 5=x)
  · have h0' : (0 : Int) < (ids.length : Int) := by omega
    have h0'' : ¬ ((ids.length : Int) = 0) := by omega
    obtain ⟨g, rfl⟩ := H.slSome 0 rfl h0
    have getI : ∀ c : Int, ∃ a, ids[(M.pick c ids.length).toNat]? = some a := fun c => ⟨ids[(M.pick c ids.length).toNat]'(by have := M.pick_hi (c := c) h0'; have := M.pick_lo (c := c) h0'; omega), by simp⟩
    obtain ⟨a, ha⟩ := getI r.b
    have ha' : (ints ids)[0 + (M.pick r.b ids.length).toNat * 1]? = some (.int .i64 a) := by rw [Nat.zero_add, Nat.mul_one]; simp [ints, ha]
    have a1 := M.pick_lo (c := r.b) h0'
    have a2 := M.pick_hi (c := r.b) h0'
    have ta : Tells st a _ := .of (hm.nodes a (List.mem_of_getElem? ha))
    obtain ⟨b, hb⟩ := getI r.c
    have hb' : (ints ids)[0 + (M.pick r.c ids.length).toNat * 1]? = some (.int .i64 b) := by rw [Nat.zero_add, Nat.mul_one]; simp [ints, hb]
    have b1 := M.pick_lo (c := r.c) h0'
    have b2 := M.pick_hi (c := r.c) h0'
    have tb : Tells st b _ := .of (hm.nodes b (List.mem_of_getElem? hb))
    have m0 : Room6 st 40 := ⟨hm.wf, by have := hm.links; omega, hm.most, hm.few⟩
    have oB : isN st (M.stepB r a b) = true := by rcases M.stepB_or r a b with h | h <;> rw [h]; exact ta.here; exact tb.here
    have oC : isN st (M.stepC r a b) = true := by rcases M.stepC_or r a b with h | h <;> rw [h]; exact ta.here; exact tb.here
    obtain ⟨s1, k, L1, x1, m1, tk⟩ := M.lift_room (opF (M.stepT r)) m0 (by decide) ta (.of oB) (.of oC)
    have L2 : Lifts (opF (M.stepT r)) s1 a (M.stepB r a b) (M.stepC r a b) s1 k 0 := L1.again m0.wf ta.here oB oC (Ext.refl _) m1.wf
    have hcm := L1.comes m0.wf ta.here oB oC rfl
    have hgrew : st.nodes.length ≤ s1.nodes.length := x1.len
    have hlen := m1.len
    refine W_region ?_
    refine ops_v (v_move (v := (.slice _ _ _)) rfl rfl) ?_
    refine ops_v (v_len rfl sl40 rfl) ?_
    refine ops_v (v_eql false rfl rfl rfl (decide_eq_false (by first | omega | (simp only; omega) | rfl | decide))) ?_
    refine ops_nil ?_
    refine W_if_f rfl ?_
    refine W_skip ?_
    refine W_seq ?_
    refine W_region ?_
    refine ops_v (v_move (v := (.pointer _)) rfl rfl) ?_
    refine ops_call rfl c30 (FnC.ro 1 rfl H (fun _ => Size_ok)) ?_
    clear H; rintro _ w ⟨rfl, H⟩
    refine ops_v (v_assign (v := (.int _ _)) rfl rfl) ?_
    refine ops_nil ?_
    refine W_seq ?_
    refine W_region ?_
    refine ops_v (v_move (v := (.slice _ _ _)) rfl rfl) ?_
    refine ops_v (v_indexAddr_arr rfl ae39 rfl rfl (by first | omega | decide) rfl) ?_
    refine ops_load (v := (.int _ _)) 2 H rfl tc3 rfl rfl rfl ?_
    refine ops_v (v_move (v := (.slice _ _ _)) rfl rfl) ?_
    refine ops_v (v_len rfl sl40 rfl) ?_
    refine ops_call rfl c41 (pick14_ok H r.b ids.length hro.2.1 h0') ?_
    clear H; rintro _ w ⟨rfl, H⟩
    refine ops_v (v_indexAddr_sl rfl se40 rfl rfl (by omega) (by omega)) ?_
    refine ops_loadSl (v := .int .i64 a) 0 H rfl tc3 rfl rfl ha' ?_
    refine ops_v (v_assign (v := (.int _ _)) rfl rfl) ?_
    refine ops_nil ?_
    refine W_seq ?_
    refine W_region ?_
    refine ops_v (v_move (v := (.slice _ _ _)) rfl rfl) ?_
    refine ops_v (v_indexAddr_arr rfl ae39 rfl rfl (by first | omega | decide) rfl) ?_
    refine ops_load (v := (.int _ _)) 2 H rfl tc3 rfl rfl rfl ?_
    refine ops_v (v_move (v := (.slice _ _ _)) rfl rfl) ?_
    refine ops_v (v_len rfl sl40 rfl) ?_
    refine ops_call rfl c41 (pick14_ok H r.c ids.length hro.2.2.1 h0') ?_
    clear H; rintro _ w ⟨rfl, H⟩
    refine ops_v (v_indexAddr_sl rfl se40 rfl rfl (by omega) (by omega)) ?_
    refine ops_loadSl (v := .int .i64 b) 0 H rfl tc3 rfl rfl hb' ?_
    refine ops_v (v_assign (v := (.int _ _)) rfl rfl) ?_
    refine ops_nil ?_
    refine W_seq ?_
    refine W_region ?_
    refine ops_v (v_move (v := (.pointer _)) rfl rfl) ?_
    refine ops_loadA (vs := [_, _, _, _]) 2 H rfl ta39 rfl rfl rfl rfl ?_
    refine ops_v (v_move (v := (.int _ _)) rfl rfl) ?_
    refine ops_v (v_move (v := (.int _ _)) rfl rfl) ?_
    refine ops_call rfl c51 (FnC.at 1 rfl H (fun _ H => step_nil L1 hro m0.wf ta.here tb.here H)) ?_
    clear H; rintro _ w ⟨rfl, H⟩
    refine ops_v (v_move (v := (.tuple _)) rfl rfl) ?_
    refine ops_v (v_extract (v := (.int _ _)) rfl rfl rfl) ?_
    refine ops_v (v_extract (v := (.int _ _)) rfl rfl rfl) ?_
    refine ops_v (v_assign (v := (.int _ _)) rfl rfl) ?_
    refine ops_v (v_assign (v := (.int _ _)) rfl rfl) ?_
    refine ops_nil ?_
    refine W_seq ?_
    refine W_region ?_
    refine ops_v (v_move (v := (.pointer _)) rfl rfl) ?_
    refine ops_call rfl c30 (FnC.ro 1 rfl H (fun _ => Size_ok)) ?_
    clear H; rintro _ w ⟨rfl, H⟩
    refine ops_v (v_assign (v := (.int _ _)) rfl rfl) ?_
    refine ops_nil ?_
    refine W_seq ?_
    refine W_region ?_
    refine ops_v (v_move (v := (.pointer _)) rfl rfl) ?_
    refine ops_loadA (vs := [_, _, _, _]) 2 H rfl ta39 rfl rfl rfl rfl ?_
    refine ops_v (v_move (v := (.int _ _)) rfl rfl) ?_
    refine ops_v (v_move (v := (.int _ _)) rfl rfl) ?_
    refine ops_call rfl c51 (FnC.at 1 rfl H (fun _ H => step_nil L2 hro m1.wf (x1.isN ta.here) (x1.isN tb.here) H)) ?_
    clear H; rintro _ w ⟨rfl, H⟩
    refine ops_v (v_move (v := (.tuple _)) rfl rfl) ?_
    refine ops_v (v_extract (v := (.int _ _)) rfl rfl rfl) ?_
    refine ops_v (v_extract (v := (.int _ _)) rfl rfl rfl) ?_
    refine ops_v (v_assign (v := (.int _ _)) rfl rfl) ?_
    refine ops_v (v_assign (v := (.int _ _)) rfl rfl) ?_
    refine ops_nil ?_
    refine W_seq ?_
    refine W_region ?_
    refine ops_v (v_assign (v := _) rfl rfl) ?_
    refine ops_nil ?_
    refine W_seq ?_
    refine W_seq ?_
    refine W_region ?_
    refine ops_v (v_move (v := (.int _ _)) rfl rfl) ?_
    refine ops_v (v_assign (v := (.int _ _)) rfl rfl) ?_
    refine ops_nil ?_
    refine W_block ?_
    -- (backstaylaw14.ApplyNodes: loop; chunks s,S,x; ptr 5=x,37=x,45=x)
    have H := H.tail
    refine W_loopS (fun (s : Int × Int) => [(7, .bool true), (9, ptr p), (11, .int .i64 st.nodes.length), (14, int k), (15, int 0), (16, .int .i64 s1.nodes.length), (17, int k), (18, int 0), (19, .int .i64 s.2), (20, .int .i64 s.1)])
      (fun s w => (∃ R, Own wb (StoreC p s1 :: R) w) ∧ (st.nodes.length : Int) ≤ s.1 ∧ s.1 ≤ s1.nodes.length ∧ s.2 = s.1 - st.nodes.length)
      (fun s => (s1.nodes.length - s.1).toNat) ((st.nodes.length : Int), 0) ⟨rfl, rfl, rfl, rfl, rfl, rfl, rfl, rfl, rfl, rfl, trivial⟩ ⟨⟨_, H⟩, by simp only; omega, by simp only; omega, by simp only; omega⟩ ?_
    clear H
    rintro ⟨i, fr⟩ e w ⟨⟨R, H⟩, g0, g1, g2⟩
    simp only at g0 g1 g2 ⊢
    by_cases hi : i < s1.nodes.length
    · have hc : M.comes s1 k i = true := hcm i (M.isN_iff.2 ⟨by omega, hi⟩) (M.bad_id (.inl g0))
      refine W_seq ?_
      refine W_seq ?_
      refine W_region ?_
      refine ops_v (v_move (v := (.int _ _)) rfl rfl) ?_
      refine ops_v (v_move (v := (.int _ _)) rfl rfl) ?_
      refine ops_v (v_lss true rfl rfl rfl (decide_eq_true (by first | omega | (simp only; omega) | rfl | decide))) ?_
      refine ops_nil ?_
      refine W_if_t rfl ?_
      refine W_skip ?_
      refine W_seq ?_
      refine W_block ?_
      refine W_seq ?_
      refine W_region ?_
      refine ops_v (v_move (v := (.pointer _)) rfl rfl) ?_
      refine ops_v (v_move (v := (.int _ _)) rfl rfl) ?_
      refine ops_v (v_move (v := (.int _ _)) rfl rfl) ?_
      refine ops_call rfl c54 (FnC.ro 0 rfl H (fun _ H => (by have := comes_ok m1.wf i k _ _ H; rw [hc] at this; exact this))) ?_
      clear H; rintro _ w ⟨rfl, H⟩
      refine ops_nil ?_
      refine W_if_t rfl ?_
      refine W_region ?_
      refine ops_v (v_move (v := (.int _ _)) rfl rfl) ?_
      refine ops_v (v_add _ rfl rfl rfl (wrap_in (by omega) (by omega))) ?_
      refine ops_v (v_assign (v := (.int _ _)) rfl rfl) ?_
      refine ops_nil ?_
      refine W_region ?_
      refine ops_v (v_move (v := (.int _ _)) rfl rfl) ?_
      refine ops_v (v_add _ rfl rfl rfl (wrap_in (by omega) (by omega))) ?_
      refine ops_v (v_assign (v := (.int _ _)) rfl rfl) ?_
      refine ops_nil ?_
      exact ⟨(i + 1, fr + 1), by simp only; omega, ⟨rfl, rfl, rfl, rfl, rfl, rfl, rfl, rfl, rfl, rfl, trivial⟩, ⟨_, H⟩, by simp only; omega, by simp only; omega, by simp only; omega⟩
      -- (backstaylaw14.ApplyNodes: loopend; chunks S; ptr )
    · refine W_seq ?_
      refine W_seq ?_
      refine W_region ?_
      refine ops_v (v_move (v := (.int _ _)) rfl rfl) ?_
      refine ops_v (v_move (v := (.int _ _)) rfl rfl) ?_
      refine ops_v (v_lss false rfl rfl rfl (decide_eq_false (by first | omega | (simp only; omega) | rfl | decide))) ?_
      refine ops_nil ?_
      refine W_if_f rfl ?_
      refine W_exit ?_
      refine W_seq ?_
      refine W_region ?_
      refine ops_v (v_move (v := (.bool _)) rfl rfl) ?_
      refine ops_v (v_move (v := (.bool _)) rfl rfl) ?_
      refine ops_v (v_move (v := (.int _ _)) rfl rfl) ?_
      refine ops_v (v_eql true rfl rfl rfl (decide_eq_true (by first | omega | (simp only; omega) | rfl | decide))) ?_
      refine ops_v (v_pick_t (v := (.bool _)) rfl rfl rfl) ?_
      refine ops_v (v_move (v := (.bool _)) rfl rfl) ?_
      refine ops_v (v_move (v := (.int _ _)) rfl rfl) ?_
      refine ops_v (v_eql true rfl rfl rfl (decide_eq_true (by first | omega | (simp only; omega) | rfl | decide))) ?_
      refine ops_v (v_pick_t (v := (.bool _)) rfl rfl rfl) ?_
      refine ops_v (v_move (v := (.bool _)) rfl rfl) ?_
      refine ops_v (v_move (v := (.int _ _)) rfl rfl) ?_
      refine ops_v (v_move (v := (.int _ _)) rfl rfl) ?_
      refine ops_v (v_eql true rfl rfl rfl (decide_eq_true (by first | omega | (simp only; omega) | rfl | decide))) ?_
      refine ops_v (v_pick_t (v := (.bool _)) rfl rfl rfl) ?_
      refine ops_v (v_move (v := (.bool _)) rfl rfl) ?_
      refine ops_v (v_move (v := (.pointer _)) rfl rfl) ?_
      refine ops_call rfl c30 (FnC.ro 0 rfl H (fun _ => Size_ok)) ?_
      clear H; rintro _ w ⟨rfl, H⟩
      refine ops_v (v_move (v := (.int _ _)) rfl rfl) ?_
      refine ops_v (v_eql true rfl rfl rfl (decide_eq_true (by first | omega | (simp only; omega) | rfl | decide))) ?_
      refine ops_v (v_pick_t (v := (.bool _)) rfl rfl rfl) ?_
      refine ops_v (v_move (v := (.bool _)) rfl rfl) ?_
      refine ops_v (v_move (v := (.int _ _)) rfl rfl) ?_
      refine ops_v (v_move (v := (.int _ _)) rfl rfl) ?_
      refine ops_v (v_move (v := (.int _ _)) rfl rfl) ?_
      refine ops_v (v_sub _ rfl rfl rfl (wrap_in (by omega) (by omega))) ?_
      refine ops_v (v_eql true rfl rfl rfl (decide_eq_true (by first | omega | (simp only; omega) | rfl | decide))) ?_
      refine ops_v (v_pick_t (v := (.bool _)) rfl rfl rfl) ?_
      refine ops_v (v_assign (v := (.bool _)) rfl rfl) ?_
      refine ops_nil ?_
      refine W_ret ?_
      refine ⟨_, (.tmp (v := (.bool _)) rfl .nil), ?_⟩
      exact ⟨rfl, _, H⟩
      -- (backstaylaw14.ApplyNodes: ret; chunks S; ptr )
theorem walk (W : World) (links : Int) (i1 : i64 links) (v : Value) (l : List R4) (hr : RawIs W v l) (r : R4) (hro : r.ok) :
    FnC Try.prog 12 [int links, v, .agg (cells4 r).toArray] W (fun v w' => v = .bool true ∧ Base W w') :=
  (law_ok (Own.start W) links i1 v l hr r hro).mono (fun _ _ ⟨a, _, H⟩ => ⟨a, H.base⟩)
theorem own : ownKnob Try.prog.godebug = none := by kernel_rfl
set_option maxRecDepth 100000 in
theorem lifted (os : Os) (started : os.Started) (H : Type) (enc : TypeId × Value → H) :
    ReturnsInHanded {} Try.checked os 12 .any (Rows.applyNodesSpec.pre6 enc Try.prog Try.f12 Rows.applyNodesRow.domain false) (Rows.applyNodesSpec.post enc Try.prog Try.f12 false true false false) := by
  refine returnsInHanded_of_change (C := Try.checked) own started (by kernel_rfl) Try.func12
    (ChangeSpec.witness6 (enc := enc) (C := Try.checked) false ⟨#[], #[.int .i64 0, .slice none 0 0, .agg #[.int .i64 0, .int .i64 0, .int .i64 0, .int .i64 0]], []⟩ 8 (by kernel_rfl) (by kernel_rfl) (by kernel_rfl) (by kernel_rfl)) ?_
  intro W base args ds gs before hval0 hW hcnd _
  have hval : ∀ (j : Nat) t v, Try.f12.params[j]? = some t → args[j]? = some v → Value.okWide Try.prog W .any base t v := hval0
  have hW' := hW
  obtain ⟨p, q, hA0, hV, rfl, hfz, hnd⟩ := hW
  have hA : DataW.TrodAll enc Try.prog W 0 (fun _ => true) true Try.f12.params.toList args.toList ds p := hA0
  rw [Try.params12] at hA hval
  obtain ⟨v0, vs0, d0, ds0, p0, q0, hargs, rfl, rfl, h0, r0⟩ := trodAll_cons hA
  obtain ⟨v1, vs1, d1, ds1, p1, q1, rfl, rfl, rfl, h1, r1⟩ := trodAll_cons r0
  obtain ⟨v2, vs2, d2, ds2, p2, q2, rfl, rfl, rfl, h2, r2⟩ := trodAll_cons r1
  obtain ⟨rfl, rfl, rfl⟩ := trodAll_nil r2
  obtain rfl : args = #[v0, v1, v2] := by cases args; simp_all
  obtain ⟨rfl, rfl⟩ := trodVars_none hV
  obtain ⟨a0, rfl, rfl, rfl, x0⟩ := open_int Try.underlying3 (hval 0 3 v0 rfl rfl) h0
  have k1 := h1
  have lt1 : ∀ x ∈ p1, x.block < W.heap.size := by obtain ⟨m, hm⟩ := k1; exact DataW.trod_lt m _ _ _ hm
  obtain ⟨l1, w1⟩ := raw_of_trod h1 (okWide_slice Try.underlying22 (hval 1 22 v1 rfl rfl))
  have k2 := h2
  have lt2 : ∀ x ∈ p2, x.block < W.heap.size := by obtain ⟨m, hm⟩ := k2; exact DataW.trod_lt m _ _ _ hm
  obtain ⟨l2, rfl, w2⟩ := arrv_of_trod h2 (hval 2 39 v2 rfl rfl)
  clear hA0 hval0
  refine Calls.mono (walk W a0 (bounds_i64 x0) v1 l1 w1 l2 w2) ?_
  rintro e W' ⟨_, rfl, rfl, hb⟩
  have bel := hb.below
  exact ⟨_, rfl, _, _, _, [], _, [], hW', trodAll_mk1 (shut_bool Try.underlying4 _), (trodAll_cons_mk (shut_int Try.underlying3 x0) (trodAll_cons_mk (Below.trod laidOut (by kernel_rfl) (of_decide_eq_true (by kernel_rfl)) k1 bel lt1) (trodAll_cons_mk (Below.trod laidOut (by kernel_rfl) (of_decide_eq_true (by kernel_rfl)) k2 bel lt2) trodAll_mk0))), rfl, bel.frame _, fun h => by cases h⟩
theorem closed : joinedFacts Try.prog 12 Try.f12 Rows.applyNodesSpec Rows.applyNodesRow = true := Go.Proofs.Ytchikjmhncojfaa.Head.joined (by kernel_rfl) rfl rfl (by kernel_rfl) (by kernel_rfl) (by kernel_rfl) (by kernel_rfl)
theorem over : Rows.applyNodesRow.holds Try.pinned (OpenSpec.ofChange Rows.applyNodesSpec) :=
  OpenClaim.holds_of_wide 12 Try.f12 rfl rfl rfl rfl rfl rfl rfl ⟨rfl, rfl, rfl, rfl, rfl⟩ rfl rfl rfl rfl rfl (by kernel_rfl) Try.func12 closed
    (of_decide_eq_true (by kernel_rfl)) (by unfold Func.isWrapper; first | (rw [if_pos (by decide +kernel)]; kernel_rfl) | (rw [if_neg (by decide +kernel)]; exact ⟨rfl, rfl⟩))
    (fun os started H enc _ => lifted os started H enc)
/-- The statement. -/
theorem proved : Rows.ApplyNodesSaid := over
end Go.Proofs.Ytchikjmhncojfaa.applyNodes
