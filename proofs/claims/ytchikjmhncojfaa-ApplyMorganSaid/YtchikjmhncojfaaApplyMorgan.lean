/- ApplyMorgan of layer 14: Not of And is Or of Nots; a choice is made of And, Or and Not. Conditions: none. -/
import Derived.Test.YtchikjmhncojfaaLaw14
import Derived.Test.YtchikjmhncojfaaOrderM
import Derived.Test.YtchikjmhncojfaaHead
import Derived.ProofKit
import Derived.OpenShut
set_option linter.unusedVariables false
namespace Go.Proofs.Ytchikjmhncojfaa.applyMorgan
open Go Go.Proofs Go.RowKit Go.ChangeShapes Go.WideShapes Go.ChangeAt Go.Proofs.Ytchikjmhncojfaa.W
open Go.Proofs.Ytchikjmhncojfaa.M (Br St get getZ isN idx has down Wf rank i64 leafB askB R4 MadeOk Lifts Ext opF oneF twoF chooseF tr Tells Room6)
variable {w wb : World} {R : List Chunk}
theorem not01 (x y z : Int) : opF 1 x y z = 0 ∨ opF 1 x y z = 1 := by
  simp only [M.opF_one (t := 1) (.inl rfl), oneF, tr, if_true]
  split <;> simp
theorem and01 (x y z : Int) : opF 7 x y z = 0 ∨ opF 7 x y z = 1 := by
  simp only [M.opF_two (t := 7) (by decide), twoF, tr, show ¬((7 : Int) = 3) by decide, show ¬((7 : Int) = 4) by decide, show ¬((7 : Int) = 5) by decide, show ¬((7 : Int) = 6) by decide, if_false, if_true]
  split <;> simp
theorem or01 (x y z : Int) : opF 8 x y z = 0 ∨ opF 8 x y z = 1 := by
  simp only [M.opF_two (t := 8) (by decide), twoF, tr, show ¬((8 : Int) = 3) by decide, show ¬((8 : Int) = 4) by decide, show ¬((8 : Int) = 5) by decide, show ¬((8 : Int) = 6) by decide, show ¬((8 : Int) = 7) by decide, if_false]
  split <;> simp
theorem morgan (x y : Int) : opF 1 (opF 7 x y y) (opF 7 x y y) (opF 7 x y y) = opF 8 (opF 1 x x x) (opF 1 y y y) (opF 1 y y y) := by
  by_cases h : x = 0 <;> by_cases k : y = 0 <;> simp [opF, twoF, oneF, tr, h, k]
theorem made (x y z : Int) (hy : y = 0 ∨ y = 1) (hz : z = 0 ∨ z = 1) : opF 100 x y z = opF 8 (opF 7 x y y) (opF 7 (opF 1 x x x) z z) (opF 7 (opF 1 x x x) z z) := by
  by_cases h : x = 0 <;> rcases hy with rfl | rfl <;> rcases hz with rfl | rfl <;> simp [opF, twoF, oneF, tr, chooseF, h]
def nthS (a b c d : St) : Nat → St
  | 0 => a
  | 1 => b
  | 2 => c
  | _ => d
def xs (x y z : Int) : Nat → List Int
  | 0 => []
  | 1 => [x]
  | 2 => [x, y]
  | _ => [x, y, z]
theorem Choose_nil {p : Nat} {s s' : St} {a b c i e : Int} (h : Lifts (opF 100) s a b c s' i e) (hw : Wf s) (ia : isN s a = true) (ib : isN s b = true) (ic : isN s c = true) (H : Own wb (StoreC p s :: R) w) :
    FnC Try.prog 46 [ptr p, .pointer none, int a, int b, int c] w (fun u w' => u = pairV i e ∧ Own wb (StoreC p s' :: R) w') :=
  (Choose_ok (o := none) h hw ia ib ic (H.toPure trivial (p := True)).swap2).mono fun _ _ ⟨hv, H⟩ => ⟨hv, H.swap2.tail⟩
set_option maxRecDepth 8000 in
set_option maxHeartbeats 2000000 in
theorem law_ok (H : Own wb R w) (links one two three : Int) (i1 : i64 links) (i3 : i64 one) (i4 : i64 two) (i5 : i64 three) (v : Value) (l : List R4) (hr : RawIs wb v l) :
    FnC Try.prog 16 [int links, v, int one, int two, int three] w (fun u w' => u = .bool true ∧ ∃ R', Own wb R' w') := by
  have lo := M.pick_lo (c := links) (n := 7) (by decide)
  have hi := M.pick_hi (c := links) (n := 7) (by decide)
  obtain ⟨rp, rcap, hv, _⟩ := id hr
  subst hv
  generalize hn : M.pick links 7 = n at lo hi
  refine FnC_of Try.func16 rfl rfl rfl rfl ?_
  refine W_seq ?_
  refine W_region ?_
  refine ops_v (v_assign (v := _) rfl rfl) ?_
  refine ops_nil ?_
  refine W_seq ?_
  refine W_region ?_
  refine ops_call rfl c40 (awake14_ok H) ?_
  clear H; rintro _ w ⟨rfl, H⟩
  refine ops_v (v_assign (v := (.bool _)) rfl rfl) ?_
  refine ops_nil ?_
  refine W_seq ?_
  refine W_region ?_
  refine ops_v (v_move (v := (.int _ _)) rfl rfl) ?_
  refine ops_call rfl c41 (pick14_ok H links 7 i1 (by decide)) ?_
  clear H; rintro _ w ⟨rfl, H⟩
  rw [hn]
  refine ops_v (v_assign (v := (.int _ _)) rfl rfl) ?_
  refine ops_nil ?_
  refine W_seq ?_
  refine W_region ?_
  refine ops_v (v_move (v := (.int _ _)) rfl rfl) ?_
  refine ops_v (v_move (v := (.slice _ _ _)) rfl rfl) ?_
  refine ops_call rfl c37 (Made_ok H n lo (by omega) _ l hr) ?_
  clear H; rintro _ w ⟨p, st, q, cap, ids, rfl, hm, H⟩
  refine ops_v (v_move (v := (.tuple _)) rfl rfl) ?_
  refine ops_v (v_extract (v := (.pointer _)) rfl rfl rfl) ?_
  refine ops_v (v_extract (v := (.slice _ _ _)) rfl rfl rfl) ?_
  refine ops_v (v_assign (v := (.pointer _)) rfl rfl) ?_
  refine ops_v (v_assign (v := (.slice _ _ _)) rfl rfl) ?_
  refine ops_nil ?_
  refine W_seq ?_
  -- (backstaylaw14.ApplyMorgan: until; chunks s,S; ptr )
  rcases Nat.eq_zero_or_pos ids.length with h0 | h0
  · have h0' : (ids.length : Int) = 0 := by omega
    refine W_region ?_
    refine ops_call rfl c42 (CNew_ok opF st H) ?_
    clear H; rintro _ w ⟨c, rfl, H⟩
    refine ops_v (v_assign (v := (.pointer _)) rfl rfl) ?_
    refine ops_nil ?_
    refine W_seq ?_
    refine W_seq ?_
    refine W_region ?_
    refine ops_v (v_move (v := (.slice _ _ _)) rfl rfl) ?_
    refine ops_v (v_len rfl sl40 rfl) ?_
    refine ops_v (v_eql true rfl rfl rfl (decide_eq_true (by first | omega | (simp only; omega) | rfl | decide))) ?_
    refine ops_nil ?_
    refine W_if_t rfl ?_
    refine W_seq ?_
    refine W_region ?_
    refine ops_v (v_move (v := (.bool _)) rfl rfl) ?_
    refine ops_v (v_assign (v := (.bool _)) rfl rfl) ?_
    refine ops_nil ?_
    refine W_ret ?_
    refine ⟨_, (.tmp (v := (.bool _)) rfl .nil), ?_⟩
    exact ⟨rfl, _, H⟩
    -- (backstaylaw14.ApplyMorgan: ret; chunks C,s,S; ptr )
  · have h0' : (0 : Int) < (ids.length : Int) := by omega
    have h0'' : ¬ ((ids.length : Int) = 0) := by omega
    obtain ⟨g, rfl⟩ := H.slSome 0 rfl h0
    have getI : ∀ c : Int, ∃ a, ids[(M.pick c ids.length).toNat]? = some a := fun c => ⟨ids[(M.pick c ids.length).toNat]'(by have := M.pick_hi (c := c) h0'; have := M.pick_lo (c := c) h0'; omega), by simp⟩
    obtain ⟨a, ha⟩ := getI one
    have ha' : (ints ids)[0 + (M.pick one ids.length).toNat * 1]? = some (.int .i64 a) := by rw [Nat.zero_add, Nat.mul_one]; simp [ints, ha]
    have a1 := M.pick_lo (c := one) h0'
    have a2 := M.pick_hi (c := one) h0'
    have ta : Tells st a _ := .of (hm.nodes a (List.mem_of_getElem? ha))
    obtain ⟨b, hb⟩ := getI two
    have hb' : (ints ids)[0 + (M.pick two ids.length).toNat * 1]? = some (.int .i64 b) := by rw [Nat.zero_add, Nat.mul_one]; simp [ints, hb]
    have b1 := M.pick_lo (c := two) h0'
    have b2 := M.pick_hi (c := two) h0'
    have tb : Tells st b _ := .of (hm.nodes b (List.mem_of_getElem? hb))
    obtain ⟨d, hd⟩ := getI three
    have hd' : (ints ids)[0 + (M.pick three ids.length).toNat * 1]? = some (.int .i64 d) := by rw [Nat.zero_add, Nat.mul_one]; simp [ints, hd]
    have d1 := M.pick_lo (c := three) h0'
    have d2 := M.pick_hi (c := three) h0'
    have td : Tells st d _ := .of (hm.nodes d (List.mem_of_getElem? hd))
    have m0 : Room6 st 40 := ⟨hm.wf, by have := hm.links; omega, hm.most, hm.few⟩
    obtain ⟨s1, zero, K1, x1, m1, tz1⟩ := M.leaf_tells m0 (by decide) 0
    have ta1 := ta.ext m0.wf x1 m1.wf
    have tb1 := tb.ext m0.wf x1 m1.wf
    have td1 := td.ext m0.wf x1 m1.wf
    obtain ⟨s2, e0, L0, x2, m2, te2⟩ := M.lift_room01 (opF 8) or01 m1 (by decide) ta1 tz1 tz1
    have tb2 := tb1.ext m1.wf x2 m2.wf
    have td2 := td1.ext m1.wf x2 m2.wf
    have tz2 := tz1.ext m1.wf x2 m2.wf
    obtain ⟨s3, e1, L1, x3, m3, tf3⟩ := M.lift_room01 (opF 8) or01 m2 (by decide) tb2 tz2 tz2
    have td3 := td2.ext m2.wf x3 m3.wf
    have tz3 := tz2.ext m2.wf x3 m3.wf
    have te3 := te2.ext m2.wf x3 m3.wf
    obtain ⟨s4, e2, L2, x4, m4, tg4⟩ := M.lift_room01 (opF 8) or01 m3 (by decide) td3 tz3 tz3
    have te4 := te3.ext m3.wf x4 m4.wf
    have tf4 := tf3.ext m3.wf x4 m4.wf
    obtain ⟨s5, an, L3, x5, m5, th5⟩ := M.lift_room01 (opF 7) and01 m4 (by decide) te4 tf4 tf4
    have te5 := te4.ext m4.wf x5 m5.wf
    have tf5 := tf4.ext m4.wf x5 m5.wf
    have tg5 := tg4.ext m4.wf x5 m5.wf
    obtain ⟨s6, left, L4, x6, m6, ti6⟩ := M.lift_room01 (opF 1) not01 m5 (by decide) th5 th5 th5
    have te6 := te5.ext m5.wf x6 m6.wf
    have tf6 := tf5.ext m5.wf x6 m6.wf
    have tg6 := tg5.ext m5.wf x6 m6.wf
    have th6 := th5.ext m5.wf x6 m6.wf
    obtain ⟨s7, na, L5, x7, m7, tj7⟩ := M.lift_room01 (opF 1) not01 m6 (by decide) te6 te6 te6
    have te7 := te6.ext m6.wf x7 m7.wf
    have tf7 := tf6.ext m6.wf x7 m7.wf
    have tg7 := tg6.ext m6.wf x7 m7.wf
    have th7 := th6.ext m6.wf x7 m7.wf
    have ti7 := ti6.ext m6.wf x7 m7.wf
    obtain ⟨s8, nb, L6, x8, m8, tk8⟩ := M.lift_room01 (opF 1) not01 m7 (by decide) tf7 tf7 tf7
    have te8 := te7.ext m7.wf x8 m8.wf
    have tf8 := tf7.ext m7.wf x8 m8.wf
    have tg8 := tg7.ext m7.wf x8 m8.wf
    have th8 := th7.ext m7.wf x8 m8.wf
    have ti8 := ti7.ext m7.wf x8 m8.wf
    have tj8 := tj7.ext m7.wf x8 m8.wf
    have L7 : Lifts (opF 8) s8 na nb nb s8 left 0 := .there' m8.wf tj8 tk8 tk8 ti8 fun F _ => morgan _ _
    obtain ⟨s9, choice, L8, x9, m9, tl9⟩ := M.lift_room (opF 100) m8 (by decide) te8 tf8 tg8
    have tg9 := tg8.ext m8.wf x9 m9.wf
    have th9 := th8.ext m8.wf x9 m9.wf
    have tj9 := tj8.ext m8.wf x9 m9.wf
    obtain ⟨s10, no, L9, x10, m10, tm10⟩ := M.lift_room01 (opF 7) and01 m9 (by decide) tj9 tg9 tg9
    have th10 := th9.ext m9.wf x10 m10.wf
    have tl10 := tl9.ext m9.wf x10 m10.wf
    have L10 : Lifts (opF 8) s10 an no no s10 choice 0 := .there' m10.wf th10 tm10 tm10 tl10 fun F _ => made _ _ _ (or01 _ _ _) (or01 _ _ _)
    have hm0 := m0.wf.most
    refine W_region ?_
    refine ops_call rfl c42 (CNew_ok opF s1 H) ?_
    clear H; rintro _ w ⟨c, rfl, H⟩
    have H := H.rot3
    refine ops_v (v_assign (v := (.pointer _)) rfl rfl) ?_
    refine ops_nil ?_
    refine W_seq ?_
    refine W_seq ?_
    refine W_region ?_
    refine ops_v (v_move (v := (.slice _ _ _)) rfl rfl) ?_
    refine ops_v (v_len rfl sl40 rfl) ?_
    refine ops_v (v_eql false rfl rfl rfl (decide_eq_false (by first | omega | (simp only; omega) | rfl | decide))) ?_
    refine ops_nil ?_
    refine W_if_f rfl ?_
    refine W_skip ?_
    refine W_seq ?_
    refine W_region ?_
    refine ops_v (v_move (v := (.pointer _)) rfl rfl) ?_
    refine ops_call rfl c38 (FnC.at 1 rfl H (fun _ H => Leaf_ok hm0 K1 H)) ?_
    clear H; rintro _ w ⟨rfl, H⟩
    refine ops_v (v_move (v := (.tuple _)) rfl rfl) ?_
    refine ops_v (v_extract (v := (.int _ _)) rfl rfl rfl) ?_
    refine ops_v (v_extract (v := (.int _ _)) rfl rfl rfl) ?_
    refine ops_v (v_assign (v := (.int _ _)) rfl rfl) ?_
    refine ops_v (v_assign (v := (.int _ _)) rfl rfl) ?_
    refine ops_nil ?_
    refine W_seq ?_
    refine W_region ?_
    refine ops_v (v_assign (v := _) rfl rfl) ?_
    refine ops_nil ?_
    refine W_seq ?_
    refine W_seq ?_
    refine W_region ?_
    refine ops_v (v_move (v := (.int _ _)) rfl rfl) ?_
    refine ops_v (v_move (v := (.int _ _)) rfl rfl) ?_
    refine ops_v (v_move (v := (.int _ _)) rfl rfl) ?_
    refine ops_buildSlice (cs := [(.int _ _), (.int _ _), (.int _ _)]) H rfl bs40_3 rfl ?_
    clear H; intro bn0 w H
    refine ops_v (v_len rfl sl40 rfl) ?_
    refine ops_v (v_move (v := _) rfl rfl) ?_
    refine ops_nil ?_
    refine W_block ?_
    -- (backstaylaw14.ApplyMorgan: loop; chunks n0,s,S,C; ptr )
    generalize bn0 = bl at *
    have H := sl_nil 3 1 H
    refine W_loopS (fun (s : Nat × Option Addr × Nat) => [(11, .bool true), (13, ptr p), (14, .slice (some ⟨g, 0, none⟩) ids.length cap), (15, xptr (some c)), (16, int zero), (18, .slice s.2.1 (xs e0 e1 e2 s.1).length s.2.2), (61, .slice (some ⟨bl, 0, none⟩) 3 3), (62, int 3), (63, .int .i64 s.1)])
      (fun s w => Own wb (SlC s.2.1 (xs e0 e1 e2 s.1).length s.2.2 3 1 (ints (xs e0 e1 e2 s.1)) :: Blk bl [int one, int two, int three] 3 :: SlC (some ⟨g, 0, none⟩) ids.length cap 3 1 (ints ids) :: StoreC p (nthS s1 s2 s3 s4 s.1) :: CacheX opF (some c) (nthS s1 s2 s3 s4 s.1) :: R) w ∧ s.1 ≤ 3)
      (fun s => 3 - s.1) (0, none, 0) ⟨rfl, rfl, rfl, rfl, rfl, rfl, rfl, rfl, rfl, trivial⟩ ⟨H, by decide⟩ ?_
    clear H
    rintro ⟨j, q, capx⟩ e w ⟨H, hj⟩
    simp only at H hj ⊢
    obtain rfl | rfl | rfl | rfl : j = 0 ∨ j = 1 ∨ j = 2 ∨ j = 3 := by omega
    · refine W_seq ?_
      refine W_region ?_
      refine ops_v (v_lss true rfl rfl rfl (decide_eq_true (by first | omega | (simp only; omega) | rfl | decide))) ?_
      refine ops_nil ?_
      refine W_seq ?_
      refine W_if_t rfl ?_
      refine W_skip ?_
      refine W_seq ?_
      refine W_block ?_
      refine W_seq ?_
      refine W_region ?_
      refine ops_v (v_indexAddr_sl rfl se40 rfl rfl (by omega) (by omega)) ?_
      refine ops_load (v := (.int _ _)) 1 H rfl tc3 rfl rfl rfl ?_
      refine ops_v (v_assign (v := (.int _ _)) rfl rfl) ?_
      refine ops_nil ?_
      refine W_seq ?_
      refine W_region ?_
      refine ops_v (v_move (v := (.pointer _)) rfl rfl) ?_
      refine ops_v (v_move (v := (.pointer _)) rfl rfl) ?_
      refine ops_v (v_move (v := (.slice _ _ _)) rfl rfl) ?_
      refine ops_v (v_move (v := (.int _ _)) rfl rfl) ?_
      refine ops_v (v_move (v := (.slice _ _ _)) rfl rfl) ?_
      refine ops_v (v_len rfl sl40 rfl) ?_
      refine ops_call rfl c41 (pick14_ok H one ids.length i3 h0') ?_
      clear H; rintro _ w ⟨rfl, H⟩
      refine ops_v (v_indexAddr_sl rfl se40 rfl rfl (by omega) (by omega)) ?_
      refine ops_loadSl (v := .int .i64 a) 2 H rfl tc3 rfl rfl ha' ?_
      refine ops_v (v_move (v := (.int _ _)) rfl rfl) ?_
      refine ops_call rfl c45 (FnC.mid (A := [_, _, _]) (B := [_, _]) (B' := [_, _]) H (fun _ H => Two_ok L0 (by decide) m1.wf ta1.here tz1.here H)) ?_
      clear H; rintro _ w ⟨rfl, H⟩
      simp only [List.cons_append, List.nil_append] at H
      refine ops_v (v_move (v := (.tuple _)) rfl rfl) ?_
      refine ops_v (v_extract (v := (.int _ _)) rfl rfl rfl) ?_
      refine ops_v (v_extract (v := (.int _ _)) rfl rfl rfl) ?_
      refine ops_v (v_assign (v := (.int _ _)) rfl rfl) ?_
      refine ops_v (v_assign (v := (.int _ _)) rfl rfl) ?_
      refine ops_nil ?_
      refine W_seq ?_
      refine W_seq ?_
      refine W_region ?_
      refine ops_v (v_move (v := (.int _ _)) rfl rfl) ?_
      refine ops_v (v_neq false rfl rfl rfl (decide_eq_false (by first | omega | (simp only; omega) | rfl | decide))) ?_
      refine ops_nil ?_
      refine W_if_f rfl ?_
      refine W_skip ?_
      refine W_region ?_
      refine ops_v (v_move (v := (.slice _ _ _)) rfl rfl) ?_
      refine ops_v (v_move (v := (.int _ _)) rfl rfl) ?_
      refine ops_buildSlice (cs := [(.int _ _)]) H rfl bs40_1 rfl ?_
      clear H; intro bn0 w H
      refine ops_append (b := bn0) (news := [.int .i64 e0]) 1 0 H rfl ap40 rfl rfl rfl rfl rfl rfl (Nat.le_of_ble_eq_true rfl) (Nat.le_of_ble_eq_true rfl) ?_
      clear H; intro q' cap' w H
      refine ops_v (v_assign (v := (.slice _ _ _)) rfl rfl) ?_
      refine ops_nil ?_
      refine W_region ?_
      refine ops_v (v_add _ rfl rfl rfl (wrap_in (by omega) (by omega))) ?_
      refine ops_v (v_move (v := (.int _ _)) rfl rfl) ?_
      refine ops_nil ?_
      exact ⟨(1, q', cap'), Nat.le_of_ble_eq_true rfl, ⟨rfl, rfl, rfl, rfl, rfl, rfl, rfl, rfl, rfl, trivial⟩, H.tail, Nat.le_of_ble_eq_true rfl⟩
      -- (backstaylaw14.ApplyMorgan: loopend; chunks n0,x,l,s,S,C; ptr )
    · refine W_seq ?_
      refine W_region ?_
      refine ops_v (v_lss true rfl rfl rfl (decide_eq_true (by first | omega | (simp only; omega) | rfl | decide))) ?_
      refine ops_nil ?_
      refine W_seq ?_
      refine W_if_t rfl ?_
      refine W_skip ?_
      refine W_seq ?_
      refine W_block ?_
      refine W_seq ?_
      refine W_region ?_
      refine ops_v (v_indexAddr_sl rfl se40 rfl rfl (by omega) (by omega)) ?_
      refine ops_load (v := (.int _ _)) 1 H rfl tc3 rfl rfl rfl ?_
      refine ops_v (v_assign (v := (.int _ _)) rfl rfl) ?_
      refine ops_nil ?_
      refine W_seq ?_
      refine W_region ?_
      refine ops_v (v_move (v := (.pointer _)) rfl rfl) ?_
      refine ops_v (v_move (v := (.pointer _)) rfl rfl) ?_
      refine ops_v (v_move (v := (.slice _ _ _)) rfl rfl) ?_
      refine ops_v (v_move (v := (.int _ _)) rfl rfl) ?_
      refine ops_v (v_move (v := (.slice _ _ _)) rfl rfl) ?_
      refine ops_v (v_len rfl sl40 rfl) ?_
      refine ops_call rfl c41 (pick14_ok H two ids.length i4 h0') ?_
      clear H; rintro _ w ⟨rfl, H⟩
      refine ops_v (v_indexAddr_sl rfl se40 rfl rfl (by omega) (by omega)) ?_
      refine ops_loadSl (v := .int .i64 b) 2 H rfl tc3 rfl rfl hb' ?_
      refine ops_v (v_move (v := (.int _ _)) rfl rfl) ?_
      refine ops_call rfl c45 (FnC.mid (A := [_, _, _]) (B := [_, _]) (B' := [_, _]) H (fun _ H => Two_ok L1 (by decide) m2.wf tb2.here tz2.here H)) ?_
      clear H; rintro _ w ⟨rfl, H⟩
      simp only [List.cons_append, List.nil_append] at H
      refine ops_v (v_move (v := (.tuple _)) rfl rfl) ?_
      refine ops_v (v_extract (v := (.int _ _)) rfl rfl rfl) ?_
      refine ops_v (v_extract (v := (.int _ _)) rfl rfl rfl) ?_
      refine ops_v (v_assign (v := (.int _ _)) rfl rfl) ?_
      refine ops_v (v_assign (v := (.int _ _)) rfl rfl) ?_
      refine ops_nil ?_
      refine W_seq ?_
      refine W_seq ?_
      refine W_region ?_
      refine ops_v (v_move (v := (.int _ _)) rfl rfl) ?_
      refine ops_v (v_neq false rfl rfl rfl (decide_eq_false (by first | omega | (simp only; omega) | rfl | decide))) ?_
      refine ops_nil ?_
      refine W_if_f rfl ?_
      refine W_skip ?_
      refine W_region ?_
      refine ops_v (v_move (v := (.slice _ _ _)) rfl rfl) ?_
      refine ops_v (v_move (v := (.int _ _)) rfl rfl) ?_
      refine ops_buildSlice (cs := [(.int _ _)]) H rfl bs40_1 rfl ?_
      clear H; intro bn0 w H
      refine ops_append (b := bn0) (news := [.int .i64 e1]) 1 0 H rfl ap40 rfl rfl rfl rfl rfl rfl (Nat.le_of_ble_eq_true rfl) (Nat.le_of_ble_eq_true rfl) ?_
      clear H; intro q' cap' w H
      refine ops_v (v_assign (v := (.slice _ _ _)) rfl rfl) ?_
      refine ops_nil ?_
      refine W_region ?_
      refine ops_v (v_add _ rfl rfl rfl (wrap_in (by omega) (by omega))) ?_
      refine ops_v (v_move (v := (.int _ _)) rfl rfl) ?_
      refine ops_nil ?_
      exact ⟨(2, q', cap'), Nat.le_of_ble_eq_true rfl, ⟨rfl, rfl, rfl, rfl, rfl, rfl, rfl, rfl, rfl, trivial⟩, H.tail, Nat.le_of_ble_eq_true rfl⟩
      -- (backstaylaw14.ApplyMorgan: loopend; chunks n0,x,l,s,S,C; ptr )
    · refine W_seq ?_
      refine W_region ?_
      refine ops_v (v_lss true rfl rfl rfl (decide_eq_true (by first | omega | (simp only; omega) | rfl | decide))) ?_
      refine ops_nil ?_
      refine W_seq ?_
      refine W_if_t rfl ?_
      refine W_skip ?_
      refine W_seq ?_
      refine W_block ?_
      refine W_seq ?_
      refine W_region ?_
      refine ops_v (v_indexAddr_sl rfl se40 rfl rfl (by omega) (by omega)) ?_
      refine ops_load (v := (.int _ _)) 1 H rfl tc3 rfl rfl rfl ?_
      refine ops_v (v_assign (v := (.int _ _)) rfl rfl) ?_
      refine ops_nil ?_
      refine W_seq ?_
      refine W_region ?_
      refine ops_v (v_move (v := (.pointer _)) rfl rfl) ?_
      refine ops_v (v_move (v := (.pointer _)) rfl rfl) ?_
      refine ops_v (v_move (v := (.slice _ _ _)) rfl rfl) ?_
      refine ops_v (v_move (v := (.int _ _)) rfl rfl) ?_
      refine ops_v (v_move (v := (.slice _ _ _)) rfl rfl) ?_
      refine ops_v (v_len rfl sl40 rfl) ?_
      refine ops_call rfl c41 (pick14_ok H three ids.length i5 h0') ?_
      clear H; rintro _ w ⟨rfl, H⟩
      refine ops_v (v_indexAddr_sl rfl se40 rfl rfl (by omega) (by omega)) ?_
      refine ops_loadSl (v := .int .i64 d) 2 H rfl tc3 rfl rfl hd' ?_
      refine ops_v (v_move (v := (.int _ _)) rfl rfl) ?_
      refine ops_call rfl c45 (FnC.mid (A := [_, _, _]) (B := [_, _]) (B' := [_, _]) H (fun _ H => Two_ok L2 (by decide) m3.wf td3.here tz3.here H)) ?_
      clear H; rintro _ w ⟨rfl, H⟩
      simp only [List.cons_append, List.nil_append] at H
      refine ops_v (v_move (v := (.tuple _)) rfl rfl) ?_
      refine ops_v (v_extract (v := (.int _ _)) rfl rfl rfl) ?_
      refine ops_v (v_extract (v := (.int _ _)) rfl rfl rfl) ?_
      refine ops_v (v_assign (v := (.int _ _)) rfl rfl) ?_
      refine ops_v (v_assign (v := (.int _ _)) rfl rfl) ?_
      refine ops_nil ?_
      refine W_seq ?_
      refine W_seq ?_
      refine W_region ?_
      refine ops_v (v_move (v := (.int _ _)) rfl rfl) ?_
      refine ops_v (v_neq false rfl rfl rfl (decide_eq_false (by first | omega | (simp only; omega) | rfl | decide))) ?_
      refine ops_nil ?_
      refine W_if_f rfl ?_
      refine W_skip ?_
      refine W_region ?_
      refine ops_v (v_move (v := (.slice _ _ _)) rfl rfl) ?_
      refine ops_v (v_move (v := (.int _ _)) rfl rfl) ?_
      refine ops_buildSlice (cs := [(.int _ _)]) H rfl bs40_1 rfl ?_
      clear H; intro bn0 w H
      refine ops_append (b := bn0) (news := [.int .i64 e2]) 1 0 H rfl ap40 rfl rfl rfl rfl rfl rfl (Nat.le_of_ble_eq_true rfl) (Nat.le_of_ble_eq_true rfl) ?_
      clear H; intro q' cap' w H
      refine ops_v (v_assign (v := (.slice _ _ _)) rfl rfl) ?_
      refine ops_nil ?_
      refine W_region ?_
      refine ops_v (v_add _ rfl rfl rfl (wrap_in (by omega) (by omega))) ?_
      refine ops_v (v_move (v := (.int _ _)) rfl rfl) ?_
      refine ops_nil ?_
      exact ⟨(3, q', cap'), Nat.le_of_ble_eq_true rfl, ⟨rfl, rfl, rfl, rfl, rfl, rfl, rfl, rfl, rfl, trivial⟩, H.tail, Nat.le_of_ble_eq_true rfl⟩
      -- (backstaylaw14.ApplyMorgan: loopend; chunks n0,x,l,s,S,C; ptr )
    · have hx3 : (xs e0 e1 e2 3).length = 3 := rfl
      obtain ⟨gx, rfl⟩ := H.slSome 0 rfl (Nat.le_of_ble_eq_true rfl)
      refine W_seq ?_
      refine W_region ?_
      refine ops_v (v_lss false rfl rfl rfl (decide_eq_false (by first | omega | (simp only; omega) | rfl | decide))) ?_
      refine ops_nil ?_
      refine W_seq ?_
      refine W_if_f rfl ?_
      refine W_exit ?_
      refine W_seq ?_
      obtain ⟨cs, t1, t2, t3, t4, H⟩ := H.slToBlk 0 rfl
      refine W_draw (is := [0]) mixed H ?_
      clear H; intro w H
      refine any_take 0 rfl (by kernel_rfl) (by kernel_rfl) (by kernel_rfl) (v_move (v := (.pointer _)) rfl rfl) ?_
      refine any_take 1 rfl (by kernel_rfl) (by kernel_rfl) (by kernel_rfl) (v_move (v := (.pointer _)) rfl rfl) ?_
      refine any_take 2 rfl (by kernel_rfl) (by kernel_rfl) (by kernel_rfl) (v_move (v := (.slice _ _ _)) rfl rfl) ?_
      refine any_take 3 rfl (by kernel_rfl) (by kernel_rfl) (by kernel_rfl) (v_indexAddr_sl rfl se40 rfl rfl (by omega) (by omega)) ?_
      refine any_take 4 rfl (by kernel_rfl) (by kernel_rfl) (by kernel_rfl) (v_load (v := .int .i64 e0) rfl tc3 (fun _ hS => hS.1 _ _ _ rfl) rfl (take_get t1 rfl)) ?_
      refine any_take 5 rfl (by kernel_rfl) (by kernel_rfl) (by kernel_rfl) (v_move (v := (.slice _ _ _)) rfl rfl) ?_
      refine any_take 6 rfl (by kernel_rfl) (by kernel_rfl) (by kernel_rfl) (v_indexAddr_sl rfl se40 rfl rfl (by omega) (by omega)) ?_
      refine any_take 7 rfl (by kernel_rfl) (by kernel_rfl) (by kernel_rfl) (v_load (v := .int .i64 e1) rfl tc3 (fun _ hS => hS.1 _ _ _ rfl) rfl (take_get t1 rfl)) ?_
      refine any_one 8 rfl (by kernel_rfl) ?_
      refine ops_call rfl c45 (FnC.mid (A := [_, _, _]) (B := [_, _]) (B' := [_, _]) H (fun _ H => Two_ok L3 (by decide) m4.wf te4.here tf4.here H)) ?_
      clear H; rintro _ w ⟨rfl, H⟩
      simp only [List.cons_append, List.nil_append] at H
      refine ops_nil ⟨H.stab [(0, 0)] ⟨rfl, trivial⟩, ?_⟩
      refine any_take 9 rfl (by kernel_rfl) (by kernel_rfl) (by kernel_rfl) (v_move (v := (.tuple _)) rfl rfl) ?_
      refine any_take 10 rfl (by kernel_rfl) (by kernel_rfl) (by kernel_rfl) (v_extract (v := (.int _ _)) rfl rfl rfl) ?_
      refine any_take 11 rfl (by kernel_rfl) (by kernel_rfl) (by kernel_rfl) (v_extract (v := (.int _ _)) rfl rfl rfl) ?_
      refine any_take 12 rfl (by kernel_rfl) (by kernel_rfl) (by kernel_rfl) (v_assign (v := (.int _ _)) rfl rfl) ?_
      refine any_take 13 rfl (by kernel_rfl) (by kernel_rfl) (by kernel_rfl) (v_assign (v := (.int _ _)) rfl rfl) ?_
      refine any_done (by kernel_rfl) ?_
      refine W_seq ?_
      refine W_region ?_
      refine ops_v (v_move (v := (.pointer _)) rfl rfl) ?_
      refine ops_v (v_move (v := (.pointer _)) rfl rfl) ?_
      refine ops_v (v_move (v := (.int _ _)) rfl rfl) ?_
      refine ops_call rfl c44 (FnC.mid (A := [_, _, _]) (B := [_, _]) (B' := [_, _]) H (fun _ H => One_ok L4 (.inl rfl) m5.wf th5.here H)) ?_
      clear H; rintro _ w ⟨rfl, H⟩
      simp only [List.cons_append, List.nil_append] at H
      refine ops_v (v_move (v := (.tuple _)) rfl rfl) ?_
      refine ops_v (v_extract (v := (.int _ _)) rfl rfl rfl) ?_
      refine ops_v (v_extract (v := (.int _ _)) rfl rfl rfl) ?_
      refine ops_v (v_assign (v := (.int _ _)) rfl rfl) ?_
      refine ops_v (v_assign (v := (.int _ _)) rfl rfl) ?_
      refine ops_nil ?_
      refine W_seq ?_
      refine W_region ?_
      refine ops_v (v_move (v := (.pointer _)) rfl rfl) ?_
      refine ops_v (v_move (v := (.pointer _)) rfl rfl) ?_
      refine ops_v (v_move (v := (.slice _ _ _)) rfl rfl) ?_
      refine ops_v (v_indexAddr_sl rfl se40 rfl rfl (by omega) (by omega)) ?_
      refine ops_load (v := .int .i64 e0) 0 H rfl tc3 rfl rfl (take_get t1 rfl) ?_
      refine ops_call rfl c44 (FnC.mid (A := [_, _, _]) (B := [_, _]) (B' := [_, _]) H (fun _ H => One_ok L5 (.inl rfl) m6.wf te6.here H)) ?_
      clear H; rintro _ w ⟨rfl, H⟩
      simp only [List.cons_append, List.nil_append] at H
      refine ops_v (v_move (v := (.tuple _)) rfl rfl) ?_
      refine ops_v (v_extract (v := (.int _ _)) rfl rfl rfl) ?_
      refine ops_v (v_extract (v := (.int _ _)) rfl rfl rfl) ?_
      refine ops_v (v_assign (v := (.int _ _)) rfl rfl) ?_
      refine ops_v (v_assign (v := (.int _ _)) rfl rfl) ?_
      refine ops_nil ?_
      refine W_seq ?_
      refine W_region ?_
      refine ops_v (v_move (v := (.pointer _)) rfl rfl) ?_
      refine ops_v (v_move (v := (.pointer _)) rfl rfl) ?_
      refine ops_v (v_move (v := (.slice _ _ _)) rfl rfl) ?_
      refine ops_v (v_indexAddr_sl rfl se40 rfl rfl (by omega) (by omega)) ?_
      refine ops_load (v := .int .i64 e1) 0 H rfl tc3 rfl rfl (take_get t1 rfl) ?_
      refine ops_call rfl c44 (FnC.mid (A := [_, _, _]) (B := [_, _]) (B' := [_, _]) H (fun _ H => One_ok L6 (.inl rfl) m7.wf tf7.here H)) ?_
      clear H; rintro _ w ⟨rfl, H⟩
      simp only [List.cons_append, List.nil_append] at H
      refine ops_v (v_move (v := (.tuple _)) rfl rfl) ?_
      refine ops_v (v_extract (v := (.int _ _)) rfl rfl rfl) ?_
      refine ops_v (v_extract (v := (.int _ _)) rfl rfl rfl) ?_
      refine ops_v (v_assign (v := (.int _ _)) rfl rfl) ?_
      refine ops_v (v_assign (v := (.int _ _)) rfl rfl) ?_
      refine ops_nil ?_
      refine W_seq ?_
      refine W_region ?_
      refine ops_v (v_move (v := (.pointer _)) rfl rfl) ?_
      refine ops_v (v_move (v := (.pointer _)) rfl rfl) ?_
      refine ops_v (v_move (v := (.int _ _)) rfl rfl) ?_
      refine ops_v (v_move (v := (.int _ _)) rfl rfl) ?_
      refine ops_call rfl c45 (FnC.mid (A := [_, _, _]) (B := [_, _]) (B' := [_, _]) H (fun _ H => Two_ok L7 (by decide) m8.wf tj8.here tk8.here H)) ?_
      clear H; rintro _ w ⟨rfl, H⟩
      simp only [List.cons_append, List.nil_append] at H
      refine ops_v (v_move (v := (.tuple _)) rfl rfl) ?_
      refine ops_v (v_extract (v := (.int _ _)) rfl rfl rfl) ?_
      refine ops_v (v_extract (v := (.int _ _)) rfl rfl rfl) ?_
      refine ops_v (v_assign (v := (.int _ _)) rfl rfl) ?_
      refine ops_v (v_assign (v := (.int _ _)) rfl rfl) ?_
      refine ops_nil ?_
      refine W_seq ?_
      refine W_draw (is := [0]) mixed H ?_
      clear H; intro w H
      refine any_take 0 rfl (by kernel_rfl) (by kernel_rfl) (by kernel_rfl) (v_move (v := (.pointer _)) rfl rfl) ?_
      refine any_take 1 rfl (by kernel_rfl) (by kernel_rfl) (by kernel_rfl) (v_move (v := (.slice _ _ _)) rfl rfl) ?_
      refine any_take 2 rfl (by kernel_rfl) (by kernel_rfl) (by kernel_rfl) (v_indexAddr_sl rfl se40 rfl rfl (by omega) (by omega)) ?_
      refine any_take 3 rfl (by kernel_rfl) (by kernel_rfl) (by kernel_rfl) (v_load (v := .int .i64 e0) rfl tc3 (fun _ hS => hS.1 _ _ _ rfl) rfl (take_get t1 rfl)) ?_
      refine any_take 4 rfl (by kernel_rfl) (by kernel_rfl) (by kernel_rfl) (v_move (v := (.slice _ _ _)) rfl rfl) ?_
      refine any_take 5 rfl (by kernel_rfl) (by kernel_rfl) (by kernel_rfl) (v_indexAddr_sl rfl se40 rfl rfl (by omega) (by omega)) ?_
      refine any_take 6 rfl (by kernel_rfl) (by kernel_rfl) (by kernel_rfl) (v_load (v := .int .i64 e1) rfl tc3 (fun _ hS => hS.1 _ _ _ rfl) rfl (take_get t1 rfl)) ?_
      refine any_take 7 rfl (by kernel_rfl) (by kernel_rfl) (by kernel_rfl) (v_move (v := (.slice _ _ _)) rfl rfl) ?_
      refine any_take 8 rfl (by kernel_rfl) (by kernel_rfl) (by kernel_rfl) (v_indexAddr_sl rfl se40 rfl rfl (by omega) (by omega)) ?_
      refine any_take 9 rfl (by kernel_rfl) (by kernel_rfl) (by kernel_rfl) (v_load (v := .int .i64 e2) rfl tc3 (fun _ hS => hS.1 _ _ _ rfl) rfl (take_get t1 rfl)) ?_
      refine any_one 10 rfl (by kernel_rfl) ?_
      refine ops_call rfl c46 (FnC.at 3 rfl H (fun _ H => Choose_nil L8 m8.wf te8.here tf8.here tg8.here H)) ?_
      clear H; rintro _ w ⟨rfl, H⟩
      have H := H.mapAt 4 rfl (fun _ H => H.cacheExt m8.wf x9 m9.wf)
      refine ops_nil ⟨H.stab [(0, 0)] ⟨rfl, trivial⟩, ?_⟩
      refine any_take 11 rfl (by kernel_rfl) (by kernel_rfl) (by kernel_rfl) (v_move (v := (.tuple _)) rfl rfl) ?_
      refine any_take 12 rfl (by kernel_rfl) (by kernel_rfl) (by kernel_rfl) (v_extract (v := (.int _ _)) rfl rfl rfl) ?_
      refine any_take 13 rfl (by kernel_rfl) (by kernel_rfl) (by kernel_rfl) (v_extract (v := (.int _ _)) rfl rfl rfl) ?_
      refine any_take 14 rfl (by kernel_rfl) (by kernel_rfl) (by kernel_rfl) (v_assign (v := (.int _ _)) rfl rfl) ?_
      refine any_take 15 rfl (by kernel_rfl) (by kernel_rfl) (by kernel_rfl) (v_assign (v := (.int _ _)) rfl rfl) ?_
      refine any_done (by kernel_rfl) ?_
      refine W_seq ?_
      refine W_region ?_
      refine ops_v (v_move (v := (.pointer _)) rfl rfl) ?_
      refine ops_v (v_move (v := (.pointer _)) rfl rfl) ?_
      refine ops_v (v_move (v := (.int _ _)) rfl rfl) ?_
      refine ops_v (v_move (v := (.slice _ _ _)) rfl rfl) ?_
      refine ops_v (v_indexAddr_sl rfl se40 rfl rfl (by omega) (by omega)) ?_
      refine ops_load (v := .int .i64 e2) 0 H rfl tc3 rfl rfl (take_get t1 rfl) ?_
      refine ops_call rfl c45 (FnC.mid (A := [_, _, _]) (B := [_, _]) (B' := [_, _]) H (fun _ H => Two_ok L9 (by decide) m9.wf tj9.here tg9.here H)) ?_
      clear H; rintro _ w ⟨rfl, H⟩
      simp only [List.cons_append, List.nil_append] at H
      refine ops_v (v_move (v := (.tuple _)) rfl rfl) ?_
      refine ops_v (v_extract (v := (.int _ _)) rfl rfl rfl) ?_
      refine ops_v (v_extract (v := (.int _ _)) rfl rfl rfl) ?_
      refine ops_v (v_assign (v := (.int _ _)) rfl rfl) ?_
      refine ops_v (v_assign (v := (.int _ _)) rfl rfl) ?_
      refine ops_nil ?_
      refine W_seq ?_
      refine W_region ?_
      refine ops_v (v_move (v := (.pointer _)) rfl rfl) ?_
      refine ops_v (v_move (v := (.pointer _)) rfl rfl) ?_
      refine ops_v (v_move (v := (.int _ _)) rfl rfl) ?_
      refine ops_v (v_move (v := (.int _ _)) rfl rfl) ?_
      refine ops_call rfl c45 (FnC.mid (A := [_, _, _]) (B := [_, _]) (B' := [_, _]) H (fun _ H => Two_ok L10 (by decide) m10.wf th10.here tm10.here H)) ?_
      clear H; rintro _ w ⟨rfl, H⟩
      simp only [List.cons_append, List.nil_append] at H
      refine ops_v (v_move (v := (.tuple _)) rfl rfl) ?_
      refine ops_v (v_extract (v := (.int _ _)) rfl rfl rfl) ?_
      refine ops_v (v_extract (v := (.int _ _)) rfl rfl rfl) ?_
      refine ops_v (v_assign (v := (.int _ _)) rfl rfl) ?_
      refine ops_v (v_assign (v := (.int _ _)) rfl rfl) ?_
      refine ops_nil ?_
      refine W_seq ?_
      refine W_region ?_
      refine ops_v (v_move (v := (.bool _)) rfl rfl) ?_
      refine ops_v (v_move (v := (.bool _)) rfl rfl) ?_
      refine ops_v (v_move (v := (.int _ _)) rfl rfl) ?_
      refine ops_v (v_eql true rfl rfl rfl (decide_eq_true (by first | omega | (simp only; omega) | rfl | decide))) ?_
      refine ops_v (v_pick_t (v := (.bool _)) rfl rfl rfl) ?_
      refine ops_v (v_move (v := (.bool _)) rfl rfl) ?_
      refine ops_v (v_move (v := (.int _ _)) rfl rfl) ?_
      refine ops_v (v_eql true rfl rfl rfl (decide_eq_true (by first | omega | (simp only; omega) | rfl | decide))) ?_
      refine ops_v (v_pick_t (v := (.bool _)) rfl rfl rfl) ?_
      refine ops_v (v_move (v := (.bool _)) rfl rfl) ?_
      refine ops_v (v_move (v := (.int _ _)) rfl rfl) ?_
      refine ops_v (v_eql true rfl rfl rfl (decide_eq_true (by first | omega | (simp only; omega) | rfl | decide))) ?_
      refine ops_v (v_pick_t (v := (.bool _)) rfl rfl rfl) ?_
      refine ops_v (v_move (v := (.bool _)) rfl rfl) ?_
      refine ops_v (v_move (v := (.int _ _)) rfl rfl) ?_
      refine ops_v (v_eql true rfl rfl rfl (decide_eq_true (by first | omega | (simp only; omega) | rfl | decide))) ?_
      refine ops_v (v_pick_t (v := (.bool _)) rfl rfl rfl) ?_
      refine ops_v (v_move (v := (.bool _)) rfl rfl) ?_
      refine ops_v (v_move (v := (.int _ _)) rfl rfl) ?_
      refine ops_v (v_eql true rfl rfl rfl (decide_eq_true (by first | omega | (simp only; omega) | rfl | decide))) ?_
      refine ops_v (v_pick_t (v := (.bool _)) rfl rfl rfl) ?_
      refine ops_v (v_move (v := (.bool _)) rfl rfl) ?_
      refine ops_v (v_move (v := (.int _ _)) rfl rfl) ?_
      refine ops_v (v_eql true rfl rfl rfl (decide_eq_true (by first | omega | (simp only; omega) | rfl | decide))) ?_
      refine ops_v (v_pick_t (v := (.bool _)) rfl rfl rfl) ?_
      refine ops_v (v_move (v := (.bool _)) rfl rfl) ?_
      refine ops_v (v_move (v := (.int _ _)) rfl rfl) ?_
      refine ops_v (v_eql true rfl rfl rfl (decide_eq_true (by first | omega | (simp only; omega) | rfl | decide))) ?_
      refine ops_v (v_pick_t (v := (.bool _)) rfl rfl rfl) ?_
      refine ops_v (v_move (v := (.bool _)) rfl rfl) ?_
      refine ops_v (v_move (v := (.int _ _)) rfl rfl) ?_
      refine ops_v (v_eql true rfl rfl rfl (decide_eq_true (by first | omega | (simp only; omega) | rfl | decide))) ?_
      refine ops_v (v_pick_t (v := (.bool _)) rfl rfl rfl) ?_
      refine ops_v (v_move (v := (.bool _)) rfl rfl) ?_
      refine ops_v (v_move (v := (.int _ _)) rfl rfl) ?_
      refine ops_v (v_move (v := (.int _ _)) rfl rfl) ?_
      refine ops_v (v_eql true rfl rfl rfl (decide_eq_true (by first | omega | (simp only; omega) | rfl | decide))) ?_
      refine ops_v (v_pick_t (v := (.bool _)) rfl rfl rfl) ?_
      refine ops_v (v_move (v := (.bool _)) rfl rfl) ?_
      refine ops_v (v_move (v := (.int _ _)) rfl rfl) ?_
      refine ops_v (v_move (v := (.int _ _)) rfl rfl) ?_
      refine ops_v (v_eql true rfl rfl rfl (decide_eq_true (by first | omega | (simp only; omega) | rfl | decide))) ?_
      refine ops_v (v_pick_t (v := (.bool _)) rfl rfl rfl) ?_
      refine ops_v (v_assign (v := (.bool _)) rfl rfl) ?_
      refine ops_nil ?_
      refine W_ret ?_
      refine ⟨_, (.tmp (v := (.bool _)) rfl .nil), ?_⟩
      exact ⟨rfl, _, H⟩
      -- (backstaylaw14.ApplyMorgan: ret; chunks x,l,s,S,C; ptr 18=x)
theorem walk (W : World) (links : Int) (i1 : i64 links) (v : Value) (l : List R4) (hr : RawIs W v l) (one : Int) (i3 : i64 one) (two : Int) (i4 : i64 two) (three : Int) (i5 : i64 three) :
    FnC Try.prog 16 [int links, v, int one, int two, int three] W (fun v w' => v = .bool true ∧ Base W w') :=
  (law_ok (Own.start W) links one two three i1 i3 i4 i5 v l hr).mono (fun _ _ ⟨a, _, H⟩ => ⟨a, H.base⟩)
theorem own : ownKnob Try.prog.godebug = none := by kernel_rfl
set_option maxRecDepth 100000 in
theorem lifted (os : Os) (started : os.Started) (H : Type) (enc : TypeId × Value → H) :
    ReturnsInHanded {} Try.checked os 16 .any (Rows.applyMorganSpec.pre6 enc Try.prog Try.f16 Rows.applyMorganRow.domain false) (Rows.applyMorganSpec.post enc Try.prog Try.f16 false true false false) := by
  refine returnsInHanded_of_change (C := Try.checked) own started (by kernel_rfl) Try.func16
    (ChangeSpec.witness6 (enc := enc) (C := Try.checked) false ⟨#[], #[.int .i64 0, .slice none 0 0, .int .i64 0, .int .i64 0, .int .i64 0], []⟩ 8 (by kernel_rfl) (by kernel_rfl) (by kernel_rfl) (by kernel_rfl)) ?_
  intro W base args ds gs before hval0 hW hcnd _
  have hval : ∀ (j : Nat) t v, Try.f16.params[j]? = some t → args[j]? = some v → Value.okWide Try.prog W .any base t v := hval0
  have hW' := hW
  obtain ⟨p, q, hA0, hV, rfl, hfz, hnd⟩ := hW
  have hA : DataW.TrodAll enc Try.prog W 0 (fun _ => true) true Try.f16.params.toList args.toList ds p := hA0
  rw [Try.params16] at hA hval
  obtain ⟨v0, vs0, d0, ds0, p0, q0, hargs, rfl, rfl, h0, r0⟩ := trodAll_cons hA
  obtain ⟨v1, vs1, d1, ds1, p1, q1, rfl, rfl, rfl, h1, r1⟩ := trodAll_cons r0
  obtain ⟨v2, vs2, d2, ds2, p2, q2, rfl, rfl, rfl, h2, r2⟩ := trodAll_cons r1
  obtain ⟨v3, vs3, d3, ds3, p3, q3, rfl, rfl, rfl, h3, r3⟩ := trodAll_cons r2
  obtain ⟨v4, vs4, d4, ds4, p4, q4, rfl, rfl, rfl, h4, r4⟩ := trodAll_cons r3
  obtain ⟨rfl, rfl, rfl⟩ := trodAll_nil r4
  obtain rfl : args = #[v0, v1, v2, v3, v4] := by cases args; simp_all
  obtain ⟨rfl, rfl⟩ := trodVars_none hV
  obtain ⟨a0, rfl, rfl, rfl, x0⟩ := open_int Try.underlying3 (hval 0 3 v0 rfl rfl) h0
  have k1 := h1
  have lt1 : ∀ x ∈ p1, x.block < W.heap.size := by obtain ⟨m, hm⟩ := k1; exact DataW.trod_lt m _ _ _ hm
  obtain ⟨l1, w1⟩ := raw_of_trod h1 (okWide_slice Try.underlying22 (hval 1 22 v1 rfl rfl))
  obtain ⟨a2, rfl, rfl, rfl, x2⟩ := open_int Try.underlying3 (hval 2 3 v2 rfl rfl) h2
  obtain ⟨a3, rfl, rfl, rfl, x3⟩ := open_int Try.underlying3 (hval 3 3 v3 rfl rfl) h3
  obtain ⟨a4, rfl, rfl, rfl, x4⟩ := open_int Try.underlying3 (hval 4 3 v4 rfl rfl) h4
  clear hA0 hval0
  refine Calls.mono (walk W a0 (bounds_i64 x0) v1 l1 w1 a2 (bounds_i64 x2) a3 (bounds_i64 x3) a4 (bounds_i64 x4)) ?_
  rintro e W' ⟨_, rfl, rfl, hb⟩
  have bel := hb.below
  exact ⟨_, rfl, _, _, _, [], _, [], hW', trodAll_mk1 (shut_bool Try.underlying4 _), (trodAll_cons_mk (shut_int Try.underlying3 x0) (trodAll_cons_mk (Below.trod laidOut (by kernel_rfl) (of_decide_eq_true (by kernel_rfl)) k1 bel lt1) (trodAll_cons_mk (shut_int Try.underlying3 x2) (trodAll_cons_mk (shut_int Try.underlying3 x3) (trodAll_cons_mk (shut_int Try.underlying3 x4) trodAll_mk0))))), rfl, bel.frame _, fun h => by cases h⟩
theorem closed : joinedFacts Try.prog 16 Try.f16 Rows.applyMorganSpec Rows.applyMorganRow = true := Go.Proofs.Ytchikjmhncojfaa.Head.joined (by kernel_rfl) rfl rfl (by kernel_rfl) (by kernel_rfl) (by kernel_rfl) (by kernel_rfl)
theorem over : Rows.applyMorganRow.holds Try.pinned (OpenSpec.ofChange Rows.applyMorganSpec) :=
  OpenClaim.holds_of_wide 16 Try.f16 rfl rfl rfl rfl rfl rfl rfl ⟨rfl, rfl, rfl, rfl, rfl⟩ rfl rfl rfl rfl rfl (by kernel_rfl) Try.func16 closed
    (of_decide_eq_true (by kernel_rfl)) (by unfold Func.isWrapper; first | (rw [if_pos (by decide +kernel)]; kernel_rfl) | (rw [if_neg (by decide +kernel)]; exact ⟨rfl, rfl⟩))
    (fun os started H enc _ => lifted os started H enc)
/-- The statement. -/
theorem proved : Rows.ApplyMorganSaid := over
end Go.Proofs.Ytchikjmhncojfaa.applyMorgan
