/- GuardOrder of layer 17, by its tied card: links may be fixed in whatever order. Conditions: none. -/
import Derived.Test.YtchikjmhncojfaaDoorHangM
import Derived.Test.YtchikjmhncojfaaDoorDoorFrame
import Derived.Test.YtchikjmhncojfaaDoorCards
import Derived.Test.YtchikjmhncojfaaDoorTie
import Derived.SevenTiedAt
import Derived.JoinedOf
import Derived.ProofKit
import Derived.OpenShut
set_option linter.unusedVariables false
namespace Go.Proofs.YtchikjmhncojfaaDoor.W
open Go Go.Proofs Go.RowKit
open Go.Proofs.YtchikjmhncojfaaDoor.M (Br St get getZ isN idx has down Wf rank i64 leafB askB R4 MadeOk Lifts Ext opF tr Tells Room6 turn Hang gateF failsF)
variable {w wb : World} {R : List Chunk}
set_option maxRecDepth 8000 in
set_option maxHeartbeats 2000000 in
theorem law_ok (hT : Tab wb) (H : Own wb R w) (links id' one two : Int) (i1 : i64 links) (i2 : i64 id') (i3 : i64 one) (i4 : i64 two) (fl : Bool) (v : Value) (l : List R4) (hr : RawIs wb v l) :
    FnC Tryd.prog 5 [int links, v, int id', int one, int two, .bool fl] w (fun u w' => u = .bool true ∧ ∃ R', Own wb R' w') := by
  have lo := M.pick_lo (c := links) (n := 6) (by decide)
  have hi := M.pick_hi (c := links) (n := 6) (by decide)
  obtain ⟨rp, rcap, hv, _⟩ := id hr
  subst hv
  have hadd : IntKind.i64.wrap (1 + M.pick links 6) = 1 + M.pick links 6 := wrap_in (by omega) (by omega)
  generalize hn : 1 + M.pick links 6 = n at hadd
  have lo' : 1 ≤ n := by omega
  have hi' : n ≤ 6 := by omega
  refine FnC_of Tryd.func5 rfl rfl rfl rfl ?_
  refine W_seq ?_
  refine W_region ?_
  refine ops_v (v_assign (v := _) rfl rfl) ?_
  refine ops_nil ?_
  refine W_seq ?_
  refine W_region ?_
  refine ops_call rfl c7 (awake17_ok hT H) ?_
  clear H; rintro _ w ⟨rfl, H⟩
  refine ops_v (v_assign (v := (.bool _)) rfl rfl) ?_
  refine ops_nil ?_
  refine W_seq ?_
  refine W_region ?_
  refine ops_v (v_move (v := (.int _ _)) rfl rfl) ?_
  refine ops_call rfl c8 (pick17_ok H links 6 i1 (by decide)) ?_
  clear H; rintro _ w ⟨rfl, H⟩
  refine ops_v (v_add n rfl rfl rfl (by rw [hn, hadd])) ?_
  refine ops_v (v_assign (v := (.int _ _)) rfl rfl) ?_
  refine ops_nil ?_
  refine W_seq ?_
  refine W_region ?_
  refine ops_v (v_move (v := (.int _ _)) rfl rfl) ?_
  refine ops_v (v_move (v := (.slice _ _ _)) rfl rfl) ?_
  refine ops_call rfl c9 (Made_ok H n (by omega) (by omega) _ l hr) ?_
  clear H; rintro _ w ⟨p, st, q, cap, ids, rfl, hm, H⟩
  refine ops_v (v_move (v := (.tuple _)) rfl rfl) ?_
  refine ops_v (v_extract (v := (.pointer _)) rfl rfl rfl) ?_
  refine ops_v (v_extract (v := (.slice _ _ _)) rfl rfl rfl) ?_
  refine ops_v (v_assign (v := (.pointer _)) rfl rfl) ?_
  refine ops_v (v_assign (v := (.slice _ _ _)) rfl rfl) ?_
  refine ops_nil ?_
  refine W_seq ?_
  refine W_seq ?_
  -- (backstaylaw17.GuardOrder: until; chunks s,S; ptr )
  rcases Nat.eq_zero_or_pos ids.length with h0 | h0
  · have h0' : (ids.length : Int) = 0 := by omega
    refine W_region ?_
    refine ops_v (v_move (v := (.slice _ _ _)) rfl rfl) ?_
    refine ops_v (v_len rfl sl26 rfl) ?_
    refine ops_v (v_eql true rfl rfl rfl (decide_eq_true (by first | omega | (simp only; omega) | rfl | decide))) ?_
    refine ops_nil ?_
    refine W_if_t rfl ?_
    refine W_seq ?_
    refine W_region ?_
    refine ops_v (v_move (v := (.bool _)) rfl rfl) ?_
    refine ops_v (v_assign (v := (.bool _)) rfl rfl) ?_
    refine ops_nil ?_
    refine W_ret ?_
    refine ⟨_, (.tmp (v := (.bool _)) rfl .nil), ?_⟩
    exact ⟨rfl, _, H⟩
    -- (backstaylaw17.GuardOrder: ret; chunks s,S; ptr )
  · have h0' : (0 : Int) < (ids.length : Int) := by omega
    have h0'' : ¬ ((ids.length : Int) = 0) := by omega
    obtain ⟨g, rfl⟩ := H.slSome 0 rfl h0
    have getI : ∀ c : Int, ∃ a, ids[(M.pick c ids.length).toNat]? = some a := fun c => ⟨ids[(M.pick c ids.length).toNat]'(by have := M.pick_hi (c := c) h0'; have := M.pick_lo (c := c) h0'; omega), by simp⟩
    obtain ⟨x, hx⟩ := getI id'
    have hx' : (ints ids)[0 + (M.pick id' ids.length).toNat * 1]? = some (.int .i64 x) := by rw [Nat.zero_add, Nat.mul_one]; simp [ints, hx]
    have x1' := M.pick_lo (c := id') h0'
    have x2' := M.pick_hi (c := id') h0'
    have tx : Tells st x _ := .of (hm.nodes x (List.mem_of_getElem? hx))
    have hlinks := hm.links
    have m0 : Room6 st 40 := ⟨hm.wf, by omega, hm.most, hm.few⟩
    obtain ⟨N, hN⟩ : ∃ N : Nat, n = N := ⟨n.toNat, by omega⟩
    have hsl : st.links = N := by omega
    have ilo := M.pick_lo (c := one) (n := n) (by omega)
    have ihi := M.pick_hi (c := one) (n := n) (by omega)
    obtain ⟨i, hi⟩ : ∃ i : Nat, M.pick one n = i := ⟨(M.pick one n).toNat, by omega⟩
    have ilt : i < N := by omega
    have jlo := M.pick_lo (c := two) (n := n) (by omega)
    have jhi := M.pick_hi (c := two) (n := n) (by omega)
    obtain ⟨j, hj⟩ : ∃ j : Nat, M.pick two n = j := ⟨(M.pick two n).toNat, by omega⟩
    have jlt : j < N := by omega
    by_cases hij : i = j
    · subst hij
      refine W_region ?_
      refine ops_v (v_move (v := (.slice _ _ _)) rfl rfl) ?_
      refine ops_v (v_len rfl sl26 rfl) ?_
      refine ops_v (v_eql false rfl rfl rfl (decide_eq_false (by first | omega | (simp only; omega) | rfl | decide))) ?_
      refine ops_nil ?_
      refine W_if_f rfl ?_
      refine W_skip ?_
      refine W_seq ?_
      refine W_region ?_
      refine ops_v (v_move (v := (.slice _ _ _)) rfl rfl) ?_
      refine ops_v (v_move (v := (.int _ _)) rfl rfl) ?_
      refine ops_v (v_move (v := (.slice _ _ _)) rfl rfl) ?_
      refine ops_v (v_len rfl sl26 rfl) ?_
      refine ops_call rfl c8 (pick17_ok H id' ids.length i2 h0') ?_
      clear H; rintro _ w ⟨rfl, H⟩
      refine ops_v (v_indexAddr_sl rfl se26 rfl rfl (by omega) (by omega)) ?_
      refine ops_loadSl (v := .int .i64 x) 0 H rfl tc3 rfl rfl hx' ?_
      refine ops_v (v_assign (v := (.int _ _)) rfl rfl) ?_
      refine ops_nil ?_
      refine W_seq ?_
      refine W_region ?_
      refine ops_v (v_move (v := (.int _ _)) rfl rfl) ?_
      refine ops_v (v_move (v := (.int _ _)) rfl rfl) ?_
      refine ops_call rfl c8 (pick17_ok H one n i3 (by omega)) ?_
      clear H; rintro _ w ⟨rfl, H⟩
      rw [hi]
      have H := H.tail
      refine ops_v (v_assign (v := (.int _ _)) rfl rfl) ?_
      refine ops_nil ?_
      refine W_seq ?_
      refine W_region ?_
      refine ops_v (v_move (v := (.int _ _)) rfl rfl) ?_
      refine ops_v (v_move (v := (.int _ _)) rfl rfl) ?_
      refine ops_call rfl c8 (pick17_ok H two n i4 (by omega)) ?_
      clear H; rintro _ w ⟨rfl, H⟩
      rw [hj]
      refine ops_v (v_assign (v := (.int _ _)) rfl rfl) ?_
      refine ops_nil ?_
      refine W_seq ?_
      refine W_region ?_
      refine ops_v (v_move (v := (.pointer _)) rfl rfl) ?_
      refine ops_v (v_move (v := (.int _ _)) rfl rfl) ?_
      refine ops_v (v_move (v := (.bool _)) rfl rfl) ?_
      refine ops_v (v_move (v := (.int _ _)) rfl rfl) ?_
      refine ops_call rfl c13 (Fix_room (o := none) m0 (by decide) (by omega) tx H) ?_
      clear H; rintro _ w ⟨s1, a, rfl, e1, m1, ta, H⟩
      have l1 := e1.links
      have tx1 := tx.ext m0.wf e1 m1.wf
      refine ops_v (v_move (v := (.tuple _)) rfl rfl) ?_
      refine ops_v (v_extract (v := (.int _ _)) rfl rfl rfl) ?_
      refine ops_v (v_extract (v := (.int _ _)) rfl rfl rfl) ?_
      refine ops_v (v_assign (v := (.int _ _)) rfl rfl) ?_
      refine ops_v (v_assign (v := (.int _ _)) rfl rfl) ?_
      refine ops_nil ?_
      refine W_seq ?_
      refine W_region ?_
      refine ops_v (v_move (v := (.pointer _)) rfl rfl) ?_
      refine ops_v (v_move (v := (.int _ _)) rfl rfl) ?_
      refine ops_v (v_move (v := (.bool _)) rfl rfl) ?_
      refine ops_v (v_not rfl rfl _ rfl) ?_
      refine ops_v (v_move (v := (.int _ _)) rfl rfl) ?_
      refine ops_call rfl c13 (Fix_room (o := none) m1 (by decide) (by omega) ta H) ?_
      clear H; rintro _ w ⟨s2, b, rfl, e2, m2, tb, H⟩
      have l2 := e2.links
      have tx2 := tx1.ext m1.wf e2 m2.wf
      have ta2 := ta.ext m1.wf e2 m2.wf
      refine ops_v (v_move (v := (.tuple _)) rfl rfl) ?_
      refine ops_v (v_extract (v := (.int _ _)) rfl rfl rfl) ?_
      refine ops_v (v_extract (v := (.int _ _)) rfl rfl rfl) ?_
      refine ops_v (v_assign (v := (.int _ _)) rfl rfl) ?_
      refine ops_v (v_assign (v := (.int _ _)) rfl rfl) ?_
      refine ops_nil ?_
      refine W_seq ?_
      refine W_region ?_
      refine ops_v (v_move (v := (.pointer _)) rfl rfl) ?_
      refine ops_v (v_move (v := (.int _ _)) rfl rfl) ?_
      refine ops_v (v_move (v := (.bool _)) rfl rfl) ?_
      refine ops_v (v_not rfl rfl _ rfl) ?_
      refine ops_v (v_move (v := (.int _ _)) rfl rfl) ?_
      refine ops_call rfl c13 (Fix_room (o := none) m2 (by decide) (by omega) tx2 H) ?_
      clear H; rintro _ w ⟨s3, c, rfl, e3, m3, tc, H⟩
      have l3 := e3.links
      have tx3 := tx2.ext m2.wf e3 m3.wf
      have ta3 := ta2.ext m2.wf e3 m3.wf
      have tb3 := tb.ext m2.wf e3 m3.wf
      refine ops_v (v_move (v := (.tuple _)) rfl rfl) ?_
      refine ops_v (v_extract (v := (.int _ _)) rfl rfl rfl) ?_
      refine ops_v (v_extract (v := (.int _ _)) rfl rfl rfl) ?_
      refine ops_v (v_assign (v := (.int _ _)) rfl rfl) ?_
      refine ops_v (v_assign (v := (.int _ _)) rfl rfl) ?_
      refine ops_nil ?_
      refine W_seq ?_
      refine W_region ?_
      refine ops_v (v_move (v := (.pointer _)) rfl rfl) ?_
      refine ops_v (v_move (v := (.int _ _)) rfl rfl) ?_
      refine ops_v (v_move (v := (.bool _)) rfl rfl) ?_
      refine ops_v (v_move (v := (.int _ _)) rfl rfl) ?_
      refine ops_call rfl c13 (Fix_room (o := none) m3 (by decide) (by omega) tc H) ?_
      clear H; rintro _ w ⟨s4, d, rfl, e4, m4, td, H⟩
      have l4 := e4.links
      have tx4 := tx3.ext m3.wf e4 m4.wf
      have ta4 := ta3.ext m3.wf e4 m4.wf
      have tb4 := tb3.ext m3.wf e4 m4.wf
      have tc4 := tc.ext m3.wf e4 m4.wf
      refine ops_v (v_move (v := (.tuple _)) rfl rfl) ?_
      refine ops_v (v_extract (v := (.int _ _)) rfl rfl rfl) ?_
      refine ops_v (v_extract (v := (.int _ _)) rfl rfl rfl) ?_
      refine ops_v (v_assign (v := (.int _ _)) rfl rfl) ?_
      refine ops_v (v_assign (v := (.int _ _)) rfl rfl) ?_
      refine ops_nil ?_
      refine W_seq ?_
      refine W_seq ?_
      refine W_region ?_
      refine ops_v (v_move (v := (.int _ _)) rfl rfl) ?_
      refine ops_v (v_move (v := (.int _ _)) rfl rfl) ?_
      refine ops_v (v_eql true rfl rfl rfl (decide_eq_true (by first | omega | (simp only; omega) | rfl | decide))) ?_
      refine ops_nil ?_
      refine W_if_t rfl ?_
      refine W_seq ?_
      obtain rfl : b = a := tb4.same m4.wf ta4 fun F _ => by simp only [M.turn_turn]
      obtain rfl : d = c := td.same m4.wf tc4 fun F _ => by simp only [M.turn_turn]
      refine W_region ?_
      refine ops_v (v_move (v := (.bool _)) rfl rfl) ?_
      refine ops_v (v_move (v := (.bool _)) rfl rfl) ?_
      refine ops_v (v_move (v := (.int _ _)) rfl rfl) ?_
      refine ops_v (v_eql true rfl rfl rfl (decide_eq_true (by first | omega | (simp only; omega) | rfl | decide))) ?_
      refine ops_v (v_pick_t (v := (.bool _)) rfl rfl rfl) ?_
      refine ops_v (v_move (v := (.bool _)) rfl rfl) ?_
      refine ops_v (v_move (v := (.int _ _)) rfl rfl) ?_
      refine ops_v (v_eql true rfl rfl rfl (decide_eq_true (by first | omega | (simp only; omega) | rfl | decide))) ?_
      refine ops_v (v_pick_t (v := (.bool _)) rfl rfl rfl) ?_
      refine ops_v (v_move (v := (.bool _)) rfl rfl) ?_
      refine ops_v (v_move (v := (.int _ _)) rfl rfl) ?_
      refine ops_v (v_eql true rfl rfl rfl (decide_eq_true (by first | omega | (simp only; omega) | rfl | decide))) ?_
      refine ops_v (v_pick_t (v := (.bool _)) rfl rfl rfl) ?_
      refine ops_v (v_move (v := (.bool _)) rfl rfl) ?_
      refine ops_v (v_move (v := (.int _ _)) rfl rfl) ?_
      refine ops_v (v_eql true rfl rfl rfl (decide_eq_true (by first | omega | (simp only; omega) | rfl | decide))) ?_
      refine ops_v (v_pick_t (v := (.bool _)) rfl rfl rfl) ?_
      refine ops_v (v_move (v := (.bool _)) rfl rfl) ?_
      refine ops_v (v_move (v := (.int _ _)) rfl rfl) ?_
      refine ops_v (v_move (v := (.int _ _)) rfl rfl) ?_
      refine ops_v (v_eql true rfl rfl rfl (decide_eq_true (by first | omega | (simp only; omega) | rfl | decide))) ?_
      refine ops_v (v_pick_t (v := (.bool _)) rfl rfl rfl) ?_
      refine ops_v (v_move (v := (.bool _)) rfl rfl) ?_
      refine ops_v (v_move (v := (.int _ _)) rfl rfl) ?_
      refine ops_v (v_move (v := (.int _ _)) rfl rfl) ?_
      refine ops_v (v_eql true rfl rfl rfl (decide_eq_true (by first | omega | (simp only; omega) | rfl | decide))) ?_
      refine ops_v (v_pick_t (v := (.bool _)) rfl rfl rfl) ?_
      refine ops_v (v_assign (v := (.bool _)) rfl rfl) ?_
      refine ops_nil ?_
      refine W_ret ?_
      refine ⟨_, (.tmp (v := (.bool _)) rfl .nil), ?_⟩
      exact ⟨rfl, _, H⟩
      -- (backstaylaw17.GuardOrder: ret; chunks S; ptr )
    · have hij' : ¬ ((i : Int) = (j : Int)) := by omega
      refine W_region ?_
      refine ops_v (v_move (v := (.slice _ _ _)) rfl rfl) ?_
      refine ops_v (v_len rfl sl26 rfl) ?_
      refine ops_v (v_eql false rfl rfl rfl (decide_eq_false (by first | omega | (simp only; omega) | rfl | decide))) ?_
      refine ops_nil ?_
      refine W_if_f rfl ?_
      refine W_skip ?_
      refine W_seq ?_
      refine W_region ?_
      refine ops_v (v_move (v := (.slice _ _ _)) rfl rfl) ?_
      refine ops_v (v_move (v := (.int _ _)) rfl rfl) ?_
      refine ops_v (v_move (v := (.slice _ _ _)) rfl rfl) ?_
      refine ops_v (v_len rfl sl26 rfl) ?_
      refine ops_call rfl c8 (pick17_ok H id' ids.length i2 h0') ?_
      clear H; rintro _ w ⟨rfl, H⟩
      refine ops_v (v_indexAddr_sl rfl se26 rfl rfl (by omega) (by omega)) ?_
      refine ops_loadSl (v := .int .i64 x) 0 H rfl tc3 rfl rfl hx' ?_
      refine ops_v (v_assign (v := (.int _ _)) rfl rfl) ?_
      refine ops_nil ?_
      refine W_seq ?_
      refine W_region ?_
      refine ops_v (v_move (v := (.int _ _)) rfl rfl) ?_
      refine ops_v (v_move (v := (.int _ _)) rfl rfl) ?_
      refine ops_call rfl c8 (pick17_ok H one n i3 (by omega)) ?_
      clear H; rintro _ w ⟨rfl, H⟩
      rw [hi]
      have H := H.tail
      refine ops_v (v_assign (v := (.int _ _)) rfl rfl) ?_
      refine ops_nil ?_
      refine W_seq ?_
      refine W_region ?_
      refine ops_v (v_move (v := (.int _ _)) rfl rfl) ?_
      refine ops_v (v_move (v := (.int _ _)) rfl rfl) ?_
      refine ops_call rfl c8 (pick17_ok H two n i4 (by omega)) ?_
      clear H; rintro _ w ⟨rfl, H⟩
      rw [hj]
      refine ops_v (v_assign (v := (.int _ _)) rfl rfl) ?_
      refine ops_nil ?_
      refine W_seq ?_
      refine W_region ?_
      refine ops_v (v_move (v := (.pointer _)) rfl rfl) ?_
      refine ops_v (v_move (v := (.int _ _)) rfl rfl) ?_
      refine ops_v (v_move (v := (.bool _)) rfl rfl) ?_
      refine ops_v (v_move (v := (.int _ _)) rfl rfl) ?_
      refine ops_call rfl c13 (Fix_room (o := none) m0 (by decide) (by omega) tx H) ?_
      clear H; rintro _ w ⟨s1, a, rfl, e1, m1, ta, H⟩
      have l1 := e1.links
      have tx1 := tx.ext m0.wf e1 m1.wf
      refine ops_v (v_move (v := (.tuple _)) rfl rfl) ?_
      refine ops_v (v_extract (v := (.int _ _)) rfl rfl rfl) ?_
      refine ops_v (v_extract (v := (.int _ _)) rfl rfl rfl) ?_
      refine ops_v (v_assign (v := (.int _ _)) rfl rfl) ?_
      refine ops_v (v_assign (v := (.int _ _)) rfl rfl) ?_
      refine ops_nil ?_
      refine W_seq ?_
      refine W_region ?_
      refine ops_v (v_move (v := (.pointer _)) rfl rfl) ?_
      refine ops_v (v_move (v := (.int _ _)) rfl rfl) ?_
      refine ops_v (v_move (v := (.bool _)) rfl rfl) ?_
      refine ops_v (v_not rfl rfl _ rfl) ?_
      refine ops_v (v_move (v := (.int _ _)) rfl rfl) ?_
      refine ops_call rfl c13 (Fix_room (o := none) m1 (by decide) (by omega) ta H) ?_
      clear H; rintro _ w ⟨s2, b, rfl, e2, m2, tb, H⟩
      have l2 := e2.links
      have tx2 := tx1.ext m1.wf e2 m2.wf
      have ta2 := ta.ext m1.wf e2 m2.wf
      refine ops_v (v_move (v := (.tuple _)) rfl rfl) ?_
      refine ops_v (v_extract (v := (.int _ _)) rfl rfl rfl) ?_
      refine ops_v (v_extract (v := (.int _ _)) rfl rfl rfl) ?_
      refine ops_v (v_assign (v := (.int _ _)) rfl rfl) ?_
      refine ops_v (v_assign (v := (.int _ _)) rfl rfl) ?_
      refine ops_nil ?_
      refine W_seq ?_
      refine W_region ?_
      refine ops_v (v_move (v := (.pointer _)) rfl rfl) ?_
      refine ops_v (v_move (v := (.int _ _)) rfl rfl) ?_
      refine ops_v (v_move (v := (.bool _)) rfl rfl) ?_
      refine ops_v (v_not rfl rfl _ rfl) ?_
      refine ops_v (v_move (v := (.int _ _)) rfl rfl) ?_
      refine ops_call rfl c13 (Fix_room (o := none) m2 (by decide) (by omega) tx2 H) ?_
      clear H; rintro _ w ⟨s3, c, rfl, e3, m3, tc, H⟩
      have l3 := e3.links
      have tx3 := tx2.ext m2.wf e3 m3.wf
      have ta3 := ta2.ext m2.wf e3 m3.wf
      have tb3 := tb.ext m2.wf e3 m3.wf
      refine ops_v (v_move (v := (.tuple _)) rfl rfl) ?_
      refine ops_v (v_extract (v := (.int _ _)) rfl rfl rfl) ?_
      refine ops_v (v_extract (v := (.int _ _)) rfl rfl rfl) ?_
      refine ops_v (v_assign (v := (.int _ _)) rfl rfl) ?_
      refine ops_v (v_assign (v := (.int _ _)) rfl rfl) ?_
      refine ops_nil ?_
      refine W_seq ?_
      refine W_region ?_
      refine ops_v (v_move (v := (.pointer _)) rfl rfl) ?_
      refine ops_v (v_move (v := (.int _ _)) rfl rfl) ?_
      refine ops_v (v_move (v := (.bool _)) rfl rfl) ?_
      refine ops_v (v_move (v := (.int _ _)) rfl rfl) ?_
      refine ops_call rfl c13 (Fix_room (o := none) m3 (by decide) (by omega) tc H) ?_
      clear H; rintro _ w ⟨s4, d, rfl, e4, m4, td, H⟩
      have l4 := e4.links
      have tx4 := tx3.ext m3.wf e4 m4.wf
      have ta4 := ta3.ext m3.wf e4 m4.wf
      have tb4 := tb3.ext m3.wf e4 m4.wf
      have tc4 := tc.ext m3.wf e4 m4.wf
      refine ops_v (v_move (v := (.tuple _)) rfl rfl) ?_
      refine ops_v (v_extract (v := (.int _ _)) rfl rfl rfl) ?_
      refine ops_v (v_extract (v := (.int _ _)) rfl rfl rfl) ?_
      refine ops_v (v_assign (v := (.int _ _)) rfl rfl) ?_
      refine ops_v (v_assign (v := (.int _ _)) rfl rfl) ?_
      refine ops_nil ?_
      refine W_seq ?_
      refine W_seq ?_
      refine W_region ?_
      refine ops_v (v_move (v := (.int _ _)) rfl rfl) ?_
      refine ops_v (v_move (v := (.int _ _)) rfl rfl) ?_
      refine ops_v (v_eql false rfl rfl rfl (decide_eq_false (by first | omega | (simp only; omega) | rfl | decide))) ?_
      refine ops_nil ?_
      refine W_if_f rfl ?_
      refine W_skip ?_
      refine W_seq ?_
      obtain rfl : b = d := tb4.same m4.wf td fun F _ => by simp only [M.turn_comm F i j fl (!fl) hij]
      have hlen := asksL_le m4.wf m4.six tx4.here tb4.here fun y hy => (M.fix_hang tx4 ta4 (by omega) (M.fix_hang ta4 tb4 (by omega) hy).2).2
      refine W_region ?_
      refine ops_v (v_move (v := (.bool _)) rfl rfl) ?_
      refine ops_v (v_move (v := (.bool _)) rfl rfl) ?_
      refine ops_v (v_move (v := (.int _ _)) rfl rfl) ?_
      refine ops_v (v_eql true rfl rfl rfl (decide_eq_true (by first | omega | (simp only; omega) | rfl | decide))) ?_
      refine ops_v (v_pick_t (v := (.bool _)) rfl rfl rfl) ?_
      refine ops_v (v_move (v := (.bool _)) rfl rfl) ?_
      refine ops_v (v_move (v := (.int _ _)) rfl rfl) ?_
      refine ops_v (v_eql true rfl rfl rfl (decide_eq_true (by first | omega | (simp only; omega) | rfl | decide))) ?_
      refine ops_v (v_pick_t (v := (.bool _)) rfl rfl rfl) ?_
      refine ops_v (v_move (v := (.bool _)) rfl rfl) ?_
      refine ops_v (v_move (v := (.int _ _)) rfl rfl) ?_
      refine ops_v (v_eql true rfl rfl rfl (decide_eq_true (by first | omega | (simp only; omega) | rfl | decide))) ?_
      refine ops_v (v_pick_t (v := (.bool _)) rfl rfl rfl) ?_
      refine ops_v (v_move (v := (.bool _)) rfl rfl) ?_
      refine ops_v (v_move (v := (.int _ _)) rfl rfl) ?_
      refine ops_v (v_eql true rfl rfl rfl (decide_eq_true (by first | omega | (simp only; omega) | rfl | decide))) ?_
      refine ops_v (v_pick_t (v := (.bool _)) rfl rfl rfl) ?_
      refine ops_v (v_move (v := (.bool _)) rfl rfl) ?_
      refine ops_v (v_move (v := (.int _ _)) rfl rfl) ?_
      refine ops_v (v_move (v := (.int _ _)) rfl rfl) ?_
      refine ops_v (v_eql true rfl rfl rfl (decide_eq_true (by first | omega | (simp only; omega) | rfl | decide))) ?_
      refine ops_v (v_pick_t (v := (.bool _)) rfl rfl rfl) ?_
      refine ops_v (v_move (v := (.bool _)) rfl rfl) ?_
      refine ops_v (v_move (v := (.pointer _)) rfl rfl) ?_
      refine ops_v (v_move (v := (.int _ _)) rfl rfl) ?_
      refine ops_call rfl c16 (Asks_ok m4.wf m4.six tb4.here hT H) ?_
      clear H; rintro _ w ⟨q1, k1, rfl, H⟩
      have H := H.tail
      refine ops_v (v_len rfl sl26 rfl) ?_
      refine ops_v (v_move (v := (.pointer _)) rfl rfl) ?_
      refine ops_v (v_move (v := (.int _ _)) rfl rfl) ?_
      refine ops_call rfl c16 (Asks_ok m4.wf m4.six tx4.here hT H) ?_
      clear H; rintro _ w ⟨q2, k2, rfl, H⟩
      have H := H.tail
      refine ops_v (v_len rfl sl26 rfl) ?_
      refine ops_v (v_leq true rfl rfl rfl (decide_eq_true (by first | omega | (simp only; omega) | rfl | decide))) ?_
      refine ops_v (v_pick_t (v := (.bool _)) rfl rfl rfl) ?_
      refine ops_v (v_assign (v := (.bool _)) rfl rfl) ?_
      refine ops_nil ?_
      refine W_ret ?_
      refine ⟨_, (.tmp (v := (.bool _)) rfl .nil), ?_⟩
      exact ⟨rfl, _, H⟩
      -- (backstaylaw17.GuardOrder: ret; chunks S; ptr )
theorem guardOrder_walk (W : World) (hT : Tab W) (links : Int) (i1 : i64 links) (v : Value) (l : List R4) (hr : RawIs W v l) (a : Int) (i2 : i64 a) (one : Int) (i3 : i64 one) (two : Int) (i4 : i64 two) (fl : Bool) :
    FnC Tryd.prog 5 [int links, v, int a, int one, int two, .bool fl] W (fun v w' => v = .bool true ∧ Base W w') :=
  (law_ok hT (Own.start W) links a one two i1 i2 i3 i4 fl v l hr).mono (fun _ _ ⟨a, _, H⟩ => ⟨a, H.base⟩)
end Go.Proofs.YtchikjmhncojfaaDoor.W
namespace Go.Proofs.YtchikjmhncojfaaDoor.guardOrder
open Go Go.Proofs Go.RowKit Go.ChangeShapes Go.WideShapes Go.ChangeAt Go.WideMaps Go.WideElems
open Go.Proofs.YtchikjmhncojfaaDoor.W (Tab RawIs Base FnC raw_of_trod laidOut guardOrder_walk)
open Go.Proofs.YtchikjmhncojfaaDoor.M (R4 i64)
theorem walk (W : World) (hT : Tab W) (links : Int) (i1 : i64 links) (v : Value) (l : List R4) (hr : RawIs W v l) (a : Int) (i2 : i64 a) (one : Int) (i3 : i64 one) (two : Int) (i4 : i64 two) (fl : Bool) :
    FnC Tryd.prog 5 [.int .i64 links, v, .int .i64 a, .int .i64 one, .int .i64 two, .bool fl] W (fun v w' => v = .bool true ∧ Base W w') :=
  guardOrder_walk W hT links i1 v l hr a i2 one i3 two i4 fl
set_option maxRecDepth 100000 in
theorem lifted (os : Os) (started : os.Started) (H : Type) (enc : TypeId × Value → H) :
    ReturnsInHanded {} Tryd.checked os 5 .any (fun w args => (Rows.guardOrderSpec.pre enc Tryd.prog Tryd.f5 [] false w args ∧ laidMetH Tryd.prog DF.laidL w) ∧ sizedMet enc Tryd.prog Tryd.f5 (OpenSpec.ofChange Rows.guardOrderSpec) false w args) (Rows.guardOrderSpec.post enc Tryd.prog Tryd.f5 false true false false) := by
  refine returnsInHanded_of_change_and (C := Tryd.checked) (X := fun w _ => laidMetH Tryd.prog DF.laidL w) (fun _ _ _ hh h => h.of_heap hh) DF.own started (by kernel_rfl) Tryd.func5
    (ChangeSpec.witness_shaped (enc := enc) (C := Tryd.checked) (os := os) (X := fun w _ => laidMetH Tryd.prog DF.laidL w) false (World.doorLaid Tryd.prog 400 os) #[.int .i64 0, .slice none 0 0, .int .i64 0, .int .i64 0, .int .i64 0, .bool false] 8 rfl (World.shaped_of_RefB (by kernel_rfl) (by kernel_rfl)) (by kernel_rfl) (by kernel_rfl) (by kernel_rfl) (DF.door_met os _)) ?_
  intro W base args ds gs before hval0 hW _ _ hL _
  have hval : ∀ (j : Nat) t v, Tryd.f5.params[j]? = some t → args[j]? = some v → Value.okWide Tryd.prog W .any base t v := hval0
  have hW' := hW
  obtain ⟨p, q, hA0, hV, rfl, hfz, hnd⟩ := hW
  have hA : DataW.TrodAll enc Tryd.prog W 0 (fun _ => true) true Tryd.f5.params.toList args.toList ds p := hA0
  rw [Tryd.params5] at hA hval
  obtain ⟨v0, vs0, d0, ds0, p0, q0, hargs, rfl, rfl, h0, r0⟩ := trodAll_cons hA
  obtain ⟨v1, vs1, d1, ds1, p1, q1, rfl, rfl, rfl, h1, r1⟩ := trodAll_cons r0
  obtain ⟨v2, vs2, d2, ds2, p2, q2, rfl, rfl, rfl, h2, r2⟩ := trodAll_cons r1
  obtain ⟨v3, vs3, d3, ds3, p3, q3, rfl, rfl, rfl, h3, r3⟩ := trodAll_cons r2
  obtain ⟨v4, vs4, d4, ds4, p4, q4, rfl, rfl, rfl, h4, r4⟩ := trodAll_cons r3
  obtain ⟨v5, vs5, d5, ds5, p5, q5, rfl, rfl, rfl, h5, r5⟩ := trodAll_cons r4
  obtain ⟨rfl, rfl, rfl⟩ := trodAll_nil r5
  obtain rfl : args = #[v0, v1, v2, v3, v4, v5] := by cases args; simp_all
  obtain ⟨rfl, rfl⟩ := trodVars_none hV
  obtain ⟨a0, rfl, rfl, rfl, x0⟩ := open_int Tryd.underlying3 (hval 0 3 v0 rfl rfl) h0
  have k1 := h1
  have lt1 : ∀ x ∈ p1, x.block < W.heap.size := by obtain ⟨m, hm⟩ := k1; exact DataW.trod_lt m _ _ _ hm
  obtain ⟨l1, w1⟩ := raw_of_trod h1 (okWide_slice Tryd.underlying22 (hval 1 22 v1 rfl rfl))
  obtain ⟨a2, rfl, rfl, rfl, x2⟩ := open_int Tryd.underlying3 (hval 2 3 v2 rfl rfl) h2
  obtain ⟨a3, rfl, rfl, rfl, x3⟩ := open_int Tryd.underlying3 (hval 3 3 v3 rfl rfl) h3
  obtain ⟨a4, rfl, rfl, rfl, x4⟩ := open_int Tryd.underlying3 (hval 4 3 v4 rfl rfl) h4
  obtain ⟨a5, rfl, rfl, rfl⟩ := open_bool Tryd.underlying4 (hval 5 4 v5 rfl rfl) h5
  clear hA0 hval0
  refine Calls.mono (walk W (DF.of_laid hL) a0 (bounds_i64 x0) v1 l1 w1 a2 (bounds_i64 x2) a3 (bounds_i64 x3) a4 (bounds_i64 x4) a5) ?_
  rintro e W' ⟨_, rfl, rfl, hb⟩
  have bel := hb.below
  exact ⟨_, rfl, _, _, _, [], _, [], hW', trodAll_mk1 (shut_bool Tryd.underlying4 _), (trodAll_cons_mk (shut_int Tryd.underlying3 x0) (trodAll_cons_mk (Below.trod laidOut (by kernel_rfl) (of_decide_eq_true (by kernel_rfl)) k1 bel lt1) (trodAll_cons_mk (shut_int Tryd.underlying3 x2) (trodAll_cons_mk (shut_int Tryd.underlying3 x3) (trodAll_cons_mk (shut_int Tryd.underlying3 x4) (trodAll_cons_mk (shut_bool Tryd.underlying4 _) trodAll_mk0)))))), rfl, bel.frame _, fun h => by cases h⟩
theorem closed : joinedFacts Tryd.prog 5 Tryd.f5 Rows.guardOrderSpec Rows.guardOrderRow = true := Go.Proofs.YtchikjmhncojfaaDoor.Head.joined (by kernel_rfl) rfl rfl (by kernel_rfl) (by kernel_rfl) (by kernel_rfl) (by kernel_rfl)
theorem over : Rows.guardOrderRow.holds Tryd.pinned (OpenSpec.ofChange Rows.guardOrderSpec) :=
  OpenClaim.holds_of_wide 5 Tryd.f5 rfl rfl rfl rfl rfl rfl rfl ⟨rfl, rfl, rfl, rfl, rfl⟩ rfl rfl rfl rfl rfl (by kernel_rfl) Tryd.func5 closed
    (of_decide_eq_true (by kernel_rfl)) (by unfold Func.isWrapper; first | (rw [if_pos (by decide +kernel)]; kernel_rfl) | (rw [if_neg (by decide +kernel)]; exact ⟨rfl, rfl⟩))
    (fun os started H enc _ => lifted os started H enc)
/-- The statement: the tied card. -/
theorem proved : Rows.GuardOrderCardSaid :=
  Claim7.holds_tied_plain_at .later [] [.data] true (true, "0a015805a0339d7f5360af527d4db354aee0bd7e296d674c45a3ea2b8f209eb6") false
    over (fun _ h => by cases h) (by kernel_rfl) (fun _ h => by cases h) guardOrder_row_tie rfl ⟨rfl, rfl⟩ (by kernel_rfl) rfl
    (fun f fn hf hfn => by
      obtain rfl : f = 5 := Option.some.inj ((show Tryd.prog.funcNamed Tryd.f5.name = some 5 by kernel_rfl).symm.trans hf) |>.symm
      obtain rfl : fn = Tryd.f5 := (Option.some.inj (Tryd.func5.symm.trans hfn)).symm
      exact ⟨by kernel_rfl, fun j t ht => by
        rw [Tryd.params5] at ht
        have hm : t ∈ [3, 22, 3, 3, 3, 4] := by simpa using Array.mem_of_getElem? ht
        have hall : ([3, 22, 3, 3, 3, 4].all fun u => !Tryd.prog.wantsStandIn u) = true := by kernel_rfl
        exact (show Tryd.prog.wantsStandIn t = false by simpa using List.all_eq_true.1 hall t hm)⟩)
    (by kernel_rfl)
end Go.Proofs.YtchikjmhncojfaaDoor.guardOrder
