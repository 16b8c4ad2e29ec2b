/- GuardTells of layer 17, by its tied card: what fails, what is gated and what is fixed is told set by set; links that a node hangs on are those that make a difference. Conditions: none. -/
import Derived.Test.YtchikjmhncojfaaDoorTells17M
import Derived.Test.YtchikjmhncojfaaDoorDoorFrame
import Derived.Test.YtchikjmhncojfaaDoorCards
import Derived.Test.YtchikjmhncojfaaDoorTie
import Derived.SevenTiedAt
import Derived.JoinedOf
import Derived.ProofKit
import Derived.OpenShut
set_option linter.unusedVariables false
namespace Go.Proofs.YtchikjmhncojfaaDoor.W
open Go Go.Proofs Go.RowKit
open Go.Proofs.YtchikjmhncojfaaDoor.M (Br St get getZ isN idx has down Wf rank i64 leafB askB R4 MadeOk Lifts Ext opF tr Tells Room6 turn Hang gateF failsF)
variable {w wb : World} {R : List Chunk}
set_option maxRecDepth 16000 in
set_option maxHeartbeats 8000000 in
theorem law_ok (hT : Tab wb) (H : Own wb R w) (links id' link any' : Int) (i1 : i64 links) (i2 : i64 id') (i3 : i64 link) (i4 : i64 any') (v : Value) (l : List R4) (hr : RawIs wb v l) :
    FnC Tryd.prog 3 [int links, v, int id', int link, int any'] w (fun u w' => u = .bool true ∧ ∃ R', Own wb R' w') := by
  have lo := M.pick_lo (c := links) (n := 6) (by decide)
  have hi := M.pick_hi (c := links) (n := 6) (by decide)
  obtain ⟨rp, rcap, hv, _⟩ := id hr
  subst hv
  have hadd : IntKind.i64.wrap (1 + M.pick links 6) = 1 + M.pick links 6 := wrap_in (by omega) (by omega)
  generalize hn : 1 + M.pick links 6 = n at hadd
  have lo' : 1 ≤ n := by omega
  have hi' : n ≤ 6 := by omega
  refine FnC_of Tryd.func3 rfl rfl rfl rfl ?_
  refine W_seq ?_
  refine W_region ?_
  refine ops_v (v_assign (v := _) rfl rfl) ?_
  refine ops_nil ?_
  refine W_seq ?_
  refine W_region ?_
  refine ops_call rfl c7 (awake17_ok hT H) ?_
  clear H; rintro _ w ⟨rfl, H⟩
  refine ops_v (v_assign (v := (.bool _)) rfl rfl) ?_
  refine ops_nil ?_
  refine W_seq ?_
  refine W_region ?_
  refine ops_v (v_move (v := (.int _ _)) rfl rfl) ?_
  refine ops_call rfl c8 (pick17_ok H links 6 i1 (by decide)) ?_
  clear H; rintro _ w ⟨rfl, H⟩
  refine ops_v (v_add n rfl rfl rfl (by rw [hn, hadd])) ?_
  refine ops_v (v_assign (v := (.int _ _)) rfl rfl) ?_
  refine ops_nil ?_
  refine W_seq ?_
  refine W_region ?_
  refine ops_v (v_move (v := (.int _ _)) rfl rfl) ?_
  refine ops_v (v_move (v := (.slice _ _ _)) rfl rfl) ?_
  refine ops_call rfl c9 (Made_ok H n (by omega) (by omega) _ l hr) ?_
  clear H; rintro _ w ⟨p, st, q, cap, ids, rfl, hm, H⟩
  refine ops_v (v_move (v := (.tuple _)) rfl rfl) ?_
  refine ops_v (v_extract (v := (.pointer _)) rfl rfl rfl) ?_
  refine ops_v (v_extract (v := (.slice _ _ _)) rfl rfl rfl) ?_
  refine ops_v (v_assign (v := (.pointer _)) rfl rfl) ?_
  refine ops_v (v_assign (v := (.slice _ _ _)) rfl rfl) ?_
  refine ops_nil ?_
  refine W_seq ?_
  refine W_seq ?_
  -- (backstaylaw17.GuardTells: until; chunks s,S; ptr )
  rcases Nat.eq_zero_or_pos ids.length with h0 | h0
  · have h0' : (ids.length : Int) = 0 := by omega
    refine W_region ?_
    refine ops_v (v_move (v := (.slice _ _ _)) rfl rfl) ?_
    refine ops_v (v_len rfl sl26 rfl) ?_
    refine ops_v (v_eql true rfl rfl rfl (decide_eq_true (by first | omega | (simp only; omega) | rfl | decide))) ?_
    refine ops_nil ?_
    refine W_if_t rfl ?_
    refine W_seq ?_
    refine W_region ?_
    refine ops_v (v_move (v := (.bool _)) rfl rfl) ?_
    refine ops_v (v_assign (v := (.bool _)) rfl rfl) ?_
    refine ops_nil ?_
    refine W_ret ?_
    refine ⟨_, (.tmp (v := (.bool _)) rfl .nil), ?_⟩
    exact ⟨rfl, _, H⟩
    -- (backstaylaw17.GuardTells: ret; chunks s,S; ptr )
  · have h0' : (0 : Int) < (ids.length : Int) := by omega
    have h0'' : ¬ ((ids.length : Int) = 0) := by omega
    obtain ⟨g, rfl⟩ := H.slSome 0 rfl h0
    have getI : ∀ c : Int, ∃ a, ids[(M.pick c ids.length).toNat]? = some a := fun c => ⟨ids[(M.pick c ids.length).toNat]'(by have := M.pick_hi (c := c) h0'; have := M.pick_lo (c := c) h0'; omega), by simp⟩
    obtain ⟨x, hx⟩ := getI id'
    have hx' : (ints ids)[0 + (M.pick id' ids.length).toNat * 1]? = some (.int .i64 x) := by rw [Nat.zero_add, Nat.mul_one]; simp [ints, hx]
    have x1' := M.pick_lo (c := id') h0'
    have x2' := M.pick_hi (c := id') h0'
    have tx : Tells st x _ := .of (hm.nodes x (List.mem_of_getElem? hx))
    have hlinks := hm.links
    have m0 : Room6 st 40 := ⟨hm.wf, by omega, hm.most, hm.few⟩
    obtain ⟨N, hN⟩ : ∃ N : Nat, n = N := ⟨n.toNat, by omega⟩
    have hsl : st.links = N := by omega
    have klo := M.pick_lo (c := link) (n := n) (by omega)
    have khi := M.pick_hi (c := link) (n := n) (by omega)
    obtain ⟨k, hk⟩ : ∃ k : Nat, M.pick link n = k := ⟨(M.pick link n).toNat, by omega⟩
    have klt : k < N := by omega
    have tx0 := tx
    have hvals : ∀ F : Nat, 0 ≤ M.eval st x F ∧ M.eval st x F ≤ 3 := fun F => M.eval_vals hm.wf hm.vals F x tx.here
    generalize hg : (fun F : Nat => M.eval st x F) = g' at tx0
    have hv3 : ∀ F : Nat, 0 ≤ g' F ∧ g' F ≤ 3 := fun F => by rw [← hg]; exact hvals F
    clear hvals hg tx
    subst hN
    refine W_region ?_
    refine ops_v (v_move (v := (.slice _ _ _)) rfl rfl) ?_
    refine ops_v (v_len rfl sl26 rfl) ?_
    refine ops_v (v_eql false rfl rfl rfl (decide_eq_false (by first | omega | (simp only; omega) | rfl | decide))) ?_
    refine ops_nil ?_
    refine W_if_f rfl ?_
    refine W_skip ?_
    refine W_seq ?_
    refine W_region ?_
    refine ops_v (v_move (v := (.slice _ _ _)) rfl rfl) ?_
    refine ops_v (v_move (v := (.int _ _)) rfl rfl) ?_
    refine ops_v (v_move (v := (.slice _ _ _)) rfl rfl) ?_
    refine ops_v (v_len rfl sl26 rfl) ?_
    refine ops_call rfl c8 (pick17_ok H id' ids.length i2 h0') ?_
    clear H; rintro _ w ⟨rfl, H⟩
    refine ops_v (v_indexAddr_sl rfl se26 rfl rfl (by omega) (by omega)) ?_
    refine ops_loadSl (v := .int .i64 x) 0 H rfl tc3 rfl rfl hx' ?_
    refine ops_v (v_assign (v := (.int _ _)) rfl rfl) ?_
    refine ops_nil ?_
    refine W_seq ?_
    refine W_region ?_
    refine ops_v (v_move (v := (.int _ _)) rfl rfl) ?_
    refine ops_v (v_move (v := (.int _ _)) rfl rfl) ?_
    refine ops_call rfl c8 (pick17_ok H link N i3 (by omega)) ?_
    clear H; rintro _ w ⟨rfl, H⟩
    rw [hk]
    have H := H.tail
    refine ops_v (v_assign (v := (.int _ _)) rfl rfl) ?_
    refine ops_nil ?_
    refine W_seq ?_
    refine W_region ?_
    refine ops_call rfl c10 (CNew_ok opF st H) ?_
    clear H; rintro _ w ⟨c, rfl, H⟩
    have H := H.swapL
    refine ops_v (v_assign (v := (.pointer _)) rfl rfl) ?_
    refine ops_nil ?_
    refine W_seq ?_
    refine W_region ?_
    refine ops_v (v_move (v := (.pointer _)) rfl rfl) ?_
    refine ops_v (v_move (v := (.int _ _)) rfl rfl) ?_
    refine ops_call rfl c11 (Fails_room m0 (by decide) (by omega) H) ?_
    clear H; rintro _ w ⟨s1, a, rfl, e1, m1, ta1, H⟩
    have l1 := e1.links
    have tx1 := tx0.ext m0.wf e1 m1.wf
    have H := H.mapAt 1 rfl (fun _ H => H.cacheExt m0.wf e1 m1.wf)
    refine ops_v (v_move (v := (.tuple _)) rfl rfl) ?_
    refine ops_v (v_extract (v := (.int _ _)) rfl rfl rfl) ?_
    refine ops_v (v_extract (v := (.int _ _)) rfl rfl rfl) ?_
    refine ops_v (v_assign (v := (.int _ _)) rfl rfl) ?_
    refine ops_v (v_assign (v := (.int _ _)) rfl rfl) ?_
    refine ops_nil ?_
    refine W_seq ?_
    refine W_region ?_
    refine ops_v (v_move (v := (.pointer _)) rfl rfl) ?_
    refine ops_v (v_move (v := (.pointer _)) rfl rfl) ?_
    refine ops_v (v_move (v := (.int _ _)) rfl rfl) ?_
    refine ops_v (v_move (v := (.int _ _)) rfl rfl) ?_
    refine ops_call rfl c12 (Gate_room (o := some c) m1 (by decide) (by omega) tx1 H) ?_
    clear H; rintro _ w ⟨s2, b, rfl, e2, m2, tb2, H⟩
    have l2 := e2.links
    have tx2 := tx1.ext m1.wf e2 m2.wf
    have ta2 := ta1.ext m1.wf e2 m2.wf
    refine ops_v (v_move (v := (.tuple _)) rfl rfl) ?_
    refine ops_v (v_extract (v := (.int _ _)) rfl rfl rfl) ?_
    refine ops_v (v_extract (v := (.int _ _)) rfl rfl rfl) ?_
    refine ops_v (v_assign (v := (.int _ _)) rfl rfl) ?_
    refine ops_v (v_assign (v := (.int _ _)) rfl rfl) ?_
    refine ops_nil ?_
    refine W_seq ?_
    refine W_region ?_
    refine ops_v (v_move (v := (.pointer _)) rfl rfl) ?_
    refine ops_v (v_move (v := (.pointer _)) rfl rfl) ?_
    refine ops_v (v_move (v := (.int _ _)) rfl rfl) ?_
    refine ops_v (v_move (v := (.int _ _)) rfl rfl) ?_
    refine ops_call rfl c13 (Fix_room (o := some c) m2 (by decide) (by omega) tx2 H) ?_
    clear H; rintro _ w ⟨s3, d, rfl, e3, m3, td3, H⟩
    have l3 := e3.links
    have tx3 := tx2.ext m2.wf e3 m3.wf
    have ta3 := ta2.ext m2.wf e3 m3.wf
    have tb3 := tb2.ext m2.wf e3 m3.wf
    have H := H.mapAt 1 rfl (fun _ H => H.cacheExt m2.wf e3 m3.wf)
    refine ops_v (v_move (v := (.tuple _)) rfl rfl) ?_
    refine ops_v (v_extract (v := (.int _ _)) rfl rfl rfl) ?_
    refine ops_v (v_extract (v := (.int _ _)) rfl rfl rfl) ?_
    refine ops_v (v_assign (v := (.int _ _)) rfl rfl) ?_
    refine ops_v (v_assign (v := (.int _ _)) rfl rfl) ?_
    refine ops_nil ?_
    refine W_seq ?_
    refine W_region ?_
    refine ops_v (v_move (v := (.pointer _)) rfl rfl) ?_
    refine ops_v (v_move (v := (.pointer _)) rfl rfl) ?_
    refine ops_v (v_move (v := (.int _ _)) rfl rfl) ?_
    refine ops_v (v_move (v := (.int _ _)) rfl rfl) ?_
    refine ops_call rfl c13 (Fix_room (o := some c) m3 (by decide) (by omega) tx3 H) ?_
    clear H; rintro _ w ⟨s4, f, rfl, e4, m4, tf4, H⟩
    have l4 := e4.links
    have tx4 := tx3.ext m3.wf e4 m4.wf
    have ta4 := ta3.ext m3.wf e4 m4.wf
    have tb4 := tb3.ext m3.wf e4 m4.wf
    have td4 := td3.ext m3.wf e4 m4.wf
    have H := H.mapAt 1 rfl (fun _ H => H.cacheExt m3.wf e4 m4.wf)
    refine ops_v (v_move (v := (.tuple _)) rfl rfl) ?_
    refine ops_v (v_extract (v := (.int _ _)) rfl rfl rfl) ?_
    refine ops_v (v_extract (v := (.int _ _)) rfl rfl rfl) ?_
    refine ops_v (v_assign (v := (.int _ _)) rfl rfl) ?_
    refine ops_v (v_assign (v := (.int _ _)) rfl rfl) ?_
    refine ops_nil ?_
    refine W_seq ?_
    refine W_seq ?_
    refine W_region ?_
    refine ops_v (v_move (v := (.bool _)) rfl rfl) ?_
    refine ops_v (v_not rfl rfl _ rfl) ?_
    refine ops_v (v_move (v := (.bool _)) rfl rfl) ?_
    refine ops_v (v_move (v := (.int _ _)) rfl rfl) ?_
    refine ops_v (v_neq false rfl rfl rfl (decide_eq_false (by first | omega | (simp only; omega) | rfl | decide))) ?_
    refine ops_v (v_pick_f (v := (.bool _)) rfl rfl rfl) ?_
    refine ops_v (v_move (v := (.bool _)) rfl rfl) ?_
    refine ops_v (v_move (v := (.int _ _)) rfl rfl) ?_
    refine ops_v (v_neq false rfl rfl rfl (decide_eq_false (by first | omega | (simp only; omega) | rfl | decide))) ?_
    refine ops_v (v_pick_f (v := (.bool _)) rfl rfl rfl) ?_
    refine ops_v (v_move (v := (.bool _)) rfl rfl) ?_
    refine ops_v (v_move (v := (.int _ _)) rfl rfl) ?_
    refine ops_v (v_neq false rfl rfl rfl (decide_eq_false (by first | omega | (simp only; omega) | rfl | decide))) ?_
    refine ops_v (v_pick_f (v := (.bool _)) rfl rfl rfl) ?_
    refine ops_v (v_move (v := (.bool _)) rfl rfl) ?_
    refine ops_v (v_move (v := (.int _ _)) rfl rfl) ?_
    refine ops_v (v_neq false rfl rfl rfl (decide_eq_false (by first | omega | (simp only; omega) | rfl | decide))) ?_
    refine ops_v (v_pick_f (v := (.bool _)) rfl rfl rfl) ?_
    refine ops_nil ?_
    refine W_if_f rfl ?_
    refine W_skip ?_
    refine W_seq ?_
    refine W_region ?_
    refine ops_v (v_move (v := (.int _ _)) rfl rfl) ?_
    refine ops_makeBools H (by omega) rfl rfl rfl ?_
    clear H; intro ab w H
    rw [M.marks_zero g' N] at H
    refine ops_v (v_assign (v := (.slice _ _ _)) rfl rfl) ?_
    refine ops_nil ?_
    refine W_seq ?_
    refine W_seq ?_
    refine W_region ?_
    refine ops_v (v_assign (v := _) rfl rfl) ?_
    refine ops_nil ?_
    refine W_block ?_
    -- (backstaylaw17.GuardTells: loop; chunks B,S,C; ptr )
    have hl4 : s4.links = N := by omega
    have p64 : 2 ^ N ≤ 64 := by have : 2 ^ N ≤ 2 ^ 6 := Nat.pow_le_pow_right (by decide) (by omega); omega
    have hsh : IntKind.i64.wrap (1 * 2 ^ min ((N : Int)).toNat IntKind.i64.bits) = ((2 ^ N : Nat) : Int) := by rw [Int.toNat_natCast, shl1 N (by omega)]; push_cast; rfl
    refine W_loopS (fun (m : Nat) => [(4, int any'), (11, .bool true), (12, int N), (13, ptr p), (15, int x), (16, .int .i64 (k : Int)), (17, xptr (some c)), (18, int a), (20, int b), (22, int d), (24, int f), (26, .slice (some ⟨ab, 0, none⟩) N N), (27, .int .i64 m)])
      (fun m w => Own wb (Blk ab (bools (M.marks g' N m 0)) 4 :: StoreC p s4 :: CacheX opF (some c) s4 :: R) w ∧ m ≤ 2 ^ N)
      (fun m => 2 ^ N - m) 0 ⟨rfl, rfl, rfl, rfl, rfl, rfl, rfl, rfl, rfl, rfl, rfl, rfl, rfl, trivial⟩ ⟨H, Nat.zero_le _⟩ ?_
    clear H
    rintro m e w ⟨H, hle⟩
    by_cases hml : (m : Int) < ((2 ^ N : Nat) : Int)
    · have hm64 : m < 64 := by omega
      obtain ⟨vm0, vm3⟩ := hv3 m
      have ha := ta4.eval m
      have hb := tb4.eval m
      obtain ⟨q1, q2, q3, _, _⟩ := turn_sub m hm64 k (by omega)
      have kpos : 0 < 2 ^ k := Nat.pow_pos (by decide)
      unfold failsF at ha hb
      cases hbit : m.testBit k with
      | true =>
        rw [hbit] at ha hb
        have hw : ((turn m k true : Nat) : Int) = m := by rw [M.turn_same m k true hbit]
        rw [M.gate_fail] at hb
        have ha : M.eval s4 a m = 1 := ha
        refine W_seq ?_
        refine W_seq ?_
        refine W_region ?_
        refine ops_v (v_move (v := (.int _ _)) rfl rfl) ?_
        refine ops_v (v_move (v := (.int _ _)) rfl rfl) ?_
        refine ops_v (v_shl ((2 ^ N : Nat) : Int) rfl rfl rfl (by omega) hsh) ?_
        refine ops_v (v_lss true rfl rfl rfl (decide_eq_true (by first | omega | (simp only; omega) | rfl | decide))) ?_
        refine ops_nil ?_
        refine W_if_t rfl ?_
        refine W_skip ?_
        refine W_seq ?_
        refine W_block ?_
        refine W_seq ?_
        refine W_region ?_
        refine ops_v (v_move (v := (.pointer _)) rfl rfl) ?_
        refine ops_v (v_move (v := (.int _ _)) rfl rfl) ?_
        refine ops_v (v_move (v := (.int _ _)) rfl rfl) ?_
        refine ops_call rfl c14 (FnC.ro 1 rfl H (fun _ => EvalV m4.wf x m (g' m) (tx4.eval m))) ?_
        clear H; rintro _ w ⟨rfl, H⟩
        refine ops_v (v_assign (v := (.int _ _)) rfl rfl) ?_
        refine ops_nil ?_
        refine W_seq ?_
        refine W_region ?_
        refine ops_v (v_assign (v := _) rfl rfl) ?_
        refine ops_nil ?_
        refine W_seq ?_
        refine W_seq ?_
        refine W_region ?_
        refine ops_v (v_move (v := (.int _ _)) rfl rfl) ?_
        refine ops_v (v_move (v := (.int _ _)) rfl rfl) ?_
        refine ops_call rfl c15 (With_ok m k true hm64 (by omega) H) ?_
        clear H; rintro _ w ⟨rfl, H⟩
        refine ops_v (v_move (v := (.int _ _)) rfl rfl) ?_
        refine ops_v (v_eql true rfl rfl rfl (decide_eq_true (by first | omega | (simp only; omega) | rfl | decide))) ?_
        refine ops_nil ?_
        refine W_if_t rfl ?_
        refine W_region ?_
        refine ops_v (v_assign (v := _) rfl rfl) ?_
        refine ops_nil ?_
        refine W_seq ?_
        refine W_seq ?_
        refine W_region ?_
        refine ops_v (v_move (v := (.pointer _)) rfl rfl) ?_
        refine ops_v (v_move (v := (.int _ _)) rfl rfl) ?_
        refine ops_v (v_move (v := (.int _ _)) rfl rfl) ?_
        refine ops_call rfl c14 (FnC.ro 1 rfl H (fun _ => EvalV m4.wf a m 1 ha)) ?_
        clear H; rintro _ w ⟨rfl, H⟩
        refine ops_v (v_move (v := (.int _ _)) rfl rfl) ?_
        refine ops_v (v_neq false rfl rfl rfl (decide_eq_false (by first | omega | (simp only; omega) | rfl | decide))) ?_
        refine ops_v (v_move (v := (.bool _)) rfl rfl) ?_
        refine ops_v (v_move (v := (.pointer _)) rfl rfl) ?_
        refine ops_v (v_move (v := (.int _ _)) rfl rfl) ?_
        refine ops_v (v_move (v := (.int _ _)) rfl rfl) ?_
        refine ops_call rfl c14 (FnC.ro 1 rfl H (fun _ => EvalV m4.wf b m 0 hb)) ?_
        clear H; rintro _ w ⟨rfl, H⟩
        refine ops_v (v_move (v := (.int _ _)) rfl rfl) ?_
        refine ops_v (v_move (v := (.int _ _)) rfl rfl) ?_
        refine ops_v (v_sub _ rfl rfl rfl (wrap_in (by omega) (by omega))) ?_
        refine ops_v (v_mul _ rfl rfl rfl (wrap_in (by omega) (by omega))) ?_
        refine ops_v (v_neq false rfl rfl rfl (decide_eq_false (by first | omega | (simp only; omega) | rfl | decide))) ?_
        refine ops_v (v_pick_f (v := (.bool _)) rfl rfl rfl) ?_
        refine ops_v (v_move (v := (.bool _)) rfl rfl) ?_
        refine ops_v (v_move (v := (.pointer _)) rfl rfl) ?_
        refine ops_v (v_move (v := (.int _ _)) rfl rfl) ?_
        refine ops_v (v_move (v := (.int _ _)) rfl rfl) ?_
        refine ops_call rfl c14 (FnC.ro 1 rfl H (fun _ => EvalV m4.wf d m (g' (turn m k true)) (td4.eval m))) ?_
        clear H; rintro _ w ⟨rfl, H⟩
        refine ops_v (v_move (v := (.pointer _)) rfl rfl) ?_
        refine ops_v (v_move (v := (.int _ _)) rfl rfl) ?_
        refine ops_v (v_move (v := (.int _ _)) rfl rfl) ?_
        refine ops_v (v_move (v := (.int _ _)) rfl rfl) ?_
        refine ops_call rfl c15 (With_ok m k true hm64 (by omega) H) ?_
        clear H; rintro _ w ⟨rfl, H⟩
        refine ops_call rfl c14 (FnC.ro 1 rfl H (fun _ => EvalV m4.wf x (turn m k true : Nat) (g' (turn m k true)) (tx4.eval _))) ?_
        clear H; rintro _ w ⟨rfl, H⟩
        refine ops_v (v_neq false rfl rfl rfl (decide_eq_false (by first | omega | (simp only; omega) | rfl | decide))) ?_
        refine ops_v (v_pick_f (v := (.bool _)) rfl rfl rfl) ?_
        refine ops_v (v_move (v := (.bool _)) rfl rfl) ?_
        refine ops_v (v_move (v := (.pointer _)) rfl rfl) ?_
        refine ops_v (v_move (v := (.int _ _)) rfl rfl) ?_
        refine ops_v (v_move (v := (.int _ _)) rfl rfl) ?_
        refine ops_call rfl c14 (FnC.ro 1 rfl H (fun _ => EvalV m4.wf f m (g' (turn m k false)) (tf4.eval m))) ?_
        clear H; rintro _ w ⟨rfl, H⟩
        refine ops_v (v_move (v := (.pointer _)) rfl rfl) ?_
        refine ops_v (v_move (v := (.int _ _)) rfl rfl) ?_
        refine ops_v (v_move (v := (.int _ _)) rfl rfl) ?_
        refine ops_v (v_move (v := (.int _ _)) rfl rfl) ?_
        refine ops_call rfl c15 (With_ok m k false hm64 (by omega) H) ?_
        clear H; rintro _ w ⟨rfl, H⟩
        refine ops_call rfl c14 (FnC.ro 1 rfl H (fun _ => EvalV m4.wf x (turn m k false : Nat) (g' (turn m k false)) (tx4.eval _))) ?_
        clear H; rintro _ w ⟨rfl, H⟩
        refine ops_v (v_neq false rfl rfl rfl (decide_eq_false (by first | omega | (simp only; omega) | rfl | decide))) ?_
        refine ops_v (v_pick_f (v := (.bool _)) rfl rfl rfl) ?_
        refine ops_nil ?_
        refine W_if_f rfl ?_
        refine W_skip ?_
        refine W_seq ?_
        refine W_region ?_
        refine ops_v (v_assign (v := _) rfl rfl) ?_
        refine ops_nil ?_
        refine W_block ?_
        -- (backstaylaw17.GuardTells: loop; chunks B,S,C; ptr )
        refine W_loopS (fun (j : Nat) => [(4, int any'), (11, .bool true), (12, int N), (13, ptr p), (15, int x), (16, .int .i64 (k : Int)), (17, xptr (some c)), (18, int a), (20, int b), (22, int d), (24, int f), (26, .slice (some ⟨ab, 0, none⟩) N N), (27, .int .i64 m), (28, int (g' m)), (30, .int .i64 j)])
          (fun j w => Own wb (Blk ab (bools (M.marks g' N m j)) 4 :: StoreC p s4 :: CacheX opF (some c) s4 :: R) w ∧ j ≤ N)
          (fun j => N - j) 0 ⟨rfl, rfl, rfl, rfl, rfl, rfl, rfl, rfl, rfl, rfl, rfl, rfl, rfl, rfl, rfl, trivial⟩ ⟨H, Nat.zero_le _⟩ ?_
        clear H
        rintro j e w ⟨H, hjle⟩
        by_cases hjl : (j : Int) < (N : Int)
        · have hjn : j < N := by omega
          have hget := M.marks_get g' (m := m) (j := j) hjn
          rw [if_neg (Nat.lt_irrefl j)] at hget
          have hble : Nat.ble (0 + ((j : Int)).toNat * 1 + 1) (bools (M.marks g' N m j)).length = true := by
            apply Nat.ble_eq_true_of_le
            unfold bools
            rw [List.length_map, M.marks_len, Int.toNat_natCast]; omega
          have hset : ∀ b1 : Bool, b1 = M.askF g' (m + 1) j → (bools (M.marks g' N m j)).take (0 + ((j : Int)).toNat * 1) ++ [.bool b1] ++ (bools (M.marks g' N m j)).drop (0 + ((j : Int)).toNat * 1 + 1) = bools (M.marks g' N m (j + 1)) := fun b1 h =>
            (bools_setB b1 (by rw [M.marks_len]; exact hjn)).trans (congrArg bools (M.marks_step g' hjn h))
          cases hask : M.askF g' m j with
          | true =>
            rw [hask] at hget
            refine W_seq ?_
            refine W_seq ?_
            refine W_region ?_
            refine ops_v (v_move (v := (.int _ _)) rfl rfl) ?_
            refine ops_v (v_move (v := (.int _ _)) rfl rfl) ?_
            refine ops_v (v_lss true rfl rfl rfl (decide_eq_true (by first | omega | (simp only; omega) | rfl | decide))) ?_
            refine ops_nil ?_
            refine W_if_t rfl ?_
            refine W_skip ?_
            refine W_seq ?_
            refine W_block ?_
            refine W_region ?_
            refine ops_v (v_move (v := (.slice _ _ _)) rfl rfl) ?_
            refine ops_v (v_move (v := (.int _ _)) rfl rfl) ?_
            refine ops_v (v_move (v := (.slice _ _ _)) rfl rfl) ?_
            refine ops_v (v_move (v := (.int _ _)) rfl rfl) ?_
            refine ops_v (v_indexAddr_sl rfl se36 rfl rfl (by omega) (by omega)) ?_
            refine ops_load (v := .bool true) 0 H rfl tc4 rfl rfl (bools_get hget) ?_
            refine ops_v (v_move (v := (.bool _)) rfl rfl) ?_
            refine ops_skip rfl rfl ?_
            refine ops_skip rfl rfl ?_
            refine ops_skip rfl rfl ?_
            refine ops_skip rfl rfl ?_
            refine ops_skip rfl rfl ?_
            refine ops_skip rfl rfl ?_
            refine ops_skip rfl rfl ?_
            refine ops_skip rfl rfl ?_
            refine ops_v (v_pick_t (v := (.bool _)) rfl rfl rfl) ?_
            refine ops_v (v_indexAddr_sl rfl se36 rfl rfl (by omega) (by omega)) ?_
            refine ops_store (vs := [.bool true]) (v := .bool true) (cs' := bools (M.marks g' N m (j + 1))) 0 H rfl ts4 rfl rfl rfl rfl rfl rfl hble (hset true (M.askF_up hask).symm) ?_
            clear H; intro w H
            refine ops_nil ?_
            refine W_region ?_
            refine ops_v (v_move (v := (.int _ _)) rfl rfl) ?_
            refine ops_v (v_add _ rfl rfl rfl (wrap_in (by omega) (by omega))) ?_
            refine ops_v (v_assign (v := (.int _ _)) rfl rfl) ?_
            refine ops_nil ?_
            refine ⟨j + 1, ?_, ⟨rfl, rfl, rfl, rfl, rfl, rfl, rfl, rfl, rfl, rfl, rfl, rfl, rfl, rfl, rfl, trivial⟩, H, hjn⟩
            show N - (j + 1) < N - j; omega
            -- (backstaylaw17.GuardTells: loopend; chunks B,S,C; ptr )
          | false =>
            rw [hask] at hget
            have hnew : decide (g' m ≠ g' (turn m j true)) = M.askF g' (m + 1) j := by rw [M.askF_succ, hask, Bool.false_or]
            refine W_seq ?_
            refine W_seq ?_
            refine W_region ?_
            refine ops_v (v_move (v := (.int _ _)) rfl rfl) ?_
            refine ops_v (v_move (v := (.int _ _)) rfl rfl) ?_
            refine ops_v (v_lss true rfl rfl rfl (decide_eq_true (by first | omega | (simp only; omega) | rfl | decide))) ?_
            refine ops_nil ?_
            refine W_if_t rfl ?_
            refine W_skip ?_
            refine W_seq ?_
            refine W_block ?_
            refine W_region ?_
            refine ops_v (v_move (v := (.slice _ _ _)) rfl rfl) ?_
            refine ops_v (v_move (v := (.int _ _)) rfl rfl) ?_
            refine ops_v (v_move (v := (.slice _ _ _)) rfl rfl) ?_
            refine ops_v (v_move (v := (.int _ _)) rfl rfl) ?_
            refine ops_v (v_indexAddr_sl rfl se36 rfl rfl (by omega) (by omega)) ?_
            refine ops_load (v := .bool false) 0 H rfl tc4 rfl rfl (bools_get hget) ?_
            refine ops_v (v_move (v := (.bool _)) rfl rfl) ?_
            refine ops_v (v_move (v := (.int _ _)) rfl rfl) ?_
            refine ops_v (v_move (v := (.pointer _)) rfl rfl) ?_
            refine ops_v (v_move (v := (.int _ _)) rfl rfl) ?_
            refine ops_v (v_move (v := (.int _ _)) rfl rfl) ?_
            refine ops_v (v_move (v := (.int _ _)) rfl rfl) ?_
            refine ops_call rfl c15 (With_ok m j true hm64 (by omega) H) ?_
            clear H; rintro _ w ⟨rfl, H⟩
            refine ops_call rfl c14 (FnC.ro 1 rfl H (fun _ => EvalV m4.wf x (turn m j true : Nat) (g' (turn m j true)) (tx4.eval _))) ?_
            clear H; rintro _ w ⟨rfl, H⟩
            refine ops_v (v_neq _ rfl rfl rfl rfl) ?_
            refine ops_v (v_pick_f (v := (.bool _)) rfl rfl rfl) ?_
            refine ops_v (v_indexAddr_sl rfl se36 rfl rfl (by omega) (by omega)) ?_
            refine ops_store (vs := [.bool (decide (g' m ≠ g' (turn m j true)))]) (v := .bool (decide (g' m ≠ g' (turn m j true)))) (cs' := bools (M.marks g' N m (j + 1))) 0 H rfl ts4 rfl rfl rfl rfl rfl rfl hble (hset _ hnew) ?_
            clear H; intro w H
            refine ops_nil ?_
            refine W_region ?_
            refine ops_v (v_move (v := (.int _ _)) rfl rfl) ?_
            refine ops_v (v_add _ rfl rfl rfl (wrap_in (by omega) (by omega))) ?_
            refine ops_v (v_assign (v := (.int _ _)) rfl rfl) ?_
            refine ops_nil ?_
            refine ⟨j + 1, ?_, ⟨rfl, rfl, rfl, rfl, rfl, rfl, rfl, rfl, rfl, rfl, rfl, rfl, rfl, rfl, rfl, trivial⟩, H, hjn⟩
            show N - (j + 1) < N - j; omega
            -- (backstaylaw17.GuardTells: loopend; chunks B,S,C; ptr )
        · rw [show j = N by omega, M.marks_next] at H
          refine W_seq ?_
          refine W_seq ?_
          refine W_region ?_
          refine ops_v (v_move (v := (.int _ _)) rfl rfl) ?_
          refine ops_v (v_move (v := (.int _ _)) rfl rfl) ?_
          refine ops_v (v_lss false rfl rfl rfl (decide_eq_false (by first | omega | (simp only; omega) | rfl | decide))) ?_
          refine ops_nil ?_
          refine W_if_f rfl ?_
          refine W_exit ?_
          refine W_region ?_
          refine ops_v (v_move (v := (.int _ _)) rfl rfl) ?_
          refine ops_v (v_add _ rfl rfl rfl (wrap_in (by omega) (by omega))) ?_
          refine ops_v (v_assign (v := (.int _ _)) rfl rfl) ?_
          refine ops_nil ?_
          refine ⟨m + 1, ?_, ⟨rfl, rfl, rfl, rfl, rfl, rfl, rfl, rfl, rfl, rfl, rfl, rfl, rfl, trivial⟩, H, ?_⟩
          · show 2 ^ N - (m + 1) < 2 ^ N - m; omega
          · show m + 1 ≤ 2 ^ N; omega
          -- (backstaylaw17.GuardTells: loopend; chunks B,S,C; ptr )
      | false =>
        rw [hbit] at ha hb
        have hw : ¬ ((turn m k true : Nat) : Int) = m := by have := q2 hbit; omega
        rw [M.gate_stand] at hb
        have ha : M.eval s4 a m = 0 := ha
        refine W_seq ?_
        refine W_seq ?_
        refine W_region ?_
        refine ops_v (v_move (v := (.int _ _)) rfl rfl) ?_
        refine ops_v (v_move (v := (.int _ _)) rfl rfl) ?_
        refine ops_v (v_shl ((2 ^ N : Nat) : Int) rfl rfl rfl (by omega) hsh) ?_
        refine ops_v (v_lss true rfl rfl rfl (decide_eq_true (by first | omega | (simp only; omega) | rfl | decide))) ?_
        refine ops_nil ?_
        refine W_if_t rfl ?_
        refine W_skip ?_
        refine W_seq ?_
        refine W_block ?_
        refine W_seq ?_
        refine W_region ?_
        refine ops_v (v_move (v := (.pointer _)) rfl rfl) ?_
        refine ops_v (v_move (v := (.int _ _)) rfl rfl) ?_
        refine ops_v (v_move (v := (.int _ _)) rfl rfl) ?_
        refine ops_call rfl c14 (FnC.ro 1 rfl H (fun _ => EvalV m4.wf x m (g' m) (tx4.eval m))) ?_
        clear H; rintro _ w ⟨rfl, H⟩
        refine ops_v (v_assign (v := (.int _ _)) rfl rfl) ?_
        refine ops_nil ?_
        refine W_seq ?_
        refine W_region ?_
        refine ops_v (v_assign (v := _) rfl rfl) ?_
        refine ops_nil ?_
        refine W_seq ?_
        refine W_seq ?_
        refine W_region ?_
        refine ops_v (v_move (v := (.int _ _)) rfl rfl) ?_
        refine ops_v (v_move (v := (.int _ _)) rfl rfl) ?_
        refine ops_call rfl c15 (With_ok m k true hm64 (by omega) H) ?_
        clear H; rintro _ w ⟨rfl, H⟩
        refine ops_v (v_move (v := (.int _ _)) rfl rfl) ?_
        refine ops_v (v_eql false rfl rfl rfl (decide_eq_false (by first | omega | (simp only; omega) | rfl | decide))) ?_
        refine ops_nil ?_
        refine W_if_f rfl ?_
        refine W_skip ?_
        refine W_seq ?_
        refine W_seq ?_
        refine W_region ?_
        refine ops_v (v_move (v := (.pointer _)) rfl rfl) ?_
        refine ops_v (v_move (v := (.int _ _)) rfl rfl) ?_
        refine ops_v (v_move (v := (.int _ _)) rfl rfl) ?_
        refine ops_call rfl c14 (FnC.ro 1 rfl H (fun _ => EvalV m4.wf a m 0 ha)) ?_
        clear H; rintro _ w ⟨rfl, H⟩
        refine ops_v (v_move (v := (.int _ _)) rfl rfl) ?_
        refine ops_v (v_neq false rfl rfl rfl (decide_eq_false (by first | omega | (simp only; omega) | rfl | decide))) ?_
        refine ops_v (v_move (v := (.bool _)) rfl rfl) ?_
        refine ops_v (v_move (v := (.pointer _)) rfl rfl) ?_
        refine ops_v (v_move (v := (.int _ _)) rfl rfl) ?_
        refine ops_v (v_move (v := (.int _ _)) rfl rfl) ?_
        refine ops_call rfl c14 (FnC.ro 1 rfl H (fun _ => EvalV m4.wf b m (g' m) hb)) ?_
        clear H; rintro _ w ⟨rfl, H⟩
        refine ops_v (v_move (v := (.int _ _)) rfl rfl) ?_
        refine ops_v (v_move (v := (.int _ _)) rfl rfl) ?_
        refine ops_v (v_sub _ rfl rfl rfl (wrap_in (by omega) (by omega))) ?_
        refine ops_v (v_mul _ rfl rfl rfl (wrap_in (by omega) (by omega))) ?_
        refine ops_v (v_neq false rfl rfl rfl (decide_eq_false (by first | omega | (simp only; omega) | rfl | decide))) ?_
        refine ops_v (v_pick_f (v := (.bool _)) rfl rfl rfl) ?_
        refine ops_v (v_move (v := (.bool _)) rfl rfl) ?_
        refine ops_v (v_move (v := (.pointer _)) rfl rfl) ?_
        refine ops_v (v_move (v := (.int _ _)) rfl rfl) ?_
        refine ops_v (v_move (v := (.int _ _)) rfl rfl) ?_
        refine ops_call rfl c14 (FnC.ro 1 rfl H (fun _ => EvalV m4.wf d m (g' (turn m k true)) (td4.eval m))) ?_
        clear H; rintro _ w ⟨rfl, H⟩
        refine ops_v (v_move (v := (.pointer _)) rfl rfl) ?_
        refine ops_v (v_move (v := (.int _ _)) rfl rfl) ?_
        refine ops_v (v_move (v := (.int _ _)) rfl rfl) ?_
        refine ops_v (v_move (v := (.int _ _)) rfl rfl) ?_
        refine ops_call rfl c15 (With_ok m k true hm64 (by omega) H) ?_
        clear H; rintro _ w ⟨rfl, H⟩
        refine ops_call rfl c14 (FnC.ro 1 rfl H (fun _ => EvalV m4.wf x (turn m k true : Nat) (g' (turn m k true)) (tx4.eval _))) ?_
        clear H; rintro _ w ⟨rfl, H⟩
        refine ops_v (v_neq false rfl rfl rfl (decide_eq_false (by first | omega | (simp only; omega) | rfl | decide))) ?_
        refine ops_v (v_pick_f (v := (.bool _)) rfl rfl rfl) ?_
        refine ops_v (v_move (v := (.bool _)) rfl rfl) ?_
        refine ops_v (v_move (v := (.pointer _)) rfl rfl) ?_
        refine ops_v (v_move (v := (.int _ _)) rfl rfl) ?_
        refine ops_v (v_move (v := (.int _ _)) rfl rfl) ?_
        refine ops_call rfl c14 (FnC.ro 1 rfl H (fun _ => EvalV m4.wf f m (g' (turn m k false)) (tf4.eval m))) ?_
        clear H; rintro _ w ⟨rfl, H⟩
        refine ops_v (v_move (v := (.pointer _)) rfl rfl) ?_
        refine ops_v (v_move (v := (.int _ _)) rfl rfl) ?_
        refine ops_v (v_move (v := (.int _ _)) rfl rfl) ?_
        refine ops_v (v_move (v := (.int _ _)) rfl rfl) ?_
        refine ops_call rfl c15 (With_ok m k false hm64 (by omega) H) ?_
        clear H; rintro _ w ⟨rfl, H⟩
        refine ops_call rfl c14 (FnC.ro 1 rfl H (fun _ => EvalV m4.wf x (turn m k false : Nat) (g' (turn m k false)) (tx4.eval _))) ?_
        clear H; rintro _ w ⟨rfl, H⟩
        refine ops_v (v_neq false rfl rfl rfl (decide_eq_false (by first | omega | (simp only; omega) | rfl | decide))) ?_
        refine ops_v (v_pick_f (v := (.bool _)) rfl rfl rfl) ?_
        refine ops_nil ?_
        refine W_if_f rfl ?_
        refine W_skip ?_
        refine W_seq ?_
        refine W_region ?_
        refine ops_v (v_assign (v := _) rfl rfl) ?_
        refine ops_nil ?_
        refine W_block ?_
        -- (backstaylaw17.GuardTells: loop; chunks B,S,C; ptr )
        refine W_loopS (fun (j : Nat) => [(4, int any'), (11, .bool true), (12, int N), (13, ptr p), (15, int x), (16, .int .i64 (k : Int)), (17, xptr (some c)), (18, int a), (20, int b), (22, int d), (24, int f), (26, .slice (some ⟨ab, 0, none⟩) N N), (27, .int .i64 m), (28, int (g' m)), (30, .int .i64 j)])
          (fun j w => Own wb (Blk ab (bools (M.marks g' N m j)) 4 :: StoreC p s4 :: CacheX opF (some c) s4 :: R) w ∧ j ≤ N)
          (fun j => N - j) 0 ⟨rfl, rfl, rfl, rfl, rfl, rfl, rfl, rfl, rfl, rfl, rfl, rfl, rfl, rfl, rfl, trivial⟩ ⟨H, Nat.zero_le _⟩ ?_
        clear H
        rintro j e w ⟨H, hjle⟩
        by_cases hjl : (j : Int) < (N : Int)
        · have hjn : j < N := by omega
          have hget := M.marks_get g' (m := m) (j := j) hjn
          rw [if_neg (Nat.lt_irrefl j)] at hget
          have hble : Nat.ble (0 + ((j : Int)).toNat * 1 + 1) (bools (M.marks g' N m j)).length = true := by
            apply Nat.ble_eq_true_of_le
            unfold bools
            rw [List.length_map, M.marks_len, Int.toNat_natCast]; omega
          have hset : ∀ b1 : Bool, b1 = M.askF g' (m + 1) j → (bools (M.marks g' N m j)).take (0 + ((j : Int)).toNat * 1) ++ [.bool b1] ++ (bools (M.marks g' N m j)).drop (0 + ((j : Int)).toNat * 1 + 1) = bools (M.marks g' N m (j + 1)) := fun b1 h =>
            (bools_setB b1 (by rw [M.marks_len]; exact hjn)).trans (congrArg bools (M.marks_step g' hjn h))
          cases hask : M.askF g' m j with
          | true =>
            rw [hask] at hget
            refine W_seq ?_
            refine W_seq ?_
            refine W_region ?_
            refine ops_v (v_move (v := (.int _ _)) rfl rfl) ?_
            refine ops_v (v_move (v := (.int _ _)) rfl rfl) ?_
            refine ops_v (v_lss true rfl rfl rfl (decide_eq_true (by first | omega | (simp only; omega) | rfl | decide))) ?_
            refine ops_nil ?_
            refine W_if_t rfl ?_
            refine W_skip ?_
            refine W_seq ?_
            refine W_block ?_
            refine W_region ?_
            refine ops_v (v_move (v := (.slice _ _ _)) rfl rfl) ?_
            refine ops_v (v_move (v := (.int _ _)) rfl rfl) ?_
            refine ops_v (v_move (v := (.slice _ _ _)) rfl rfl) ?_
            refine ops_v (v_move (v := (.int _ _)) rfl rfl) ?_
            refine ops_v (v_indexAddr_sl rfl se36 rfl rfl (by omega) (by omega)) ?_
            refine ops_load (v := .bool true) 0 H rfl tc4 rfl rfl (bools_get hget) ?_
            refine ops_v (v_move (v := (.bool _)) rfl rfl) ?_
            refine ops_skip rfl rfl ?_
            refine ops_skip rfl rfl ?_
            refine ops_skip rfl rfl ?_
            refine ops_skip rfl rfl ?_
            refine ops_skip rfl rfl ?_
            refine ops_skip rfl rfl ?_
            refine ops_skip rfl rfl ?_
            refine ops_skip rfl rfl ?_
            refine ops_v (v_pick_t (v := (.bool _)) rfl rfl rfl) ?_
            refine ops_v (v_indexAddr_sl rfl se36 rfl rfl (by omega) (by omega)) ?_
            refine ops_store (vs := [.bool true]) (v := .bool true) (cs' := bools (M.marks g' N m (j + 1))) 0 H rfl ts4 rfl rfl rfl rfl rfl rfl hble (hset true (M.askF_up hask).symm) ?_
            clear H; intro w H
            refine ops_nil ?_
            refine W_region ?_
            refine ops_v (v_move (v := (.int _ _)) rfl rfl) ?_
            refine ops_v (v_add _ rfl rfl rfl (wrap_in (by omega) (by omega))) ?_
            refine ops_v (v_assign (v := (.int _ _)) rfl rfl) ?_
            refine ops_nil ?_
            refine ⟨j + 1, ?_, ⟨rfl, rfl, rfl, rfl, rfl, rfl, rfl, rfl, rfl, rfl, rfl, rfl, rfl, rfl, rfl, trivial⟩, H, hjn⟩
            show N - (j + 1) < N - j; omega
            -- (backstaylaw17.GuardTells: loopend; chunks B,S,C; ptr )
          | false =>
            rw [hask] at hget
            have hnew : decide (g' m ≠ g' (turn m j true)) = M.askF g' (m + 1) j := by rw [M.askF_succ, hask, Bool.false_or]
            refine W_seq ?_
            refine W_seq ?_
            refine W_region ?_
            refine ops_v (v_move (v := (.int _ _)) rfl rfl) ?_
            refine ops_v (v_move (v := (.int _ _)) rfl rfl) ?_
            refine ops_v (v_lss true rfl rfl rfl (decide_eq_true (by first | omega | (simp only; omega) | rfl | decide))) ?_
            refine ops_nil ?_
            refine W_if_t rfl ?_
            refine W_skip ?_
            refine W_seq ?_
            refine W_block ?_
            refine W_region ?_
            refine ops_v (v_move (v := (.slice _ _ _)) rfl rfl) ?_
            refine ops_v (v_move (v := (.int _ _)) rfl rfl) ?_
            refine ops_v (v_move (v := (.slice _ _ _)) rfl rfl) ?_
            refine ops_v (v_move (v := (.int _ _)) rfl rfl) ?_
            refine ops_v (v_indexAddr_sl rfl se36 rfl rfl (by omega) (by omega)) ?_
            refine ops_load (v := .bool false) 0 H rfl tc4 rfl rfl (bools_get hget) ?_
            refine ops_v (v_move (v := (.bool _)) rfl rfl) ?_
            refine ops_v (v_move (v := (.int _ _)) rfl rfl) ?_
            refine ops_v (v_move (v := (.pointer _)) rfl rfl) ?_
            refine ops_v (v_move (v := (.int _ _)) rfl rfl) ?_
            refine ops_v (v_move (v := (.int _ _)) rfl rfl) ?_
            refine ops_v (v_move (v := (.int _ _)) rfl rfl) ?_
            refine ops_call rfl c15 (With_ok m j true hm64 (by omega) H) ?_
            clear H; rintro _ w ⟨rfl, H⟩
            refine ops_call rfl c14 (FnC.ro 1 rfl H (fun _ => EvalV m4.wf x (turn m j true : Nat) (g' (turn m j true)) (tx4.eval _))) ?_
            clear H; rintro _ w ⟨rfl, H⟩
            refine ops_v (v_neq _ rfl rfl rfl rfl) ?_
            refine ops_v (v_pick_f (v := (.bool _)) rfl rfl rfl) ?_
            refine ops_v (v_indexAddr_sl rfl se36 rfl rfl (by omega) (by omega)) ?_
            refine ops_store (vs := [.bool (decide (g' m ≠ g' (turn m j true)))]) (v := .bool (decide (g' m ≠ g' (turn m j true)))) (cs' := bools (M.marks g' N m (j + 1))) 0 H rfl ts4 rfl rfl rfl rfl rfl rfl hble (hset _ hnew) ?_
            clear H; intro w H
            refine ops_nil ?_
            refine W_region ?_
            refine ops_v (v_move (v := (.int _ _)) rfl rfl) ?_
            refine ops_v (v_add _ rfl rfl rfl (wrap_in (by omega) (by omega))) ?_
            refine ops_v (v_assign (v := (.int _ _)) rfl rfl) ?_
            refine ops_nil ?_
            refine ⟨j + 1, ?_, ⟨rfl, rfl, rfl, rfl, rfl, rfl, rfl, rfl, rfl, rfl, rfl, rfl, rfl, rfl, rfl, trivial⟩, H, hjn⟩
            show N - (j + 1) < N - j; omega
            -- (backstaylaw17.GuardTells: loopend; chunks B,S,C; ptr )
        · rw [show j = N by omega, M.marks_next] at H
          refine W_seq ?_
          refine W_seq ?_
          refine W_region ?_
          refine ops_v (v_move (v := (.int _ _)) rfl rfl) ?_
          refine ops_v (v_move (v := (.int _ _)) rfl rfl) ?_
          refine ops_v (v_lss false rfl rfl rfl (decide_eq_false (by first | omega | (simp only; omega) | rfl | decide))) ?_
          refine ops_nil ?_
          refine W_if_f rfl ?_
          refine W_exit ?_
          refine W_region ?_
          refine ops_v (v_move (v := (.int _ _)) rfl rfl) ?_
          refine ops_v (v_add _ rfl rfl rfl (wrap_in (by omega) (by omega))) ?_
          refine ops_v (v_assign (v := (.int _ _)) rfl rfl) ?_
          refine ops_nil ?_
          refine ⟨m + 1, ?_, ⟨rfl, rfl, rfl, rfl, rfl, rfl, rfl, rfl, rfl, rfl, rfl, rfl, rfl, trivial⟩, H, ?_⟩
          · show 2 ^ N - (m + 1) < 2 ^ N - m; omega
          · show m + 1 ≤ 2 ^ N; omega
          -- (backstaylaw17.GuardTells: loopend; chunks B,S,C; ptr )
    · rw [show m = 2 ^ N by omega] at H
      have H := H.swapL
      refine W_seq ?_
      refine W_seq ?_
      refine W_region ?_
      refine ops_v (v_move (v := (.int _ _)) rfl rfl) ?_
      refine ops_v (v_move (v := (.int _ _)) rfl rfl) ?_
      refine ops_v (v_shl ((2 ^ N : Nat) : Int) rfl rfl rfl (by omega) hsh) ?_
      refine ops_v (v_lss false rfl rfl rfl (decide_eq_false (by first | omega | (simp only; omega) | rfl | decide))) ?_
      refine ops_nil ?_
      refine W_if_f rfl ?_
      refine W_exit ?_
      refine W_seq ?_
      refine W_region ?_
      refine ops_v (v_move (v := (.pointer _)) rfl rfl) ?_
      refine ops_v (v_move (v := (.int _ _)) rfl rfl) ?_
      refine ops_call rfl c16 (Asks_ok m4.wf m4.six tx4.here hT H) ?_
      clear H; rintro _ w ⟨q3, k3, rfl, H⟩
      refine ops_v (v_assign (v := (.slice _ _ _)) rfl rfl) ?_
      refine ops_nil ?_
      refine W_seq ?_
      refine W_region ?_
      refine ops_v (v_assign (v := _) rfl rfl) ?_
      refine ops_nil ?_
      refine W_seq ?_
      refine W_seq ?_
      refine W_region ?_
      refine ops_v (v_assign (v := _) rfl rfl) ?_
      refine ops_nil ?_
      refine W_block ?_
      -- (backstaylaw17.GuardTells: loop; chunks q,S,B,C; ptr )
      obtain ⟨gg, hgg⟩ : ∃ gg : Nat → Bool, gg = M.askF g' (2 ^ N) := ⟨_, rfl⟩
      have hA : asksL s4 x = ((List.range N).filter gg).map fun z : Nat => (z : Int) := by
        have := asksL_eq m4.wf m4.six tx4.here gg fun j hj => by rw [hgg]; have := M.askF_hang tx4 hj; rwa [hl4] at this
        rwa [hl4] at this
      have hLen : (asksL s4 x).length = M.cnt gg N := by rw [hA, List.length_map]; rfl
      refine W_loopS (fun (i : Nat) => [(4, int any'), (11, .bool true), (12, int N), (13, ptr p), (15, int x), (16, .int .i64 (k : Int)), (17, xptr (some c)), (26, .slice (some ⟨ab, 0, none⟩) N N), (31, .slice q3 (asksL s4 x).length k3), (32, .int .i64 (M.cnt gg i : Nat)), (33, .int .i64 i)])
        (fun i w => Own wb (SlC q3 (asksL s4 x).length k3 3 1 (ints (asksL s4 x)) :: StoreC p s4 :: Blk ab (bools (M.marks g' N (2 ^ N) 0)) 4 :: CacheX opF (some c) s4 :: R) w ∧ i ≤ N)
        (fun i => N - i) 0 ⟨rfl, rfl, rfl, rfl, rfl, rfl, rfl, rfl, rfl, rfl, rfl, trivial⟩ ⟨H, Nat.zero_le _⟩ ?_
      clear H
      rintro i e w ⟨H, hile⟩
      by_cases hil : (i : Int) < (N : Int)
      · have hin : i < N := by omega
        have hget := M.marks_get g' (m := 2 ^ N) (j := 0) hin
        rw [if_neg (Nat.not_lt_zero i), ← hgg] at hget
        have hsc := M.cnt_succ gg i
        cases hgi : gg i with
        | true =>
          rw [hgi] at hget hsc
          have hcl := M.cnt_lt gg hin hgi
          have h6a := asksL_len (s := s4) (id := x)
          rw [hLen] at h6a
          obtain ⟨g3, rfl⟩ := H.slSome 0 rfl (by omega)
          have hqi : (ints (asksL s4 x))[0 + ((M.cnt gg i : Nat) : Int).toNat * 1]? = some (.int .i64 (i : Int)) := by
            rw [Nat.zero_add, Nat.mul_one, Int.toNat_natCast, hA]
            simp [ints, M.cnt_at gg hin hgi]
          have hc1 : ((M.cnt gg i : Nat) : Int) + 1 = ((M.cnt gg (i + 1) : Nat) : Int) := by rw [hsc, if_pos rfl]; push_cast; rfl
          refine W_seq ?_
          refine W_seq ?_
          refine W_region ?_
          refine ops_v (v_move (v := (.int _ _)) rfl rfl) ?_
          refine ops_v (v_move (v := (.int _ _)) rfl rfl) ?_
          refine ops_v (v_lss true rfl rfl rfl (decide_eq_true (by first | omega | (simp only; omega) | rfl | decide))) ?_
          refine ops_nil ?_
          refine W_if_t rfl ?_
          refine W_skip ?_
          refine W_seq ?_
          refine W_block ?_
          refine W_seq ?_
          refine W_region ?_
          refine ops_v (v_move (v := (.slice _ _ _)) rfl rfl) ?_
          refine ops_v (v_move (v := (.int _ _)) rfl rfl) ?_
          refine ops_v (v_indexAddr_sl rfl se36 rfl rfl (by omega) (by omega)) ?_
          refine ops_load (v := .bool true) 2 H rfl tc4 rfl rfl (bools_get hget) ?_
          refine ops_nil ?_
          refine W_if_t rfl ?_
          refine W_seq ?_
          refine W_seq ?_
          refine W_region ?_
          refine ops_v (v_move (v := (.int _ _)) rfl rfl) ?_
          refine ops_v (v_move (v := (.slice _ _ _)) rfl rfl) ?_
          refine ops_v (v_len rfl sl26 rfl) ?_
          refine ops_v (v_geq false rfl rfl rfl (decide_eq_false (by first | omega | (simp only; omega) | rfl | decide))) ?_
          refine ops_v (v_move (v := (.bool _)) rfl rfl) ?_
          refine ops_v (v_move (v := (.slice _ _ _)) rfl rfl) ?_
          refine ops_v (v_move (v := (.int _ _)) rfl rfl) ?_
          refine ops_v (v_indexAddr_sl rfl se26 rfl rfl (by omega) (by omega)) ?_
          refine ops_loadSl (v := .int .i64 (i : Int)) 0 H rfl tc3 rfl rfl hqi ?_
          refine ops_v (v_move (v := (.int _ _)) rfl rfl) ?_
          refine ops_v (v_neq false rfl rfl rfl (decide_eq_false (by first | omega | (simp only; omega) | rfl | decide))) ?_
          refine ops_v (v_pick_f (v := (.bool _)) rfl rfl rfl) ?_
          refine ops_nil ?_
          refine W_if_f rfl ?_
          refine W_skip ?_
          refine W_region ?_
          refine ops_v (v_move (v := (.int _ _)) rfl rfl) ?_
          refine ops_v (v_add _ rfl rfl rfl (wrap_in (by omega) (by omega))) ?_
          refine ops_v (v_assign (v := (.int _ _)) rfl rfl) ?_
          refine ops_nil ?_
          refine W_region ?_
          refine ops_v (v_move (v := (.int _ _)) rfl rfl) ?_
          refine ops_v (v_add _ rfl rfl rfl (wrap_in (by omega) (by omega))) ?_
          refine ops_v (v_assign (v := (.int _ _)) rfl rfl) ?_
          refine ops_nil ?_
          refine ⟨i + 1, ?_, ⟨rfl, rfl, rfl, rfl, rfl, rfl, rfl, rfl, rfl, congrArg (Value.int .i64) hc1, rfl, trivial⟩, H, hin⟩
          show N - (i + 1) < N - i; omega
          -- (backstaylaw17.GuardTells: loopend; chunks q,S,B,C; ptr )
        | false =>
          rw [hgi] at hget hsc
          have hc0 : ((M.cnt gg i : Nat) : Int) = ((M.cnt gg (i + 1) : Nat) : Int) := by rw [hsc, if_neg (by decide), Nat.add_zero]
          refine W_seq ?_
          refine W_seq ?_
          refine W_region ?_
          refine ops_v (v_move (v := (.int _ _)) rfl rfl) ?_
          refine ops_v (v_move (v := (.int _ _)) rfl rfl) ?_
          refine ops_v (v_lss true rfl rfl rfl (decide_eq_true (by first | omega | (simp only; omega) | rfl | decide))) ?_
          refine ops_nil ?_
          refine W_if_t rfl ?_
          refine W_skip ?_
          refine W_seq ?_
          refine W_block ?_
          refine W_seq ?_
          refine W_region ?_
          refine ops_v (v_move (v := (.slice _ _ _)) rfl rfl) ?_
          refine ops_v (v_move (v := (.int _ _)) rfl rfl) ?_
          refine ops_v (v_indexAddr_sl rfl se36 rfl rfl (by omega) (by omega)) ?_
          refine ops_load (v := .bool false) 2 H rfl tc4 rfl rfl (bools_get hget) ?_
          refine ops_nil ?_
          refine W_if_f rfl ?_
          refine W_skip ?_
          refine W_region ?_
          refine ops_v (v_move (v := (.int _ _)) rfl rfl) ?_
          refine ops_v (v_add _ rfl rfl rfl (wrap_in (by omega) (by omega))) ?_
          refine ops_v (v_assign (v := (.int _ _)) rfl rfl) ?_
          refine ops_nil ?_
          refine ⟨i + 1, ?_, ⟨rfl, rfl, rfl, rfl, rfl, rfl, rfl, rfl, rfl, congrArg (Value.int .i64) hc0, rfl, trivial⟩, H, hin⟩
          show N - (i + 1) < N - i; omega
          -- (backstaylaw17.GuardTells: loopend; chunks q,S,B,C; ptr )
      · have hcn : ((M.cnt gg i : Nat) : Int) = ((asksL s4 x).length : Int) := by rw [show i = N by omega, hLen]
        have H := H.tail.swapL.tail
        have plo := M.pick_lo (c := any') (n := 9) (by decide)
        have phi := M.pick_hi (c := any') (n := 9) (by decide)
        have hbid : ∀ s : St, isN s (-1 - M.pick any' 9) = false := fun s => M.bad_id (.inr (by omega))
        by_cases any0 : 0 ≤ any'
        · by_cases anyN : any' < (N : Int)
          · obtain ⟨A, rfl⟩ : ∃ A : Nat, any' = A := ⟨any'.toNat, by omega⟩
            refine W_seq ?_
            refine W_seq ?_
            refine W_region ?_
            refine ops_v (v_move (v := (.int _ _)) rfl rfl) ?_
            refine ops_v (v_move (v := (.int _ _)) rfl rfl) ?_
            refine ops_v (v_lss false rfl rfl rfl (decide_eq_false (by first | omega | (simp only; omega) | rfl | decide))) ?_
            refine ops_nil ?_
            refine W_if_f rfl ?_
            refine W_exit ?_
            refine W_seq ?_
            refine W_region ?_
            refine ops_v (v_move (v := (.pointer _)) rfl rfl) ?_
            refine ops_v (v_move (v := (.int _ _)) rfl rfl) ?_
            refine ops_call rfl c11 (Fails_room m4 (by decide) (by omega) H) ?_
            clear H; rintro _ w ⟨s5, a5, rfl, e5, m5, ta5, H⟩
            have l5 := e5.links
            have tx5 := tx4.ext m4.wf e5 m5.wf
            have H := H.mapAt 1 rfl (fun _ H => H.cacheExt m4.wf e5 m5.wf)
            refine ops_v (v_move (v := (.tuple _)) rfl rfl) ?_
            refine ops_v (v_extract (v := (.int _ _)) rfl rfl rfl) ?_
            refine ops_v (v_extract (v := (.int _ _)) rfl rfl rfl) ?_
            refine ops_v (v_assign (v := (.int _ _)) rfl rfl) ?_
            refine ops_v (v_assign (v := (.int _ _)) rfl rfl) ?_
            refine ops_nil ?_
            refine W_seq ?_
            refine W_region ?_
            refine ops_v (v_move (v := (.pointer _)) rfl rfl) ?_
            refine ops_v (v_move (v := (.pointer _)) rfl rfl) ?_
            refine ops_v (v_move (v := (.int _ _)) rfl rfl) ?_
            refine ops_v (v_move (v := (.int _ _)) rfl rfl) ?_
            refine ops_call rfl c12 (Gate_room (o := some c) m5 (by decide) (by omega) tx5 H) ?_
            clear H; rintro _ w ⟨s6, b6, rfl, e6, m6, tb6, H⟩
            have l6 := e6.links
            have tx6 := tx5.ext m5.wf e6 m6.wf
            refine ops_v (v_move (v := (.tuple _)) rfl rfl) ?_
            refine ops_v (v_extract (v := (.int _ _)) rfl rfl rfl) ?_
            refine ops_v (v_extract (v := (.int _ _)) rfl rfl rfl) ?_
            refine ops_v (v_assign (v := (.int _ _)) rfl rfl) ?_
            refine ops_v (v_assign (v := (.int _ _)) rfl rfl) ?_
            refine ops_nil ?_
            refine W_seq ?_
            refine W_region ?_
            refine ops_v (v_move (v := (.pointer _)) rfl rfl) ?_
            refine ops_v (v_move (v := (.pointer _)) rfl rfl) ?_
            refine ops_v (v_move (v := (.int _ _)) rfl rfl) ?_
            refine ops_v (v_move (v := (.int _ _)) rfl rfl) ?_
            refine ops_call rfl c13 (Fix_room (o := some c) m6 (by decide) (by omega) tx6 H) ?_
            clear H; rintro _ w ⟨s7, d7, rfl, e7, m7, td7, H⟩
            have l7 := e7.links
            refine ops_v (v_move (v := (.tuple _)) rfl rfl) ?_
            refine ops_v (v_extract (v := (.int _ _)) rfl rfl rfl) ?_
            refine ops_v (v_extract (v := (.int _ _)) rfl rfl rfl) ?_
            refine ops_v (v_assign (v := (.int _ _)) rfl rfl) ?_
            refine ops_v (v_assign (v := (.int _ _)) rfl rfl) ?_
            refine ops_nil ?_
            refine W_seq ?_
            refine W_region ?_
            refine ops_v (v_move (v := (.pointer _)) rfl rfl) ?_
            refine ops_v (v_move (v := (.pointer _)) rfl rfl) ?_
            refine ops_v (v_move (v := (.int _ _)) rfl rfl) ?_
            refine ops_v (v_move (v := (.int _ _)) rfl rfl) ?_
            refine ops_call rfl c8 (pick17_ok H A 9 i4 (by decide)) ?_
            clear H; rintro _ w ⟨rfl, H⟩
            refine ops_v (v_sub _ rfl rfl rfl (wrap_in (by omega) (by omega))) ?_
            refine ops_call rfl c12 (Gate_bad (o := some c) (by rw [hbid]; rfl) H) ?_
            clear H; rintro _ w ⟨rfl, H⟩
            refine ops_v (v_move (v := (.tuple _)) rfl rfl) ?_
            refine ops_v (v_extract (v := (.int _ _)) rfl rfl rfl) ?_
            refine ops_v (v_extract (v := (.int _ _)) rfl rfl rfl) ?_
            refine ops_v (v_assign (v := (.int _ _)) rfl rfl) ?_
            refine ops_v (v_assign (v := (.int _ _)) rfl rfl) ?_
            refine ops_nil ?_
            refine W_seq ?_
            refine W_region ?_
            refine ops_v (v_move (v := (.int _ _)) rfl rfl) ?_
            refine ops_v (v_geq true rfl rfl rfl (decide_eq_true (by first | omega | (simp only; omega) | rfl | decide))) ?_
            refine ops_v (v_move (v := (.bool _)) rfl rfl) ?_
            refine ops_v (v_move (v := (.int _ _)) rfl rfl) ?_
            refine ops_v (v_move (v := (.int _ _)) rfl rfl) ?_
            refine ops_v (v_lss true rfl rfl rfl (decide_eq_true (by first | omega | (simp only; omega) | rfl | decide))) ?_
            refine ops_v (v_pick_t (v := (.bool _)) rfl rfl rfl) ?_
            refine ops_v (v_assign (v := (.bool _)) rfl rfl) ?_
            refine ops_nil ?_
            refine W_seq ?_
            refine W_region ?_
            refine ops_v (v_move (v := (.int _ _)) rfl rfl) ?_
            refine ops_v (v_move (v := (.slice _ _ _)) rfl rfl) ?_
            refine ops_v (v_len rfl sl26 rfl) ?_
            refine ops_v (v_eql true rfl rfl rfl (decide_eq_true (by first | omega | (simp only; omega) | rfl | decide))) ?_
            refine ops_v (v_move (v := (.bool _)) rfl rfl) ?_
            refine ops_v (v_move (v := (.int _ _)) rfl rfl) ?_
            refine ops_v (v_eql _ rfl rfl rfl rfl) ?_
            refine ops_v (v_move (v := (.bool _)) rfl rfl) ?_
            refine ops_v (v_eql_bool _ rfl ib4 rfl rfl rfl) ?_
            refine ops_v (v_pick_t (v := (.bool _)) rfl rfl rfl) ?_
            refine ops_v (v_move (v := (.bool _)) rfl rfl) ?_
            refine ops_v (v_move (v := (.int _ _)) rfl rfl) ?_
            refine ops_v (v_eql _ rfl rfl rfl rfl) ?_
            refine ops_v (v_move (v := (.bool _)) rfl rfl) ?_
            refine ops_v (v_eql_bool _ rfl ib4 rfl rfl rfl) ?_
            refine ops_v (v_pick_t (v := (.bool _)) rfl rfl rfl) ?_
            refine ops_v (v_move (v := (.bool _)) rfl rfl) ?_
            refine ops_v (v_move (v := (.int _ _)) rfl rfl) ?_
            refine ops_v (v_eql _ rfl rfl rfl rfl) ?_
            refine ops_v (v_move (v := (.bool _)) rfl rfl) ?_
            refine ops_v (v_eql_bool _ rfl ib4 rfl rfl rfl) ?_
            refine ops_v (v_pick_t (v := (.bool _)) rfl rfl rfl) ?_
            refine ops_v (v_move (v := (.bool _)) rfl rfl) ?_
            refine ops_v (v_move (v := (.int _ _)) rfl rfl) ?_
            refine ops_v (v_eql _ rfl rfl rfl rfl) ?_
            refine ops_v (v_pick_t (v := (.bool _)) rfl rfl rfl) ?_
            refine ops_v (v_assign (v := (.bool _)) rfl rfl) ?_
            refine ops_nil ?_
            refine W_ret ?_
            refine ⟨_, (.tmp (v := (.bool _)) rfl .nil), ?_⟩
            exact ⟨rfl, _, H⟩
            -- (backstaylaw17.GuardTells: ret; chunks S,C; ptr )
          · have hbad : (isN s4 x && decide (0 ≤ any') && decide (any' < (s4.links : Int))) = false := by rw [decide_eq_false (show ¬ (any' < (s4.links : Int)) by omega), Bool.and_false]
            refine W_seq ?_
            refine W_seq ?_
            refine W_region ?_
            refine ops_v (v_move (v := (.int _ _)) rfl rfl) ?_
            refine ops_v (v_move (v := (.int _ _)) rfl rfl) ?_
            refine ops_v (v_lss false rfl rfl rfl (decide_eq_false (by first | omega | (simp only; omega) | rfl | decide))) ?_
            refine ops_nil ?_
            refine W_if_f rfl ?_
            refine W_exit ?_
            refine W_seq ?_
            refine W_region ?_
            refine ops_v (v_move (v := (.pointer _)) rfl rfl) ?_
            refine ops_v (v_move (v := (.int _ _)) rfl rfl) ?_
            refine ops_call rfl c11 (Fails_bad (.inr (by omega)) H) ?_
            clear H; rintro _ w ⟨rfl, H⟩
            refine ops_v (v_move (v := (.tuple _)) rfl rfl) ?_
            refine ops_v (v_extract (v := (.int _ _)) rfl rfl rfl) ?_
            refine ops_v (v_extract (v := (.int _ _)) rfl rfl rfl) ?_
            refine ops_v (v_assign (v := (.int _ _)) rfl rfl) ?_
            refine ops_v (v_assign (v := (.int _ _)) rfl rfl) ?_
            refine ops_nil ?_
            refine W_seq ?_
            refine W_region ?_
            refine ops_v (v_move (v := (.pointer _)) rfl rfl) ?_
            refine ops_v (v_move (v := (.pointer _)) rfl rfl) ?_
            refine ops_v (v_move (v := (.int _ _)) rfl rfl) ?_
            refine ops_v (v_move (v := (.int _ _)) rfl rfl) ?_
            refine ops_call rfl c12 (Gate_bad (o := some c) hbad H) ?_
            clear H; rintro _ w ⟨rfl, H⟩
            refine ops_v (v_move (v := (.tuple _)) rfl rfl) ?_
            refine ops_v (v_extract (v := (.int _ _)) rfl rfl rfl) ?_
            refine ops_v (v_extract (v := (.int _ _)) rfl rfl rfl) ?_
            refine ops_v (v_assign (v := (.int _ _)) rfl rfl) ?_
            refine ops_v (v_assign (v := (.int _ _)) rfl rfl) ?_
            refine ops_nil ?_
            refine W_seq ?_
            refine W_region ?_
            refine ops_v (v_move (v := (.pointer _)) rfl rfl) ?_
            refine ops_v (v_move (v := (.pointer _)) rfl rfl) ?_
            refine ops_v (v_move (v := (.int _ _)) rfl rfl) ?_
            refine ops_v (v_move (v := (.int _ _)) rfl rfl) ?_
            refine ops_call rfl c13 (Fix_bad (o := some c) hbad H) ?_
            clear H; rintro _ w ⟨rfl, H⟩
            refine ops_v (v_move (v := (.tuple _)) rfl rfl) ?_
            refine ops_v (v_extract (v := (.int _ _)) rfl rfl rfl) ?_
            refine ops_v (v_extract (v := (.int _ _)) rfl rfl rfl) ?_
            refine ops_v (v_assign (v := (.int _ _)) rfl rfl) ?_
            refine ops_v (v_assign (v := (.int _ _)) rfl rfl) ?_
            refine ops_nil ?_
            refine W_seq ?_
            refine W_region ?_
            refine ops_v (v_move (v := (.pointer _)) rfl rfl) ?_
            refine ops_v (v_move (v := (.pointer _)) rfl rfl) ?_
            refine ops_v (v_move (v := (.int _ _)) rfl rfl) ?_
            refine ops_v (v_move (v := (.int _ _)) rfl rfl) ?_
            refine ops_call rfl c8 (pick17_ok H any' 9 i4 (by decide)) ?_
            clear H; rintro _ w ⟨rfl, H⟩
            refine ops_v (v_sub _ rfl rfl rfl (wrap_in (by omega) (by omega))) ?_
            refine ops_call rfl c12 (Gate_bad (o := some c) (by rw [hbid]; rfl) H) ?_
            clear H; rintro _ w ⟨rfl, H⟩
            refine ops_v (v_move (v := (.tuple _)) rfl rfl) ?_
            refine ops_v (v_extract (v := (.int _ _)) rfl rfl rfl) ?_
            refine ops_v (v_extract (v := (.int _ _)) rfl rfl rfl) ?_
            refine ops_v (v_assign (v := (.int _ _)) rfl rfl) ?_
            refine ops_v (v_assign (v := (.int _ _)) rfl rfl) ?_
            refine ops_nil ?_
            refine W_seq ?_
            refine W_region ?_
            refine ops_v (v_move (v := (.int _ _)) rfl rfl) ?_
            refine ops_v (v_geq true rfl rfl rfl (decide_eq_true (by first | omega | (simp only; omega) | rfl | decide))) ?_
            refine ops_v (v_move (v := (.bool _)) rfl rfl) ?_
            refine ops_v (v_move (v := (.int _ _)) rfl rfl) ?_
            refine ops_v (v_move (v := (.int _ _)) rfl rfl) ?_
            refine ops_v (v_lss false rfl rfl rfl (decide_eq_false (by first | omega | (simp only; omega) | rfl | decide))) ?_
            refine ops_v (v_pick_t (v := (.bool _)) rfl rfl rfl) ?_
            refine ops_v (v_assign (v := (.bool _)) rfl rfl) ?_
            refine ops_nil ?_
            refine W_seq ?_
            refine W_region ?_
            refine ops_v (v_move (v := (.int _ _)) rfl rfl) ?_
            refine ops_v (v_move (v := (.slice _ _ _)) rfl rfl) ?_
            refine ops_v (v_len rfl sl26 rfl) ?_
            refine ops_v (v_eql true rfl rfl rfl (decide_eq_true (by first | omega | (simp only; omega) | rfl | decide))) ?_
            refine ops_v (v_move (v := (.bool _)) rfl rfl) ?_
            refine ops_v (v_move (v := (.int _ _)) rfl rfl) ?_
            refine ops_v (v_eql _ rfl rfl rfl rfl) ?_
            refine ops_v (v_move (v := (.bool _)) rfl rfl) ?_
            refine ops_v (v_eql_bool _ rfl ib4 rfl rfl rfl) ?_
            refine ops_v (v_pick_t (v := (.bool _)) rfl rfl rfl) ?_
            refine ops_v (v_move (v := (.bool _)) rfl rfl) ?_
            refine ops_v (v_move (v := (.int _ _)) rfl rfl) ?_
            refine ops_v (v_eql _ rfl rfl rfl rfl) ?_
            refine ops_v (v_move (v := (.bool _)) rfl rfl) ?_
            refine ops_v (v_eql_bool _ rfl ib4 rfl rfl rfl) ?_
            refine ops_v (v_pick_t (v := (.bool _)) rfl rfl rfl) ?_
            refine ops_v (v_move (v := (.bool _)) rfl rfl) ?_
            refine ops_v (v_move (v := (.int _ _)) rfl rfl) ?_
            refine ops_v (v_eql _ rfl rfl rfl rfl) ?_
            refine ops_v (v_move (v := (.bool _)) rfl rfl) ?_
            refine ops_v (v_eql_bool _ rfl ib4 rfl rfl rfl) ?_
            refine ops_v (v_pick_t (v := (.bool _)) rfl rfl rfl) ?_
            refine ops_v (v_move (v := (.bool _)) rfl rfl) ?_
            refine ops_v (v_move (v := (.int _ _)) rfl rfl) ?_
            refine ops_v (v_eql _ rfl rfl rfl rfl) ?_
            refine ops_v (v_pick_t (v := (.bool _)) rfl rfl rfl) ?_
            refine ops_v (v_assign (v := (.bool _)) rfl rfl) ?_
            refine ops_nil ?_
            refine W_ret ?_
            refine ⟨_, (.tmp (v := (.bool _)) rfl .nil), ?_⟩
            exact ⟨rfl, _, H⟩
            -- (backstaylaw17.GuardTells: ret; chunks S,C; ptr )
        · have hbad : (isN s4 x && decide (0 ≤ any') && decide (any' < (s4.links : Int))) = false := by rw [decide_eq_false (show ¬ (0 ≤ any') by omega), Bool.and_false, Bool.false_and]
          refine W_seq ?_
          refine W_seq ?_
          refine W_region ?_
          refine ops_v (v_move (v := (.int _ _)) rfl rfl) ?_
          refine ops_v (v_move (v := (.int _ _)) rfl rfl) ?_
          refine ops_v (v_lss false rfl rfl rfl (decide_eq_false (by first | omega | (simp only; omega) | rfl | decide))) ?_
          refine ops_nil ?_
          refine W_if_f rfl ?_
          refine W_exit ?_
          refine W_seq ?_
          refine W_region ?_
          refine ops_v (v_move (v := (.pointer _)) rfl rfl) ?_
          refine ops_v (v_move (v := (.int _ _)) rfl rfl) ?_
          refine ops_call rfl c11 (Fails_bad (.inl (by omega)) H) ?_
          clear H; rintro _ w ⟨rfl, H⟩
          refine ops_v (v_move (v := (.tuple _)) rfl rfl) ?_
          refine ops_v (v_extract (v := (.int _ _)) rfl rfl rfl) ?_
          refine ops_v (v_extract (v := (.int _ _)) rfl rfl rfl) ?_
          refine ops_v (v_assign (v := (.int _ _)) rfl rfl) ?_
          refine ops_v (v_assign (v := (.int _ _)) rfl rfl) ?_
          refine ops_nil ?_
          refine W_seq ?_
          refine W_region ?_
          refine ops_v (v_move (v := (.pointer _)) rfl rfl) ?_
          refine ops_v (v_move (v := (.pointer _)) rfl rfl) ?_
          refine ops_v (v_move (v := (.int _ _)) rfl rfl) ?_
          refine ops_v (v_move (v := (.int _ _)) rfl rfl) ?_
          refine ops_call rfl c12 (Gate_bad (o := some c) hbad H) ?_
          clear H; rintro _ w ⟨rfl, H⟩
          refine ops_v (v_move (v := (.tuple _)) rfl rfl) ?_
          refine ops_v (v_extract (v := (.int _ _)) rfl rfl rfl) ?_
          refine ops_v (v_extract (v := (.int _ _)) rfl rfl rfl) ?_
          refine ops_v (v_assign (v := (.int _ _)) rfl rfl) ?_
          refine ops_v (v_assign (v := (.int _ _)) rfl rfl) ?_
          refine ops_nil ?_
          refine W_seq ?_
          refine W_region ?_
          refine ops_v (v_move (v := (.pointer _)) rfl rfl) ?_
          refine ops_v (v_move (v := (.pointer _)) rfl rfl) ?_
          refine ops_v (v_move (v := (.int _ _)) rfl rfl) ?_
          refine ops_v (v_move (v := (.int _ _)) rfl rfl) ?_
          refine ops_call rfl c13 (Fix_bad (o := some c) hbad H) ?_
          clear H; rintro _ w ⟨rfl, H⟩
          refine ops_v (v_move (v := (.tuple _)) rfl rfl) ?_
          refine ops_v (v_extract (v := (.int _ _)) rfl rfl rfl) ?_
          refine ops_v (v_extract (v := (.int _ _)) rfl rfl rfl) ?_
          refine ops_v (v_assign (v := (.int _ _)) rfl rfl) ?_
          refine ops_v (v_assign (v := (.int _ _)) rfl rfl) ?_
          refine ops_nil ?_
          refine W_seq ?_
          refine W_region ?_
          refine ops_v (v_move (v := (.pointer _)) rfl rfl) ?_
          refine ops_v (v_move (v := (.pointer _)) rfl rfl) ?_
          refine ops_v (v_move (v := (.int _ _)) rfl rfl) ?_
          refine ops_v (v_move (v := (.int _ _)) rfl rfl) ?_
          refine ops_call rfl c8 (pick17_ok H any' 9 i4 (by decide)) ?_
          clear H; rintro _ w ⟨rfl, H⟩
          refine ops_v (v_sub _ rfl rfl rfl (wrap_in (by omega) (by omega))) ?_
          refine ops_call rfl c12 (Gate_bad (o := some c) (by rw [hbid]; rfl) H) ?_
          clear H; rintro _ w ⟨rfl, H⟩
          refine ops_v (v_move (v := (.tuple _)) rfl rfl) ?_
          refine ops_v (v_extract (v := (.int _ _)) rfl rfl rfl) ?_
          refine ops_v (v_extract (v := (.int _ _)) rfl rfl rfl) ?_
          refine ops_v (v_assign (v := (.int _ _)) rfl rfl) ?_
          refine ops_v (v_assign (v := (.int _ _)) rfl rfl) ?_
          refine ops_nil ?_
          refine W_seq ?_
          refine W_region ?_
          refine ops_v (v_move (v := (.int _ _)) rfl rfl) ?_
          refine ops_v (v_geq false rfl rfl rfl (decide_eq_false (by first | omega | (simp only; omega) | rfl | decide))) ?_
          refine ops_v (v_move (v := (.bool _)) rfl rfl) ?_
          refine ops_skip rfl rfl ?_
          refine ops_skip rfl rfl ?_
          refine ops_skip rfl rfl ?_
          refine ops_v (v_pick_f (v := (.bool _)) rfl rfl rfl) ?_
          refine ops_v (v_assign (v := (.bool _)) rfl rfl) ?_
          refine ops_nil ?_
          refine W_seq ?_
          refine W_region ?_
          refine ops_v (v_move (v := (.int _ _)) rfl rfl) ?_
          refine ops_v (v_move (v := (.slice _ _ _)) rfl rfl) ?_
          refine ops_v (v_len rfl sl26 rfl) ?_
          refine ops_v (v_eql true rfl rfl rfl (decide_eq_true (by first | omega | (simp only; omega) | rfl | decide))) ?_
          refine ops_v (v_move (v := (.bool _)) rfl rfl) ?_
          refine ops_v (v_move (v := (.int _ _)) rfl rfl) ?_
          refine ops_v (v_eql _ rfl rfl rfl rfl) ?_
          refine ops_v (v_move (v := (.bool _)) rfl rfl) ?_
          refine ops_v (v_eql_bool _ rfl ib4 rfl rfl rfl) ?_
          refine ops_v (v_pick_t (v := (.bool _)) rfl rfl rfl) ?_
          refine ops_v (v_move (v := (.bool _)) rfl rfl) ?_
          refine ops_v (v_move (v := (.int _ _)) rfl rfl) ?_
          refine ops_v (v_eql _ rfl rfl rfl rfl) ?_
          refine ops_v (v_move (v := (.bool _)) rfl rfl) ?_
          refine ops_v (v_eql_bool _ rfl ib4 rfl rfl rfl) ?_
          refine ops_v (v_pick_t (v := (.bool _)) rfl rfl rfl) ?_
          refine ops_v (v_move (v := (.bool _)) rfl rfl) ?_
          refine ops_v (v_move (v := (.int _ _)) rfl rfl) ?_
          refine ops_v (v_eql _ rfl rfl rfl rfl) ?_
          refine ops_v (v_move (v := (.bool _)) rfl rfl) ?_
          refine ops_v (v_eql_bool _ rfl ib4 rfl rfl rfl) ?_
          refine ops_v (v_pick_t (v := (.bool _)) rfl rfl rfl) ?_
          refine ops_v (v_move (v := (.bool _)) rfl rfl) ?_
          refine ops_v (v_move (v := (.int _ _)) rfl rfl) ?_
          refine ops_v (v_eql _ rfl rfl rfl rfl) ?_
          refine ops_v (v_pick_t (v := (.bool _)) rfl rfl rfl) ?_
          refine ops_v (v_assign (v := (.bool _)) rfl rfl) ?_
          refine ops_nil ?_
          refine W_ret ?_
          refine ⟨_, (.tmp (v := (.bool _)) rfl .nil), ?_⟩
          exact ⟨rfl, _, H⟩
          -- (backstaylaw17.GuardTells: ret; chunks S,C; ptr )
theorem guardTells_walk (W : World) (hT : Tab W) (links : Int) (i1 : i64 links) (v : Value) (l : List R4) (hr : RawIs W v l) (a : Int) (i2 : i64 a) (link : Int) (i3 : i64 link) (any : Int) (i4 : i64 any) :
    FnC Tryd.prog 3 [int links, v, int a, int link, int any] W (fun v w' => v = .bool true ∧ Base W w') :=
  (law_ok hT (Own.start W) links a link any i1 i2 i3 i4 v l hr).mono (fun _ _ ⟨a, _, H⟩ => ⟨a, H.base⟩)
end Go.Proofs.YtchikjmhncojfaaDoor.W
namespace Go.Proofs.YtchikjmhncojfaaDoor.guardTells
open Go Go.Proofs Go.RowKit Go.ChangeShapes Go.WideShapes Go.ChangeAt Go.WideMaps Go.WideElems
open Go.Proofs.YtchikjmhncojfaaDoor.W (Tab RawIs Base FnC raw_of_trod laidOut guardTells_walk)
open Go.Proofs.YtchikjmhncojfaaDoor.M (R4 i64)
theorem walk (W : World) (hT : Tab W) (links : Int) (i1 : i64 links) (v : Value) (l : List R4) (hr : RawIs W v l) (a : Int) (i2 : i64 a) (link : Int) (i3 : i64 link) (any : Int) (i4 : i64 any) :
    FnC Tryd.prog 3 [.int .i64 links, v, .int .i64 a, .int .i64 link, .int .i64 any] W (fun v w' => v = .bool true ∧ Base W w') :=
  guardTells_walk W hT links i1 v l hr a i2 link i3 any i4
set_option maxRecDepth 100000 in
theorem lifted (os : Os) (started : os.Started) (H : Type) (enc : TypeId × Value → H) :
    ReturnsInHanded {} Tryd.checked os 3 .any (fun w args => (Rows.guardTellsSpec.pre enc Tryd.prog Tryd.f3 [] false w args ∧ laidMetH Tryd.prog DF.laidL w) ∧ sizedMet enc Tryd.prog Tryd.f3 (OpenSpec.ofChange Rows.guardTellsSpec) false w args) (Rows.guardTellsSpec.post enc Tryd.prog Tryd.f3 false true false false) := by
  refine returnsInHanded_of_change_and (C := Tryd.checked) (X := fun w _ => laidMetH Tryd.prog DF.laidL w) (fun _ _ _ hh h => h.of_heap hh) DF.own started (by kernel_rfl) Tryd.func3
    (ChangeSpec.witness_shaped (enc := enc) (C := Tryd.checked) (os := os) (X := fun w _ => laidMetH Tryd.prog DF.laidL w) false (World.doorLaid Tryd.prog 400 os) #[.int .i64 0, .slice none 0 0, .int .i64 0, .int .i64 0, .int .i64 0] 8 rfl (World.shaped_of_RefB (by kernel_rfl) (by kernel_rfl)) (by kernel_rfl) (by kernel_rfl) (by kernel_rfl) (DF.door_met os _)) ?_
  intro W base args ds gs before hval0 hW _ _ hL _
  have hval : ∀ (j : Nat) t v, Tryd.f3.params[j]? = some t → args[j]? = some v → Value.okWide Tryd.prog W .any base t v := hval0
  have hW' := hW
  obtain ⟨p, q, hA0, hV, rfl, hfz, hnd⟩ := hW
  have hA : DataW.TrodAll enc Tryd.prog W 0 (fun _ => true) true Tryd.f3.params.toList args.toList ds p := hA0
  rw [Tryd.params3] at hA hval
  obtain ⟨v0, vs0, d0, ds0, p0, q0, hargs, rfl, rfl, h0, r0⟩ := trodAll_cons hA
  obtain ⟨v1, vs1, d1, ds1, p1, q1, rfl, rfl, rfl, h1, r1⟩ := trodAll_cons r0
  obtain ⟨v2, vs2, d2, ds2, p2, q2, rfl, rfl, rfl, h2, r2⟩ := trodAll_cons r1
  obtain ⟨v3, vs3, d3, ds3, p3, q3, rfl, rfl, rfl, h3, r3⟩ := trodAll_cons r2
  obtain ⟨v4, vs4, d4, ds4, p4, q4, rfl, rfl, rfl, h4, r4⟩ := trodAll_cons r3
  obtain ⟨rfl, rfl, rfl⟩ := trodAll_nil r4
  obtain rfl : args = #[v0, v1, v2, v3, v4] := by cases args; simp_all
  obtain ⟨rfl, rfl⟩ := trodVars_none hV
  obtain ⟨a0, rfl, rfl, rfl, x0⟩ := open_int Tryd.underlying3 (hval 0 3 v0 rfl rfl) h0
  have k1 := h1
  have lt1 : ∀ x ∈ p1, x.block < W.heap.size := by obtain ⟨m, hm⟩ := k1; exact DataW.trod_lt m _ _ _ hm
  obtain ⟨l1, w1⟩ := raw_of_trod h1 (okWide_slice Tryd.underlying22 (hval 1 22 v1 rfl rfl))
  obtain ⟨a2, rfl, rfl, rfl, x2⟩ := open_int Tryd.underlying3 (hval 2 3 v2 rfl rfl) h2
  obtain ⟨a3, rfl, rfl, rfl, x3⟩ := open_int Tryd.underlying3 (hval 3 3 v3 rfl rfl) h3
  obtain ⟨a4, rfl, rfl, rfl, x4⟩ := open_int Tryd.underlying3 (hval 4 3 v4 rfl rfl) h4
  clear hA0 hval0
  refine Calls.mono (walk W (DF.of_laid hL) a0 (bounds_i64 x0) v1 l1 w1 a2 (bounds_i64 x2) a3 (bounds_i64 x3) a4 (bounds_i64 x4)) ?_
  rintro e W' ⟨_, rfl, rfl, hb⟩
  have bel := hb.below
  exact ⟨_, rfl, _, _, _, [], _, [], hW', trodAll_mk1 (shut_bool Tryd.underlying4 _), (trodAll_cons_mk (shut_int Tryd.underlying3 x0) (trodAll_cons_mk (Below.trod laidOut (by kernel_rfl) (of_decide_eq_true (by kernel_rfl)) k1 bel lt1) (trodAll_cons_mk (shut_int Tryd.underlying3 x2) (trodAll_cons_mk (shut_int Tryd.underlying3 x3) (trodAll_cons_mk (shut_int Tryd.underlying3 x4) trodAll_mk0))))), rfl, bel.frame _, fun h => by cases h⟩
theorem closed : joinedFacts Tryd.prog 3 Tryd.f3 Rows.guardTellsSpec Rows.guardTellsRow = true := Go.Proofs.YtchikjmhncojfaaDoor.Head.joined (by kernel_rfl) rfl rfl (by kernel_rfl) (by kernel_rfl) (by kernel_rfl) (by kernel_rfl)
theorem over : Rows.guardTellsRow.holds Tryd.pinned (OpenSpec.ofChange Rows.guardTellsSpec) :=
  OpenClaim.holds_of_wide 3 Tryd.f3 rfl rfl rfl rfl rfl rfl rfl ⟨rfl, rfl, rfl, rfl, rfl⟩ rfl rfl rfl rfl rfl (by kernel_rfl) Tryd.func3 closed
    (of_decide_eq_true (by kernel_rfl)) (by unfold Func.isWrapper; first | (rw [if_pos (by decide +kernel)]; kernel_rfl) | (rw [if_neg (by decide +kernel)]; exact ⟨rfl, rfl⟩))
    (fun os started H enc _ => lifted os started H enc)
/-- The statement: the tied card. -/
theorem proved : Rows.GuardTellsCardSaid :=
  Claim7.holds_tied_plain_at .later [] [.data] true (true, "0a015805a0339d7f5360af527d4db354aee0bd7e296d674c45a3ea2b8f209eb6") false
    over (fun _ h => by cases h) (by kernel_rfl) (fun _ h => by cases h) guardTells_row_tie rfl ⟨rfl, rfl⟩ (by kernel_rfl) rfl
    (fun f fn hf hfn => by
      obtain rfl : f = 3 := Option.some.inj ((show Tryd.prog.funcNamed Tryd.f3.name = some 3 by kernel_rfl).symm.trans hf) |>.symm
      obtain rfl : fn = Tryd.f3 := (Option.some.inj (Tryd.func3.symm.trans hfn)).symm
      exact ⟨by kernel_rfl, fun j t ht => by
        rw [Tryd.params3] at ht
        have hm : t ∈ [3, 22, 3, 3, 3] := by simpa using Array.mem_of_getElem? ht
        have hall : ([3, 22, 3, 3, 3].all fun u => !Tryd.prog.wantsStandIn u) = true := by kernel_rfl
        exact (show Tryd.prog.wantsStandIn t = false by simpa using List.all_eq_true.1 hall t hm)⟩)
    (by kernel_rfl)
end Go.Proofs.YtchikjmhncojfaaDoor.guardTells
