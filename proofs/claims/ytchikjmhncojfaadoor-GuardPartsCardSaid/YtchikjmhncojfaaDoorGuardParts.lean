/- GuardParts of layer 17, by its tied card: the node that tells by Fails what is fixed so and so is the node itself; what is fixed does not ask the link. Conditions: none. -/
import Derived.Test.YtchikjmhncojfaaDoorHangM
import Derived.Test.YtchikjmhncojfaaDoorDoorFrame
import Derived.Test.YtchikjmhncojfaaDoorCards
import Derived.Test.YtchikjmhncojfaaDoorTie
import Derived.SevenTiedAt
import Derived.JoinedOf
import Derived.ProofKit
import Derived.OpenShut
set_option linter.unusedVariables false
namespace Go.Proofs.YtchikjmhncojfaaDoor.W
open Go Go.Proofs Go.RowKit
open Go.Proofs.YtchikjmhncojfaaDoor.M (Br St get getZ isN idx has down Wf rank i64 leafB askB R4 MadeOk Lifts Ext opF tr Tells Room6 turn Hang gateF failsF)
variable {w wb : World} {R : List Chunk}
theorem lenA (s : St) (b d : Int) : (asksL s b).length + (asksL s d).length ≤ maxLen := by have := asksL_len (s := s) (id := b); have := asksL_len (s := s) (id := d); unfold maxLen; omega
theorem lenB (s : St) (b d : Int) : ((asksL s b).length + (asksL s d).length) * 8 ≤ 140737488355328 := by have := asksL_len (s := s) (id := b); have := asksL_len (s := s) (id := d); omega
theorem ints_app (a b : List Int) : ints a ++ ints b = ints (a ++ b) := by simp [ints]
set_option maxRecDepth 8000 in
set_option maxHeartbeats 4000000 in
theorem law_ok (hT : Tab wb) (H : Own wb R w) (links id' link : Int) (i1 : i64 links) (i2 : i64 id') (i3 : i64 link) (v : Value) (l : List R4) (hr : RawIs wb v l) :
    FnC Tryd.prog 6 [int links, v, int id', int link] w (fun u w' => u = .bool true ∧ ∃ R', Own wb R' w') := by
  have lo := M.pick_lo (c := links) (n := 6) (by decide)
  have hi := M.pick_hi (c := links) (n := 6) (by decide)
  obtain ⟨rp, rcap, hv, _⟩ := id hr
  subst hv
  have hadd : IntKind.i64.wrap (1 + M.pick links 6) = 1 + M.pick links 6 := wrap_in (by omega) (by omega)
  generalize hn : 1 + M.pick links 6 = n at hadd
  have lo' : 1 ≤ n := by omega
  have hi' : n ≤ 6 := by omega
  refine FnC_of Tryd.func6 rfl rfl rfl rfl ?_
  refine W_seq ?_
  refine W_region ?_
  refine ops_v (v_assign (v := _) rfl rfl) ?_
  refine ops_nil ?_
  refine W_seq ?_
  refine W_region ?_
  refine ops_call rfl c7 (awake17_ok hT H) ?_
  clear H; rintro _ w ⟨rfl, H⟩
  refine ops_v (v_assign (v := (.bool _)) rfl rfl) ?_
  refine ops_nil ?_
  refine W_seq ?_
  refine W_region ?_
  refine ops_v (v_move (v := (.int _ _)) rfl rfl) ?_
  refine ops_call rfl c8 (pick17_ok H links 6 i1 (by decide)) ?_
  clear H; rintro _ w ⟨rfl, H⟩
  refine ops_v (v_add n rfl rfl rfl (by rw [hn, hadd])) ?_
  refine ops_v (v_assign (v := (.int _ _)) rfl rfl) ?_
  refine ops_nil ?_
  refine W_seq ?_
  refine W_region ?_
  refine ops_v (v_move (v := (.int _ _)) rfl rfl) ?_
  refine ops_v (v_move (v := (.slice _ _ _)) rfl rfl) ?_
  refine ops_call rfl c9 (Made_ok H n (by omega) (by omega) _ l hr) ?_
  clear H; rintro _ w ⟨p, st, q, cap, ids, rfl, hm, H⟩
  refine ops_v (v_move (v := (.tuple _)) rfl rfl) ?_
  refine ops_v (v_extract (v := (.pointer _)) rfl rfl rfl) ?_
  refine ops_v (v_extract (v := (.slice _ _ _)) rfl rfl rfl) ?_
  refine ops_v (v_assign (v := (.pointer _)) rfl rfl) ?_
  refine ops_v (v_assign (v := (.slice _ _ _)) rfl rfl) ?_
  refine ops_nil ?_
  refine W_seq ?_
  refine W_seq ?_
  -- (backstaylaw17.GuardParts: until; chunks s,S; ptr )
  rcases Nat.eq_zero_or_pos ids.length with h0 | h0
  · have h0' : (ids.length : Int) = 0 := by omega
    refine W_region ?_
    refine ops_v (v_move (v := (.slice _ _ _)) rfl rfl) ?_
    refine ops_v (v_len rfl sl26 rfl) ?_
    refine ops_v (v_eql true rfl rfl rfl (decide_eq_true (by first | omega | (simp only; omega) | rfl | decide))) ?_
    refine ops_nil ?_
    refine W_if_t rfl ?_
    refine W_seq ?_
    refine W_region ?_
    refine ops_v (v_move (v := (.bool _)) rfl rfl) ?_
    refine ops_v (v_assign (v := (.bool _)) rfl rfl) ?_
    refine ops_nil ?_
    refine W_ret ?_
    refine ⟨_, (.tmp (v := (.bool _)) rfl .nil), ?_⟩
    exact ⟨rfl, _, H⟩
    -- (backstaylaw17.GuardParts: ret; chunks s,S; ptr )
  · have h0' : (0 : Int) < (ids.length : Int) := by omega
    have h0'' : ¬ ((ids.length : Int) = 0) := by omega
    obtain ⟨g, rfl⟩ := H.slSome 0 rfl h0
    have getI : ∀ c : Int, ∃ a, ids[(M.pick c ids.length).toNat]? = some a := fun c => ⟨ids[(M.pick c ids.length).toNat]'(by have := M.pick_hi (c := c) h0'; have := M.pick_lo (c := c) h0'; omega), by simp⟩
    obtain ⟨x, hx⟩ := getI id'
    have hx' : (ints ids)[0 + (M.pick id' ids.length).toNat * 1]? = some (.int .i64 x) := by rw [Nat.zero_add, Nat.mul_one]; simp [ints, hx]
    have x1' := M.pick_lo (c := id') h0'
    have x2' := M.pick_hi (c := id') h0'
    have tx : Tells st x _ := .of (hm.nodes x (List.mem_of_getElem? hx))
    have hlinks := hm.links
    have m0 : Room6 st 40 := ⟨hm.wf, by omega, hm.most, hm.few⟩
    obtain ⟨N, hN⟩ : ∃ N : Nat, n = N := ⟨n.toNat, by omega⟩
    have hsl : st.links = N := by omega
    have klo := M.pick_lo (c := link) (n := n) (by omega)
    have khi := M.pick_hi (c := link) (n := n) (by omega)
    obtain ⟨k, hk⟩ : ∃ k : Nat, M.pick link n = k := ⟨(M.pick link n).toNat, by omega⟩
    have klt : k < N := by omega
    have tx0 := tx
    refine W_region ?_
    refine ops_v (v_move (v := (.slice _ _ _)) rfl rfl) ?_
    refine ops_v (v_len rfl sl26 rfl) ?_
    refine ops_v (v_eql false rfl rfl rfl (decide_eq_false (by first | omega | (simp only; omega) | rfl | decide))) ?_
    refine ops_nil ?_
    refine W_if_f rfl ?_
    refine W_skip ?_
    refine W_seq ?_
    refine W_region ?_
    refine ops_v (v_move (v := (.slice _ _ _)) rfl rfl) ?_
    refine ops_v (v_move (v := (.int _ _)) rfl rfl) ?_
    refine ops_v (v_move (v := (.slice _ _ _)) rfl rfl) ?_
    refine ops_v (v_len rfl sl26 rfl) ?_
    refine ops_call rfl c8 (pick17_ok H id' ids.length i2 h0') ?_
    clear H; rintro _ w ⟨rfl, H⟩
    refine ops_v (v_indexAddr_sl rfl se26 rfl rfl (by omega) (by omega)) ?_
    refine ops_loadSl (v := .int .i64 x) 0 H rfl tc3 rfl rfl hx' ?_
    refine ops_v (v_assign (v := (.int _ _)) rfl rfl) ?_
    refine ops_nil ?_
    refine W_seq ?_
    refine W_region ?_
    refine ops_v (v_move (v := (.int _ _)) rfl rfl) ?_
    refine ops_v (v_move (v := (.int _ _)) rfl rfl) ?_
    refine ops_call rfl c8 (pick17_ok H link n i3 (by omega)) ?_
    clear H; rintro _ w ⟨rfl, H⟩
    rw [hk]
    have H := H.tail
    refine ops_v (v_assign (v := (.int _ _)) rfl rfl) ?_
    refine ops_nil ?_
    refine W_seq ?_
    refine W_region ?_
    refine ops_call rfl c10 (CNew_ok opF st H) ?_
    clear H; rintro _ w ⟨c, rfl, H⟩
    have H := H.swapL
    refine ops_v (v_assign (v := (.pointer _)) rfl rfl) ?_
    refine ops_nil ?_
    refine W_seq ?_
    refine W_region ?_
    refine ops_v (v_move (v := (.pointer _)) rfl rfl) ?_
    refine ops_v (v_move (v := (.int _ _)) rfl rfl) ?_
    refine ops_call rfl c11 (Fails_room m0 (by decide) (by omega) H) ?_
    clear H; rintro _ w ⟨s1, a, rfl, e1, m1, ta1, H⟩
    have l1 := e1.links
    have tx1 := tx0.ext m0.wf e1 m1.wf
    have H := H.mapAt 1 rfl (fun _ H => H.cacheExt m0.wf e1 m1.wf)
    refine ops_v (v_move (v := (.tuple _)) rfl rfl) ?_
    refine ops_v (v_extract (v := (.int _ _)) rfl rfl rfl) ?_
    refine ops_v (v_extract (v := (.int _ _)) rfl rfl rfl) ?_
    refine ops_v (v_assign (v := (.int _ _)) rfl rfl) ?_
    refine ops_v (v_assign (v := (.int _ _)) rfl rfl) ?_
    refine ops_nil ?_
    refine W_seq ?_
    refine W_region ?_
    refine ops_v (v_move (v := (.pointer _)) rfl rfl) ?_
    refine ops_v (v_move (v := (.pointer _)) rfl rfl) ?_
    refine ops_v (v_move (v := (.int _ _)) rfl rfl) ?_
    refine ops_v (v_move (v := (.int _ _)) rfl rfl) ?_
    refine ops_call rfl c13 (Fix_room (o := some c) m1 (by decide) (by omega) tx1 H) ?_
    clear H; rintro _ w ⟨s2, b, rfl, e2, m2, tb2, H⟩
    have l2 := e2.links
    have tx2 := tx1.ext m1.wf e2 m2.wf
    have ta2 := ta1.ext m1.wf e2 m2.wf
    have H := H.mapAt 1 rfl (fun _ H => H.cacheExt m1.wf e2 m2.wf)
    refine ops_v (v_move (v := (.tuple _)) rfl rfl) ?_
    refine ops_v (v_extract (v := (.int _ _)) rfl rfl rfl) ?_
    refine ops_v (v_extract (v := (.int _ _)) rfl rfl rfl) ?_
    refine ops_v (v_assign (v := (.int _ _)) rfl rfl) ?_
    refine ops_v (v_assign (v := (.int _ _)) rfl rfl) ?_
    refine ops_nil ?_
    refine W_seq ?_
    refine W_region ?_
    refine ops_v (v_move (v := (.pointer _)) rfl rfl) ?_
    refine ops_v (v_move (v := (.int _ _)) rfl rfl) ?_
    refine ops_v (v_move (v := (.int _ _)) rfl rfl) ?_
    refine ops_call rfl c13 (Fix_room (o := none) m2 (by decide) (by omega) tx2 H) ?_
    clear H; rintro _ w ⟨s3, d, rfl, e3, m3, td3, H⟩
    have l3 := e3.links
    have tx3 := tx2.ext m2.wf e3 m3.wf
    have ta3 := ta2.ext m2.wf e3 m3.wf
    have tb3 := tb2.ext m2.wf e3 m3.wf
    have H := H.mapAt 1 rfl (fun _ H => H.cacheExt m2.wf e3 m3.wf)
    have L : Lifts (opF 100) s3 a b d s3 x 0 := .there' m3.wf ta3 tb3 td3 tx3 fun F _ => by rw [M.opF_choose]; exact M.choose_parts (fun F : Nat => M.eval st x F) F k
    refine ops_v (v_move (v := (.tuple _)) rfl rfl) ?_
    refine ops_v (v_extract (v := (.int _ _)) rfl rfl rfl) ?_
    refine ops_v (v_extract (v := (.int _ _)) rfl rfl rfl) ?_
    refine ops_v (v_assign (v := (.int _ _)) rfl rfl) ?_
    refine ops_v (v_assign (v := (.int _ _)) rfl rfl) ?_
    refine ops_nil ?_
    refine W_seq ?_
    refine W_region ?_
    refine ops_v (v_move (v := (.pointer _)) rfl rfl) ?_
    refine ops_v (v_move (v := (.pointer _)) rfl rfl) ?_
    refine ops_v (v_move (v := (.int _ _)) rfl rfl) ?_
    refine ops_v (v_move (v := (.int _ _)) rfl rfl) ?_
    refine ops_v (v_move (v := (.int _ _)) rfl rfl) ?_
    refine ops_call rfl c18 (Choose_ok L m3.wf ta3.here tb3.here td3.here H) ?_
    clear H; rintro _ w ⟨rfl, H⟩
    refine ops_v (v_move (v := (.tuple _)) rfl rfl) ?_
    refine ops_v (v_extract (v := (.int _ _)) rfl rfl rfl) ?_
    refine ops_v (v_extract (v := (.int _ _)) rfl rfl rfl) ?_
    refine ops_v (v_assign (v := (.int _ _)) rfl rfl) ?_
    refine ops_v (v_assign (v := (.int _ _)) rfl rfl) ?_
    refine ops_nil ?_
    refine W_seq ?_
    refine W_region ?_
    refine ops_v (v_move (v := (.pointer _)) rfl rfl) ?_
    refine ops_v (v_move (v := (.int _ _)) rfl rfl) ?_
    refine ops_call rfl c16 (Asks_ok m3.wf m3.six tb3.here hT H) ?_
    clear H; rintro _ w ⟨q1, k1, rfl, H⟩
    have H := H.swapL
    refine ops_v (v_move (v := (.pointer _)) rfl rfl) ?_
    refine ops_v (v_move (v := (.int _ _)) rfl rfl) ?_
    refine ops_call rfl c16 (Asks_ok m3.wf m3.six td3.here hT H) ?_
    clear H; rintro _ w ⟨q2, k2, rfl, H⟩
    refine ops_append2 2 0 H rfl ap26 rfl rfl rfl rfl (ones_ints _) (lenA s3 b d) (lenB s3 b d) ?_
    clear H; intro q3 k3 w H
    rw [ints_app] at H
    refine ops_v (v_assign (v := (.slice _ _ _)) rfl rfl) ?_
    refine ops_nil ?_
    refine W_seq ?_
    refine W_seq ?_
    refine W_region ?_
    refine ops_v (v_assign (v := _) rfl rfl) ?_
    refine ops_nil ?_
    refine W_block ?_
    -- (backstaylaw17.GuardParts: loop; chunks l2,S,l1,C; ptr )
    have hne : ∀ (i : Nat) (y : Int), (asksL s3 b ++ asksL s3 d)[i]? = some y → ¬ y = (k : Int) := by
      intro i y hy
      rcases List.mem_append.1 (List.mem_of_getElem? hy) with h | h
      · obtain ⟨j, rfl, _, hh⟩ := asksL_mem m3.wf m3.six tb3.here y h
        have := (M.fix_hang tx3 tb3 (by omega) hh).1
        omega
      · obtain ⟨j, rfl, _, hh⟩ := asksL_mem m3.wf m3.six td3.here y h
        have := (M.fix_hang tx3 td3 (by omega) hh).1
        omega
    have hlen : (asksL s3 b ++ asksL s3 d).length = (asksL s3 b).length + (asksL s3 d).length := List.length_append
    have hm12 : (asksL s3 b).length + (asksL s3 d).length ≤ 12 := by have := asksL_len (s := s3) (id := b); have := asksL_len (s := s3) (id := d); omega
    generalize asksL s3 b ++ asksL s3 d = Q at hne hlen H
    generalize (asksL s3 b).length + (asksL s3 d).length = m at hlen hm12 H
    refine W_loopS (fun (i : Nat) => [(9, .bool true), (13, int x), (14, .int .i64 (k : Int)), (17, int 0), (19, int 0), (21, int 0), (22, int x), (23, int 0), (24, .slice q3 m k3), (25, .int .i64 i)])
      (fun i w => Own wb (SlC q2 (asksL s3 d).length k2 3 1 (ints (asksL s3 d)) :: StoreC p s3 :: SlC q3 m k3 3 1 (ints Q) :: CacheX opF (some c) s3 :: R) w ∧ i ≤ m)
      (fun i => m - i) 0 ⟨rfl, rfl, rfl, rfl, rfl, rfl, rfl, rfl, rfl, rfl, trivial⟩ ⟨H, Nat.zero_le _⟩ ?_
    clear H
    rintro i e w ⟨H, hle⟩
    by_cases hil : (i : Int) < (m : Int)
    · obtain ⟨g3, rfl⟩ := H.slSome 2 rfl (by omega)
      obtain ⟨y, hy⟩ : ∃ y, Q[i]? = some y := ⟨Q[i]'(by omega), by simp⟩
      have hy' : (ints Q)[0 + ((i : Int)).toNat * 1]? = some (.int .i64 y) := by rw [Nat.zero_add, Nat.mul_one]; simp [ints, hy]
      have hyk := hne i y hy
      refine W_seq ?_
      refine W_seq ?_
      refine W_region ?_
      refine ops_v (v_move (v := (.int _ _)) rfl rfl) ?_
      refine ops_v (v_move (v := (.slice _ _ _)) rfl rfl) ?_
      refine ops_v (v_len rfl sl26 rfl) ?_
      refine ops_v (v_lss true rfl rfl rfl (decide_eq_true (by first | omega | (simp only; omega) | rfl | decide))) ?_
      refine ops_nil ?_
      refine W_if_t rfl ?_
      refine W_skip ?_
      refine W_seq ?_
      refine W_block ?_
      refine W_seq ?_
      refine W_region ?_
      refine ops_v (v_move (v := (.slice _ _ _)) rfl rfl) ?_
      refine ops_v (v_move (v := (.int _ _)) rfl rfl) ?_
      refine ops_v (v_indexAddr_sl rfl se26 rfl rfl (by omega) (by omega)) ?_
      refine ops_loadSl (v := .int .i64 y) 2 H rfl tc3 rfl rfl hy' ?_
      refine ops_v (v_move (v := (.int _ _)) rfl rfl) ?_
      refine ops_v (v_eql false rfl rfl rfl (decide_eq_false (by first | omega | (simp only; omega) | rfl | decide))) ?_
      refine ops_nil ?_
      refine W_if_f rfl ?_
      refine W_skip ?_
      refine W_region ?_
      refine ops_v (v_move (v := (.int _ _)) rfl rfl) ?_
      refine ops_v (v_add _ rfl rfl rfl (wrap_in (by omega) (by omega))) ?_
      refine ops_v (v_assign (v := (.int _ _)) rfl rfl) ?_
      refine ops_nil ?_
      refine ⟨i + 1, ?_, ⟨rfl, rfl, rfl, rfl, rfl, rfl, rfl, rfl, rfl, rfl, trivial⟩, H, ?_⟩
      · show m - (i + 1) < m - i; omega
      · show i + 1 ≤ m; omega
      -- (backstaylaw17.GuardParts: loopend; chunks l2,S,q,C; ptr )
    · refine W_seq ?_
      refine W_seq ?_
      refine W_region ?_
      refine ops_v (v_move (v := (.int _ _)) rfl rfl) ?_
      refine ops_v (v_move (v := (.slice _ _ _)) rfl rfl) ?_
      refine ops_v (v_len rfl sl26 rfl) ?_
      refine ops_v (v_lss false rfl rfl rfl (decide_eq_false (by first | omega | (simp only; omega) | rfl | decide))) ?_
      refine ops_nil ?_
      refine W_if_f rfl ?_
      refine W_exit ?_
      refine W_seq ?_
      refine W_region ?_
      refine ops_v (v_move (v := (.bool _)) rfl rfl) ?_
      refine ops_v (v_move (v := (.bool _)) rfl rfl) ?_
      refine ops_v (v_move (v := (.int _ _)) rfl rfl) ?_
      refine ops_v (v_eql true rfl rfl rfl (decide_eq_true (by first | omega | (simp only; omega) | rfl | decide))) ?_
      refine ops_v (v_pick_t (v := (.bool _)) rfl rfl rfl) ?_
      refine ops_v (v_move (v := (.bool _)) rfl rfl) ?_
      refine ops_v (v_move (v := (.int _ _)) rfl rfl) ?_
      refine ops_v (v_eql true rfl rfl rfl (decide_eq_true (by first | omega | (simp only; omega) | rfl | decide))) ?_
      refine ops_v (v_pick_t (v := (.bool _)) rfl rfl rfl) ?_
      refine ops_v (v_move (v := (.bool _)) rfl rfl) ?_
      refine ops_v (v_move (v := (.int _ _)) rfl rfl) ?_
      refine ops_v (v_eql true rfl rfl rfl (decide_eq_true (by first | omega | (simp only; omega) | rfl | decide))) ?_
      refine ops_v (v_pick_t (v := (.bool _)) rfl rfl rfl) ?_
      refine ops_v (v_move (v := (.bool _)) rfl rfl) ?_
      refine ops_v (v_move (v := (.int _ _)) rfl rfl) ?_
      refine ops_v (v_eql true rfl rfl rfl (decide_eq_true (by first | omega | (simp only; omega) | rfl | decide))) ?_
      refine ops_v (v_pick_t (v := (.bool _)) rfl rfl rfl) ?_
      refine ops_v (v_move (v := (.bool _)) rfl rfl) ?_
      refine ops_v (v_move (v := (.int _ _)) rfl rfl) ?_
      refine ops_v (v_move (v := (.int _ _)) rfl rfl) ?_
      refine ops_v (v_eql true rfl rfl rfl (decide_eq_true (by first | omega | (simp only; omega) | rfl | decide))) ?_
      refine ops_v (v_pick_t (v := (.bool _)) rfl rfl rfl) ?_
      refine ops_v (v_assign (v := (.bool _)) rfl rfl) ?_
      refine ops_nil ?_
      refine W_ret ?_
      refine ⟨_, (.tmp (v := (.bool _)) rfl .nil), ?_⟩
      exact ⟨rfl, _, H⟩
      -- (backstaylaw17.GuardParts: ret; chunks l2,S,q,C; ptr )
theorem guardParts_walk (W : World) (hT : Tab W) (links : Int) (i1 : i64 links) (v : Value) (l : List R4) (hr : RawIs W v l) (a : Int) (i2 : i64 a) (link : Int) (i3 : i64 link) :
    FnC Tryd.prog 6 [int links, v, int a, int link] W (fun v w' => v = .bool true ∧ Base W w') :=
  (law_ok hT (Own.start W) links a link i1 i2 i3 v l hr).mono (fun _ _ ⟨a, _, H⟩ => ⟨a, H.base⟩)
end Go.Proofs.YtchikjmhncojfaaDoor.W
namespace Go.Proofs.YtchikjmhncojfaaDoor.guardParts
open Go Go.Proofs Go.RowKit Go.ChangeShapes Go.WideShapes Go.ChangeAt Go.WideMaps Go.WideElems
open Go.Proofs.YtchikjmhncojfaaDoor.W (Tab RawIs Base FnC raw_of_trod laidOut guardParts_walk)
open Go.Proofs.YtchikjmhncojfaaDoor.M (R4 i64)
theorem walk (W : World) (hT : Tab W) (links : Int) (i1 : i64 links) (v : Value) (l : List R4) (hr : RawIs W v l) (a : Int) (i2 : i64 a) (link : Int) (i3 : i64 link) :
    FnC Tryd.prog 6 [.int .i64 links, v, .int .i64 a, .int .i64 link] W (fun v w' => v = .bool true ∧ Base W w') :=
  guardParts_walk W hT links i1 v l hr a i2 link i3
set_option maxRecDepth 100000 in
theorem lifted (os : Os) (started : os.Started) (H : Type) (enc : TypeId × Value → H) :
    ReturnsInHanded {} Tryd.checked os 6 .any (fun w args => (Rows.guardPartsSpec.pre enc Tryd.prog Tryd.f6 [] false w args ∧ laidMetH Tryd.prog DF.laidL w) ∧ sizedMet enc Tryd.prog Tryd.f6 (OpenSpec.ofChange Rows.guardPartsSpec) false w args) (Rows.guardPartsSpec.post enc Tryd.prog Tryd.f6 false true false false) := by
  refine returnsInHanded_of_change_and (C := Tryd.checked) (X := fun w _ => laidMetH Tryd.prog DF.laidL w) (fun _ _ _ hh h => h.of_heap hh) DF.own started (by kernel_rfl) Tryd.func6
    (ChangeSpec.witness_shaped (enc := enc) (C := Tryd.checked) (os := os) (X := fun w _ => laidMetH Tryd.prog DF.laidL w) false (World.doorLaid Tryd.prog 400 os) #[.int .i64 0, .slice none 0 0, .int .i64 0, .int .i64 0] 8 rfl (World.shaped_of_RefB (by kernel_rfl) (by kernel_rfl)) (by kernel_rfl) (by kernel_rfl) (by kernel_rfl) (DF.door_met os _)) ?_
  intro W base args ds gs before hval0 hW _ _ hL _
  have hval : ∀ (j : Nat) t v, Tryd.f6.params[j]? = some t → args[j]? = some v → Value.okWide Tryd.prog W .any base t v := hval0
  have hW' := hW
  obtain ⟨p, q, hA0, hV, rfl, hfz, hnd⟩ := hW
  have hA : DataW.TrodAll enc Tryd.prog W 0 (fun _ => true) true Tryd.f6.params.toList args.toList ds p := hA0
  rw [Tryd.params6] at hA hval
  obtain ⟨v0, vs0, d0, ds0, p0, q0, hargs, rfl, rfl, h0, r0⟩ := trodAll_cons hA
  obtain ⟨v1, vs1, d1, ds1, p1, q1, rfl, rfl, rfl, h1, r1⟩ := trodAll_cons r0
  obtain ⟨v2, vs2, d2, ds2, p2, q2, rfl, rfl, rfl, h2, r2⟩ := trodAll_cons r1
  obtain ⟨v3, vs3, d3, ds3, p3, q3, rfl, rfl, rfl, h3, r3⟩ := trodAll_cons r2
  obtain ⟨rfl, rfl, rfl⟩ := trodAll_nil r3
  obtain rfl : args = #[v0, v1, v2, v3] := by cases args; simp_all
  obtain ⟨rfl, rfl⟩ := trodVars_none hV
  obtain ⟨a0, rfl, rfl, rfl, x0⟩ := open_int Tryd.underlying3 (hval 0 3 v0 rfl rfl) h0
  have k1 := h1
  have lt1 : ∀ x ∈ p1, x.block < W.heap.size := by obtain ⟨m, hm⟩ := k1; exact DataW.trod_lt m _ _ _ hm
  obtain ⟨l1, w1⟩ := raw_of_trod h1 (okWide_slice Tryd.underlying22 (hval 1 22 v1 rfl rfl))
  obtain ⟨a2, rfl, rfl, rfl, x2⟩ := open_int Tryd.underlying3 (hval 2 3 v2 rfl rfl) h2
  obtain ⟨a3, rfl, rfl, rfl, x3⟩ := open_int Tryd.underlying3 (hval 3 3 v3 rfl rfl) h3
  clear hA0 hval0
  refine Calls.mono (walk W (DF.of_laid hL) a0 (bounds_i64 x0) v1 l1 w1 a2 (bounds_i64 x2) a3 (bounds_i64 x3)) ?_
  rintro e W' ⟨_, rfl, rfl, hb⟩
  have bel := hb.below
  exact ⟨_, rfl, _, _, _, [], _, [], hW', trodAll_mk1 (shut_bool Tryd.underlying4 _), (trodAll_cons_mk (shut_int Tryd.underlying3 x0) (trodAll_cons_mk (Below.trod laidOut (by kernel_rfl) (of_decide_eq_true (by kernel_rfl)) k1 bel lt1) (trodAll_cons_mk (shut_int Tryd.underlying3 x2) (trodAll_cons_mk (shut_int Tryd.underlying3 x3) trodAll_mk0)))), rfl, bel.frame _, fun h => by cases h⟩
theorem closed : joinedFacts Tryd.prog 6 Tryd.f6 Rows.guardPartsSpec Rows.guardPartsRow = true := Go.Proofs.YtchikjmhncojfaaDoor.Head.joined (by kernel_rfl) rfl rfl (by kernel_rfl) (by kernel_rfl) (by kernel_rfl) (by kernel_rfl)
theorem over : Rows.guardPartsRow.holds Tryd.pinned (OpenSpec.ofChange Rows.guardPartsSpec) :=
  OpenClaim.holds_of_wide 6 Tryd.f6 rfl rfl rfl rfl rfl rfl rfl ⟨rfl, rfl, rfl, rfl, rfl⟩ rfl rfl rfl rfl rfl (by kernel_rfl) Tryd.func6 closed
    (of_decide_eq_true (by kernel_rfl)) (by unfold Func.isWrapper; first | (rw [if_pos (by decide +kernel)]; kernel_rfl) | (rw [if_neg (by decide +kernel)]; exact ⟨rfl, rfl⟩))
    (fun os started H enc _ => lifted os started H enc)
/-- The statement: the tied card. -/
theorem proved : Rows.GuardPartsCardSaid :=
  Claim7.holds_tied_plain_at .later [] [.data] true (true, "0a015805a0339d7f5360af527d4db354aee0bd7e296d674c45a3ea2b8f209eb6") false
    over (fun _ h => by cases h) (by kernel_rfl) (fun _ h => by cases h) guardParts_row_tie rfl ⟨rfl, rfl⟩ (by kernel_rfl) rfl
    (fun f fn hf hfn => by
      obtain rfl : f = 6 := Option.some.inj ((show Tryd.prog.funcNamed Tryd.f6.name = some 6 by kernel_rfl).symm.trans hf) |>.symm
      obtain rfl : fn = Tryd.f6 := (Option.some.inj (Tryd.func6.symm.trans hfn)).symm
      exact ⟨by kernel_rfl, fun j t ht => by
        rw [Tryd.params6] at ht
        have hm : t ∈ [3, 22, 3, 3] := by simpa using Array.mem_of_getElem? ht
        have hall : ([3, 22, 3, 3].all fun u => !Tryd.prog.wantsStandIn u) = true := by kernel_rfl
        exact (show Tryd.prog.wantsStandIn t = false by simpa using List.all_eq_true.1 hall t hm)⟩)
    (by kernel_rfl)
end Go.Proofs.YtchikjmhncojfaaDoor.guardParts
