/- NodeRoom of layer 13: with more room what was told is told. Conditions: none. -/
import Derived.Test.YtchikjmhncojfaaMade
import Derived.Test.YtchikjmhncojfaaRoomM
import Derived.Test.YtchikjmhncojfaaHead
import Derived.ProofKit
import Derived.OpenShut
set_option linter.unusedVariables false
namespace Go.Proofs.Ytchikjmhncojfaa.nodeRoom
open Go Go.Proofs Go.RowKit Go.ChangeShapes Go.WideShapes Go.ChangeAt Go.Proofs.Ytchikjmhncojfaa.W
open Go.Proofs.Ytchikjmhncojfaa.M (Br St get getZ isN idx has down Wf rank i64 leafB askB R4)
variable {w wb : World} {R : List Chunk}
set_option maxHeartbeats 2000000 in
theorem law_ok (H : Own wb R w) (links most : Int) (i1 : i64 links) (i4 : i64 most) (v : Value) (l : List R4) (hr : RawIs wb v l) :
    FnC Try.prog 7 [int links, v, int most] w (fun u w' => u = .bool true ∧ ∃ R', Own wb R' w') := by
  have lo := M.pick_lo (c := links) (n := 7) (by decide)
  have hi := M.pick_hi (c := links) (n := 7) (by decide)
  have klo := M.pick_lo (c := most) (n := 12) (by decide)
  have khi := M.pick_hi (c := most) (n := 12) (by decide)
  obtain ⟨rp, rcap, rfl, hlm, hrl⟩ := hr
  generalize hn : M.pick links 7 = n at lo hi
  obtain ⟨k, hk⟩ : ∃ k : Nat, 1 + M.pick most 12 = (k : Int) := ⟨(1 + M.pick most 12).toNat, by omega⟩
  have hk1 : 1 ≤ k := by omega
  have hk2 : k ≤ 12 := by omega
  have hmx : (if n < 1 then 1 else n) = max n 1 := by rw [Int.max_def]; split <;> split <;> omega
  have hm1 : 0 < max n 1 := by omega
  have hkk : k ≤ 1073741824 := by omega
  have hmm : (1000 : Nat) ≤ 1073741824 := by decide
  refine FnC_of Try.func7 rfl rfl rfl rfl ?_
  refine W_seq ?_
  refine W_region ?_
  refine ops_v (v_assign (v := _) rfl rfl) ?_
  refine ops_nil ?_
  refine W_seq ?_
  refine W_region ?_
  refine ops_call rfl c24 (awake13_ok H) ?_
  clear H; rintro _ w ⟨rfl, H⟩
  refine ops_v (v_assign (v := (.bool _)) rfl rfl) ?_
  refine ops_nil ?_
  refine W_seq ?_
  refine W_region ?_
  refine ops_v (v_move (v := (.int _ _)) rfl rfl) ?_
  refine ops_call rfl c25 (pick13_ok H links 7 i1 (by decide)) ?_
  clear H; rintro _ w ⟨rfl, H⟩
  rw [hn]
  refine ops_v (v_assign (v := (.int _ _)) rfl rfl) ?_
  refine ops_nil ?_
  refine W_seq ?_
  refine W_region ?_
  refine ops_v (v_move (v := (.int _ _)) rfl rfl) ?_
  refine ops_call rfl c25 (pick13_ok H most 12 i4 (by decide)) ?_
  clear H; rintro _ w ⟨rfl, H⟩
  refine ops_v (v_add (k : Int) rfl rfl rfl (by rw [wrap_in (by omega) (by omega)]; exact hk)) ?_
  refine ops_v (v_assign (v := (.int _ _)) rfl rfl) ?_
  refine ops_nil ?_
  refine W_seq ?_
  refine W_region ?_
  refine ops_v (v_move (v := (.int _ _)) rfl rfl) ?_
  refine ops_v (v_move (v := (.int _ _)) rfl rfl) ?_
  refine ops_call rfl c26 (New_ok H n k lo (by omega) (by omega) (by omega)) ?_
  clear H; rintro _ w ⟨p, rfl, H⟩
  refine ops_v (v_assign (v := (.pointer _)) rfl rfl) ?_
  refine ops_nil ?_
  refine W_seq ?_
  refine W_region ?_
  refine ops_v (v_move (v := (.int _ _)) rfl rfl) ?_
  refine ops_call rfl c26 (New_ok H n 1000 lo (by omega) (by decide) (by decide)) ?_
  clear H; rintro _ w ⟨q, rfl, H⟩
  refine ops_v (v_assign (v := (.pointer _)) rfl rfl) ?_
  refine ops_nil ?_
  refine W_seq ?_
  refine W_seq ?_
  refine W_region ?_
  refine ops_v (v_assign (v := _) rfl rfl) ?_
  refine ops_nil ?_
  refine W_block ?_
  -- (backstaylaw13.NodeRoom: loop; chunks T,S; ptr )
  rw [Int.toNat_natCast, show (1000 : Int).toNat = 1000 from rfl] at H
  refine W_loopS (fun (s : Nat × List Br) => [(1, .slice rp l.length rcap), (7, .bool true), (8, int n), (9, .int .i64 k), (10, ptr p), (11, ptr q), (12, .int .i64 s.1)])
    (fun s w => Own wb (StoreC q ⟨n.toNat, 1000, s.2⟩ :: StoreC p ⟨n.toNat, k, s.2⟩ :: R) w ∧ s.1 ≤ 40 ∧ s.2.length ≤ s.1 ∧ s.2.length ≤ k)
    (fun s => 40 - s.1) (0, []) ⟨rfl, rfl, rfl, rfl, rfl, rfl, rfl, trivial⟩ ⟨H, Nat.zero_le _, Nat.zero_le _, Nat.zero_le _⟩ ?_
  clear H
  rintro ⟨i, N⟩ e w ⟨H, hle, hN, hNk⟩
  simp only at H hle hN hNk ⊢
  by_cases hil : (i : Int) < (l.length : Int)
  · by_cases hi : (i : Int) < 40
    · obtain ⟨r, hri⟩ : ∃ r, l[i]? = some r := ⟨l[i]'(by omega), by simp⟩
      obtain ⟨⟨rb, ro, rfl, hcell⟩, hok⟩ := hrl i r hri
      have hcell' : ∀ w', Base wb w' → ∀ (j : Nat) (u : Value), (cells4 r)[j]? = some u → w'.cell? ⟨rb, ro + ((i : Int)).toNat * 4 + j, none⟩ = some u := fun w' H' j u hu => by
        rw [Nat.add_assoc]; exact H'.cell (hcell j u hu)
      have hp0 : (0 : Int) < (N.length : Int) + 1 := by omega
      have hN9 : ((⟨n.toNat, k, N⟩ : St).nodes.length : Int) = (N.length : Int) := rfl
      have hlen : ∀ m : Nat, (⟨n.toNat, m, N⟩ : St).nodes.length = N.length := fun _ => rfl
      by_cases h3 : M.pick r.a 3 = 0
      · rcases M.room_leaf (n := n.toNat) (k := k) (m := 1000) hNk (by omega) (M.pick r.b 5) with ⟨id, t, hs, ht, h3, h4⟩ | ⟨id, e2, N', hs, ht, h3, h4, h5⟩
        · simp only at hs ht
          have hz : ((⟨n.toNat, k, N⟩ : St).nodes.length : Int) = k := by rw [hlen]; omega
          have hz2 : (t.nodes.length : Int) = k + 1 := by omega
          have hz3 : (N.length : Int) = k := by omega
          refine W_seq ?_
          refine W_seq ?_
          refine W_region ?_
          refine ops_v (v_move (v := (.int _ _)) rfl rfl) ?_
          refine ops_v (v_move (v := (.slice _ _ _)) rfl rfl) ?_
          refine ops_v (v_len rfl sl22 rfl) ?_
          refine ops_v (v_lss true rfl rfl rfl (decide_eq_true (by first | omega | (simp only; omega) | rfl | decide))) ?_
          refine ops_v (v_move (v := (.bool _)) rfl rfl) ?_
          refine ops_v (v_move (v := (.int _ _)) rfl rfl) ?_
          refine ops_v (v_lss true rfl rfl rfl (decide_eq_true (by first | omega | (simp only; omega) | rfl | decide))) ?_
          refine ops_v (v_pick_t (v := (.bool _)) rfl rfl rfl) ?_
          refine ops_nil ?_
          refine W_if_t rfl ?_
          refine W_skip ?_
          refine W_seq ?_
          refine W_block ?_
          refine W_seq ?_
          refine W_region ?_
          refine ops_v (v_move (v := (.slice _ _ _)) rfl rfl) ?_
          refine ops_v (v_move (v := (.int _ _)) rfl rfl) ?_
          refine ops_v (v_indexAddr_sl rfl se22 rfl rfl (by omega) (by omega)) ?_
          refine ops_v (v_loadBase (vs := cells4 r) rfl ta39 (fun w' hw' => by rw [hw']; exact hcell' _ H.base) rfl rfl) ?_
          refine ops_alloc H rfl tz39 ?_
          clear H; intro bn0 w H
          refine ops_store (vs := [_, _, _, _]) (v := (.agg _)) (cs' := [_, _, _, _]) 0 H rfl ts39 rfl rfl rfl rfl rfl rfl rfl rfl ?_
          clear H; intro w H
          refine ops_nil ?_
          refine W_seq ?_
          refine W_region ?_
          refine ops_v (v_move (v := (.pointer _)) rfl rfl) ?_
          refine ops_call rfl c30 (FnC.ro 2 rfl H (fun _ => Size_ok)) ?_
          clear H; rintro _ w ⟨rfl, H⟩
          refine ops_v (v_assign (v := (.int _ _)) rfl rfl) ?_
          refine ops_nil ?_
          refine W_seq ?_
          refine W_region ?_
          refine ops_v (v_assign (v := _) rfl rfl) ?_
          refine ops_nil ?_
          refine W_seq ?_
          refine W_region ?_
          refine ops_v (v_assign (v := _) rfl rfl) ?_
          refine ops_nil ?_
          refine W_seq ?_
          refine W_region ?_
          refine ops_v (v_assign (v := _) rfl rfl) ?_
          refine ops_nil ?_
          refine W_seq ?_
          refine W_region ?_
          refine ops_v (v_assign (v := _) rfl rfl) ?_
          refine ops_nil ?_
          refine W_seq ?_
          refine W_seq ?_
          refine W_region ?_
          refine ops_v (v_indexAddr_arr rfl ae39 rfl rfl (by first | omega | decide) rfl) ?_
          refine ops_load (v := (.int _ _)) 0 H rfl tc3 rfl rfl rfl ?_
          refine ops_call rfl c25 (pick13_ok H r.a 3 hok.1 (by decide)) ?_
          clear H; rintro _ w ⟨rfl, H⟩
          refine ops_v (v_eql true rfl rfl rfl (decide_eq_true (by first | omega | (simp only; omega) | rfl | decide))) ?_
          refine ops_nil ?_
          refine W_if_t rfl ?_
          refine W_seq ?_
          refine W_region ?_
          refine ops_v (v_move (v := (.pointer _)) rfl rfl) ?_
          refine ops_v (v_indexAddr_arr rfl ae39 rfl rfl (by first | omega | decide) rfl) ?_
          refine ops_load (v := (.int _ _)) 0 H rfl tc3 rfl rfl rfl ?_
          refine ops_call rfl c25 (pick13_ok H r.b 5 hok.2.1 (by decide)) ?_
          clear H; rintro _ w ⟨rfl, H⟩
          refine ops_call rfl c38 (FnC.at 2 rfl H (fun _ H => Leaf_ok hkk hs H)) ?_
          clear H; rintro _ w ⟨rfl, H⟩
          refine ops_v (v_move (v := (.tuple _)) rfl rfl) ?_
          refine ops_v (v_extract (v := (.int _ _)) rfl rfl rfl) ?_
          refine ops_v (v_extract (v := (.int _ _)) rfl rfl rfl) ?_
          refine ops_v (v_assign (v := (.int _ _)) rfl rfl) ?_
          refine ops_v (v_assign (v := (.int _ _)) rfl rfl) ?_
          refine ops_nil ?_
          refine W_region ?_
          refine ops_v (v_move (v := (.pointer _)) rfl rfl) ?_
          refine ops_v (v_indexAddr_arr rfl ae39 rfl rfl (by first | omega | decide) rfl) ?_
          refine ops_load (v := (.int _ _)) 0 H rfl tc3 rfl rfl rfl ?_
          refine ops_call rfl c25 (pick13_ok H r.b 5 hok.2.1 (by decide)) ?_
          clear H; rintro _ w ⟨rfl, H⟩
          refine ops_call rfl c38 (FnC.at 1 rfl H (fun _ H => Leaf_ok hmm ht H)) ?_
          clear H; rintro _ w ⟨rfl, H⟩
          refine ops_v (v_move (v := (.tuple _)) rfl rfl) ?_
          refine ops_v (v_extract (v := (.int _ _)) rfl rfl rfl) ?_
          refine ops_v (v_extract (v := (.int _ _)) rfl rfl rfl) ?_
          refine ops_v (v_assign (v := (.int _ _)) rfl rfl) ?_
          refine ops_v (v_assign (v := (.int _ _)) rfl rfl) ?_
          refine ops_nil ?_
          refine W_seq ?_
          refine W_seq ?_
          refine W_region ?_
          refine ops_v (v_move (v := (.int _ _)) rfl rfl) ?_
          refine ops_v (v_eql true rfl rfl rfl (decide_eq_true (by first | omega | (simp only; omega) | rfl | decide))) ?_
          refine ops_nil ?_
          refine W_if_t rfl ?_
          refine W_seq ?_
          refine W_region ?_
          refine ops_v (v_move (v := (.bool _)) rfl rfl) ?_
          refine ops_v (v_move (v := (.bool _)) rfl rfl) ?_
          refine ops_v (v_move (v := (.int _ _)) rfl rfl) ?_
          refine ops_v (v_move (v := (.int _ _)) rfl rfl) ?_
          refine ops_v (v_eql true rfl rfl rfl (decide_eq_true (by first | omega | (simp only; omega) | rfl | decide))) ?_
          refine ops_v (v_pick_t (v := (.bool _)) rfl rfl rfl) ?_
          refine ops_v (v_move (v := (.bool _)) rfl rfl) ?_
          refine ops_v (v_move (v := (.pointer _)) rfl rfl) ?_
          refine ops_call rfl c30 (FnC.ro 2 rfl H (fun _ => Size_ok)) ?_
          clear H; rintro _ w ⟨rfl, H⟩
          refine ops_v (v_move (v := (.int _ _)) rfl rfl) ?_
          refine ops_v (v_eql true rfl rfl rfl (decide_eq_true (by first | omega | (simp only; omega) | rfl | decide))) ?_
          refine ops_v (v_pick_t (v := (.bool _)) rfl rfl rfl) ?_
          refine ops_v (v_move (v := (.bool _)) rfl rfl) ?_
          refine ops_v (v_move (v := (.pointer _)) rfl rfl) ?_
          refine ops_call rfl c30 (FnC.ro 1 rfl H (fun _ => Size_ok)) ?_
          clear H; rintro _ w ⟨rfl, H⟩
          refine ops_v (v_move (v := (.int _ _)) rfl rfl) ?_
          refine ops_v (v_add _ rfl rfl rfl (wrap_in (by omega) (by omega))) ?_
          refine ops_v (v_eql true rfl rfl rfl (decide_eq_true (by first | omega | (simp only; omega) | rfl | decide))) ?_
          refine ops_v (v_pick_t (v := (.bool _)) rfl rfl rfl) ?_
          refine ops_v (v_move (v := (.bool _)) rfl rfl) ?_
          refine ops_v (v_move (v := (.int _ _)) rfl rfl) ?_
          refine ops_v (v_eql true rfl rfl rfl (decide_eq_true (by first | omega | (simp only; omega) | rfl | decide))) ?_
          refine ops_v (v_pick_t (v := (.bool _)) rfl rfl rfl) ?_
          refine ops_v (v_move (v := (.bool _)) rfl rfl) ?_
          refine ops_v (v_move (v := (.int _ _)) rfl rfl) ?_
          refine ops_v (v_eql true rfl rfl rfl (decide_eq_true (by first | omega | (simp only; omega) | rfl | decide))) ?_
          refine ops_v (v_pick_t (v := (.bool _)) rfl rfl rfl) ?_
          refine ops_v (v_assign (v := (.bool _)) rfl rfl) ?_
          refine ops_nil ?_
          refine W_ret ?_
          refine ⟨_, (.tmp (v := (.bool _)) rfl .nil), ?_⟩
          exact ⟨rfl, _, H⟩
          -- (backstaylaw13.NodeRoom: ret; chunks n0,T,S; ptr 13=n0,47=n0,53=n0)
        · simp only at hs ht
          have hz : ((⟨n.toNat, k, N'⟩ : St).nodes.length : Int) = ((⟨n.toNat, 1000, N'⟩ : St).nodes.length : Int) := rfl
          refine W_seq ?_
          refine W_seq ?_
          refine W_region ?_
          refine ops_v (v_move (v := (.int _ _)) rfl rfl) ?_
          refine ops_v (v_move (v := (.slice _ _ _)) rfl rfl) ?_
          refine ops_v (v_len rfl sl22 rfl) ?_
          refine ops_v (v_lss true rfl rfl rfl (decide_eq_true (by first | omega | (simp only; omega) | rfl | decide))) ?_
          refine ops_v (v_move (v := (.bool _)) rfl rfl) ?_
          refine ops_v (v_move (v := (.int _ _)) rfl rfl) ?_
          refine ops_v (v_lss true rfl rfl rfl (decide_eq_true (by first | omega | (simp only; omega) | rfl | decide))) ?_
          refine ops_v (v_pick_t (v := (.bool _)) rfl rfl rfl) ?_
          refine ops_nil ?_
          refine W_if_t rfl ?_
          refine W_skip ?_
          refine W_seq ?_
          refine W_block ?_
          refine W_seq ?_
          refine W_region ?_
          refine ops_v (v_move (v := (.slice _ _ _)) rfl rfl) ?_
          refine ops_v (v_move (v := (.int _ _)) rfl rfl) ?_
          refine ops_v (v_indexAddr_sl rfl se22 rfl rfl (by omega) (by omega)) ?_
          refine ops_v (v_loadBase (vs := cells4 r) rfl ta39 (fun w' hw' => by rw [hw']; exact hcell' _ H.base) rfl rfl) ?_
          refine ops_alloc H rfl tz39 ?_
          clear H; intro bn0 w H
          refine ops_store (vs := [_, _, _, _]) (v := (.agg _)) (cs' := [_, _, _, _]) 0 H rfl ts39 rfl rfl rfl rfl rfl rfl rfl rfl ?_
          clear H; intro w H
          refine ops_nil ?_
          refine W_seq ?_
          refine W_region ?_
          refine ops_v (v_move (v := (.pointer _)) rfl rfl) ?_
          refine ops_call rfl c30 (FnC.ro 2 rfl H (fun _ => Size_ok)) ?_
          clear H; rintro _ w ⟨rfl, H⟩
          refine ops_v (v_assign (v := (.int _ _)) rfl rfl) ?_
          refine ops_nil ?_
          refine W_seq ?_
          refine W_region ?_
          refine ops_v (v_assign (v := _) rfl rfl) ?_
          refine ops_nil ?_
          refine W_seq ?_
          refine W_region ?_
          refine ops_v (v_assign (v := _) rfl rfl) ?_
          refine ops_nil ?_
          refine W_seq ?_
          refine W_region ?_
          refine ops_v (v_assign (v := _) rfl rfl) ?_
          refine ops_nil ?_
          refine W_seq ?_
          refine W_region ?_
          refine ops_v (v_assign (v := _) rfl rfl) ?_
          refine ops_nil ?_
          refine W_seq ?_
          refine W_seq ?_
          refine W_region ?_
          refine ops_v (v_indexAddr_arr rfl ae39 rfl rfl (by first | omega | decide) rfl) ?_
          refine ops_load (v := (.int _ _)) 0 H rfl tc3 rfl rfl rfl ?_
          refine ops_call rfl c25 (pick13_ok H r.a 3 hok.1 (by decide)) ?_
          clear H; rintro _ w ⟨rfl, H⟩
          refine ops_v (v_eql true rfl rfl rfl (decide_eq_true (by first | omega | (simp only; omega) | rfl | decide))) ?_
          refine ops_nil ?_
          refine W_if_t rfl ?_
          refine W_seq ?_
          refine W_region ?_
          refine ops_v (v_move (v := (.pointer _)) rfl rfl) ?_
          refine ops_v (v_indexAddr_arr rfl ae39 rfl rfl (by first | omega | decide) rfl) ?_
          refine ops_load (v := (.int _ _)) 0 H rfl tc3 rfl rfl rfl ?_
          refine ops_call rfl c25 (pick13_ok H r.b 5 hok.2.1 (by decide)) ?_
          clear H; rintro _ w ⟨rfl, H⟩
          refine ops_call rfl c38 (FnC.at 2 rfl H (fun _ H => Leaf_ok hkk hs H)) ?_
          clear H; rintro _ w ⟨rfl, H⟩
          refine ops_v (v_move (v := (.tuple _)) rfl rfl) ?_
          refine ops_v (v_extract (v := (.int _ _)) rfl rfl rfl) ?_
          refine ops_v (v_extract (v := (.int _ _)) rfl rfl rfl) ?_
          refine ops_v (v_assign (v := (.int _ _)) rfl rfl) ?_
          refine ops_v (v_assign (v := (.int _ _)) rfl rfl) ?_
          refine ops_nil ?_
          refine W_region ?_
          refine ops_v (v_move (v := (.pointer _)) rfl rfl) ?_
          refine ops_v (v_indexAddr_arr rfl ae39 rfl rfl (by first | omega | decide) rfl) ?_
          refine ops_load (v := (.int _ _)) 0 H rfl tc3 rfl rfl rfl ?_
          refine ops_call rfl c25 (pick13_ok H r.b 5 hok.2.1 (by decide)) ?_
          clear H; rintro _ w ⟨rfl, H⟩
          refine ops_call rfl c38 (FnC.at 1 rfl H (fun _ H => Leaf_ok hmm ht H)) ?_
          clear H; rintro _ w ⟨rfl, H⟩
          refine ops_v (v_move (v := (.tuple _)) rfl rfl) ?_
          refine ops_v (v_extract (v := (.int _ _)) rfl rfl rfl) ?_
          refine ops_v (v_extract (v := (.int _ _)) rfl rfl rfl) ?_
          refine ops_v (v_assign (v := (.int _ _)) rfl rfl) ?_
          refine ops_v (v_assign (v := (.int _ _)) rfl rfl) ?_
          refine ops_nil ?_
          refine W_seq ?_
          refine W_seq ?_
          refine W_region ?_
          refine ops_v (v_move (v := (.int _ _)) rfl rfl) ?_
          refine ops_v (v_eql false rfl rfl rfl (decide_eq_false (by first | omega | (simp only; omega) | rfl | decide))) ?_
          refine ops_nil ?_
          refine W_if_f rfl ?_
          refine W_skip ?_
          refine W_seq ?_
          refine W_region ?_
          refine ops_v (v_move (v := (.int _ _)) rfl rfl) ?_
          refine ops_v (v_move (v := (.int _ _)) rfl rfl) ?_
          refine ops_v (v_neq false rfl rfl rfl (decide_eq_false (by first | omega | (simp only; omega) | rfl | decide))) ?_
          refine ops_v (v_move (v := (.bool _)) rfl rfl) ?_
          refine ops_v (v_move (v := (.int _ _)) rfl rfl) ?_
          refine ops_v (v_move (v := (.int _ _)) rfl rfl) ?_
          refine ops_v (v_neq false rfl rfl rfl (decide_eq_false (by first | omega | (simp only; omega) | rfl | decide))) ?_
          refine ops_v (v_pick_f (v := (.bool _)) rfl rfl rfl) ?_
          refine ops_v (v_move (v := (.bool _)) rfl rfl) ?_
          refine ops_v (v_move (v := (.pointer _)) rfl rfl) ?_
          refine ops_call rfl c30 (FnC.ro 2 rfl H (fun _ => Size_ok)) ?_
          clear H; rintro _ w ⟨rfl, H⟩
          refine ops_v (v_move (v := (.pointer _)) rfl rfl) ?_
          refine ops_call rfl c30 (FnC.ro 1 rfl H (fun _ => Size_ok)) ?_
          clear H; rintro _ w ⟨rfl, H⟩
          refine ops_v (v_neq false rfl rfl rfl (decide_eq_false (by first | omega | (simp only; omega) | rfl | decide))) ?_
          refine ops_v (v_pick_f (v := (.bool _)) rfl rfl rfl) ?_
          refine ops_nil ?_
          refine W_if_f rfl ?_
          refine W_skip ?_
          refine W_region ?_
          refine ops_v (v_move (v := (.int _ _)) rfl rfl) ?_
          refine ops_v (v_add _ rfl rfl rfl (wrap_in (by omega) (by omega))) ?_
          refine ops_v (v_assign (v := (.int _ _)) rfl rfl) ?_
          refine ops_nil ?_
          refine ⟨(i + 1, N'), ?_, ⟨rfl, rfl, rfl, rfl, rfl, rfl, rfl, trivial⟩, H.tail, ?_, ?_, h4⟩
          · show 40 - (i + 1) < 40 - i; omega
          · show i + 1 ≤ 40; omega
          · show N'.length ≤ i + 1; omega
          -- (backstaylaw13.NodeRoom: loopend; chunks n0,T,S; ptr 13=n0,47=n0,53=n0)
      · rcases M.room_make (n := n.toNat) (k := k) (m := 1000) hNk (by omega) (M.pick r.b (max n 1)) (M.pick r.c (N.length + 1)) (M.pick r.d (N.length + 1)) with ⟨id, t, hs, ht, h3, h4⟩ | ⟨id, e2, N', hs, ht, h3, h4, h5⟩
        · simp only at hs ht
          have hz : ((⟨n.toNat, k, N⟩ : St).nodes.length : Int) = k := by rw [hlen]; omega
          have hz2 : (t.nodes.length : Int) = k + 1 := by omega
          have hz3 : (N.length : Int) = k := by omega
          refine W_seq ?_
          refine W_seq ?_
          refine W_region ?_
          refine ops_v (v_move (v := (.int _ _)) rfl rfl) ?_
          refine ops_v (v_move (v := (.slice _ _ _)) rfl rfl) ?_
          refine ops_v (v_len rfl sl22 rfl) ?_
          refine ops_v (v_lss true rfl rfl rfl (decide_eq_true (by first | omega | (simp only; omega) | rfl | decide))) ?_
          refine ops_v (v_move (v := (.bool _)) rfl rfl) ?_
          refine ops_v (v_move (v := (.int _ _)) rfl rfl) ?_
          refine ops_v (v_lss true rfl rfl rfl (decide_eq_true (by first | omega | (simp only; omega) | rfl | decide))) ?_
          refine ops_v (v_pick_t (v := (.bool _)) rfl rfl rfl) ?_
          refine ops_nil ?_
          refine W_if_t rfl ?_
          refine W_skip ?_
          refine W_seq ?_
          refine W_block ?_
          refine W_seq ?_
          refine W_region ?_
          refine ops_v (v_move (v := (.slice _ _ _)) rfl rfl) ?_
          refine ops_v (v_move (v := (.int _ _)) rfl rfl) ?_
          refine ops_v (v_indexAddr_sl rfl se22 rfl rfl (by omega) (by omega)) ?_
          refine ops_v (v_loadBase (vs := cells4 r) rfl ta39 (fun w' hw' => by rw [hw']; exact hcell' _ H.base) rfl rfl) ?_
          refine ops_alloc H rfl tz39 ?_
          clear H; intro bn0 w H
          refine ops_store (vs := [_, _, _, _]) (v := (.agg _)) (cs' := [_, _, _, _]) 0 H rfl ts39 rfl rfl rfl rfl rfl rfl rfl rfl ?_
          clear H; intro w H
          refine ops_nil ?_
          refine W_seq ?_
          refine W_region ?_
          refine ops_v (v_move (v := (.pointer _)) rfl rfl) ?_
          refine ops_call rfl c30 (FnC.ro 2 rfl H (fun _ => Size_ok)) ?_
          clear H; rintro _ w ⟨rfl, H⟩
          refine ops_v (v_assign (v := (.int _ _)) rfl rfl) ?_
          refine ops_nil ?_
          refine W_seq ?_
          refine W_region ?_
          refine ops_v (v_assign (v := _) rfl rfl) ?_
          refine ops_nil ?_
          refine W_seq ?_
          refine W_region ?_
          refine ops_v (v_assign (v := _) rfl rfl) ?_
          refine ops_nil ?_
          refine W_seq ?_
          refine W_region ?_
          refine ops_v (v_assign (v := _) rfl rfl) ?_
          refine ops_nil ?_
          refine W_seq ?_
          refine W_region ?_
          refine ops_v (v_assign (v := _) rfl rfl) ?_
          refine ops_nil ?_
          refine W_seq ?_
          refine W_seq ?_
          refine W_region ?_
          refine ops_v (v_indexAddr_arr rfl ae39 rfl rfl (by first | omega | decide) rfl) ?_
          refine ops_load (v := (.int _ _)) 0 H rfl tc3 rfl rfl rfl ?_
          refine ops_call rfl c25 (pick13_ok H r.a 3 hok.1 (by decide)) ?_
          clear H; rintro _ w ⟨rfl, H⟩
          refine ops_v (v_eql false rfl rfl rfl (decide_eq_false (by first | omega | (simp only; omega) | rfl | decide))) ?_
          refine ops_nil ?_
          refine W_if_f rfl ?_
          refine W_seq ?_
          refine W_region ?_
          refine ops_v (v_indexAddr_arr rfl ae39 rfl rfl (by first | omega | decide) rfl) ?_
          refine ops_load (v := (.int _ _)) 0 H rfl tc3 rfl rfl rfl ?_
          refine ops_v (v_move (v := (.int _ _)) rfl rfl) ?_
          refine ops_v (v_max (c := max n 1) rfl rfl rfl hmx) ?_
          refine ops_call rfl c25 (pick13_ok H r.b (max n 1) hok.2.1 hm1) ?_
          clear H; rintro _ w ⟨rfl, H⟩
          refine ops_v (v_assign (v := (.int _ _)) rfl rfl) ?_
          refine ops_nil ?_
          refine W_seq ?_
          refine W_draw (is := [0]) mixed H ?_
          clear H; intro w H
          refine any_take 0 rfl (by kernel_rfl) (by kernel_rfl) (by kernel_rfl) (v_move (v := (.pointer _)) rfl rfl) ?_
          refine any_take 1 rfl (by kernel_rfl) (by kernel_rfl) (by kernel_rfl) (v_move (v := (.int _ _)) rfl rfl) ?_
          refine any_take 2 rfl (by kernel_rfl) (by kernel_rfl) (by kernel_rfl) (v_indexAddr_arr rfl ae39 rfl rfl (by first | omega | decide) rfl) ?_
          refine any_take 3 rfl (by kernel_rfl) (by kernel_rfl) (by kernel_rfl) (v_load (v := (.int _ _)) rfl tc3 (fun _ hS => hS.1 _ _ _ rfl) rfl rfl) ?_
          refine any_take 4 rfl (by kernel_rfl) (by kernel_rfl) (by kernel_rfl) (v_move (v := (.int _ _)) rfl rfl) ?_
          refine any_take 5 rfl (by kernel_rfl) (by kernel_rfl) (by kernel_rfl) (v_add _ rfl rfl rfl (wrap_in (by omega) (by omega))) ?_
          refine any_take 7 rfl (by kernel_rfl) (by kernel_rfl) (by kernel_rfl) (v_indexAddr_arr rfl ae39 rfl rfl (by first | omega | decide) rfl) ?_
          refine any_take 8 rfl (by kernel_rfl) (by kernel_rfl) (by kernel_rfl) (v_load (v := (.int _ _)) rfl tc3 (fun _ hS => hS.1 _ _ _ rfl) rfl rfl) ?_
          refine any_take 9 rfl (by kernel_rfl) (by kernel_rfl) (by kernel_rfl) (v_move (v := (.int _ _)) rfl rfl) ?_
          refine any_take 10 rfl (by kernel_rfl) (by kernel_rfl) (by kernel_rfl) (v_add _ rfl rfl rfl (wrap_in (by omega) (by omega))) ?_
          refine any_one 6 rfl (by kernel_rfl) ?_
          refine ops_call rfl c25 (pick13_ok H r.c (N.length + 1) hok.2.2.1 hp0) ?_
          clear H; rintro _ w ⟨rfl, H⟩
          refine ops_nil ⟨H.stab [(0, 0)] ⟨rfl, trivial⟩, ?_⟩
          refine any_one 11 rfl (by kernel_rfl) ?_
          refine ops_call rfl c25 (pick13_ok H r.d (N.length + 1) hok.2.2.2 hp0) ?_
          clear H; rintro _ w ⟨rfl, H⟩
          refine ops_nil ⟨H.stab [(0, 0)] ⟨rfl, trivial⟩, ?_⟩
          refine any_one 12 rfl (by kernel_rfl) ?_
          refine ops_call rfl c39 (FnC.at 2 rfl H (fun _ H => Make_ok hkk hs H)) ?_
          clear H; rintro _ w ⟨rfl, H⟩
          refine ops_nil ⟨H.stab [(0, 0)] ⟨rfl, trivial⟩, ?_⟩
          refine any_take 13 rfl (by kernel_rfl) (by kernel_rfl) (by kernel_rfl) (v_move (v := (.tuple _)) rfl rfl) ?_
          refine any_take 14 rfl (by kernel_rfl) (by kernel_rfl) (by kernel_rfl) (v_extract (v := (.int _ _)) rfl rfl rfl) ?_
          refine any_take 15 rfl (by kernel_rfl) (by kernel_rfl) (by kernel_rfl) (v_extract (v := (.int _ _)) rfl rfl rfl) ?_
          refine any_take 16 rfl (by kernel_rfl) (by kernel_rfl) (by kernel_rfl) (v_assign (v := (.int _ _)) rfl rfl) ?_
          refine any_take 17 rfl (by kernel_rfl) (by kernel_rfl) (by kernel_rfl) (v_assign (v := (.int _ _)) rfl rfl) ?_
          refine any_done (by kernel_rfl) ?_
          refine W_draw (is := [0]) mixed H ?_
          clear H; intro w H
          refine any_take 0 rfl (by kernel_rfl) (by kernel_rfl) (by kernel_rfl) (v_move (v := (.pointer _)) rfl rfl) ?_
          refine any_take 1 rfl (by kernel_rfl) (by kernel_rfl) (by kernel_rfl) (v_move (v := (.int _ _)) rfl rfl) ?_
          refine any_take 2 rfl (by kernel_rfl) (by kernel_rfl) (by kernel_rfl) (v_indexAddr_arr rfl ae39 rfl rfl (by first | omega | decide) rfl) ?_
          refine any_take 3 rfl (by kernel_rfl) (by kernel_rfl) (by kernel_rfl) (v_load (v := (.int _ _)) rfl tc3 (fun _ hS => hS.1 _ _ _ rfl) rfl rfl) ?_
          refine any_take 4 rfl (by kernel_rfl) (by kernel_rfl) (by kernel_rfl) (v_move (v := (.int _ _)) rfl rfl) ?_
          refine any_take 5 rfl (by kernel_rfl) (by kernel_rfl) (by kernel_rfl) (v_add _ rfl rfl rfl (wrap_in (by omega) (by omega))) ?_
          refine any_take 7 rfl (by kernel_rfl) (by kernel_rfl) (by kernel_rfl) (v_indexAddr_arr rfl ae39 rfl rfl (by first | omega | decide) rfl) ?_
          refine any_take 8 rfl (by kernel_rfl) (by kernel_rfl) (by kernel_rfl) (v_load (v := (.int _ _)) rfl tc3 (fun _ hS => hS.1 _ _ _ rfl) rfl rfl) ?_
          refine any_take 9 rfl (by kernel_rfl) (by kernel_rfl) (by kernel_rfl) (v_move (v := (.int _ _)) rfl rfl) ?_
          refine any_take 10 rfl (by kernel_rfl) (by kernel_rfl) (by kernel_rfl) (v_add _ rfl rfl rfl (wrap_in (by omega) (by omega))) ?_
          refine any_one 6 rfl (by kernel_rfl) ?_
          refine ops_call rfl c25 (pick13_ok H r.c (N.length + 1) hok.2.2.1 hp0) ?_
          clear H; rintro _ w ⟨rfl, H⟩
          refine ops_nil ⟨H.stab [(0, 0)] ⟨rfl, trivial⟩, ?_⟩
          refine any_one 11 rfl (by kernel_rfl) ?_
          refine ops_call rfl c25 (pick13_ok H r.d (N.length + 1) hok.2.2.2 hp0) ?_
          clear H; rintro _ w ⟨rfl, H⟩
          refine ops_nil ⟨H.stab [(0, 0)] ⟨rfl, trivial⟩, ?_⟩
          refine any_one 12 rfl (by kernel_rfl) ?_
          refine ops_call rfl c39 (FnC.at 1 rfl H (fun _ H => Make_ok hmm ht H)) ?_
          clear H; rintro _ w ⟨rfl, H⟩
          refine ops_nil ⟨H.stab [(0, 0)] ⟨rfl, trivial⟩, ?_⟩
          refine any_take 13 rfl (by kernel_rfl) (by kernel_rfl) (by kernel_rfl) (v_move (v := (.tuple _)) rfl rfl) ?_
          refine any_take 14 rfl (by kernel_rfl) (by kernel_rfl) (by kernel_rfl) (v_extract (v := (.int _ _)) rfl rfl rfl) ?_
          refine any_take 15 rfl (by kernel_rfl) (by kernel_rfl) (by kernel_rfl) (v_extract (v := (.int _ _)) rfl rfl rfl) ?_
          refine any_take 16 rfl (by kernel_rfl) (by kernel_rfl) (by kernel_rfl) (v_assign (v := (.int _ _)) rfl rfl) ?_
          refine any_take 17 rfl (by kernel_rfl) (by kernel_rfl) (by kernel_rfl) (v_assign (v := (.int _ _)) rfl rfl) ?_
          refine any_done (by kernel_rfl) ?_
          refine W_seq ?_
          refine W_seq ?_
          refine W_region ?_
          refine ops_v (v_move (v := (.int _ _)) rfl rfl) ?_
          refine ops_v (v_eql true rfl rfl rfl (decide_eq_true (by first | omega | (simp only; omega) | rfl | decide))) ?_
          refine ops_nil ?_
          refine W_if_t rfl ?_
          refine W_seq ?_
          refine W_region ?_
          refine ops_v (v_move (v := (.bool _)) rfl rfl) ?_
          refine ops_v (v_move (v := (.bool _)) rfl rfl) ?_
          refine ops_v (v_move (v := (.int _ _)) rfl rfl) ?_
          refine ops_v (v_move (v := (.int _ _)) rfl rfl) ?_
          refine ops_v (v_eql true rfl rfl rfl (decide_eq_true (by first | omega | (simp only; omega) | rfl | decide))) ?_
          refine ops_v (v_pick_t (v := (.bool _)) rfl rfl rfl) ?_
          refine ops_v (v_move (v := (.bool _)) rfl rfl) ?_
          refine ops_v (v_move (v := (.pointer _)) rfl rfl) ?_
          refine ops_call rfl c30 (FnC.ro 2 rfl H (fun _ => Size_ok)) ?_
          clear H; rintro _ w ⟨rfl, H⟩
          refine ops_v (v_move (v := (.int _ _)) rfl rfl) ?_
          refine ops_v (v_eql true rfl rfl rfl (decide_eq_true (by first | omega | (simp only; omega) | rfl | decide))) ?_
          refine ops_v (v_pick_t (v := (.bool _)) rfl rfl rfl) ?_
          refine ops_v (v_move (v := (.bool _)) rfl rfl) ?_
          refine ops_v (v_move (v := (.pointer _)) rfl rfl) ?_
          refine ops_call rfl c30 (FnC.ro 1 rfl H (fun _ => Size_ok)) ?_
          clear H; rintro _ w ⟨rfl, H⟩
          refine ops_v (v_move (v := (.int _ _)) rfl rfl) ?_
          refine ops_v (v_add _ rfl rfl rfl (wrap_in (by omega) (by omega))) ?_
          refine ops_v (v_eql true rfl rfl rfl (decide_eq_true (by first | omega | (simp only; omega) | rfl | decide))) ?_
          refine ops_v (v_pick_t (v := (.bool _)) rfl rfl rfl) ?_
          refine ops_v (v_move (v := (.bool _)) rfl rfl) ?_
          refine ops_v (v_move (v := (.int _ _)) rfl rfl) ?_
          refine ops_v (v_eql true rfl rfl rfl (decide_eq_true (by first | omega | (simp only; omega) | rfl | decide))) ?_
          refine ops_v (v_pick_t (v := (.bool _)) rfl rfl rfl) ?_
          refine ops_v (v_move (v := (.bool _)) rfl rfl) ?_
          refine ops_v (v_move (v := (.int _ _)) rfl rfl) ?_
          refine ops_v (v_eql true rfl rfl rfl (decide_eq_true (by first | omega | (simp only; omega) | rfl | decide))) ?_
          refine ops_v (v_pick_t (v := (.bool _)) rfl rfl rfl) ?_
          refine ops_v (v_assign (v := (.bool _)) rfl rfl) ?_
          refine ops_nil ?_
          refine W_ret ?_
          refine ⟨_, (.tmp (v := (.bool _)) rfl .nil), ?_⟩
          exact ⟨rfl, _, H⟩
          -- (backstaylaw13.NodeRoom: ret; chunks n0,T,S; ptr 13=n0,47=n0)
        · simp only at hs ht
          have hz : ((⟨n.toNat, k, N'⟩ : St).nodes.length : Int) = ((⟨n.toNat, 1000, N'⟩ : St).nodes.length : Int) := rfl
          refine W_seq ?_
          refine W_seq ?_
          refine W_region ?_
          refine ops_v (v_move (v := (.int _ _)) rfl rfl) ?_
          refine ops_v (v_move (v := (.slice _ _ _)) rfl rfl) ?_
          refine ops_v (v_len rfl sl22 rfl) ?_
          refine ops_v (v_lss true rfl rfl rfl (decide_eq_true (by first | omega | (simp only; omega) | rfl | decide))) ?_
          refine ops_v (v_move (v := (.bool _)) rfl rfl) ?_
          refine ops_v (v_move (v := (.int _ _)) rfl rfl) ?_
          refine ops_v (v_lss true rfl rfl rfl (decide_eq_true (by first | omega | (simp only; omega) | rfl | decide))) ?_
          refine ops_v (v_pick_t (v := (.bool _)) rfl rfl rfl) ?_
          refine ops_nil ?_
          refine W_if_t rfl ?_
          refine W_skip ?_
          refine W_seq ?_
          refine W_block ?_
          refine W_seq ?_
          refine W_region ?_
          refine ops_v (v_move (v := (.slice _ _ _)) rfl rfl) ?_
          refine ops_v (v_move (v := (.int _ _)) rfl rfl) ?_
          refine ops_v (v_indexAddr_sl rfl se22 rfl rfl (by omega) (by omega)) ?_
          refine ops_v (v_loadBase (vs := cells4 r) rfl ta39 (fun w' hw' => by rw [hw']; exact hcell' _ H.base) rfl rfl) ?_
          refine ops_alloc H rfl tz39 ?_
          clear H; intro bn0 w H
          refine ops_store (vs := [_, _, _, _]) (v := (.agg _)) (cs' := [_, _, _, _]) 0 H rfl ts39 rfl rfl rfl rfl rfl rfl rfl rfl ?_
          clear H; intro w H
          refine ops_nil ?_
          refine W_seq ?_
          refine W_region ?_
          refine ops_v (v_move (v := (.pointer _)) rfl rfl) ?_
          refine ops_call rfl c30 (FnC.ro 2 rfl H (fun _ => Size_ok)) ?_
          clear H; rintro _ w ⟨rfl, H⟩
          refine ops_v (v_assign (v := (.int _ _)) rfl rfl) ?_
          refine ops_nil ?_
          refine W_seq ?_
          refine W_region ?_
          refine ops_v (v_assign (v := _) rfl rfl) ?_
          refine ops_nil ?_
          refine W_seq ?_
          refine W_region ?_
          refine ops_v (v_assign (v := _) rfl rfl) ?_
          refine ops_nil ?_
          refine W_seq ?_
          refine W_region ?_
          refine ops_v (v_assign (v := _) rfl rfl) ?_
          refine ops_nil ?_
          refine W_seq ?_
          refine W_region ?_
          refine ops_v (v_assign (v := _) rfl rfl) ?_
          refine ops_nil ?_
          refine W_seq ?_
          refine W_seq ?_
          refine W_region ?_
          refine ops_v (v_indexAddr_arr rfl ae39 rfl rfl (by first | omega | decide) rfl) ?_
          refine ops_load (v := (.int _ _)) 0 H rfl tc3 rfl rfl rfl ?_
          refine ops_call rfl c25 (pick13_ok H r.a 3 hok.1 (by decide)) ?_
          clear H; rintro _ w ⟨rfl, H⟩
          refine ops_v (v_eql false rfl rfl rfl (decide_eq_false (by first | omega | (simp only; omega) | rfl | decide))) ?_
          refine ops_nil ?_
          refine W_if_f rfl ?_
          refine W_seq ?_
          refine W_region ?_
          refine ops_v (v_indexAddr_arr rfl ae39 rfl rfl (by first | omega | decide) rfl) ?_
          refine ops_load (v := (.int _ _)) 0 H rfl tc3 rfl rfl rfl ?_
          refine ops_v (v_move (v := (.int _ _)) rfl rfl) ?_
          refine ops_v (v_max (c := max n 1) rfl rfl rfl hmx) ?_
          refine ops_call rfl c25 (pick13_ok H r.b (max n 1) hok.2.1 hm1) ?_
          clear H; rintro _ w ⟨rfl, H⟩
          refine ops_v (v_assign (v := (.int _ _)) rfl rfl) ?_
          refine ops_nil ?_
          refine W_seq ?_
          refine W_draw (is := [0]) mixed H ?_
          clear H; intro w H
          refine any_take 0 rfl (by kernel_rfl) (by kernel_rfl) (by kernel_rfl) (v_move (v := (.pointer _)) rfl rfl) ?_
          refine any_take 1 rfl (by kernel_rfl) (by kernel_rfl) (by kernel_rfl) (v_move (v := (.int _ _)) rfl rfl) ?_
          refine any_take 2 rfl (by kernel_rfl) (by kernel_rfl) (by kernel_rfl) (v_indexAddr_arr rfl ae39 rfl rfl (by first | omega | decide) rfl) ?_
          refine any_take 3 rfl (by kernel_rfl) (by kernel_rfl) (by kernel_rfl) (v_load (v := (.int _ _)) rfl tc3 (fun _ hS => hS.1 _ _ _ rfl) rfl rfl) ?_
          refine any_take 4 rfl (by kernel_rfl) (by kernel_rfl) (by kernel_rfl) (v_move (v := (.int _ _)) rfl rfl) ?_
          refine any_take 5 rfl (by kernel_rfl) (by kernel_rfl) (by kernel_rfl) (v_add _ rfl rfl rfl (wrap_in (by omega) (by omega))) ?_
          refine any_take 7 rfl (by kernel_rfl) (by kernel_rfl) (by kernel_rfl) (v_indexAddr_arr rfl ae39 rfl rfl (by first | omega | decide) rfl) ?_
          refine any_take 8 rfl (by kernel_rfl) (by kernel_rfl) (by kernel_rfl) (v_load (v := (.int _ _)) rfl tc3 (fun _ hS => hS.1 _ _ _ rfl) rfl rfl) ?_
          refine any_take 9 rfl (by kernel_rfl) (by kernel_rfl) (by kernel_rfl) (v_move (v := (.int _ _)) rfl rfl) ?_
          refine any_take 10 rfl (by kernel_rfl) (by kernel_rfl) (by kernel_rfl) (v_add _ rfl rfl rfl (wrap_in (by omega) (by omega))) ?_
          refine any_one 6 rfl (by kernel_rfl) ?_
          refine ops_call rfl c25 (pick13_ok H r.c (N.length + 1) hok.2.2.1 hp0) ?_
          clear H; rintro _ w ⟨rfl, H⟩
          refine ops_nil ⟨H.stab [(0, 0)] ⟨rfl, trivial⟩, ?_⟩
          refine any_one 11 rfl (by kernel_rfl) ?_
          refine ops_call rfl c25 (pick13_ok H r.d (N.length + 1) hok.2.2.2 hp0) ?_
          clear H; rintro _ w ⟨rfl, H⟩
          refine ops_nil ⟨H.stab [(0, 0)] ⟨rfl, trivial⟩, ?_⟩
          refine any_one 12 rfl (by kernel_rfl) ?_
          refine ops_call rfl c39 (FnC.at 2 rfl H (fun _ H => Make_ok hkk hs H)) ?_
          clear H; rintro _ w ⟨rfl, H⟩
          refine ops_nil ⟨H.stab [(0, 0)] ⟨rfl, trivial⟩, ?_⟩
          refine any_take 13 rfl (by kernel_rfl) (by kernel_rfl) (by kernel_rfl) (v_move (v := (.tuple _)) rfl rfl) ?_
          refine any_take 14 rfl (by kernel_rfl) (by kernel_rfl) (by kernel_rfl) (v_extract (v := (.int _ _)) rfl rfl rfl) ?_
          refine any_take 15 rfl (by kernel_rfl) (by kernel_rfl) (by kernel_rfl) (v_extract (v := (.int _ _)) rfl rfl rfl) ?_
          refine any_take 16 rfl (by kernel_rfl) (by kernel_rfl) (by kernel_rfl) (v_assign (v := (.int _ _)) rfl rfl) ?_
          refine any_take 17 rfl (by kernel_rfl) (by kernel_rfl) (by kernel_rfl) (v_assign (v := (.int _ _)) rfl rfl) ?_
          refine any_done (by kernel_rfl) ?_
          refine W_draw (is := [0]) mixed H ?_
          clear H; intro w H
          refine any_take 0 rfl (by kernel_rfl) (by kernel_rfl) (by kernel_rfl) (v_move (v := (.pointer _)) rfl rfl) ?_
          refine any_take 1 rfl (by kernel_rfl) (by kernel_rfl) (by kernel_rfl) (v_move (v := (.int _ _)) rfl rfl) ?_
          refine any_take 2 rfl (by kernel_rfl) (by kernel_rfl) (by kernel_rfl) (v_indexAddr_arr rfl ae39 rfl rfl (by first | omega | decide) rfl) ?_
          refine any_take 3 rfl (by kernel_rfl) (by kernel_rfl) (by kernel_rfl) (v_load (v := (.int _ _)) rfl tc3 (fun _ hS => hS.1 _ _ _ rfl) rfl rfl) ?_
          refine any_take 4 rfl (by kernel_rfl) (by kernel_rfl) (by kernel_rfl) (v_move (v := (.int _ _)) rfl rfl) ?_
          refine any_take 5 rfl (by kernel_rfl) (by kernel_rfl) (by kernel_rfl) (v_add _ rfl rfl rfl (wrap_in (by omega) (by omega))) ?_
          refine any_take 7 rfl (by kernel_rfl) (by kernel_rfl) (by kernel_rfl) (v_indexAddr_arr rfl ae39 rfl rfl (by first | omega | decide) rfl) ?_
          refine any_take 8 rfl (by kernel_rfl) (by kernel_rfl) (by kernel_rfl) (v_load (v := (.int _ _)) rfl tc3 (fun _ hS => hS.1 _ _ _ rfl) rfl rfl) ?_
          refine any_take 9 rfl (by kernel_rfl) (by kernel_rfl) (by kernel_rfl) (v_move (v := (.int _ _)) rfl rfl) ?_
          refine any_take 10 rfl (by kernel_rfl) (by kernel_rfl) (by kernel_rfl) (v_add _ rfl rfl rfl (wrap_in (by omega) (by omega))) ?_
          refine any_one 6 rfl (by kernel_rfl) ?_
          refine ops_call rfl c25 (pick13_ok H r.c (N.length + 1) hok.2.2.1 hp0) ?_
          clear H; rintro _ w ⟨rfl, H⟩
          refine ops_nil ⟨H.stab [(0, 0)] ⟨rfl, trivial⟩, ?_⟩
          refine any_one 11 rfl (by kernel_rfl) ?_
          refine ops_call rfl c25 (pick13_ok H r.d (N.length + 1) hok.2.2.2 hp0) ?_
          clear H; rintro _ w ⟨rfl, H⟩
          refine ops_nil ⟨H.stab [(0, 0)] ⟨rfl, trivial⟩, ?_⟩
          refine any_one 12 rfl (by kernel_rfl) ?_
          refine ops_call rfl c39 (FnC.at 1 rfl H (fun _ H => Make_ok hmm ht H)) ?_
          clear H; rintro _ w ⟨rfl, H⟩
          refine ops_nil ⟨H.stab [(0, 0)] ⟨rfl, trivial⟩, ?_⟩
          refine any_take 13 rfl (by kernel_rfl) (by kernel_rfl) (by kernel_rfl) (v_move (v := (.tuple _)) rfl rfl) ?_
          refine any_take 14 rfl (by kernel_rfl) (by kernel_rfl) (by kernel_rfl) (v_extract (v := (.int _ _)) rfl rfl rfl) ?_
          refine any_take 15 rfl (by kernel_rfl) (by kernel_rfl) (by kernel_rfl) (v_extract (v := (.int _ _)) rfl rfl rfl) ?_
          refine any_take 16 rfl (by kernel_rfl) (by kernel_rfl) (by kernel_rfl) (v_assign (v := (.int _ _)) rfl rfl) ?_
          refine any_take 17 rfl (by kernel_rfl) (by kernel_rfl) (by kernel_rfl) (v_assign (v := (.int _ _)) rfl rfl) ?_
          refine any_done (by kernel_rfl) ?_
          refine W_seq ?_
          refine W_seq ?_
          refine W_region ?_
          refine ops_v (v_move (v := (.int _ _)) rfl rfl) ?_
          refine ops_v (v_eql false rfl rfl rfl (decide_eq_false (by first | omega | (simp only; omega) | rfl | decide))) ?_
          refine ops_nil ?_
          refine W_if_f rfl ?_
          refine W_skip ?_
          refine W_seq ?_
          refine W_region ?_
          refine ops_v (v_move (v := (.int _ _)) rfl rfl) ?_
          refine ops_v (v_move (v := (.int _ _)) rfl rfl) ?_
          refine ops_v (v_neq false rfl rfl rfl (decide_eq_false (by first | omega | (simp only; omega) | rfl | decide))) ?_
          refine ops_v (v_move (v := (.bool _)) rfl rfl) ?_
          refine ops_v (v_move (v := (.int _ _)) rfl rfl) ?_
          refine ops_v (v_move (v := (.int _ _)) rfl rfl) ?_
          refine ops_v (v_neq false rfl rfl rfl (decide_eq_false (by first | omega | (simp only; omega) | rfl | decide))) ?_
          refine ops_v (v_pick_f (v := (.bool _)) rfl rfl rfl) ?_
          refine ops_v (v_move (v := (.bool _)) rfl rfl) ?_
          refine ops_v (v_move (v := (.pointer _)) rfl rfl) ?_
          refine ops_call rfl c30 (FnC.ro 2 rfl H (fun _ => Size_ok)) ?_
          clear H; rintro _ w ⟨rfl, H⟩
          refine ops_v (v_move (v := (.pointer _)) rfl rfl) ?_
          refine ops_call rfl c30 (FnC.ro 1 rfl H (fun _ => Size_ok)) ?_
          clear H; rintro _ w ⟨rfl, H⟩
          refine ops_v (v_neq false rfl rfl rfl (decide_eq_false (by first | omega | (simp only; omega) | rfl | decide))) ?_
          refine ops_v (v_pick_f (v := (.bool _)) rfl rfl rfl) ?_
          refine ops_nil ?_
          refine W_if_f rfl ?_
          refine W_skip ?_
          refine W_region ?_
          refine ops_v (v_move (v := (.int _ _)) rfl rfl) ?_
          refine ops_v (v_add _ rfl rfl rfl (wrap_in (by omega) (by omega))) ?_
          refine ops_v (v_assign (v := (.int _ _)) rfl rfl) ?_
          refine ops_nil ?_
          refine ⟨(i + 1, N'), ?_, ⟨rfl, rfl, rfl, rfl, rfl, rfl, rfl, trivial⟩, H.tail, ?_, ?_, h4⟩
          · show 40 - (i + 1) < 40 - i; omega
          · show i + 1 ≤ 40; omega
          · show N'.length ≤ i + 1; omega
          -- (backstaylaw13.NodeRoom: loopend; chunks n0,T,S; ptr 13=n0,47=n0)
    · refine W_seq ?_
      refine W_seq ?_
      refine W_region ?_
      refine ops_v (v_move (v := (.int _ _)) rfl rfl) ?_
      refine ops_v (v_move (v := (.slice _ _ _)) rfl rfl) ?_
      refine ops_v (v_len rfl sl22 rfl) ?_
      refine ops_v (v_lss true rfl rfl rfl (decide_eq_true (by first | omega | (simp only; omega) | rfl | decide))) ?_
      refine ops_v (v_move (v := (.bool _)) rfl rfl) ?_
      refine ops_v (v_move (v := (.int _ _)) rfl rfl) ?_
      refine ops_v (v_lss false rfl rfl rfl (decide_eq_false (by first | omega | (simp only; omega) | rfl | decide))) ?_
      refine ops_v (v_pick_t (v := (.bool _)) rfl rfl rfl) ?_
      refine ops_nil ?_
      refine W_if_f rfl ?_
      refine W_exit ?_
      refine W_seq ?_
      refine W_region ?_
      refine ops_v (v_move (v := (.bool _)) rfl rfl) ?_
      refine ops_v (v_assign (v := (.bool _)) rfl rfl) ?_
      refine ops_nil ?_
      refine W_ret ?_
      refine ⟨_, (.tmp (v := (.bool _)) rfl .nil), ?_⟩
      exact ⟨rfl, _, H⟩
      -- (backstaylaw13.NodeRoom: ret; chunks T,S; ptr )
  · refine W_seq ?_
    refine W_seq ?_
    refine W_region ?_
    refine ops_v (v_move (v := (.int _ _)) rfl rfl) ?_
    refine ops_v (v_move (v := (.slice _ _ _)) rfl rfl) ?_
    refine ops_v (v_len rfl sl22 rfl) ?_
    refine ops_v (v_lss false rfl rfl rfl (decide_eq_false (by first | omega | (simp only; omega) | rfl | decide))) ?_
    refine ops_v (v_move (v := (.bool _)) rfl rfl) ?_
    refine ops_skip rfl rfl ?_
    refine ops_skip rfl rfl ?_
    refine ops_v (v_pick_f (v := (.bool _)) rfl rfl rfl) ?_
    refine ops_nil ?_
    refine W_if_f rfl ?_
    refine W_exit ?_
    refine W_seq ?_
    refine W_region ?_
    refine ops_v (v_move (v := (.bool _)) rfl rfl) ?_
    refine ops_v (v_assign (v := (.bool _)) rfl rfl) ?_
    refine ops_nil ?_
    refine W_ret ?_
    refine ⟨_, (.tmp (v := (.bool _)) rfl .nil), ?_⟩
    exact ⟨rfl, _, H⟩
    -- (backstaylaw13.NodeRoom: ret; chunks T,S; ptr )
theorem walk (W : World) (links : Int) (i1 : i64 links) (v : Value) (l : List R4) (hr : RawIs W v l) (most : Int) (i4 : i64 most) :
    FnC Try.prog 7 [int links, v, int most] W (fun v w' => v = .bool true ∧ Base W w') :=
  (law_ok (Own.start W) links most i1 i4 v l hr).mono (fun _ _ ⟨a, _, H⟩ => ⟨a, H.base⟩)
theorem own : ownKnob Try.prog.godebug = none := by kernel_rfl
set_option maxRecDepth 100000 in
theorem lifted (os : Os) (started : os.Started) (H : Type) (enc : TypeId × Value → H) :
    ReturnsInHanded {} Try.checked os 7 .any (Rows.nodeRoomSpec.pre6 enc Try.prog Try.f7 Rows.nodeRoomRow.domain false) (Rows.nodeRoomSpec.post enc Try.prog Try.f7 false true false false) := by
  refine returnsInHanded_of_change (C := Try.checked) own started (by kernel_rfl) Try.func7
    (ChangeSpec.witness6 (enc := enc) (C := Try.checked) false ⟨#[], #[.int .i64 0, .slice none 0 0, .int .i64 0], []⟩ 8 (by kernel_rfl) (by kernel_rfl) (by kernel_rfl) (by kernel_rfl)) ?_
  intro W base args ds gs before hval0 hW hcnd _
  have hval : ∀ (j : Nat) t v, Try.f7.params[j]? = some t → args[j]? = some v → Value.okWide Try.prog W .any base t v := hval0
  have hW' := hW
  obtain ⟨p, q, hA0, hV, rfl, hfz, hnd⟩ := hW
  have hA : DataW.TrodAll enc Try.prog W 0 (fun _ => true) true Try.f7.params.toList args.toList ds p := hA0
  rw [Try.params7] at hA hval
  obtain ⟨v0, vs0, d0, ds0, p0, q0, hargs, rfl, rfl, h0, r0⟩ := trodAll_cons hA
  obtain ⟨v1, vs1, d1, ds1, p1, q1, rfl, rfl, rfl, h1, r1⟩ := trodAll_cons r0
  obtain ⟨v2, vs2, d2, ds2, p2, q2, rfl, rfl, rfl, h2, r2⟩ := trodAll_cons r1
  obtain ⟨rfl, rfl, rfl⟩ := trodAll_nil r2
  obtain rfl : args = #[v0, v1, v2] := by cases args; simp_all
  obtain ⟨rfl, rfl⟩ := trodVars_none hV
  obtain ⟨a0, rfl, rfl, rfl, x0⟩ := open_int Try.underlying3 (hval 0 3 v0 rfl rfl) h0
  have k1 := h1
  have lt1 : ∀ x ∈ p1, x.block < W.heap.size := by obtain ⟨m, hm⟩ := k1; exact DataW.trod_lt m _ _ _ hm
  obtain ⟨l1, w1⟩ := raw_of_trod h1 (okWide_slice Try.underlying22 (hval 1 22 v1 rfl rfl))
  obtain ⟨a2, rfl, rfl, rfl, x2⟩ := open_int Try.underlying3 (hval 2 3 v2 rfl rfl) h2
  clear hA0 hval0
  refine Calls.mono (walk W a0 (bounds_i64 x0) v1 l1 w1 a2 (bounds_i64 x2)) ?_
  rintro e W' ⟨_, rfl, rfl, hb⟩
  have bel := hb.below
  exact ⟨_, rfl, _, _, _, [], _, [], hW', trodAll_mk1 (shut_bool Try.underlying4 _), (trodAll_cons_mk (shut_int Try.underlying3 x0) (trodAll_cons_mk (Below.trod laidOut (by kernel_rfl) (of_decide_eq_true (by kernel_rfl)) k1 bel lt1) (trodAll_cons_mk (shut_int Try.underlying3 x2) trodAll_mk0))), rfl, bel.frame _, fun h => by cases h⟩
theorem closed : joinedFacts Try.prog 7 Try.f7 Rows.nodeRoomSpec Rows.nodeRoomRow = true := Go.Proofs.Ytchikjmhncojfaa.Head.joined (by kernel_rfl) rfl rfl (by kernel_rfl) (by kernel_rfl) (by kernel_rfl) (by kernel_rfl)
theorem over : Rows.nodeRoomRow.holds Try.pinned (OpenSpec.ofChange Rows.nodeRoomSpec) :=
  OpenClaim.holds_of_wide 7 Try.f7 rfl rfl rfl rfl rfl rfl rfl ⟨rfl, rfl, rfl, rfl, rfl⟩ rfl rfl rfl rfl rfl (by kernel_rfl) Try.func7 closed
    (of_decide_eq_true (by kernel_rfl)) (by unfold Func.isWrapper; first | (rw [if_pos (by decide +kernel)]; kernel_rfl) | (rw [if_neg (by decide +kernel)]; exact ⟨rfl, rfl⟩))
    (fun os started H enc _ => lifted os started H enc)
/-- The statement. -/
theorem proved : Rows.NodeRoomSaid := over
end Go.Proofs.Ytchikjmhncojfaa.nodeRoom
