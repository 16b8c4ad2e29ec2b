/- NodeTells of layer 13: a store's nodes are as the document says, step by step. Conditions: none. -/
import Derived.Test.YtchikjmhncojfaaStep13
import Derived.Test.YtchikjmhncojfaaHead
import Derived.ProofKit
import Derived.OpenShut
set_option linter.unusedVariables false
namespace Go.Proofs.Ytchikjmhncojfaa.nodeTells
open Go Go.Proofs Go.RowKit Go.ChangeShapes Go.WideShapes Go.ChangeAt Go.Proofs.Ytchikjmhncojfaa.W
open Go.Proofs.Ytchikjmhncojfaa.M (Br St getZ isN idx has down Wf rank i64 leafB askB R4 Ext)
variable {w wb : World} {R : List Chunk}
def good (a b : Int) : Bool := decide (0 ≤ a) && decide (a ≤ 16) && decide (1 ≤ b) && decide (b ≤ 1073741824)
def st0 (a b : Int) : St := if good a b then ⟨a.toNat, b.toNat, []⟩ else ⟨0, 0, []⟩
theorem good_iff {a b : Int} : good a b = true ↔ 0 ≤ a ∧ a ≤ 16 ∧ 1 ≤ b ∧ b ≤ 1073741824 := by simp [good, and_assoc]
theorem st0_wf (a b : Int) : Wf (st0 a b) := by
  unfold st0
  split
  · rename_i h; rw [good_iff] at h; exact Wf.empty (by omega) (by omega)
  · exact Wf.empty (by decide) (by decide)
theorem New_x (H : Own wb R w) (a b : Int) :
    FnC Try.prog 26 [int a, int b] w (fun v w' => ∃ o : Option Nat, v = xptr o ∧ o.isSome = good a b ∧ Own wb (XC o (st0 a b) :: R) w') := by
  cases hg : good a b with
  | true =>
    obtain ⟨h1, h2, h3, h4⟩ := good_iff.1 hg
    refine (New_ok H a b h1 h2 h3 h4).mono ?_
    rintro _ w ⟨p, rfl, H⟩
    exact ⟨some p, rfl, rfl, by unfold st0; rw [if_pos hg]; exact H⟩
  | false =>
    refine (New_nil H a b ?_).mono ?_
    · have : ¬ (0 ≤ a ∧ a ≤ 16 ∧ 1 ≤ b ∧ b ≤ 1073741824) := fun h => by rw [good_iff.2 h] at hg; cases hg
      omega
    · rintro _ w ⟨rfl, H⟩
      exact ⟨none, rfl, rfl, H.toPure (by unfold st0; rw [hg]; rfl)⟩
theorem New13_x (H : Own wb R w) (a b : Int) :
    FnC Try.prog 27 [int a, int b] w (fun v w' => v = .tuple [refV (st0 a b).links (st0 a b).most, .bool (good a b)].toArray ∧ Own wb R w') := by
  cases hg : good a b with
  | true =>
    obtain ⟨h1, h2, h3, h4⟩ := good_iff.1 hg
    refine (New13_ok H a b h1 h2 h3 h4).mono ?_
    rintro _ w ⟨rfl, H⟩
    refine ⟨?_, H⟩
    have e1 : ((st0 a b).links : Int) = a := by unfold st0; rw [if_pos hg]; show (a.toNat : Int) = a; omega
    have e2 : ((st0 a b).most : Int) = b := by unfold st0; rw [if_pos hg]; show (b.toNat : Int) = b; omega
    rw [e1, e2]
  | false =>
    refine (New13_no H a b ?_).mono ?_
    · have : ¬ (0 ≤ a ∧ a ≤ 16 ∧ 1 ≤ b ∧ b ≤ 1073741824) := fun h => by rw [good_iff.2 h] at hg; cases hg
      omega
    · rintro _ w ⟨rfl, H⟩
      refine ⟨?_, H⟩
      have e : st0 a b = ⟨0, 0, []⟩ := by unfold st0; rw [hg]; rfl
      rw [e]; rfl
theorem st0_nodes (a b : Int) : (st0 a b).nodes = [] := by unfold st0; split <;> rfl
set_option maxHeartbeats 4000000 in
theorem law_ok (H : Own wb R w) (links most f id : Int) (i1 : i64 links) (i2 : i64 most) (i3 : i64 f) (i4 : i64 id) (v : Value) (l : List R4) (hr : RawIs wb v l) :
    FnC Try.prog 3 [int links, int most, v, int f, int id] w (fun u w' => u = .bool true ∧ ∃ R', Own wb R' w') := by
  have lo := M.pick_lo (c := links) (n := 6) (by decide)
  have hi := M.pick_hi (c := links) (n := 6) (by decide)
  have mlo := M.pick_lo (c := most) (n := 40) (by decide)
  have mhi := M.pick_hi (c := most) (n := 40) (by decide)
  obtain ⟨rp, rcap, rfl, hlm, hrl⟩ := hr
  refine FnC_of Try.func3 rfl rfl rfl rfl ?_
  refine W_seq ?_
  refine W_region ?_
  refine ops_v (v_assign (v := _) rfl rfl) ?_
  refine ops_nil ?_
  refine W_seq ?_
  refine W_region ?_
  refine ops_call rfl c24 (awake13_ok H) ?_
  clear H; rintro _ w ⟨rfl, H⟩
  refine ops_v (v_assign (v := (.bool _)) rfl rfl) ?_
  refine ops_nil ?_
  refine W_seq ?_
  refine W_seq ?_
  refine W_region ?_
  refine ops_v (v_move (v := (.int _ _)) rfl rfl) ?_
  refine ops_v (v_move (v := (.int _ _)) rfl rfl) ?_
  refine ops_v (v_build (cs := [(.int _ _), (.int _ _)]) rfl bp24 rfl) ?_
  refine ops_v (v_move (v := (.int _ _)) rfl rfl) ?_
  refine ops_call rfl c25 (pick13_ok H links 6 i1 (by decide)) ?_
  clear H; rintro _ w ⟨rfl, H⟩
  refine ops_v (v_move (v := (.int _ _)) rfl rfl) ?_
  refine ops_call rfl c25 (pick13_ok H most 40 i2 (by decide)) ?_
  clear H; rintro _ w ⟨rfl, H⟩
  refine ops_v (v_add _ rfl rfl rfl (wrap_in (by omega) (by omega))) ?_
  refine ops_v (v_build (cs := [(.int _ _), (.int _ _)]) rfl bp24 rfl) ?_
  refine ops_buildSlice (cs := [int links, int most, int (M.pick links 6), int (1 + M.pick most 40)]) H rfl bs26_2 rfl ?_
  clear H; intro g w H
  refine ops_v (v_len rfl sl26 rfl) ?_
  refine ops_v (v_move (v := _) rfl rfl) ?_
  refine ops_nil ?_
  refine W_block ?_
  -- (backstaylaw13.NodeTells: loop; chunks ; ptr )
  generalize hq1 : M.pick links 6 = q1 at H lo hi
  generalize hq2 : 1 + M.pick most 40 = q2 at H
  refine W_loopS (fun (s : Nat) => [(2, .slice rp l.length rcap), (3, int f), (4, int id), (11, .bool true), (39, .slice (some ⟨g, 0, none⟩) 2 2), (40, .int .i64 2), (41, .int .i64 s)])
    (fun s w => ∃ R', Own wb (Blk g [int links, int most, int q1, int q2] 24 :: R') w ∧ s ≤ 2)
    (fun s => 2 - s) 0 ⟨rfl, rfl, rfl, rfl, rfl, rfl, rfl, trivial⟩ ⟨_, H, Nat.zero_le _⟩ ?_
  clear H
  rintro i e w ⟨R1, H, hle⟩
  by_cases hi2 : (i : Int) < 2
  · obtain ⟨a, b, hab⟩ : ∃ a b : Int, ([int links, int most, int q1, int q2].drop (0 + ((i : Int)).toNat * 2)).take 2 = [int a, int b] := by
      rcases (by omega : i = 0 ∨ i = 1) with rfl | rfl
      · exact ⟨_, _, rfl⟩
      · exact ⟨_, _, rfl⟩
    have hw0 := st0_wf a b
    refine W_seq ?_
    refine W_region ?_
    refine ops_v (v_lss true rfl rfl rfl (decide_eq_true (by first | omega | (simp only; omega) | rfl | decide))) ?_
    refine ops_nil ?_
    refine W_seq ?_
    refine W_if_t rfl ?_
    refine W_skip ?_
    refine W_seq ?_
    refine W_block ?_
    refine W_seq ?_
    refine W_region ?_
    refine ops_v (v_indexAddr_sl rfl se26 rfl rfl (by omega) (by omega)) ?_
    refine ops_v (v_loadA (vs := [int a, int b]) rfl ta24 (fun w' hw' => by rw [hw']; exact H.blk 0 rfl) rfl hab rfl) ?_
    refine ops_alloc H rfl tz24 ?_
    clear H; intro bn0 w H
    refine ops_store (vs := [_, _]) (v := (.agg _)) (cs' := [_, _]) 0 H rfl ts24 rfl rfl rfl rfl rfl rfl rfl rfl ?_
    clear H; intro w H
    refine ops_nil ?_
    refine W_seq ?_
    refine W_region ?_
    refine ops_v (v_indexAddr_arr rfl ae24 rfl rfl (by first | omega | decide) rfl) ?_
    refine ops_load (v := (.int _ _)) 0 H rfl tc3 rfl rfl rfl ?_
    refine ops_v (v_indexAddr_arr rfl ae24 rfl rfl (by first | omega | decide) rfl) ?_
    refine ops_load (v := (.int _ _)) 0 H rfl tc3 rfl rfl rfl ?_
    refine ops_call rfl c26 (New_x H a b) ?_
    clear H; rintro _ w ⟨o, rfl, ho, H⟩
    refine ops_v (v_assign (v := (.pointer _)) rfl rfl) ?_
    refine ops_nil ?_
    refine W_seq ?_
    refine W_region ?_
    refine ops_v (v_indexAddr_arr rfl ae24 rfl rfl (by first | omega | decide) rfl) ?_
    refine ops_load (v := (.int _ _)) 1 H rfl tc3 rfl rfl rfl ?_
    refine ops_v (v_indexAddr_arr rfl ae24 rfl rfl (by first | omega | decide) rfl) ?_
    refine ops_load (v := (.int _ _)) 1 H rfl tc3 rfl rfl rfl ?_
    refine ops_call rfl c27 (New13_x H a b) ?_
    clear H; rintro _ w ⟨rfl, H⟩
    refine ops_v (v_move (v := (.tuple _)) rfl rfl) ?_
    refine ops_v (v_extract (v := (.agg _)) rfl rfl rfl) ?_
    refine ops_v (v_extract (v := (.bool _)) rfl rfl rfl) ?_
    refine ops_alloc H rfl tz31 ?_
    clear H; intro bn1 w H
    refine ops_store (vs := [_, _, _]) (v := (.agg _)) (cs' := [_, _, _]) 0 H rfl ts31 rfl rfl rfl rfl rfl rfl rfl rfl ?_
    clear H; intro w H
    refine ops_v (v_assign (v := (.bool _)) rfl rfl) ?_
    refine ops_nil ?_
    refine W_seq ?_
    refine W_region ?_
    refine ops_v (v_assign (v := (.pointer _)) rfl rfl) ?_
    refine ops_nil ?_
    refine W_seq ?_
    refine W_seq ?_
    refine W_draw (is := [0]) mixed H ?_
    clear H; intro w H
    refine any_take 0 rfl (by kernel_rfl) (by kernel_rfl) (by kernel_rfl) (v_move (v := (.pointer _)) rfl rfl) ?_
    refine any_take 1 rfl (by kernel_rfl) (by kernel_rfl) (by kernel_rfl) (v_neq_nil (good a b) rfl ip27 rfl rfl (by rw [← ho]; cases o <;> rfl)) ?_
    refine any_take 2 rfl (by kernel_rfl) (by kernel_rfl) (by kernel_rfl) (v_move (v := (.bool _)) rfl rfl) ?_
    refine any_take 3 rfl (by kernel_rfl) (by kernel_rfl) (by kernel_rfl) (v_neq_bool false rfl ib4 rfl rfl (by simp)) ?_
    refine any_take 4 rfl (by kernel_rfl) (by kernel_rfl) (by kernel_rfl) (v_move (v := (.bool _)) rfl rfl) ?_
    refine any_take 5 rfl (by kernel_rfl) (by kernel_rfl) (by kernel_rfl) (v_move (v := (.pointer _)) rfl rfl) ?_
    refine any_take 7 rfl (by kernel_rfl) (by kernel_rfl) (by kernel_rfl) (v_move (v := (.pointer _)) rfl rfl) ?_
    refine any_take 8 rfl (by kernel_rfl) (by kernel_rfl) (by kernel_rfl) (v_nilCheck rfl rfl) ?_
    refine any_take 9 rfl (by kernel_rfl) (by kernel_rfl) (by kernel_rfl) (v_fieldAddr rfl fo31_0 rfl rfl) ?_
    refine any_take 10 rfl (by kernel_rfl) (by kernel_rfl) (by kernel_rfl) (v_load (v := (.int _ _)) rfl tc3 (fun _ hS => hS.1 _ _ _ rfl) rfl rfl) ?_
    refine any_one 6 rfl (by kernel_rfl) ?_
    refine ops_call rfl c28 (FnC.ro 1 rfl H (fun _ => Links_x)) ?_
    clear H; rintro _ w ⟨rfl, H⟩
    refine ops_nil ⟨H.stab [(0, 0)] ⟨rfl, trivial⟩, ?_⟩
    refine any_take 11 rfl (by kernel_rfl) (by kernel_rfl) (by kernel_rfl) (v_neq false rfl rfl rfl (decide_eq_false (by first | omega | (simp only; omega) | rfl | decide))) ?_
    refine any_take 12 rfl (by kernel_rfl) (by kernel_rfl) (by kernel_rfl) (v_pick_f (v := (.bool _)) rfl rfl rfl) ?_
    refine any_done (by kernel_rfl) ?_
    refine W_if_f rfl ?_
    refine W_skip ?_
    refine W_seq ?_
    refine W_seq ?_
    refine W_region ?_
    refine ops_v (v_assign (v := _) rfl rfl) ?_
    refine ops_nil ?_
    refine W_block ?_
    -- (backstaylaw13.NodeTells: loop; chunks n1,X,n0,y; ptr 13=n0,45=n0,47=n0,51=n0,53=n0,15=n1,17=n1)
    have H := (sl_nil 42 5 H).perm (List.Perm.swap _ _ _)
    have H : Own wb (RefC bn1 (st0 a b) :: XC o (st0 a b) :: Blk bn0 [int a, int b] 24 :: Blk g [int links, int most, int q1, int q2] 24 :: R1) w := Own.shutR (a := none) (cap := 0) (by rw [st0_nodes]; exact H)
    have H := (H.drop 2).perm (List.Perm.swap _ _ _)
    generalize bn1 = ru at H ⊢
    refine W_loopS (fun (s : Nat × St) => [(2, .slice rp l.length rcap), (3, int f), (4, int id), (11, .bool true), (14, xptr o), (16, .bool (good a b)), (17, ptr ru), (18, .int .i64 s.1), (39, .slice (some ⟨g, 0, none⟩) 2 2), (40, .int .i64 2), (41, .int .i64 i)])
      (fun s w => Own wb (XC o s.2 :: RefC ru s.2 :: Blk g [int links, int most, int q1, int q2] 24 :: R1) w ∧ s.1 ≤ 60 ∧ Wf s.2)
      (fun s => 60 - s.1) (0, st0 a b) ⟨rfl, rfl, rfl, rfl, rfl, rfl, rfl, rfl, rfl, rfl, rfl, trivial⟩ ⟨H, Nat.zero_le _, hw0⟩ ?_
    clear H
    rintro ⟨j, st⟩ e w ⟨H, hj, hw⟩
    simp only at H hj hw ⊢
    have hroom := hw.room
    have hmost := hw.most
    have hp0 : (0 : Int) < (st.nodes.length : Int) + 1 := by omega
    by_cases hjl : (j : Int) < (l.length : Int)
    · by_cases hj60 : (j : Int) < 60
      · obtain ⟨r, hri⟩ : ∃ r, l[j]? = some r := ⟨l[j]'(by omega), by simp⟩
        obtain ⟨⟨rb, ro, rfl, hcell⟩, hok⟩ := hrl j r hri
        have hcell' : ∀ w', Base wb w' → ∀ (jj : Nat) (u : Value), (cells4 r)[jj]? = some u → w'.cell? ⟨rb, ro + ((j : Int)).toNat * 4 + jj, none⟩ = some u := fun w' H' jj u hu => by
          rw [Nat.add_assoc]; exact H'.cell (hcell jj u hu)
        cases hgd : good a b with
        | true =>
          refine W_seq ?_
          refine W_seq ?_
          refine W_region ?_
          refine ops_v (v_move (v := (.int _ _)) rfl rfl) ?_
          refine ops_v (v_move (v := (.slice _ _ _)) rfl rfl) ?_
          refine ops_v (v_len rfl sl22 rfl) ?_
          refine ops_v (v_lss true rfl rfl rfl (decide_eq_true (by first | omega | (simp only; omega) | rfl | decide))) ?_
          refine ops_v (v_move (v := (.bool _)) rfl rfl) ?_
          refine ops_v (v_move (v := (.int _ _)) rfl rfl) ?_
          refine ops_v (v_lss true rfl rfl rfl (decide_eq_true (by first | omega | (simp only; omega) | rfl | decide))) ?_
          refine ops_v (v_pick_t (v := (.bool _)) rfl rfl rfl) ?_
          refine ops_nil ?_
          refine W_if_t rfl ?_
          refine W_skip ?_
          refine W_seq ?_
          refine W_block ?_
          refine W_seq ?_
          refine W_region ?_
          refine ops_v (v_move (v := (.pointer _)) rfl rfl) ?_
          refine ops_v (v_move (v := (.pointer _)) rfl rfl) ?_
          refine ops_v (v_move (v := (.slice _ _ _)) rfl rfl) ?_
          refine ops_v (v_move (v := (.int _ _)) rfl rfl) ?_
          refine ops_v (v_indexAddr_sl rfl se22 rfl rfl (by omega) (by omega)) ?_
          refine ops_v (v_loadBase (vs := cells4 r) rfl ta39 (fun w' hw' => by rw [hw']; exact hcell' _ H.base) rfl rfl) ?_
          refine ops_call rfl c29 (Step_ok hw r hok H) ?_
          clear H; rintro _ w ⟨st', n, e2, rfl, w', x', H⟩
          refine ops_v (v_move (v := (.tuple _)) rfl rfl) ?_
          refine ops_v (v_extract (v := (.int _ _)) rfl rfl rfl) ?_
          refine ops_v (v_extract (v := (.int _ _)) rfl rfl rfl) ?_
          refine ops_v (v_extract (v := (.int _ _)) rfl rfl rfl) ?_
          refine ops_v (v_extract (v := (.int _ _)) rfl rfl rfl) ?_
          refine ops_v (v_assign (v := (.int _ _)) rfl rfl) ?_
          refine ops_v (v_assign (v := (.int _ _)) rfl rfl) ?_
          refine ops_v (v_assign (v := (.int _ _)) rfl rfl) ?_
          refine ops_v (v_assign (v := (.int _ _)) rfl rfl) ?_
          refine ops_nil ?_
          refine W_seq ?_
          refine W_seq ?_
          refine W_region ?_
          refine ops_v (v_move (v := (.bool _)) rfl rfl) ?_
          refine ops_v (v_not rfl rfl _ rfl) ?_
          refine ops_v (v_move (v := (.bool _)) rfl rfl) ?_
          refine ops_skip rfl rfl ?_
          refine ops_skip rfl rfl ?_
          refine ops_v (v_pick_f (v := (.bool _)) rfl rfl rfl) ?_
          refine ops_nil ?_
          refine W_if_f rfl ?_
          refine W_skip ?_
          refine W_seq ?_
          obtain ⟨a', cap', H⟩ := (H.front 1 rfl).openR
          refine W_draw (is := [0]) mixed H ?_
          clear H; intro w H
          refine any_take 0 rfl (by kernel_rfl) (by kernel_rfl) (by kernel_rfl) (v_move (v := (.int _ _)) rfl rfl) ?_
          refine any_take 1 rfl (by kernel_rfl) (by kernel_rfl) (by kernel_rfl) (v_move (v := (.int _ _)) rfl rfl) ?_
          refine any_take 2 rfl (by kernel_rfl) (by kernel_rfl) (by kernel_rfl) (v_neq false rfl rfl rfl (decide_eq_false (by first | omega | (simp only; omega) | rfl | decide))) ?_
          refine any_take 3 rfl (by kernel_rfl) (by kernel_rfl) (by kernel_rfl) (v_move (v := (.bool _)) rfl rfl) ?_
          refine any_take 4 rfl (by kernel_rfl) (by kernel_rfl) (by kernel_rfl) (v_move (v := (.int _ _)) rfl rfl) ?_
          refine any_take 5 rfl (by kernel_rfl) (by kernel_rfl) (by kernel_rfl) (v_move (v := (.int _ _)) rfl rfl) ?_
          refine any_take 6 rfl (by kernel_rfl) (by kernel_rfl) (by kernel_rfl) (v_neq false rfl rfl rfl (decide_eq_false (by first | omega | (simp only; omega) | rfl | decide))) ?_
          refine any_take 7 rfl (by kernel_rfl) (by kernel_rfl) (by kernel_rfl) (v_pick_f (v := (.bool _)) rfl rfl rfl) ?_
          refine any_take 8 rfl (by kernel_rfl) (by kernel_rfl) (by kernel_rfl) (v_move (v := (.bool _)) rfl rfl) ?_
          refine any_take 9 rfl (by kernel_rfl) (by kernel_rfl) (by kernel_rfl) (v_move (v := (.pointer _)) rfl rfl) ?_
          refine any_take 11 rfl (by kernel_rfl) (by kernel_rfl) (by kernel_rfl) (v_move (v := (.pointer _)) rfl rfl) ?_
          refine any_take 12 rfl (by kernel_rfl) (by kernel_rfl) (by kernel_rfl) (v_nilCheck rfl rfl) ?_
          refine any_take 13 rfl (by kernel_rfl) (by kernel_rfl) (by kernel_rfl) (v_fieldAddr rfl fo31_2 rfl rfl) ?_
          refine any_take 14 rfl (by kernel_rfl) (by kernel_rfl) (by kernel_rfl) (v_load (v := (.slice _ _ _)) rfl tc29 (fun _ hS => hS.1 _ _ _ rfl) rfl rfl) ?_
          refine any_take 15 rfl (by kernel_rfl) (by kernel_rfl) (by kernel_rfl) (v_len rfl sl29 rfl) ?_
          refine any_one 10 rfl (by kernel_rfl) ?_
          refine ops_call rfl c30 (FnC.ro 2 rfl H (fun _ => Size_x)) ?_
          clear H; rintro _ w ⟨rfl, H⟩
          refine ops_nil ⟨H.stab [(0, 0)] ⟨rfl, trivial⟩, ?_⟩
          refine any_take 16 rfl (by kernel_rfl) (by kernel_rfl) (by kernel_rfl) (v_neq false rfl rfl rfl (decide_eq_false (by first | omega | (simp only; omega) | rfl | decide))) ?_
          refine any_take 17 rfl (by kernel_rfl) (by kernel_rfl) (by kernel_rfl) (v_pick_f (v := (.bool _)) rfl rfl rfl) ?_
          refine any_done (by kernel_rfl) ?_
          refine W_if_f rfl ?_
          refine W_skip ?_
          refine W_region ?_
          refine ops_v (v_move (v := (.int _ _)) rfl rfl) ?_
          refine ops_v (v_add _ rfl rfl rfl (wrap_in (by omega) (by omega))) ?_
          refine ops_v (v_assign (v := (.int _ _)) rfl rfl) ?_
          refine ops_nil ?_
          have H := H.shutR.perm (List.Perm.swap _ _ _)
          refine ⟨(j + 1, st'), ?_, ⟨rfl, rfl, rfl, rfl, rfl, rfl, rfl, rfl, rfl, rfl, rfl, trivial⟩, H, ?_, w'⟩
          · show 60 - (j + 1) < 60 - j; omega
          · show j + 1 ≤ 60; omega
          -- (backstaylaw13.NodeTells: loopend; chunks p,s,X,y; ptr 17=p)
        | false =>
          refine W_seq ?_
          refine W_seq ?_
          refine W_region ?_
          refine ops_v (v_move (v := (.int _ _)) rfl rfl) ?_
          refine ops_v (v_move (v := (.slice _ _ _)) rfl rfl) ?_
          refine ops_v (v_len rfl sl22 rfl) ?_
          refine ops_v (v_lss true rfl rfl rfl (decide_eq_true (by first | omega | (simp only; omega) | rfl | decide))) ?_
          refine ops_v (v_move (v := (.bool _)) rfl rfl) ?_
          refine ops_v (v_move (v := (.int _ _)) rfl rfl) ?_
          refine ops_v (v_lss true rfl rfl rfl (decide_eq_true (by first | omega | (simp only; omega) | rfl | decide))) ?_
          refine ops_v (v_pick_t (v := (.bool _)) rfl rfl rfl) ?_
          refine ops_nil ?_
          refine W_if_t rfl ?_
          refine W_skip ?_
          refine W_seq ?_
          refine W_block ?_
          refine W_seq ?_
          refine W_region ?_
          refine ops_v (v_move (v := (.pointer _)) rfl rfl) ?_
          refine ops_v (v_move (v := (.pointer _)) rfl rfl) ?_
          refine ops_v (v_move (v := (.slice _ _ _)) rfl rfl) ?_
          refine ops_v (v_move (v := (.int _ _)) rfl rfl) ?_
          refine ops_v (v_indexAddr_sl rfl se22 rfl rfl (by omega) (by omega)) ?_
          refine ops_v (v_loadBase (vs := cells4 r) rfl ta39 (fun w' hw' => by rw [hw']; exact hcell' _ H.base) rfl rfl) ?_
          refine ops_call rfl c29 (Step_ok hw r hok H) ?_
          clear H; rintro _ w ⟨st', n, e2, rfl, w', x', H⟩
          refine ops_v (v_move (v := (.tuple _)) rfl rfl) ?_
          refine ops_v (v_extract (v := (.int _ _)) rfl rfl rfl) ?_
          refine ops_v (v_extract (v := (.int _ _)) rfl rfl rfl) ?_
          refine ops_v (v_extract (v := (.int _ _)) rfl rfl rfl) ?_
          refine ops_v (v_extract (v := (.int _ _)) rfl rfl rfl) ?_
          refine ops_v (v_assign (v := (.int _ _)) rfl rfl) ?_
          refine ops_v (v_assign (v := (.int _ _)) rfl rfl) ?_
          refine ops_v (v_assign (v := (.int _ _)) rfl rfl) ?_
          refine ops_v (v_assign (v := (.int _ _)) rfl rfl) ?_
          refine ops_nil ?_
          refine W_seq ?_
          refine W_seq ?_
          -- (backstaylaw13.NodeTells: until; chunks X,Rf,y; ptr )
          by_cases he60 : e2 = 60
          · refine W_region ?_
            refine ops_v (v_move (v := (.bool _)) rfl rfl) ?_
            refine ops_v (v_not rfl rfl _ rfl) ?_
            refine ops_v (v_move (v := (.bool _)) rfl rfl) ?_
            refine ops_v (v_move (v := (.int _ _)) rfl rfl) ?_
            refine ops_v (v_eql true rfl rfl rfl (decide_eq_true (by first | omega | (simp only; omega) | rfl | decide))) ?_
            refine ops_v (v_pick_t (v := (.bool _)) rfl rfl rfl) ?_
            refine ops_nil ?_
            refine W_if_t rfl ?_
            refine W_exit ?_
            refine W_region ?_
            refine ops_v (v_move (v := (.int _ _)) rfl rfl) ?_
            refine ops_v (v_add _ rfl rfl rfl (wrap_in (by omega) (by omega))) ?_
            refine ops_v (v_assign (v := (.int _ _)) rfl rfl) ?_
            refine ops_nil ?_
            refine ⟨(j + 1, st'), ?_, ⟨rfl, rfl, rfl, rfl, rfl, rfl, rfl, rfl, rfl, rfl, rfl, trivial⟩, H, ?_, w'⟩
            · show 60 - (j + 1) < 60 - j; omega
            · show j + 1 ≤ 60; omega
            -- (backstaylaw13.NodeTells: loopend; chunks X,Rf,y; ptr )
          · refine W_region ?_
            refine ops_v (v_move (v := (.bool _)) rfl rfl) ?_
            refine ops_v (v_not rfl rfl _ rfl) ?_
            refine ops_v (v_move (v := (.bool _)) rfl rfl) ?_
            refine ops_v (v_move (v := (.int _ _)) rfl rfl) ?_
            refine ops_v (v_eql false rfl rfl rfl (decide_eq_false (by first | omega | (simp only; omega) | rfl | decide))) ?_
            refine ops_v (v_pick_t (v := (.bool _)) rfl rfl rfl) ?_
            refine ops_nil ?_
            refine W_if_f rfl ?_
            refine W_skip ?_
            refine W_seq ?_
            obtain ⟨a', cap', H⟩ := (H.front 1 rfl).openR
            refine W_draw (is := [0]) mixed H ?_
            clear H; intro w H
            refine any_take 0 rfl (by kernel_rfl) (by kernel_rfl) (by kernel_rfl) (v_move (v := (.int _ _)) rfl rfl) ?_
            refine any_take 1 rfl (by kernel_rfl) (by kernel_rfl) (by kernel_rfl) (v_move (v := (.int _ _)) rfl rfl) ?_
            refine any_take 2 rfl (by kernel_rfl) (by kernel_rfl) (by kernel_rfl) (v_neq false rfl rfl rfl (decide_eq_false (by first | omega | (simp only; omega) | rfl | decide))) ?_
            refine any_take 3 rfl (by kernel_rfl) (by kernel_rfl) (by kernel_rfl) (v_move (v := (.bool _)) rfl rfl) ?_
            refine any_take 4 rfl (by kernel_rfl) (by kernel_rfl) (by kernel_rfl) (v_move (v := (.int _ _)) rfl rfl) ?_
            refine any_take 5 rfl (by kernel_rfl) (by kernel_rfl) (by kernel_rfl) (v_move (v := (.int _ _)) rfl rfl) ?_
            refine any_take 6 rfl (by kernel_rfl) (by kernel_rfl) (by kernel_rfl) (v_neq false rfl rfl rfl (decide_eq_false (by first | omega | (simp only; omega) | rfl | decide))) ?_
            refine any_take 7 rfl (by kernel_rfl) (by kernel_rfl) (by kernel_rfl) (v_pick_f (v := (.bool _)) rfl rfl rfl) ?_
            refine any_take 8 rfl (by kernel_rfl) (by kernel_rfl) (by kernel_rfl) (v_move (v := (.bool _)) rfl rfl) ?_
            refine any_take 9 rfl (by kernel_rfl) (by kernel_rfl) (by kernel_rfl) (v_move (v := (.pointer _)) rfl rfl) ?_
            refine any_take 11 rfl (by kernel_rfl) (by kernel_rfl) (by kernel_rfl) (v_move (v := (.pointer _)) rfl rfl) ?_
            refine any_take 12 rfl (by kernel_rfl) (by kernel_rfl) (by kernel_rfl) (v_nilCheck rfl rfl) ?_
            refine any_take 13 rfl (by kernel_rfl) (by kernel_rfl) (by kernel_rfl) (v_fieldAddr rfl fo31_2 rfl rfl) ?_
            refine any_take 14 rfl (by kernel_rfl) (by kernel_rfl) (by kernel_rfl) (v_load (v := (.slice _ _ _)) rfl tc29 (fun _ hS => hS.1 _ _ _ rfl) rfl rfl) ?_
            refine any_take 15 rfl (by kernel_rfl) (by kernel_rfl) (by kernel_rfl) (v_len rfl sl29 rfl) ?_
            refine any_one 10 rfl (by kernel_rfl) ?_
            refine ops_call rfl c30 (FnC.ro 2 rfl H (fun _ => Size_x)) ?_
            clear H; rintro _ w ⟨rfl, H⟩
            refine ops_nil ⟨H.stab [(0, 0)] ⟨rfl, trivial⟩, ?_⟩
            refine any_take 16 rfl (by kernel_rfl) (by kernel_rfl) (by kernel_rfl) (v_neq false rfl rfl rfl (decide_eq_false (by first | omega | (simp only; omega) | rfl | decide))) ?_
            refine any_take 17 rfl (by kernel_rfl) (by kernel_rfl) (by kernel_rfl) (v_pick_f (v := (.bool _)) rfl rfl rfl) ?_
            refine any_done (by kernel_rfl) ?_
            refine W_if_f rfl ?_
            refine W_skip ?_
            refine W_region ?_
            refine ops_v (v_move (v := (.int _ _)) rfl rfl) ?_
            refine ops_v (v_add _ rfl rfl rfl (wrap_in (by omega) (by omega))) ?_
            refine ops_v (v_assign (v := (.int _ _)) rfl rfl) ?_
            refine ops_nil ?_
            have H := H.shutR.perm (List.Perm.swap _ _ _)
            refine ⟨(j + 1, st'), ?_, ⟨rfl, rfl, rfl, rfl, rfl, rfl, rfl, rfl, rfl, rfl, rfl, trivial⟩, H, ?_, w'⟩
            · show 60 - (j + 1) < 60 - j; omega
            · show j + 1 ≤ 60; omega
            -- (backstaylaw13.NodeTells: loopend; chunks p,s,X,y; ptr 17=p)
      · refine W_seq ?_
        refine W_seq ?_
        refine W_region ?_
        refine ops_v (v_move (v := (.int _ _)) rfl rfl) ?_
        refine ops_v (v_move (v := (.slice _ _ _)) rfl rfl) ?_
        refine ops_v (v_len rfl sl22 rfl) ?_
        refine ops_v (v_lss true rfl rfl rfl (decide_eq_true (by first | omega | (simp only; omega) | rfl | decide))) ?_
        refine ops_v (v_move (v := (.bool _)) rfl rfl) ?_
        refine ops_v (v_move (v := (.int _ _)) rfl rfl) ?_
        refine ops_v (v_lss false rfl rfl rfl (decide_eq_false (by first | omega | (simp only; omega) | rfl | decide))) ?_
        refine ops_v (v_pick_t (v := (.bool _)) rfl rfl rfl) ?_
        refine ops_nil ?_
        refine W_if_f rfl ?_
        refine W_exit ?_
        refine W_seq ?_
        obtain ⟨a', cap', H⟩ := (H.front 1 rfl).openR
        refine W_draw (is := [0]) mixed H ?_
        clear H; intro w H
        refine any_take 0 rfl (by kernel_rfl) (by kernel_rfl) (by kernel_rfl) (v_move (v := (.int _ _)) rfl rfl) ?_
        refine any_take 1 rfl (by kernel_rfl) (by kernel_rfl) (by kernel_rfl) (v_move (v := (.int _ _)) rfl rfl) ?_
        refine any_take 2 rfl (by kernel_rfl) (by kernel_rfl) (by kernel_rfl) (v_move (v := (.pointer _)) rfl rfl) ?_
        refine any_take 3 rfl (by kernel_rfl) (by kernel_rfl) (by kernel_rfl) (v_nilCheck rfl rfl) ?_
        refine any_take 4 rfl (by kernel_rfl) (by kernel_rfl) (by kernel_rfl) (v_fieldAddr rfl fo31_2 rfl rfl) ?_
        refine any_take 5 rfl (by kernel_rfl) (by kernel_rfl) (by kernel_rfl) (v_load (v := (.slice _ _ _)) rfl tc29 (fun _ hS => hS.1 _ _ _ rfl) rfl rfl) ?_
        refine any_take 6 rfl (by kernel_rfl) (by kernel_rfl) (by kernel_rfl) (v_len rfl sl29 rfl) ?_
        refine any_take 7 rfl (by kernel_rfl) (by kernel_rfl) (by kernel_rfl) (v_add _ rfl rfl rfl (wrap_in (by omega) (by omega))) ?_
        refine any_take 9 rfl (by kernel_rfl) (by kernel_rfl) (by kernel_rfl) (v_move (v := (.pointer _)) rfl rfl) ?_
        refine any_take 10 rfl (by kernel_rfl) (by kernel_rfl) (by kernel_rfl) (v_nilCheck rfl rfl) ?_
        refine any_take 11 rfl (by kernel_rfl) (by kernel_rfl) (by kernel_rfl) (v_fieldAddr rfl fo31_2 rfl rfl) ?_
        refine any_take 12 rfl (by kernel_rfl) (by kernel_rfl) (by kernel_rfl) (v_load (v := (.slice _ _ _)) rfl tc29 (fun _ hS => hS.1 _ _ _ rfl) rfl rfl) ?_
        refine any_take 13 rfl (by kernel_rfl) (by kernel_rfl) (by kernel_rfl) (v_len rfl sl29 rfl) ?_
        refine any_take 14 rfl (by kernel_rfl) (by kernel_rfl) (by kernel_rfl) (v_sub _ rfl rfl rfl (wrap_in (by omega) (by omega))) ?_
        refine any_take 17 rfl (by kernel_rfl) (by kernel_rfl) (by kernel_rfl) (v_move (v := _) rfl rfl) ?_
        refine any_one 8 rfl (by kernel_rfl) ?_
        refine ops_call rfl c25 (pick13_ok H id (st.nodes.length + 1) i4 hp0) ?_
        clear H; rintro _ w ⟨rfl, H⟩
        refine ops_nil ⟨H.stab [(0, 0)] ⟨rfl, trivial⟩, ?_⟩
        refine any_one 15 rfl (by kernel_rfl) ?_
        refine ops_buildSlice (cs := [int id, int (M.pick id (st.nodes.length + 1)), int ((st.nodes.length : Int) - 1)]) H rfl bs40_3 rfl ?_
        clear H; intro ks w H
        refine ops_nil ⟨H.stab [(1, 0)] ⟨rfl, trivial⟩, ?_⟩
        refine any_take 16 rfl (by kernel_rfl) (by kernel_rfl) (by kernel_rfl) (v_len rfl sl40 rfl) ?_
        refine any_done (by kernel_rfl) ?_
        refine W_block ?_
        -- (backstaylaw13.NodeTells: loop; chunks ks,p,s,X,y; ptr 17=p)
        have H := (((H.front 2 rfl).front 2 rfl)).shutR
        refine W_loopS (fun (s : Nat) => [(2, .slice rp l.length rcap), (3, int f), (4, int id), (11, .bool true), (14, xptr o), (17, ptr ru), (39, .slice (some ⟨g, 0, none⟩) 2 2), (40, .int .i64 2), (41, .int .i64 i), (132, .slice (some ⟨ks, 0, none⟩) 3 3), (133, .int .i64 3), (134, .int .i64 s)])
          (fun s w => Own wb (RefC ru st :: Blk ks [int id, int (M.pick id (st.nodes.length + 1)), int ((st.nodes.length : Int) - 1)] 3 :: XC o st :: Blk g [int links, int most, int q1, int q2] 24 :: R1) w ∧ s ≤ 3)
          (fun s => 3 - s) 0 ⟨rfl, rfl, rfl, rfl, rfl, rfl, rfl, rfl, rfl, rfl, rfl, rfl, trivial⟩ ⟨H, Nat.zero_le _⟩ ?_
        clear H
        rintro m e w ⟨H, hm3⟩
        by_cases hm : (m : Int) < 3
        · obtain ⟨k, hk⟩ : ∃ k : Int, ([int id, int (M.pick id (st.nodes.length + 1)), int ((st.nodes.length : Int) - 1)] : List Value)[0 + ((m : Int)).toNat * 1]? = some (int k) := by
            rcases (by omega : m = 0 ∨ m = 1 ∨ m = 2) with rfl | rfl | rfl
            · exact ⟨_, rfl⟩
            · exact ⟨_, rfl⟩
            · exact ⟨_, rfl⟩
          have hf64 : i64 (M.pick f 64) := ⟨by have := M.pick_lo (c := f) (n := 64) (by decide); omega, by have := M.pick_hi (c := f) (n := 64) (by decide); omega⟩
          refine W_seq ?_
          refine W_region ?_
          refine ops_v (v_lss true rfl rfl rfl (decide_eq_true (by first | omega | (simp only; omega) | rfl | decide))) ?_
          refine ops_nil ?_
          refine W_seq ?_
          refine W_if_t rfl ?_
          refine W_skip ?_
          refine W_seq ?_
          refine W_block ?_
          refine W_seq ?_
          refine W_region ?_
          refine ops_v (v_indexAddr_sl rfl se40 rfl rfl (by omega) (by omega)) ?_
          refine ops_load (v := int k) 1 H rfl tc3 rfl rfl hk ?_
          refine ops_v (v_assign (v := (.int _ _)) rfl rfl) ?_
          refine ops_nil ?_
          refine W_seq ?_
          refine W_region ?_
          refine ops_v (v_move (v := (.pointer _)) rfl rfl) ?_
          refine ops_v (v_move (v := (.int _ _)) rfl rfl) ?_
          refine ops_call rfl c31 (FnC.ro 2 rfl H (fun _ => NodeZ_x k)) ?_
          clear H; rintro _ w ⟨rfl, H⟩
          refine ops_v (v_move (v := (.tuple _)) rfl rfl) ?_
          refine ops_v (v_extract (v := (.agg _)) rfl rfl rfl) ?_
          refine ops_v (v_extract (v := (.bool _)) rfl rfl rfl) ?_
          refine ops_alloc H rfl tz42 ?_
          clear H; intro bn0 w H
          refine ops_store (vs := [_, _, _, _, _]) (v := (.agg _)) (cs' := [_, _, _, _, _]) 0 H rfl ts42 rfl rfl rfl rfl rfl rfl rfl rfl ?_
          clear H; intro w H
          refine ops_v (v_assign (v := (.bool _)) rfl rfl) ?_
          refine ops_nil ?_
          refine W_seq ?_
          refine W_region ?_
          refine ops_v (v_move (v := (.pointer _)) rfl rfl) ?_
          refine ops_v (v_move (v := (.int _ _)) rfl rfl) ?_
          refine ops_call rfl c32 (FnC.ro 1 rfl H (fun _ => Node13_ok k)) ?_
          clear H; rintro _ w ⟨rfl, H⟩
          refine ops_v (v_move (v := (.tuple _)) rfl rfl) ?_
          refine ops_v (v_extract (v := (.agg _)) rfl rfl rfl) ?_
          refine ops_v (v_extract (v := (.bool _)) rfl rfl rfl) ?_
          refine ops_alloc H rfl tz42 ?_
          clear H; intro bn1 w H
          refine ops_store (vs := [_, _, _, _, _]) (v := (.agg _)) (cs' := [_, _, _, _, _]) 0 H rfl ts42 rfl rfl rfl rfl rfl rfl rfl rfl ?_
          clear H; intro w H
          refine ops_v (v_assign (v := (.bool _)) rfl rfl) ?_
          refine ops_nil ?_
          refine W_seq ?_
          refine W_region ?_
          refine ops_loadA (vs := [_, _, _, _, _]) 1 H rfl ta42 rfl rfl rfl rfl ?_
          refine ops_loadA (vs := [_, _, _, _, _]) 0 H rfl ta42 rfl rfl rfl rfl ?_
          refine ops_v (v_neqB (getZ st k) (getZ st k) false rfl rfl rfl (by simp)) ?_
          refine ops_v (v_move (v := (.bool _)) rfl rfl) ?_
          refine ops_v (v_move (v := (.bool _)) rfl rfl) ?_
          refine ops_v (v_move (v := (.bool _)) rfl rfl) ?_
          refine ops_v (v_neq_bool false rfl ib4 rfl rfl (by simp)) ?_
          refine ops_v (v_pick_f (v := (.bool _)) rfl rfl rfl) ?_
          refine ops_v (v_move (v := (.bool _)) rfl rfl) ?_
          refine ops_v (v_move (v := (.pointer _)) rfl rfl) ?_
          refine ops_v (v_move (v := (.int _ _)) rfl rfl) ?_
          refine ops_v (v_move (v := (.int _ _)) rfl rfl) ?_
          refine ops_call rfl c33 (FnC.ro 4 rfl H (fun _ => Eval_x hw k f)) ?_
          clear H; rintro _ w ⟨rfl, H⟩
          refine ops_v (v_move (v := (.pointer _)) rfl rfl) ?_
          refine ops_v (v_move (v := (.int _ _)) rfl rfl) ?_
          refine ops_v (v_move (v := (.int _ _)) rfl rfl) ?_
          refine ops_call rfl c34 (FnC.ro 2 rfl H (fun _ => Eval13_ok hw k f i3)) ?_
          clear H; rintro _ w ⟨rfl, H⟩
          refine ops_v (v_neq false rfl rfl rfl (decide_eq_false (by first | omega | (simp only; omega) | rfl | decide))) ?_
          refine ops_v (v_pick_f (v := (.bool _)) rfl rfl rfl) ?_
          refine ops_v (v_move (v := (.bool _)) rfl rfl) ?_
          refine ops_v (v_move (v := (.pointer _)) rfl rfl) ?_
          refine ops_v (v_move (v := (.int _ _)) rfl rfl) ?_
          refine ops_v (v_move (v := (.int _ _)) rfl rfl) ?_
          refine ops_call rfl c25 (pick13_ok H f 64 i3 (by decide)) ?_
          clear H; rintro _ w ⟨rfl, H⟩
          refine ops_call rfl c33 (FnC.ro 4 rfl H (fun _ => Eval_x hw k (M.pick f 64))) ?_
          clear H; rintro _ w ⟨rfl, H⟩
          refine ops_v (v_move (v := (.pointer _)) rfl rfl) ?_
          refine ops_v (v_move (v := (.int _ _)) rfl rfl) ?_
          refine ops_v (v_move (v := (.int _ _)) rfl rfl) ?_
          refine ops_call rfl c25 (pick13_ok H f 64 i3 (by decide)) ?_
          clear H; rintro _ w ⟨rfl, H⟩
          refine ops_call rfl c34 (FnC.ro 2 rfl H (fun _ => Eval13_ok hw k (M.pick f 64) hf64)) ?_
          clear H; rintro _ w ⟨rfl, H⟩
          refine ops_v (v_neq false rfl rfl rfl (decide_eq_false (by first | omega | (simp only; omega) | rfl | decide))) ?_
          refine ops_v (v_pick_f (v := (.bool _)) rfl rfl rfl) ?_
          refine ops_v (v_move (v := (.bool _)) rfl rfl) ?_
          refine ops_v (v_move (v := (.pointer _)) rfl rfl) ?_
          refine ops_v (v_move (v := (.int _ _)) rfl rfl) ?_
          refine ops_call rfl c35 (FnC.ro 4 rfl H (fun _ => Count_x hw k)) ?_
          clear H; rintro _ w ⟨rfl, H⟩
          refine ops_v (v_move (v := (.pointer _)) rfl rfl) ?_
          refine ops_v (v_move (v := (.int _ _)) rfl rfl) ?_
          refine ops_call rfl c36 (FnC.ro 2 rfl H (fun _ => Count13_ok hw k)) ?_
          clear H; rintro _ w ⟨rfl, H⟩
          refine ops_v (v_neq false rfl rfl rfl (decide_eq_false (by first | omega | (simp only; omega) | rfl | decide))) ?_
          refine ops_v (v_pick_f (v := (.bool _)) rfl rfl rfl) ?_
          refine ops_nil ?_
          refine W_if_f rfl ?_
          refine W_skip ?_
          refine W_region ?_
          refine ops_v (v_add _ rfl rfl rfl (wrap_in (by omega) (by omega))) ?_
          refine ops_v (v_move (v := (.int _ _)) rfl rfl) ?_
          refine ops_nil ?_
          refine ⟨m + 1, ?_, ⟨rfl, rfl, rfl, rfl, rfl, rfl, rfl, rfl, rfl, rfl, rfl, rfl, trivial⟩, H.tail.tail, ?_⟩
          · show 3 - (m + 1) < 3 - m; omega
          · show m + 1 ≤ 3; omega
          -- (backstaylaw13.NodeTells: loopend; chunks n1,n0,Rf,ks,X,y; ptr 25=n0,27=n1)
        · refine W_seq ?_
          refine W_region ?_
          refine ops_v (v_lss false rfl rfl rfl (decide_eq_false (by first | omega | (simp only; omega) | rfl | decide))) ?_
          refine ops_nil ?_
          refine W_seq ?_
          refine W_if_f rfl ?_
          refine W_exit ?_
          refine W_region ?_
          refine ops_v (v_add _ rfl rfl rfl (wrap_in (by omega) (by omega))) ?_
          refine ops_v (v_move (v := (.int _ _)) rfl rfl) ?_
          refine ops_nil ?_
          refine ⟨i + 1, ?_, ⟨rfl, rfl, rfl, rfl, rfl, rfl, rfl, trivial⟩, R1, H.tail.tail.tail, ?_⟩
          · show 2 - (i + 1) < 2 - i; omega
          · show i + 1 ≤ 2; omega
          -- (backstaylaw13.NodeTells: loopend; chunks Rf,ks,X,y; ptr )
    · refine W_seq ?_
      refine W_seq ?_
      refine W_region ?_
      refine ops_v (v_move (v := (.int _ _)) rfl rfl) ?_
      refine ops_v (v_move (v := (.slice _ _ _)) rfl rfl) ?_
      refine ops_v (v_len rfl sl22 rfl) ?_
      refine ops_v (v_lss false rfl rfl rfl (decide_eq_false (by first | omega | (simp only; omega) | rfl | decide))) ?_
      refine ops_v (v_move (v := (.bool _)) rfl rfl) ?_
      refine ops_skip rfl rfl ?_
      refine ops_skip rfl rfl ?_
      refine ops_v (v_pick_f (v := (.bool _)) rfl rfl rfl) ?_
      refine ops_nil ?_
      refine W_if_f rfl ?_
      refine W_exit ?_
      refine W_seq ?_
      obtain ⟨a', cap', H⟩ := (H.front 1 rfl).openR
      refine W_draw (is := [0]) mixed H ?_
      clear H; intro w H
      refine any_take 0 rfl (by kernel_rfl) (by kernel_rfl) (by kernel_rfl) (v_move (v := (.int _ _)) rfl rfl) ?_
      refine any_take 1 rfl (by kernel_rfl) (by kernel_rfl) (by kernel_rfl) (v_move (v := (.int _ _)) rfl rfl) ?_
      refine any_take 2 rfl (by kernel_rfl) (by kernel_rfl) (by kernel_rfl) (v_move (v := (.pointer _)) rfl rfl) ?_
      refine any_take 3 rfl (by kernel_rfl) (by kernel_rfl) (by kernel_rfl) (v_nilCheck rfl rfl) ?_
      refine any_take 4 rfl (by kernel_rfl) (by kernel_rfl) (by kernel_rfl) (v_fieldAddr rfl fo31_2 rfl rfl) ?_
      refine any_take 5 rfl (by kernel_rfl) (by kernel_rfl) (by kernel_rfl) (v_load (v := (.slice _ _ _)) rfl tc29 (fun _ hS => hS.1 _ _ _ rfl) rfl rfl) ?_
      refine any_take 6 rfl (by kernel_rfl) (by kernel_rfl) (by kernel_rfl) (v_len rfl sl29 rfl) ?_
      refine any_take 7 rfl (by kernel_rfl) (by kernel_rfl) (by kernel_rfl) (v_add _ rfl rfl rfl (wrap_in (by omega) (by omega))) ?_
      refine any_take 9 rfl (by kernel_rfl) (by kernel_rfl) (by kernel_rfl) (v_move (v := (.pointer _)) rfl rfl) ?_
      refine any_take 10 rfl (by kernel_rfl) (by kernel_rfl) (by kernel_rfl) (v_nilCheck rfl rfl) ?_
      refine any_take 11 rfl (by kernel_rfl) (by kernel_rfl) (by kernel_rfl) (v_fieldAddr rfl fo31_2 rfl rfl) ?_
      refine any_take 12 rfl (by kernel_rfl) (by kernel_rfl) (by kernel_rfl) (v_load (v := (.slice _ _ _)) rfl tc29 (fun _ hS => hS.1 _ _ _ rfl) rfl rfl) ?_
      refine any_take 13 rfl (by kernel_rfl) (by kernel_rfl) (by kernel_rfl) (v_len rfl sl29 rfl) ?_
      refine any_take 14 rfl (by kernel_rfl) (by kernel_rfl) (by kernel_rfl) (v_sub _ rfl rfl rfl (wrap_in (by omega) (by omega))) ?_
      refine any_take 17 rfl (by kernel_rfl) (by kernel_rfl) (by kernel_rfl) (v_move (v := _) rfl rfl) ?_
      refine any_one 8 rfl (by kernel_rfl) ?_
      refine ops_call rfl c25 (pick13_ok H id (st.nodes.length + 1) i4 hp0) ?_
      clear H; rintro _ w ⟨rfl, H⟩
      refine ops_nil ⟨H.stab [(0, 0)] ⟨rfl, trivial⟩, ?_⟩
      refine any_one 15 rfl (by kernel_rfl) ?_
      refine ops_buildSlice (cs := [int id, int (M.pick id (st.nodes.length + 1)), int ((st.nodes.length : Int) - 1)]) H rfl bs40_3 rfl ?_
      clear H; intro ks w H
      refine ops_nil ⟨H.stab [(1, 0)] ⟨rfl, trivial⟩, ?_⟩
      refine any_take 16 rfl (by kernel_rfl) (by kernel_rfl) (by kernel_rfl) (v_len rfl sl40 rfl) ?_
      refine any_done (by kernel_rfl) ?_
      refine W_block ?_
      -- (backstaylaw13.NodeTells: loop; chunks ks,p,s,X,y; ptr 17=p)
      have H := (((H.front 2 rfl).front 2 rfl)).shutR
      refine W_loopS (fun (s : Nat) => [(2, .slice rp l.length rcap), (3, int f), (4, int id), (11, .bool true), (14, xptr o), (17, ptr ru), (39, .slice (some ⟨g, 0, none⟩) 2 2), (40, .int .i64 2), (41, .int .i64 i), (132, .slice (some ⟨ks, 0, none⟩) 3 3), (133, .int .i64 3), (134, .int .i64 s)])
        (fun s w => Own wb (RefC ru st :: Blk ks [int id, int (M.pick id (st.nodes.length + 1)), int ((st.nodes.length : Int) - 1)] 3 :: XC o st :: Blk g [int links, int most, int q1, int q2] 24 :: R1) w ∧ s ≤ 3)
        (fun s => 3 - s) 0 ⟨rfl, rfl, rfl, rfl, rfl, rfl, rfl, rfl, rfl, rfl, rfl, rfl, trivial⟩ ⟨H, Nat.zero_le _⟩ ?_
      clear H
      rintro m e w ⟨H, hm3⟩
      by_cases hm : (m : Int) < 3
      · obtain ⟨k, hk⟩ : ∃ k : Int, ([int id, int (M.pick id (st.nodes.length + 1)), int ((st.nodes.length : Int) - 1)] : List Value)[0 + ((m : Int)).toNat * 1]? = some (int k) := by
          rcases (by omega : m = 0 ∨ m = 1 ∨ m = 2) with rfl | rfl | rfl
          · exact ⟨_, rfl⟩
          · exact ⟨_, rfl⟩
          · exact ⟨_, rfl⟩
        have hf64 : i64 (M.pick f 64) := ⟨by have := M.pick_lo (c := f) (n := 64) (by decide); omega, by have := M.pick_hi (c := f) (n := 64) (by decide); omega⟩
        refine W_seq ?_
        refine W_region ?_
        refine ops_v (v_lss true rfl rfl rfl (decide_eq_true (by first | omega | (simp only; omega) | rfl | decide))) ?_
        refine ops_nil ?_
        refine W_seq ?_
        refine W_if_t rfl ?_
        refine W_skip ?_
        refine W_seq ?_
        refine W_block ?_
        refine W_seq ?_
        refine W_region ?_
        refine ops_v (v_indexAddr_sl rfl se40 rfl rfl (by omega) (by omega)) ?_
        refine ops_load (v := int k) 1 H rfl tc3 rfl rfl hk ?_
        refine ops_v (v_assign (v := (.int _ _)) rfl rfl) ?_
        refine ops_nil ?_
        refine W_seq ?_
        refine W_region ?_
        refine ops_v (v_move (v := (.pointer _)) rfl rfl) ?_
        refine ops_v (v_move (v := (.int _ _)) rfl rfl) ?_
        refine ops_call rfl c31 (FnC.ro 2 rfl H (fun _ => NodeZ_x k)) ?_
        clear H; rintro _ w ⟨rfl, H⟩
        refine ops_v (v_move (v := (.tuple _)) rfl rfl) ?_
        refine ops_v (v_extract (v := (.agg _)) rfl rfl rfl) ?_
        refine ops_v (v_extract (v := (.bool _)) rfl rfl rfl) ?_
        refine ops_alloc H rfl tz42 ?_
        clear H; intro bn0 w H
        refine ops_store (vs := [_, _, _, _, _]) (v := (.agg _)) (cs' := [_, _, _, _, _]) 0 H rfl ts42 rfl rfl rfl rfl rfl rfl rfl rfl ?_
        clear H; intro w H
        refine ops_v (v_assign (v := (.bool _)) rfl rfl) ?_
        refine ops_nil ?_
        refine W_seq ?_
        refine W_region ?_
        refine ops_v (v_move (v := (.pointer _)) rfl rfl) ?_
        refine ops_v (v_move (v := (.int _ _)) rfl rfl) ?_
        refine ops_call rfl c32 (FnC.ro 1 rfl H (fun _ => Node13_ok k)) ?_
        clear H; rintro _ w ⟨rfl, H⟩
        refine ops_v (v_move (v := (.tuple _)) rfl rfl) ?_
        refine ops_v (v_extract (v := (.agg _)) rfl rfl rfl) ?_
        refine ops_v (v_extract (v := (.bool _)) rfl rfl rfl) ?_
        refine ops_alloc H rfl tz42 ?_
        clear H; intro bn1 w H
        refine ops_store (vs := [_, _, _, _, _]) (v := (.agg _)) (cs' := [_, _, _, _, _]) 0 H rfl ts42 rfl rfl rfl rfl rfl rfl rfl rfl ?_
        clear H; intro w H
        refine ops_v (v_assign (v := (.bool _)) rfl rfl) ?_
        refine ops_nil ?_
        refine W_seq ?_
        refine W_region ?_
        refine ops_loadA (vs := [_, _, _, _, _]) 1 H rfl ta42 rfl rfl rfl rfl ?_
        refine ops_loadA (vs := [_, _, _, _, _]) 0 H rfl ta42 rfl rfl rfl rfl ?_
        refine ops_v (v_neqB (getZ st k) (getZ st k) false rfl rfl rfl (by simp)) ?_
        refine ops_v (v_move (v := (.bool _)) rfl rfl) ?_
        refine ops_v (v_move (v := (.bool _)) rfl rfl) ?_
        refine ops_v (v_move (v := (.bool _)) rfl rfl) ?_
        refine ops_v (v_neq_bool false rfl ib4 rfl rfl (by simp)) ?_
        refine ops_v (v_pick_f (v := (.bool _)) rfl rfl rfl) ?_
        refine ops_v (v_move (v := (.bool _)) rfl rfl) ?_
        refine ops_v (v_move (v := (.pointer _)) rfl rfl) ?_
        refine ops_v (v_move (v := (.int _ _)) rfl rfl) ?_
        refine ops_v (v_move (v := (.int _ _)) rfl rfl) ?_
        refine ops_call rfl c33 (FnC.ro 4 rfl H (fun _ => Eval_x hw k f)) ?_
        clear H; rintro _ w ⟨rfl, H⟩
        refine ops_v (v_move (v := (.pointer _)) rfl rfl) ?_
        refine ops_v (v_move (v := (.int _ _)) rfl rfl) ?_
        refine ops_v (v_move (v := (.int _ _)) rfl rfl) ?_
        refine ops_call rfl c34 (FnC.ro 2 rfl H (fun _ => Eval13_ok hw k f i3)) ?_
        clear H; rintro _ w ⟨rfl, H⟩
        refine ops_v (v_neq false rfl rfl rfl (decide_eq_false (by first | omega | (simp only; omega) | rfl | decide))) ?_
        refine ops_v (v_pick_f (v := (.bool _)) rfl rfl rfl) ?_
        refine ops_v (v_move (v := (.bool _)) rfl rfl) ?_
        refine ops_v (v_move (v := (.pointer _)) rfl rfl) ?_
        refine ops_v (v_move (v := (.int _ _)) rfl rfl) ?_
        refine ops_v (v_move (v := (.int _ _)) rfl rfl) ?_
        refine ops_call rfl c25 (pick13_ok H f 64 i3 (by decide)) ?_
        clear H; rintro _ w ⟨rfl, H⟩
        refine ops_call rfl c33 (FnC.ro 4 rfl H (fun _ => Eval_x hw k (M.pick f 64))) ?_
        clear H; rintro _ w ⟨rfl, H⟩
        refine ops_v (v_move (v := (.pointer _)) rfl rfl) ?_
        refine ops_v (v_move (v := (.int _ _)) rfl rfl) ?_
        refine ops_v (v_move (v := (.int _ _)) rfl rfl) ?_
        refine ops_call rfl c25 (pick13_ok H f 64 i3 (by decide)) ?_
        clear H; rintro _ w ⟨rfl, H⟩
        refine ops_call rfl c34 (FnC.ro 2 rfl H (fun _ => Eval13_ok hw k (M.pick f 64) hf64)) ?_
        clear H; rintro _ w ⟨rfl, H⟩
        refine ops_v (v_neq false rfl rfl rfl (decide_eq_false (by first | omega | (simp only; omega) | rfl | decide))) ?_
        refine ops_v (v_pick_f (v := (.bool _)) rfl rfl rfl) ?_
        refine ops_v (v_move (v := (.bool _)) rfl rfl) ?_
        refine ops_v (v_move (v := (.pointer _)) rfl rfl) ?_
        refine ops_v (v_move (v := (.int _ _)) rfl rfl) ?_
        refine ops_call rfl c35 (FnC.ro 4 rfl H (fun _ => Count_x hw k)) ?_
        clear H; rintro _ w ⟨rfl, H⟩
        refine ops_v (v_move (v := (.pointer _)) rfl rfl) ?_
        refine ops_v (v_move (v := (.int _ _)) rfl rfl) ?_
        refine ops_call rfl c36 (FnC.ro 2 rfl H (fun _ => Count13_ok hw k)) ?_
        clear H; rintro _ w ⟨rfl, H⟩
        refine ops_v (v_neq false rfl rfl rfl (decide_eq_false (by first | omega | (simp only; omega) | rfl | decide))) ?_
        refine ops_v (v_pick_f (v := (.bool _)) rfl rfl rfl) ?_
        refine ops_nil ?_
        refine W_if_f rfl ?_
        refine W_skip ?_
        refine W_region ?_
        refine ops_v (v_add _ rfl rfl rfl (wrap_in (by omega) (by omega))) ?_
        refine ops_v (v_move (v := (.int _ _)) rfl rfl) ?_
        refine ops_nil ?_
        refine ⟨m + 1, ?_, ⟨rfl, rfl, rfl, rfl, rfl, rfl, rfl, rfl, rfl, rfl, rfl, rfl, trivial⟩, H.tail.tail, ?_⟩
        · show 3 - (m + 1) < 3 - m; omega
        · show m + 1 ≤ 3; omega
        -- (backstaylaw13.NodeTells: loopend; chunks n1,n0,Rf,ks,X,y; ptr 25=n0,27=n1)
      · refine W_seq ?_
        refine W_region ?_
        refine ops_v (v_lss false rfl rfl rfl (decide_eq_false (by first | omega | (simp only; omega) | rfl | decide))) ?_
        refine ops_nil ?_
        refine W_seq ?_
        refine W_if_f rfl ?_
        refine W_exit ?_
        refine W_region ?_
        refine ops_v (v_add _ rfl rfl rfl (wrap_in (by omega) (by omega))) ?_
        refine ops_v (v_move (v := (.int _ _)) rfl rfl) ?_
        refine ops_nil ?_
        refine ⟨i + 1, ?_, ⟨rfl, rfl, rfl, rfl, rfl, rfl, rfl, trivial⟩, R1, H.tail.tail.tail, ?_⟩
        · show 2 - (i + 1) < 2 - i; omega
        · show i + 1 ≤ 2; omega
        -- (backstaylaw13.NodeTells: loopend; chunks Rf,ks,X,y; ptr )
  · refine W_seq ?_
    refine W_region ?_
    refine ops_v (v_lss false rfl rfl rfl (decide_eq_false (by first | omega | (simp only; omega) | rfl | decide))) ?_
    refine ops_nil ?_
    refine W_seq ?_
    refine W_if_f rfl ?_
    refine W_exit ?_
    refine W_seq ?_
    refine W_region ?_
    refine ops_v (v_move (v := (.bool _)) rfl rfl) ?_
    refine ops_v (v_assign (v := (.bool _)) rfl rfl) ?_
    refine ops_nil ?_
    refine W_ret ?_
    refine ⟨_, (.tmp (v := (.bool _)) rfl .nil), ?_⟩
    exact ⟨rfl, _, H⟩
    -- (backstaylaw13.NodeTells: ret; chunks y; ptr )
theorem walk (W : World) (links : Int) (i1 : i64 links) (most : Int) (i2 : i64 most) (v : Value) (l : List R4) (hr : RawIs W v l) (f : Int) (i3 : i64 f) (id : Int) (i4 : i64 id) :
    FnC Try.prog 3 [int links, int most, v, int f, int id] W (fun v w' => v = .bool true ∧ Base W w') :=
  (law_ok (Own.start W) links most f id i1 i2 i3 i4 v l hr).mono (fun _ _ ⟨a, _, H⟩ => ⟨a, H.base⟩)
theorem own : ownKnob Try.prog.godebug = none := by kernel_rfl
set_option maxRecDepth 100000 in
theorem lifted (os : Os) (started : os.Started) (H : Type) (enc : TypeId × Value → H) :
    ReturnsInHanded {} Try.checked os 3 .any (Rows.nodeTellsSpec.pre6 enc Try.prog Try.f3 Rows.nodeTellsRow.domain false) (Rows.nodeTellsSpec.post enc Try.prog Try.f3 false true false false) := by
  refine returnsInHanded_of_change (C := Try.checked) own started (by kernel_rfl) Try.func3
    (ChangeSpec.witness6 (enc := enc) (C := Try.checked) false ⟨#[], #[.int .i64 0, .int .i64 0, .slice none 0 0, .int .i64 0, .int .i64 0], []⟩ 8 (by kernel_rfl) (by kernel_rfl) (by kernel_rfl) (by kernel_rfl)) ?_
  intro W base args ds gs before hval0 hW hcnd _
  have hval : ∀ (j : Nat) t v, Try.f3.params[j]? = some t → args[j]? = some v → Value.okWide Try.prog W .any base t v := hval0
  have hW' := hW
  obtain ⟨p, q, hA0, hV, rfl, hfz, hnd⟩ := hW
  have hA : DataW.TrodAll enc Try.prog W 0 (fun _ => true) true Try.f3.params.toList args.toList ds p := hA0
  rw [Try.params3] at hA hval
  obtain ⟨v0, vs0, d0, ds0, p0, q0, hargs, rfl, rfl, h0, r0⟩ := trodAll_cons hA
  obtain ⟨v1, vs1, d1, ds1, p1, q1, rfl, rfl, rfl, h1, r1⟩ := trodAll_cons r0
  obtain ⟨v2, vs2, d2, ds2, p2, q2, rfl, rfl, rfl, h2, r2⟩ := trodAll_cons r1
  obtain ⟨v3, vs3, d3, ds3, p3, q3, rfl, rfl, rfl, h3, r3⟩ := trodAll_cons r2
  obtain ⟨v4, vs4, d4, ds4, p4, q4, rfl, rfl, rfl, h4, r4⟩ := trodAll_cons r3
  obtain ⟨rfl, rfl, rfl⟩ := trodAll_nil r4
  obtain rfl : args = #[v0, v1, v2, v3, v4] := by cases args; simp_all
  obtain ⟨rfl, rfl⟩ := trodVars_none hV
  obtain ⟨a0, rfl, rfl, rfl, x0⟩ := open_int Try.underlying3 (hval 0 3 v0 rfl rfl) h0
  obtain ⟨a1, rfl, rfl, rfl, x1⟩ := open_int Try.underlying3 (hval 1 3 v1 rfl rfl) h1
  have k2 := h2
  have lt2 : ∀ x ∈ p2, x.block < W.heap.size := by obtain ⟨m, hm⟩ := k2; exact DataW.trod_lt m _ _ _ hm
  obtain ⟨l2, w2⟩ := raw_of_trod h2 (okWide_slice Try.underlying22 (hval 2 22 v2 rfl rfl))
  obtain ⟨a3, rfl, rfl, rfl, x3⟩ := open_int Try.underlying3 (hval 3 3 v3 rfl rfl) h3
  obtain ⟨a4, rfl, rfl, rfl, x4⟩ := open_int Try.underlying3 (hval 4 3 v4 rfl rfl) h4
  clear hA0 hval0
  refine Calls.mono (walk W a0 (bounds_i64 x0) a1 (bounds_i64 x1) v2 l2 w2 a3 (bounds_i64 x3) a4 (bounds_i64 x4)) ?_
  rintro e W' ⟨_, rfl, rfl, hb⟩
  have bel := hb.below
  exact ⟨_, rfl, _, _, _, [], _, [], hW', trodAll_mk1 (shut_bool Try.underlying4 _), (trodAll_cons_mk (shut_int Try.underlying3 x0) (trodAll_cons_mk (shut_int Try.underlying3 x1) (trodAll_cons_mk (Below.trod laidOut (by kernel_rfl) (of_decide_eq_true (by kernel_rfl)) k2 bel lt2) (trodAll_cons_mk (shut_int Try.underlying3 x3) (trodAll_cons_mk (shut_int Try.underlying3 x4) trodAll_mk0))))), rfl, bel.frame _, fun h => by cases h⟩
theorem closed : joinedFacts Try.prog 3 Try.f3 Rows.nodeTellsSpec Rows.nodeTellsRow = true := Go.Proofs.Ytchikjmhncojfaa.Head.joined (by kernel_rfl) rfl rfl (by kernel_rfl) (by kernel_rfl) (by kernel_rfl) (by kernel_rfl)
theorem over : Rows.nodeTellsRow.holds Try.pinned (OpenSpec.ofChange Rows.nodeTellsSpec) :=
  OpenClaim.holds_of_wide 3 Try.f3 rfl rfl rfl rfl rfl rfl rfl ⟨rfl, rfl, rfl, rfl, rfl⟩ rfl rfl rfl rfl rfl (by kernel_rfl) Try.func3 closed
    (of_decide_eq_true (by kernel_rfl)) (by unfold Func.isWrapper; first | (rw [if_pos (by decide +kernel)]; kernel_rfl) | (rw [if_neg (by decide +kernel)]; exact ⟨rfl, rfl⟩))
    (fun os started H enc _ => lifted os started H enc)
/-- The statement. -/
theorem proved : Rows.NodeTellsSaid := over
end Go.Proofs.Ytchikjmhncojfaa.nodeTells
