/- LimitCounts of layer 16: AtMost tells 1 of as many sets as there are small ones; there is room for all, or the store is full. Conditions: none. -/
import Derived.Test.YtchikjmhncojfaaLaw14
import Derived.Test.YtchikjmhncojfaaOrderM
import Derived.Test.YtchikjmhncojfaaHead
import Derived.Test.YtchikjmhncojfaaLaw16
import Derived.Test.YtchikjmhncojfaaPick
import Derived.ProofKit
import Derived.OpenShut
set_option linter.unusedVariables false
namespace Go.Proofs.Ytchikjmhncojfaa.limitCounts
open Go Go.Proofs Go.RowKit Go.ChangeShapes Go.WideShapes Go.ChangeAt Go.Proofs.Ytchikjmhncojfaa.W
open Go.Proofs.Ytchikjmhncojfaa.M (Br St get getZ isN idx has down Wf rank i64 leafB askB R4 MadeOk Lifts Ext opF oneF twoF chooseF tr Tells Room6 AtM atf withinF)
variable {w wb : World} {R : List Chunk}
set_option maxRecDepth 8000 in
set_option maxHeartbeats 2000000 in
theorem law_ok (H : Own wb R w) (links most room : Int) (i1 : i64 links) (i2 : i64 most) (i3 : i64 room) :
    FnC Try.prog 23 [int links, int most, int room] w (fun u w' => u = .bool true ∧ ∃ R', Own wb R' w') := by
  have lo := M.pick_lo (c := links) (n := 10) (by decide)
  have hi := M.pick_hi (c := links) (n := 10) (by decide)
  have mo := M.pick_lo (c := most) (n := 6) (by decide)
  have mi := M.pick_hi (c := most) (n := 6) (by decide)
  obtain ⟨n, hn⟩ : ∃ n : Nat, M.pick links 10 = n := ⟨(M.pick links 10).toNat, by omega⟩
  obtain ⟨m, hm⟩ : ∃ m : Nat, M.pick most 6 = m := ⟨(M.pick most 6).toNat, by omega⟩
  rw [hn] at lo hi
  rw [hm] at mo mi
  have w0 : Wf ⟨n, 1000, []⟩ := Wf.empty (by omega) (by decide)
  have hb : (n + 1) * (n + 2) ≤ 10 * 11 := Nat.mul_le_mul (by omega) (by omega)
  obtain ⟨s1, a, e1, A1⟩ := M.AtM.ex w0 m
  have f1 := A1.few w0
  have g1 := A1.good w0 (by decide) (by decide)
  have l1 : s1.links = n := g1.ext.links
  have o1 : s1.most = 1000 := g1.ext.most
  simp only [List.length_nil] at f1
  have he1 : e1 = 0 := by
    rcases g1.err with h | ⟨_, _, hh⟩
    · exact h
    · omega
  subst he1
  have d0 : M.deep ⟨n, 1000, []⟩ 0 = n := by unfold M.deep; simp
  have ta := g1.tells rfl
  rw [d0] at ta
  have hpc := M.pc_at g1.wf n (k := 0) (r := a) (m := m) (by omega) ta.here (M.lnk_range g1.wf ta.here).1 ta.eval
  have hcnt : M.countI (n : Int) (m : Int) = M.cz n m := M.count_cz (by omega) (by omega) (by omega)
  have hp1 : M.pcN s1.links s1 1 a 0 (M.minI (n : Int) s1.links) = M.cz n m := by
    rw [l1]
    have h1 := (hpc (M.minI n n)).1
    have h2 : M.minI (n : Int) n = n := by unfold M.minI; rw [if_neg (by omega)]
    rw [h2] at h1 ⊢
    refine h1.trans ?_
    by_cases hmn : (m : Int) ≤ n
    · rw [Int.min_eq_left hmn]
    · rw [Int.min_eq_right (by omega), M.cz_all n (j := (m : Int)) (by omega)]
  have hp0 : M.pcN s1.links s1 0 a 0 (M.minI (m : Int) s1.links) = 0 := by
    rw [l1]
    exact (hpc _).2 (by unfold M.minI; split <;> omega)
  have hall : (M.count s1 a) = s1.nodes.length := M.count_all fun j hj => A1.comes w0 (by decide) (by decide) rfl j hj (M.bad_id (by simp only [List.length_nil]; omega))
  have hpos : 1 ≤ s1.nodes.length := by have := M.isN_iff.1 ta.here; omega
  have hsz : (0 : Int) < (s1.nodes.length : Int) + 1 := by omega
  have r1 := M.pick_lo (c := room) hsz
  have r2 := M.pick_hi (c := room) hsz
  obtain ⟨kk, hkk⟩ : ∃ kk : Nat, (1 : Int) + M.pick room ((s1.nodes.length : Int) + 1) = kk := ⟨((1 : Int) + M.pick room ((s1.nodes.length : Int) + 1)).toNat, by omega⟩
  have hwt : Wf ⟨n, kk, []⟩ := Wf.empty (by omega) (by omega)
  have hsim := A1.sim w0 (by decide) (by decide) rfl kk (Nat.zero_le _)
  by_cases hroom : (kk : Int) < s1.nodes.length
  · obtain ⟨t, At, ht⟩ := hsim.2 (by omega)
    refine FnC_of Try.func23 rfl rfl rfl rfl ?_
    refine W_seq ?_
    refine W_region ?_
    refine ops_v (v_assign (v := _) rfl rfl) ?_
    refine ops_nil ?_
    refine W_seq ?_
    refine W_region ?_
    refine ops_call rfl c55 (awake16_ok H) ?_
    clear H; rintro _ w ⟨rfl, H⟩
    refine ops_v (v_assign (v := (.bool _)) rfl rfl) ?_
    refine ops_nil ?_
    refine W_seq ?_
    refine W_region ?_
    refine ops_v (v_move (v := (.int _ _)) rfl rfl) ?_
    refine ops_call rfl c56 (pick16_ok H links 10 i1 (by decide)) ?_
    clear H; rintro _ w ⟨rfl, H⟩
    rw [hn]
    refine ops_v (v_assign (v := (.int _ _)) rfl rfl) ?_
    refine ops_nil ?_
    refine W_seq ?_
    refine W_region ?_
    refine ops_v (v_move (v := (.int _ _)) rfl rfl) ?_
    refine ops_call rfl c56 (pick16_ok H most 6 i2 (by decide)) ?_
    clear H; rintro _ w ⟨rfl, H⟩
    rw [hm]
    refine ops_v (v_assign (v := (.int _ _)) rfl rfl) ?_
    refine ops_nil ?_
    refine W_seq ?_
    refine W_region ?_
    refine ops_v (v_move (v := (.int _ _)) rfl rfl) ?_
    refine ops_call rfl c26 (New_ok H n 1000 lo (by omega) (by decide) (by decide)) ?_
    clear H; rintro _ w ⟨p, rfl, H⟩
    refine ops_v (v_assign (v := (.pointer _)) rfl rfl) ?_
    refine ops_nil ?_
    refine W_seq ?_
    refine W_region ?_
    refine ops_v (v_move (v := (.pointer _)) rfl rfl) ?_
    refine ops_v (v_move (v := (.int _ _)) rfl rfl) ?_
    refine ops_call rfl c57 (FnC.at 0 rfl H (fun _ H => AtMost_ok A1 w0 H)) ?_
    clear H; rintro _ w ⟨rfl, H⟩
    refine ops_v (v_move (v := (.tuple _)) rfl rfl) ?_
    refine ops_v (v_extract (v := (.int _ _)) rfl rfl rfl) ?_
    refine ops_v (v_extract (v := (.int _ _)) rfl rfl rfl) ?_
    refine ops_v (v_assign (v := (.int _ _)) rfl rfl) ?_
    refine ops_v (v_assign (v := (.int _ _)) rfl rfl) ?_
    refine ops_nil ?_
    refine W_seq ?_
    refine W_seq ?_
    refine W_region ?_
    refine ops_v (v_move (v := (.bool _)) rfl rfl) ?_
    refine ops_v (v_not rfl rfl _ rfl) ?_
    refine ops_v (v_move (v := (.bool _)) rfl rfl) ?_
    refine ops_v (v_move (v := (.int _ _)) rfl rfl) ?_
    refine ops_v (v_neq false rfl rfl rfl (decide_eq_false (by first | omega | (simp only; omega) | rfl | decide))) ?_
    refine ops_v (v_pick_f (v := (.bool _)) rfl rfl rfl) ?_
    refine ops_v (v_move (v := (.bool _)) rfl rfl) ?_
    refine ops_v (v_move (v := (.pointer _)) rfl rfl) ?_
    refine ops_v (v_move (v := (.int _ _)) rfl rfl) ?_
    refine ops_v (v_move (v := (.int _ _)) rfl rfl) ?_
    refine ops_call rfl c64 (FnC.ro 0 rfl H (fun _ H => (by have := PCount_ok g1.wf (most := (n : Int)) (v := 1) ta.here (by omega) H; rw [hp1] at this; exact this))) ?_
    clear H; rintro _ w ⟨rfl, H⟩
    refine ops_v (v_move (v := (.int _ _)) rfl rfl) ?_
    refine ops_v (v_move (v := (.int _ _)) rfl rfl) ?_
    refine ops_call rfl c62 ((by have := BCount_ok (n : Int) (m : Int) H; rw [hcnt] at this; exact this)) ?_
    clear H; rintro _ w ⟨rfl, H⟩
    refine ops_v (v_neq false rfl rfl rfl (decide_eq_false (by first | omega | (simp only; omega) | rfl | decide))) ?_
    refine ops_v (v_pick_f (v := (.bool _)) rfl rfl rfl) ?_
    refine ops_v (v_move (v := (.bool _)) rfl rfl) ?_
    refine ops_v (v_move (v := (.pointer _)) rfl rfl) ?_
    refine ops_v (v_move (v := (.int _ _)) rfl rfl) ?_
    refine ops_v (v_move (v := (.int _ _)) rfl rfl) ?_
    refine ops_call rfl c64 (FnC.ro 0 rfl H (fun _ H => (by have := PCount_ok g1.wf (most := (m : Int)) (v := 0) ta.here (by omega) H; rw [hp0] at this; exact this))) ?_
    clear H; rintro _ w ⟨rfl, H⟩
    refine ops_v (v_neq false rfl rfl rfl (decide_eq_false (by first | omega | (simp only; omega) | rfl | decide))) ?_
    refine ops_v (v_pick_f (v := (.bool _)) rfl rfl rfl) ?_
    refine ops_v (v_move (v := (.bool _)) rfl rfl) ?_
    refine ops_v (v_move (v := (.pointer _)) rfl rfl) ?_
    refine ops_call rfl c30 (FnC.ro 0 rfl H (fun _ => Size_ok)) ?_
    clear H; rintro _ w ⟨rfl, H⟩
    refine ops_v (v_move (v := (.pointer _)) rfl rfl) ?_
    refine ops_v (v_move (v := (.int _ _)) rfl rfl) ?_
    refine ops_call rfl c35 (FnC.ro 0 rfl H (fun _ H => (by have := Count_ok g1.wf a H; rw [hall] at this; exact this))) ?_
    clear H; rintro _ w ⟨rfl, H⟩
    refine ops_v (v_neq false rfl rfl rfl (decide_eq_false (by first | omega | (simp only; omega) | rfl | decide))) ?_
    refine ops_v (v_pick_f (v := (.bool _)) rfl rfl rfl) ?_
    refine ops_nil ?_
    refine W_if_f rfl ?_
    refine W_skip ?_
    refine W_seq ?_
    refine W_region ?_
    refine ops_v (v_move (v := (.int _ _)) rfl rfl) ?_
    refine ops_v (v_move (v := (.pointer _)) rfl rfl) ?_
    refine ops_call rfl c30 (FnC.ro 0 rfl H (fun _ => Size_ok)) ?_
    clear H; rintro _ w ⟨rfl, H⟩
    refine ops_v (v_add _ rfl rfl rfl (wrap_in (by omega) (by omega))) ?_
    refine ops_call rfl c56 (pick16_ok H room _ i3 hsz) ?_
    clear H; rintro _ w ⟨rfl, H⟩
    refine ops_v (v_add (kk : Int) rfl rfl rfl (by rw [hkk]; exact wrap_in (by omega) (by omega))) ?_
    refine ops_v (v_assign (v := (.int _ _)) rfl rfl) ?_
    refine ops_nil ?_
    refine W_seq ?_
    refine W_region ?_
    refine ops_v (v_move (v := (.int _ _)) rfl rfl) ?_
    refine ops_v (v_move (v := (.int _ _)) rfl rfl) ?_
    refine ops_call rfl c26 (New_ok H n kk lo (by omega) (by omega) (by omega)) ?_
    clear H; rintro _ w ⟨pt, rfl, H⟩
    rw [Int.toNat_natCast] at H
    refine ops_v (v_assign (v := (.pointer _)) rfl rfl) ?_
    refine ops_nil ?_
    refine W_seq ?_
    refine W_region ?_
    refine ops_v (v_move (v := (.pointer _)) rfl rfl) ?_
    refine ops_v (v_move (v := (.int _ _)) rfl rfl) ?_
    refine ops_call rfl c57 (FnC.at 0 rfl H (fun _ H => AtMost_ok At hwt H)) ?_
    clear H; rintro _ w ⟨rfl, H⟩
    refine ops_v (v_move (v := (.tuple _)) rfl rfl) ?_
    refine ops_v (v_extract (v := (.int _ _)) rfl rfl rfl) ?_
    refine ops_v (v_extract (v := (.int _ _)) rfl rfl rfl) ?_
    refine ops_v (v_assign (v := (.int _ _)) rfl rfl) ?_
    refine ops_v (v_assign (v := (.int _ _)) rfl rfl) ?_
    refine ops_nil ?_
    refine W_seq ?_
    refine W_seq ?_
    refine W_region ?_
    refine ops_v (v_move (v := (.int _ _)) rfl rfl) ?_
    refine ops_v (v_move (v := (.pointer _)) rfl rfl) ?_
    refine ops_call rfl c30 (FnC.ro 1 rfl H (fun _ => Size_ok)) ?_
    clear H; rintro _ w ⟨rfl, H⟩
    refine ops_v (v_lss true rfl rfl rfl (decide_eq_true (by first | omega | (simp only; omega) | rfl | decide))) ?_
    refine ops_nil ?_
    refine W_if_t rfl ?_
    refine W_seq ?_
    refine W_region ?_
    refine ops_v (v_move (v := (.int _ _)) rfl rfl) ?_
    refine ops_v (v_eql true rfl rfl rfl (decide_eq_true (by first | omega | (simp only; omega) | rfl | decide))) ?_
    refine ops_v (v_move (v := (.bool _)) rfl rfl) ?_
    refine ops_v (v_move (v := (.pointer _)) rfl rfl) ?_
    refine ops_call rfl c30 (FnC.ro 0 rfl H (fun _ => Size_ok)) ?_
    clear H; rintro _ w ⟨rfl, H⟩
    refine ops_v (v_move (v := (.int _ _)) rfl rfl) ?_
    refine ops_v (v_eql _ rfl rfl rfl rfl) ?_
    refine ops_v (v_pick_t (v := (.bool _)) rfl rfl rfl) ?_
    refine ops_v (v_assign (v := (.bool _)) rfl rfl) ?_
    refine ops_nil ?_
    refine W_ret ?_
    refine ⟨_, (.tmp (v := (.bool _)) rfl .nil), ?_⟩
    exact ⟨by simp [packV, ht], _, H⟩
    -- (backstaylaw16.LimitCounts: ret; chunks T,S; ptr )
  · have At := hsim.1 (by omega)
    have hsz2 : (s1.room kk).nodes.length = s1.nodes.length := rfl
    refine FnC_of Try.func23 rfl rfl rfl rfl ?_
    refine W_seq ?_
    refine W_region ?_
    refine ops_v (v_assign (v := _) rfl rfl) ?_
    refine ops_nil ?_
    refine W_seq ?_
    refine W_region ?_
    refine ops_call rfl c55 (awake16_ok H) ?_
    clear H; rintro _ w ⟨rfl, H⟩
    refine ops_v (v_assign (v := (.bool _)) rfl rfl) ?_
    refine ops_nil ?_
    refine W_seq ?_
    refine W_region ?_
    refine ops_v (v_move (v := (.int _ _)) rfl rfl) ?_
    refine ops_call rfl c56 (pick16_ok H links 10 i1 (by decide)) ?_
    clear H; rintro _ w ⟨rfl, H⟩
    rw [hn]
    refine ops_v (v_assign (v := (.int _ _)) rfl rfl) ?_
    refine ops_nil ?_
    refine W_seq ?_
    refine W_region ?_
    refine ops_v (v_move (v := (.int _ _)) rfl rfl) ?_
    refine ops_call rfl c56 (pick16_ok H most 6 i2 (by decide)) ?_
    clear H; rintro _ w ⟨rfl, H⟩
    rw [hm]
    refine ops_v (v_assign (v := (.int _ _)) rfl rfl) ?_
    refine ops_nil ?_
    refine W_seq ?_
    refine W_region ?_
    refine ops_v (v_move (v := (.int _ _)) rfl rfl) ?_
    refine ops_call rfl c26 (New_ok H n 1000 lo (by omega) (by decide) (by decide)) ?_
    clear H; rintro _ w ⟨p, rfl, H⟩
    refine ops_v (v_assign (v := (.pointer _)) rfl rfl) ?_
    refine ops_nil ?_
    refine W_seq ?_
    refine W_region ?_
    refine ops_v (v_move (v := (.pointer _)) rfl rfl) ?_
    refine ops_v (v_move (v := (.int _ _)) rfl rfl) ?_
    refine ops_call rfl c57 (FnC.at 0 rfl H (fun _ H => AtMost_ok A1 w0 H)) ?_
    clear H; rintro _ w ⟨rfl, H⟩
    refine ops_v (v_move (v := (.tuple _)) rfl rfl) ?_
    refine ops_v (v_extract (v := (.int _ _)) rfl rfl rfl) ?_
    refine ops_v (v_extract (v := (.int _ _)) rfl rfl rfl) ?_
    refine ops_v (v_assign (v := (.int _ _)) rfl rfl) ?_
    refine ops_v (v_assign (v := (.int _ _)) rfl rfl) ?_
    refine ops_nil ?_
    refine W_seq ?_
    refine W_seq ?_
    refine W_region ?_
    refine ops_v (v_move (v := (.bool _)) rfl rfl) ?_
    refine ops_v (v_not rfl rfl _ rfl) ?_
    refine ops_v (v_move (v := (.bool _)) rfl rfl) ?_
    refine ops_v (v_move (v := (.int _ _)) rfl rfl) ?_
    refine ops_v (v_neq false rfl rfl rfl (decide_eq_false (by first | omega | (simp only; omega) | rfl | decide))) ?_
    refine ops_v (v_pick_f (v := (.bool _)) rfl rfl rfl) ?_
    refine ops_v (v_move (v := (.bool _)) rfl rfl) ?_
    refine ops_v (v_move (v := (.pointer _)) rfl rfl) ?_
    refine ops_v (v_move (v := (.int _ _)) rfl rfl) ?_
    refine ops_v (v_move (v := (.int _ _)) rfl rfl) ?_
    refine ops_call rfl c64 (FnC.ro 0 rfl H (fun _ H => (by have := PCount_ok g1.wf (most := (n : Int)) (v := 1) ta.here (by omega) H; rw [hp1] at this; exact this))) ?_
    clear H; rintro _ w ⟨rfl, H⟩
    refine ops_v (v_move (v := (.int _ _)) rfl rfl) ?_
    refine ops_v (v_move (v := (.int _ _)) rfl rfl) ?_
    refine ops_call rfl c62 ((by have := BCount_ok (n : Int) (m : Int) H; rw [hcnt] at this; exact this)) ?_
    clear H; rintro _ w ⟨rfl, H⟩
    refine ops_v (v_neq false rfl rfl rfl (decide_eq_false (by first | omega | (simp only; omega) | rfl | decide))) ?_
    refine ops_v (v_pick_f (v := (.bool _)) rfl rfl rfl) ?_
    refine ops_v (v_move (v := (.bool _)) rfl rfl) ?_
    refine ops_v (v_move (v := (.pointer _)) rfl rfl) ?_
    refine ops_v (v_move (v := (.int _ _)) rfl rfl) ?_
    refine ops_v (v_move (v := (.int _ _)) rfl rfl) ?_
    refine ops_call rfl c64 (FnC.ro 0 rfl H (fun _ H => (by have := PCount_ok g1.wf (most := (m : Int)) (v := 0) ta.here (by omega) H; rw [hp0] at this; exact this))) ?_
    clear H; rintro _ w ⟨rfl, H⟩
    refine ops_v (v_neq false rfl rfl rfl (decide_eq_false (by first | omega | (simp only; omega) | rfl | decide))) ?_
    refine ops_v (v_pick_f (v := (.bool _)) rfl rfl rfl) ?_
    refine ops_v (v_move (v := (.bool _)) rfl rfl) ?_
    refine ops_v (v_move (v := (.pointer _)) rfl rfl) ?_
    refine ops_call rfl c30 (FnC.ro 0 rfl H (fun _ => Size_ok)) ?_
    clear H; rintro _ w ⟨rfl, H⟩
    refine ops_v (v_move (v := (.pointer _)) rfl rfl) ?_
    refine ops_v (v_move (v := (.int _ _)) rfl rfl) ?_
    refine ops_call rfl c35 (FnC.ro 0 rfl H (fun _ H => (by have := Count_ok g1.wf a H; rw [hall] at this; exact this))) ?_
    clear H; rintro _ w ⟨rfl, H⟩
    refine ops_v (v_neq false rfl rfl rfl (decide_eq_false (by first | omega | (simp only; omega) | rfl | decide))) ?_
    refine ops_v (v_pick_f (v := (.bool _)) rfl rfl rfl) ?_
    refine ops_nil ?_
    refine W_if_f rfl ?_
    refine W_skip ?_
    refine W_seq ?_
    refine W_region ?_
    refine ops_v (v_move (v := (.int _ _)) rfl rfl) ?_
    refine ops_v (v_move (v := (.pointer _)) rfl rfl) ?_
    refine ops_call rfl c30 (FnC.ro 0 rfl H (fun _ => Size_ok)) ?_
    clear H; rintro _ w ⟨rfl, H⟩
    refine ops_v (v_add _ rfl rfl rfl (wrap_in (by omega) (by omega))) ?_
    refine ops_call rfl c56 (pick16_ok H room _ i3 hsz) ?_
    clear H; rintro _ w ⟨rfl, H⟩
    refine ops_v (v_add (kk : Int) rfl rfl rfl (by rw [hkk]; exact wrap_in (by omega) (by omega))) ?_
    refine ops_v (v_assign (v := (.int _ _)) rfl rfl) ?_
    refine ops_nil ?_
    refine W_seq ?_
    refine W_region ?_
    refine ops_v (v_move (v := (.int _ _)) rfl rfl) ?_
    refine ops_v (v_move (v := (.int _ _)) rfl rfl) ?_
    refine ops_call rfl c26 (New_ok H n kk lo (by omega) (by omega) (by omega)) ?_
    clear H; rintro _ w ⟨pt, rfl, H⟩
    rw [Int.toNat_natCast] at H
    refine ops_v (v_assign (v := (.pointer _)) rfl rfl) ?_
    refine ops_nil ?_
    refine W_seq ?_
    refine W_region ?_
    refine ops_v (v_move (v := (.pointer _)) rfl rfl) ?_
    refine ops_v (v_move (v := (.int _ _)) rfl rfl) ?_
    refine ops_call rfl c57 (FnC.at 0 rfl H (fun _ H => AtMost_ok At hwt H)) ?_
    clear H; rintro _ w ⟨rfl, H⟩
    refine ops_v (v_move (v := (.tuple _)) rfl rfl) ?_
    refine ops_v (v_extract (v := (.int _ _)) rfl rfl rfl) ?_
    refine ops_v (v_extract (v := (.int _ _)) rfl rfl rfl) ?_
    refine ops_v (v_assign (v := (.int _ _)) rfl rfl) ?_
    refine ops_v (v_assign (v := (.int _ _)) rfl rfl) ?_
    refine ops_nil ?_
    refine W_seq ?_
    refine W_seq ?_
    refine W_region ?_
    refine ops_v (v_move (v := (.int _ _)) rfl rfl) ?_
    refine ops_v (v_move (v := (.pointer _)) rfl rfl) ?_
    refine ops_call rfl c30 (FnC.ro 1 rfl H (fun _ => Size_ok)) ?_
    clear H; rintro _ w ⟨rfl, H⟩
    refine ops_v (v_lss false rfl rfl rfl (decide_eq_false (by first | omega | (simp only; omega) | rfl | decide))) ?_
    refine ops_nil ?_
    refine W_if_f rfl ?_
    refine W_skip ?_
    refine W_seq ?_
    refine W_region ?_
    refine ops_v (v_move (v := (.int _ _)) rfl rfl) ?_
    refine ops_v (v_eql true rfl rfl rfl (decide_eq_true (by first | omega | (simp only; omega) | rfl | decide))) ?_
    refine ops_v (v_move (v := (.bool _)) rfl rfl) ?_
    refine ops_v (v_move (v := (.pointer _)) rfl rfl) ?_
    refine ops_call rfl c30 (FnC.ro 0 rfl H (fun _ => Size_ok)) ?_
    clear H; rintro _ w ⟨rfl, H⟩
    refine ops_v (v_move (v := (.pointer _)) rfl rfl) ?_
    refine ops_call rfl c30 (FnC.ro 1 rfl H (fun _ => Size_ok)) ?_
    clear H; rintro _ w ⟨rfl, H⟩
    refine ops_v (v_eql _ rfl rfl rfl rfl) ?_
    refine ops_v (v_pick_t (v := (.bool _)) rfl rfl rfl) ?_
    refine ops_v (v_assign (v := (.bool _)) rfl rfl) ?_
    refine ops_nil ?_
    refine W_ret ?_
    refine ⟨_, (.tmp (v := (.bool _)) rfl .nil), ?_⟩
    exact ⟨by simp [packV, hsz2], _, H⟩
    -- (backstaylaw16.LimitCounts: ret; chunks T,S; ptr )
theorem walk (W : World) (links : Int) (i1 : i64 links) (most : Int) (i2 : i64 most) (room : Int) (i3 : i64 room) :
    FnC Try.prog 23 [int links, int most, int room] W (fun v w' => v = .bool true ∧ Base W w') :=
  (law_ok (Own.start W) links most room i1 i2 i3).mono (fun _ _ ⟨a, _, H⟩ => ⟨a, H.base⟩)
theorem own : ownKnob Try.prog.godebug = none := by kernel_rfl
set_option maxRecDepth 100000 in
theorem lifted (os : Os) (started : os.Started) (H : Type) (enc : TypeId × Value → H) :
    ReturnsInHanded {} Try.checked os 23 .any (Rows.limitCountsSpec.pre6 enc Try.prog Try.f23 Rows.limitCountsRow.domain false) (Rows.limitCountsSpec.post enc Try.prog Try.f23 false true false false) := by
  refine returnsInHanded_of_change (C := Try.checked) own started (by kernel_rfl) Try.func23
    (ChangeSpec.witness6 (enc := enc) (C := Try.checked) false ⟨#[], #[.int .i64 0, .int .i64 0, .int .i64 0], []⟩ 8 (by kernel_rfl) (by kernel_rfl) (by kernel_rfl) (by kernel_rfl)) ?_
  intro W base args ds gs before hval0 hW hcnd _
  have hval : ∀ (j : Nat) t v, Try.f23.params[j]? = some t → args[j]? = some v → Value.okWide Try.prog W .any base t v := hval0
  have hW' := hW
  obtain ⟨p, q, hA0, hV, rfl, hfz, hnd⟩ := hW
  have hA : DataW.TrodAll enc Try.prog W 0 (fun _ => true) true Try.f23.params.toList args.toList ds p := hA0
  rw [Try.params23] at hA hval
  obtain ⟨v0, vs0, d0, ds0, p0, q0, hargs, rfl, rfl, h0, r0⟩ := trodAll_cons hA
  obtain ⟨v1, vs1, d1, ds1, p1, q1, rfl, rfl, rfl, h1, r1⟩ := trodAll_cons r0
  obtain ⟨v2, vs2, d2, ds2, p2, q2, rfl, rfl, rfl, h2, r2⟩ := trodAll_cons r1
  obtain ⟨rfl, rfl, rfl⟩ := trodAll_nil r2
  obtain rfl : args = #[v0, v1, v2] := by cases args; simp_all
  obtain ⟨rfl, rfl⟩ := trodVars_none hV
  obtain ⟨a0, rfl, rfl, rfl, x0⟩ := open_int Try.underlying3 (hval 0 3 v0 rfl rfl) h0
  obtain ⟨a1, rfl, rfl, rfl, x1⟩ := open_int Try.underlying3 (hval 1 3 v1 rfl rfl) h1
  obtain ⟨a2, rfl, rfl, rfl, x2⟩ := open_int Try.underlying3 (hval 2 3 v2 rfl rfl) h2
  clear hA0 hval0
  refine Calls.mono (walk W a0 (bounds_i64 x0) a1 (bounds_i64 x1) a2 (bounds_i64 x2)) ?_
  rintro e W' ⟨_, rfl, rfl, hb⟩
  have bel := hb.below
  exact ⟨_, rfl, _, _, _, [], _, [], hW', trodAll_mk1 (shut_bool Try.underlying4 _), (trodAll_cons_mk (shut_int Try.underlying3 x0) (trodAll_cons_mk (shut_int Try.underlying3 x1) (trodAll_cons_mk (shut_int Try.underlying3 x2) trodAll_mk0))), rfl, bel.frame _, fun h => by cases h⟩
theorem closed : joinedFacts Try.prog 23 Try.f23 Rows.limitCountsSpec Rows.limitCountsRow = true := Go.Proofs.Ytchikjmhncojfaa.Head.joined (by kernel_rfl) rfl rfl (by kernel_rfl) (by kernel_rfl) (by kernel_rfl) (by kernel_rfl)
theorem over : Rows.limitCountsRow.holds Try.pinned (OpenSpec.ofChange Rows.limitCountsSpec) :=
  OpenClaim.holds_of_wide 23 Try.f23 rfl rfl rfl rfl rfl rfl rfl ⟨rfl, rfl, rfl, rfl, rfl⟩ rfl rfl rfl rfl rfl (by kernel_rfl) Try.func23 closed
    (of_decide_eq_true (by kernel_rfl)) (by unfold Func.isWrapper; first | (rw [if_pos (by decide +kernel)]; kernel_rfl) | (rw [if_neg (by decide +kernel)]; exact ⟨rfl, rfl⟩))
    (fun os started H enc _ => lifted os started H enc)
/-- The statement. -/
theorem proved : Rows.LimitCountsSaid := over
end Go.Proofs.Ytchikjmhncojfaa.limitCounts
