/- ApplyCaches of layer 14: caches decide nothing: the same nodes are told, and as many come. Conditions: none. -/
import Derived.Test.YtchikjmhncojfaaLaw14
import Derived.Test.YtchikjmhncojfaaOrderM
import Derived.Test.YtchikjmhncojfaaHead
import Derived.ProofKit
import Derived.OpenShut
set_option linter.unusedVariables false
namespace Go.Proofs.Ytchikjmhncojfaa.applyCaches
open Go Go.Proofs Go.RowKit Go.ChangeShapes Go.WideShapes Go.ChangeAt Go.Proofs.Ytchikjmhncojfaa.W
open Go.Proofs.Ytchikjmhncojfaa.M (Br St get getZ isN idx has down Wf rank i64 leafB askB R4 MadeOk Lifts Ext opF oneF twoF chooseF tr Tells Room6)
variable {w wb : World} {R : List Chunk}
theorem step_nil {p : Nat} {s s' : St} {r : R4} {a b i e : Int} (h : Lifts (opF (M.stepT r)) s a (M.stepB r a b) (M.stepC r a b) s' i e) (hr : r.ok) (hw : Wf s) (ia : isN s a = true) (ib : isN s b = true) (H : Own wb (StoreC p s :: R) w) :
    FnC Try.prog 51 [ptr p, .pointer none, .agg (cells4 r).toArray, int a, int b] w (fun u w' => u = pairV i e ∧ Own wb (StoreC p s' :: R) w') :=
  (step_ok (o := none) h hr hw ia ib (H.toPure trivial (p := True)).swap2).mono fun _ _ ⟨hv, H⟩ => ⟨hv, H.swap2.tail⟩
structure Lp where
  i : Nat
  st : St
  ids : List Int
  q1 : Option Addr
  k1 : Nat
  q2 : Option Addr
  k2 : Nat
  q3 : Option Addr
  k3 : Nat
structure Inv (s : Lp) : Prop where
  wf : Wf s.st
  nodes : ∀ x ∈ s.ids, isN s.st x = true
  pos : 0 < s.ids.length
  le : s.i ≤ 12
  short : s.ids.length ≤ 40 + s.i
set_option maxRecDepth 8000 in
set_option maxHeartbeats 4000000 in
theorem law_ok (H : Own wb R w) (links : Int) (i1 : i64 links) (v : Value) (l : List R4) (hr : RawIs wb v l) (v2 : Value) (l2 : List R4) (hr2 : RawIs wb v2 l2) (v3 : Value) (l3 : List Int) (hr3 : IntsAre wb v3 l3) :
    FnC Try.prog 11 [int links, v, v2, v3] w (fun u w' => u = .bool true ∧ ∃ R', Own wb R' w') := by
  have lo := M.pick_lo (c := links) (n := 7) (by decide)
  have hi := M.pick_hi (c := links) (n := 7) (by decide)
  obtain ⟨rp, rcap, hv, _⟩ := id hr
  subst hv
  obtain ⟨rp2, rcap2, rfl, hlm2, hrl2⟩ := hr2
  obtain ⟨rp3, rcap3, rfl, hlm3, hrl3⟩ := hr3
  generalize hn : M.pick links 7 = n at lo hi
  refine FnC_of Try.func11 rfl rfl rfl rfl ?_
  refine W_seq ?_
  refine W_region ?_
  refine ops_v (v_assign (v := _) rfl rfl) ?_
  refine ops_nil ?_
  refine W_seq ?_
  refine W_region ?_
  refine ops_call rfl c40 (awake14_ok H) ?_
  clear H; rintro _ w ⟨rfl, H⟩
  refine ops_v (v_assign (v := (.bool _)) rfl rfl) ?_
  refine ops_nil ?_
  refine W_seq ?_
  refine W_region ?_
  refine ops_v (v_move (v := (.int _ _)) rfl rfl) ?_
  refine ops_call rfl c41 (pick14_ok H links 7 i1 (by decide)) ?_
  clear H; rintro _ w ⟨rfl, H⟩
  rw [hn]
  refine ops_v (v_assign (v := (.int _ _)) rfl rfl) ?_
  refine ops_nil ?_
  refine W_seq ?_
  refine W_region ?_
  refine ops_v (v_move (v := (.int _ _)) rfl rfl) ?_
  refine ops_v (v_move (v := (.slice _ _ _)) rfl rfl) ?_
  refine ops_call rfl c37 (Made_ok' H n lo (by omega) _ l hr) ?_
  clear H; rintro _ w ⟨p1, st, q1, k1, ids, rfl, hm, hmade, H⟩
  refine ops_v (v_move (v := (.tuple _)) rfl rfl) ?_
  refine ops_v (v_extract (v := (.pointer _)) rfl rfl rfl) ?_
  refine ops_v (v_extract (v := (.slice _ _ _)) rfl rfl rfl) ?_
  refine ops_v (v_assign (v := (.pointer _)) rfl rfl) ?_
  refine ops_v (v_assign (v := (.slice _ _ _)) rfl rfl) ?_
  refine ops_nil ?_
  refine W_seq ?_
  refine W_region ?_
  refine ops_v (v_move (v := (.int _ _)) rfl rfl) ?_
  refine ops_v (v_move (v := (.slice _ _ _)) rfl rfl) ?_
  refine ops_call rfl c37 (Made_ok' H n lo (by omega) _ l hr) ?_
  clear H; rintro _ w ⟨p2, st2, q2, k2, ids2, rfl, _, hmade2, H⟩
  rw [← hmade] at hmade2
  obtain ⟨rfl, rfl⟩ := Prod.mk.inj hmade2
  refine ops_v (v_move (v := (.tuple _)) rfl rfl) ?_
  refine ops_v (v_extract (v := (.pointer _)) rfl rfl rfl) ?_
  refine ops_v (v_extract (v := (.slice _ _ _)) rfl rfl rfl) ?_
  refine ops_v (v_assign (v := (.pointer _)) rfl rfl) ?_
  refine ops_v (v_assign (v := (.slice _ _ _)) rfl rfl) ?_
  refine ops_nil ?_
  refine W_seq ?_
  refine W_region ?_
  refine ops_v (v_move (v := (.int _ _)) rfl rfl) ?_
  refine ops_v (v_move (v := (.slice _ _ _)) rfl rfl) ?_
  refine ops_call rfl c37 (Made_ok' H n lo (by omega) _ l hr) ?_
  clear H; rintro _ w ⟨p3, st3, q3, k3, ids3, rfl, _, hmade3, H⟩
  rw [← hmade] at hmade3
  obtain ⟨rfl, rfl⟩ := Prod.mk.inj hmade3
  refine ops_v (v_move (v := (.tuple _)) rfl rfl) ?_
  refine ops_v (v_extract (v := (.pointer _)) rfl rfl rfl) ?_
  refine ops_v (v_extract (v := (.slice _ _ _)) rfl rfl rfl) ?_
  refine ops_v (v_assign (v := (.pointer _)) rfl rfl) ?_
  refine ops_v (v_assign (v := (.slice _ _ _)) rfl rfl) ?_
  refine ops_nil ?_
  refine W_seq ?_
  -- (backstaylaw14.ApplyCaches: until; chunks s3,S3,s2,S2,s1,S1; ptr )
  rcases Nat.eq_zero_or_pos ids3.length with h0 | h0
  · have h0' : (ids3.length : Int) = 0 := by omega
    refine W_region ?_
    refine ops_call rfl c42 (CNew_ok opF st3 H) ?_
    clear H; rintro _ w ⟨c1, rfl, H⟩
    refine ops_v (v_assign (v := (.pointer _)) rfl rfl) ?_
    refine ops_nil ?_
    refine W_seq ?_
    refine W_region ?_
    refine ops_call rfl c42 (CNew_ok opF st3 H) ?_
    clear H; rintro _ w ⟨c2, rfl, H⟩
    refine ops_v (v_assign (v := (.pointer _)) rfl rfl) ?_
    refine ops_nil ?_
    refine W_seq ?_
    refine W_seq ?_
    refine W_region ?_
    refine ops_v (v_move (v := (.slice _ _ _)) rfl rfl) ?_
    refine ops_v (v_len rfl sl40 rfl) ?_
    refine ops_v (v_eql true rfl rfl rfl (decide_eq_true (by first | omega | (simp only; omega) | rfl | decide))) ?_
    refine ops_nil ?_
    refine W_if_t rfl ?_
    refine W_seq ?_
    refine W_region ?_
    refine ops_v (v_move (v := (.bool _)) rfl rfl) ?_
    refine ops_v (v_assign (v := (.bool _)) rfl rfl) ?_
    refine ops_nil ?_
    refine W_ret ?_
    refine ⟨_, (.tmp (v := (.bool _)) rfl .nil), ?_⟩
    exact ⟨rfl, _, H⟩
    -- (backstaylaw14.ApplyCaches: ret; chunks C2,C1,s3,S3,s2,S2,s1,S1; ptr )
  · have h0' : (0 : Int) < (ids3.length : Int) := by omega
    refine W_region ?_
    refine ops_call rfl c42 (CNew_ok opF st3 H) ?_
    clear H; rintro _ w ⟨c1, rfl, H⟩
    refine ops_v (v_assign (v := (.pointer _)) rfl rfl) ?_
    refine ops_nil ?_
    refine W_seq ?_
    refine W_region ?_
    refine ops_call rfl c42 (CNew_ok opF st3 H) ?_
    clear H; rintro _ w ⟨c2, rfl, H⟩
    refine ops_v (v_assign (v := (.pointer _)) rfl rfl) ?_
    refine ops_nil ?_
    refine W_seq ?_
    refine W_seq ?_
    refine W_region ?_
    refine ops_v (v_move (v := (.slice _ _ _)) rfl rfl) ?_
    refine ops_v (v_len rfl sl40 rfl) ?_
    refine ops_v (v_eql false rfl rfl rfl (decide_eq_false (by first | omega | (simp only; omega) | rfl | decide))) ?_
    refine ops_nil ?_
    refine W_if_f rfl ?_
    refine W_skip ?_
    refine W_seq ?_
    refine W_seq ?_
    refine W_region ?_
    refine ops_v (v_assign (v := _) rfl rfl) ?_
    refine ops_nil ?_
    refine W_block ?_
    -- (backstaylaw14.ApplyCaches: loop; chunks C2,C1,s3,S3,s2,S2,s1,S1; ptr )
    have H : Own wb (SlC q1 ids3.length k1 3 1 (ints ids3) :: SlC q2 ids3.length k2 3 1 (ints ids3) :: SlC q3 ids3.length k3 3 1 (ints ids3) :: StoreC p1 st3 :: CacheX opF (some c1) st3 :: StoreC p2 st3 :: CacheX opF (some c2) st3 :: StoreC p3 st3 :: R) w := by
      exact (((((((H.front 3 rfl).front 1 rfl).front 5 rfl).front 3 rfl).front 7 rfl).front 5 rfl).front 6 rfl).front 7 rfl
    refine W_loopS (fun (s : Lp) => [(2, .slice rp2 l2.length rcap2), (3, .slice rp3 l3.length rcap3), (9, .bool true), (11, ptr p1), (12, .slice s.q1 s.ids.length s.k1), (13, ptr p2), (14, .slice s.q2 s.ids.length s.k2), (15, ptr p3), (16, .slice s.q3 s.ids.length s.k3), (17, xptr (some c1)), (18, xptr (some c2)), (19, .int .i64 s.i)])
      (fun s w => Own wb (SlC s.q1 s.ids.length s.k1 3 1 (ints s.ids) :: SlC s.q2 s.ids.length s.k2 3 1 (ints s.ids) :: SlC s.q3 s.ids.length s.k3 3 1 (ints s.ids) :: StoreC p1 s.st :: CacheX opF (some c1) s.st :: StoreC p2 s.st :: CacheX opF (some c2) s.st :: StoreC p3 s.st :: R) w ∧ Inv s)
      (fun s => 12 - s.i) ⟨0, st3, ids3, q1, k1, q2, k2, q3, k3⟩ ⟨rfl, rfl, rfl, rfl, rfl, rfl, rfl, rfl, rfl, rfl, rfl, rfl, trivial⟩ ⟨H, ⟨hm.wf, hm.nodes, h0, Nat.zero_le _, hm.short⟩⟩ ?_
    clear H hmade hm h0 h0'
    rintro ⟨i, st, ids, q1, k1, q2, k2, q3, k3⟩ e w ⟨H, ⟨hwf, hnodes, h0, hle, hshort⟩⟩
    simp only at H hwf hnodes h0 hle hshort ⊢
    by_cases hil : (i : Int) < (l2.length : Int)
    · by_cases hi12 : (i : Int) < 12
      · have h0' : (0 : Int) < (ids.length : Int) := by omega
        obtain ⟨g1, rfl⟩ := H.slSome 0 rfl h0
        obtain ⟨g2, rfl⟩ := H.slSome 1 rfl h0
        obtain ⟨g3, rfl⟩ := H.slSome 2 rfl h0
        have getI : ∀ c : Int, ∃ a, ids[(M.pick c ids.length).toNat]? = some a := fun c => ⟨ids[(M.pick c ids.length).toNat]'(by have := M.pick_hi (c := c) h0'; have := M.pick_lo (c := c) h0'; omega), by simp⟩
        obtain ⟨r, hri⟩ : ∃ r, l2[i]? = some r := ⟨l2[i]'(by omega), by simp⟩
        obtain ⟨⟨rb, ro, rfl, hcell⟩, hro⟩ := hrl2 i r hri
        have hcell' : ∀ w', Base wb w' → ∀ (j : Nat) (u : Value), (cells4 r)[j]? = some u → w'.cell? ⟨rb, ro + ((i : Int)).toNat * 4 + j, none⟩ = some u := fun w' H' j u hu => by
          rw [Nat.add_assoc]; exact H'.cell (hcell j u hu)
        obtain ⟨a, ha⟩ := getI r.b
        obtain ⟨b, hb⟩ := getI r.c
        have ha' : (ints ids)[0 + (M.pick r.b ids.length).toNat * 1]? = some (.int .i64 a) := by rw [Nat.zero_add, Nat.mul_one]; simp [ints, ha]
        have hb' : (ints ids)[0 + (M.pick r.c ids.length).toNat * 1]? = some (.int .i64 b) := by rw [Nat.zero_add, Nat.mul_one]; simp [ints, hb]
        have a1 := M.pick_lo (c := r.b) h0'
        have a2 := M.pick_hi (c := r.b) h0'
        have b1 := M.pick_lo (c := r.c) h0'
        have b2 := M.pick_hi (c := r.c) h0'
        have ia := hnodes a (List.mem_of_getElem? ha)
        have ib := hnodes b (List.mem_of_getElem? hb)
        have oB : isN st (M.stepB r a b) = true := by rcases M.stepB_or r a b with h | h <;> rw [h]; exact ia; exact ib
        have oC : isN st (M.stepC r a b) = true := by rcases M.stepC_or r a b with h | h <;> rw [h]; exact ia; exact ib
        obtain ⟨s', k, e', L⟩ := Lifts.ex (opF (M.stepT r)) hwf ia oB oC
        have gd := L.good hwf ia oB oC
        have hm63 : ids.length + 1 ≤ maxLen := by unfold maxLen; omega
        have hby : (ids.length + 1) * 8 ≤ 140737488355328 := by omega
        have hints : ints ids ++ [.int .i64 k] = ints (ids ++ [k]) := by simp [ints]
        have hlen1 : (ids ++ [k]).length = ids.length + 1 := by simp
        refine W_seq ?_
        refine W_seq ?_
        refine W_region ?_
        refine ops_v (v_move (v := (.int _ _)) rfl rfl) ?_
        refine ops_v (v_move (v := (.slice _ _ _)) rfl rfl) ?_
        refine ops_v (v_len rfl sl22 rfl) ?_
        refine ops_v (v_lss true rfl rfl rfl (decide_eq_true (by first | omega | (simp only; omega) | rfl | decide))) ?_
        refine ops_v (v_move (v := (.bool _)) rfl rfl) ?_
        refine ops_v (v_move (v := (.int _ _)) rfl rfl) ?_
        refine ops_v (v_lss true rfl rfl rfl (decide_eq_true (by first | omega | (simp only; omega) | rfl | decide))) ?_
        refine ops_v (v_pick_t (v := (.bool _)) rfl rfl rfl) ?_
        refine ops_nil ?_
        refine W_if_t rfl ?_
        refine W_skip ?_
        refine W_seq ?_
        refine W_block ?_
        refine W_seq ?_
        refine W_region ?_
        refine ops_v (v_move (v := (.slice _ _ _)) rfl rfl) ?_
        refine ops_v (v_move (v := (.int _ _)) rfl rfl) ?_
        refine ops_v (v_indexAddr_sl rfl se22 rfl rfl (by omega) (by omega)) ?_
        refine ops_v (v_loadBase (vs := cells4 r) rfl ta39 (fun w' hw' => by rw [hw']; exact hcell' _ H.base) rfl rfl) ?_
        refine ops_alloc H rfl tz39 ?_
        clear H; intro bn0 w H
        refine ops_store (vs := [_, _, _, _]) (v := (.agg _)) (cs' := [_, _, _, _]) 0 H rfl ts39 rfl rfl rfl rfl rfl rfl rfl rfl ?_
        clear H; intro w H
        refine ops_nil ?_
        refine W_seq ?_
        refine W_region ?_
        refine ops_v (v_indexAddr_arr rfl ae39 rfl rfl (by first | omega | decide) rfl) ?_
        refine ops_load (v := (.int _ _)) 0 H rfl tc3 rfl rfl rfl ?_
        refine ops_v (v_move (v := (.slice _ _ _)) rfl rfl) ?_
        refine ops_v (v_len rfl sl40 rfl) ?_
        refine ops_call rfl c41 (pick14_ok H r.b ids.length hro.2.1 h0') ?_
        clear H; rintro _ w ⟨rfl, H⟩
        refine ops_v (v_assign (v := (.int _ _)) rfl rfl) ?_
        refine ops_nil ?_
        refine W_seq ?_
        refine W_region ?_
        refine ops_v (v_indexAddr_arr rfl ae39 rfl rfl (by first | omega | decide) rfl) ?_
        refine ops_load (v := (.int _ _)) 0 H rfl tc3 rfl rfl rfl ?_
        refine ops_v (v_move (v := (.slice _ _ _)) rfl rfl) ?_
        refine ops_v (v_len rfl sl40 rfl) ?_
        refine ops_call rfl c41 (pick14_ok H r.c ids.length hro.2.2.1 h0') ?_
        clear H; rintro _ w ⟨rfl, H⟩
        refine ops_v (v_assign (v := (.int _ _)) rfl rfl) ?_
        refine ops_nil ?_
        refine W_seq ?_
        obtain ⟨cs1, t11, t12, t13, t14, H⟩ := H.slToBlk 1 rfl
        obtain ⟨cs2, t21, t22, t23, t24, H⟩ := H.slToBlk 2 rfl
        obtain ⟨cs3, t31, t32, t33, t34, H⟩ := H.slToBlk 3 rfl
        refine W_draw (is := [0, 1]) mixed H ?_
        clear H; intro w H
        refine any_take 0 rfl (by kernel_rfl) (by kernel_rfl) (by kernel_rfl) (v_move (v := (.pointer _)) rfl rfl) ?_
        refine any_take 1 rfl (by kernel_rfl) (by kernel_rfl) (by kernel_rfl) (v_move (v := (.pointer _)) rfl rfl) ?_
        refine any_take 2 rfl (by kernel_rfl) (by kernel_rfl) (by kernel_rfl) (v_loadA (vs := [_, _, _, _]) rfl ta39 (fun _ hS => hS.1 _ _ _ rfl) rfl rfl rfl) ?_
        refine any_take 3 rfl (by kernel_rfl) (by kernel_rfl) (by kernel_rfl) (v_move (v := (.slice _ _ _)) rfl rfl) ?_
        refine any_take 4 rfl (by kernel_rfl) (by kernel_rfl) (by kernel_rfl) (v_move (v := (.int _ _)) rfl rfl) ?_
        refine any_take 5 rfl (by kernel_rfl) (by kernel_rfl) (by kernel_rfl) (v_indexAddr_sl rfl se40 rfl rfl (by omega) (by omega)) ?_
        refine any_take 6 rfl (by kernel_rfl) (by kernel_rfl) (by kernel_rfl) (v_load (v := .int .i64 a) rfl tc3 (fun _ hS => hS.2.1 _ _ _ rfl) rfl (take_get t11 ha')) ?_
        refine any_take 7 rfl (by kernel_rfl) (by kernel_rfl) (by kernel_rfl) (v_move (v := (.slice _ _ _)) rfl rfl) ?_
        refine any_take 8 rfl (by kernel_rfl) (by kernel_rfl) (by kernel_rfl) (v_move (v := (.int _ _)) rfl rfl) ?_
        refine any_take 9 rfl (by kernel_rfl) (by kernel_rfl) (by kernel_rfl) (v_indexAddr_sl rfl se40 rfl rfl (by omega) (by omega)) ?_
        refine any_take 10 rfl (by kernel_rfl) (by kernel_rfl) (by kernel_rfl) (v_load (v := .int .i64 b) rfl tc3 (fun _ hS => hS.2.1 _ _ _ rfl) rfl (take_get t11 hb')) ?_
        refine any_one 11 rfl (by kernel_rfl) ?_
        refine ops_call rfl c51 (FnC.mid (A := [_, _, _, _]) (B := [_, _]) (B' := [_, _]) H (fun _ H => step_ok L hro hwf ia ib H)) ?_
        clear H; rintro _ w ⟨rfl, H⟩
        simp only [List.cons_append, List.nil_append] at H
        refine ops_nil ⟨H.stab [(0, 0), (1, 1)] ⟨rfl, rfl, trivial⟩, ?_⟩
        refine any_take 12 rfl (by kernel_rfl) (by kernel_rfl) (by kernel_rfl) (v_move (v := (.tuple _)) rfl rfl) ?_
        refine any_take 13 rfl (by kernel_rfl) (by kernel_rfl) (by kernel_rfl) (v_extract (v := (.int _ _)) rfl rfl rfl) ?_
        refine any_take 14 rfl (by kernel_rfl) (by kernel_rfl) (by kernel_rfl) (v_extract (v := (.int _ _)) rfl rfl rfl) ?_
        refine any_take 15 rfl (by kernel_rfl) (by kernel_rfl) (by kernel_rfl) (v_assign (v := (.int _ _)) rfl rfl) ?_
        refine any_take 16 rfl (by kernel_rfl) (by kernel_rfl) (by kernel_rfl) (v_assign (v := (.int _ _)) rfl rfl) ?_
        refine any_done (by kernel_rfl) ?_
        refine W_seq ?_
        refine W_draw (is := [0, 2]) mixed H ?_
        clear H; intro w H
        refine any_take 0 rfl (by kernel_rfl) (by kernel_rfl) (by kernel_rfl) (v_move (v := (.pointer _)) rfl rfl) ?_
        refine any_take 1 rfl (by kernel_rfl) (by kernel_rfl) (by kernel_rfl) (v_move (v := (.pointer _)) rfl rfl) ?_
        refine any_take 2 rfl (by kernel_rfl) (by kernel_rfl) (by kernel_rfl) (v_loadA (vs := [_, _, _, _]) rfl ta39 (fun _ hS => hS.1 _ _ _ rfl) rfl rfl rfl) ?_
        refine any_take 3 rfl (by kernel_rfl) (by kernel_rfl) (by kernel_rfl) (v_move (v := (.slice _ _ _)) rfl rfl) ?_
        refine any_take 4 rfl (by kernel_rfl) (by kernel_rfl) (by kernel_rfl) (v_move (v := (.int _ _)) rfl rfl) ?_
        refine any_take 5 rfl (by kernel_rfl) (by kernel_rfl) (by kernel_rfl) (v_indexAddr_sl rfl se40 rfl rfl (by omega) (by omega)) ?_
        refine any_take 6 rfl (by kernel_rfl) (by kernel_rfl) (by kernel_rfl) (v_load (v := .int .i64 a) rfl tc3 (fun _ hS => hS.2.1 _ _ _ rfl) rfl (take_get t21 ha')) ?_
        refine any_take 7 rfl (by kernel_rfl) (by kernel_rfl) (by kernel_rfl) (v_move (v := (.slice _ _ _)) rfl rfl) ?_
        refine any_take 8 rfl (by kernel_rfl) (by kernel_rfl) (by kernel_rfl) (v_move (v := (.int _ _)) rfl rfl) ?_
        refine any_take 9 rfl (by kernel_rfl) (by kernel_rfl) (by kernel_rfl) (v_indexAddr_sl rfl se40 rfl rfl (by omega) (by omega)) ?_
        refine any_take 10 rfl (by kernel_rfl) (by kernel_rfl) (by kernel_rfl) (v_load (v := .int .i64 b) rfl tc3 (fun _ hS => hS.2.1 _ _ _ rfl) rfl (take_get t21 hb')) ?_
        refine any_one 11 rfl (by kernel_rfl) ?_
        refine ops_call rfl c51 (FnC.mid (A := [_, _, _, _, _, _]) (B := [_, _]) (B' := [_, _]) H (fun _ H => step_ok L hro hwf ia ib H)) ?_
        clear H; rintro _ w ⟨rfl, H⟩
        simp only [List.cons_append, List.nil_append] at H
        refine ops_nil ⟨H.stab [(0, 0), (2, 2)] ⟨rfl, rfl, trivial⟩, ?_⟩
        refine any_take 12 rfl (by kernel_rfl) (by kernel_rfl) (by kernel_rfl) (v_move (v := (.tuple _)) rfl rfl) ?_
        refine any_take 13 rfl (by kernel_rfl) (by kernel_rfl) (by kernel_rfl) (v_extract (v := (.int _ _)) rfl rfl rfl) ?_
        refine any_take 14 rfl (by kernel_rfl) (by kernel_rfl) (by kernel_rfl) (v_extract (v := (.int _ _)) rfl rfl rfl) ?_
        refine any_take 15 rfl (by kernel_rfl) (by kernel_rfl) (by kernel_rfl) (v_assign (v := (.int _ _)) rfl rfl) ?_
        refine any_take 16 rfl (by kernel_rfl) (by kernel_rfl) (by kernel_rfl) (v_assign (v := (.int _ _)) rfl rfl) ?_
        refine any_done (by kernel_rfl) ?_
        refine W_seq ?_
        refine W_draw (is := [0, 3]) mixed H ?_
        clear H; intro w H
        refine any_take 0 rfl (by kernel_rfl) (by kernel_rfl) (by kernel_rfl) (v_move (v := (.pointer _)) rfl rfl) ?_
        refine any_take 1 rfl (by kernel_rfl) (by kernel_rfl) (by kernel_rfl) (v_loadA (vs := [_, _, _, _]) rfl ta39 (fun _ hS => hS.1 _ _ _ rfl) rfl rfl rfl) ?_
        refine any_take 2 rfl (by kernel_rfl) (by kernel_rfl) (by kernel_rfl) (v_move (v := (.slice _ _ _)) rfl rfl) ?_
        refine any_take 3 rfl (by kernel_rfl) (by kernel_rfl) (by kernel_rfl) (v_move (v := (.int _ _)) rfl rfl) ?_
        refine any_take 4 rfl (by kernel_rfl) (by kernel_rfl) (by kernel_rfl) (v_indexAddr_sl rfl se40 rfl rfl (by omega) (by omega)) ?_
        refine any_take 5 rfl (by kernel_rfl) (by kernel_rfl) (by kernel_rfl) (v_load (v := .int .i64 a) rfl tc3 (fun _ hS => hS.2.1 _ _ _ rfl) rfl (take_get t31 ha')) ?_
        refine any_take 6 rfl (by kernel_rfl) (by kernel_rfl) (by kernel_rfl) (v_move (v := (.slice _ _ _)) rfl rfl) ?_
        refine any_take 7 rfl (by kernel_rfl) (by kernel_rfl) (by kernel_rfl) (v_move (v := (.int _ _)) rfl rfl) ?_
        refine any_take 8 rfl (by kernel_rfl) (by kernel_rfl) (by kernel_rfl) (v_indexAddr_sl rfl se40 rfl rfl (by omega) (by omega)) ?_
        refine any_take 9 rfl (by kernel_rfl) (by kernel_rfl) (by kernel_rfl) (v_load (v := .int .i64 b) rfl tc3 (fun _ hS => hS.2.1 _ _ _ rfl) rfl (take_get t31 hb')) ?_
        refine any_one 10 rfl (by kernel_rfl) ?_
        refine ops_call rfl c51 (FnC.at 8 rfl H (fun _ H => step_nil L hro hwf ia ib H)) ?_
        clear H; rintro _ w ⟨rfl, H⟩
        refine ops_nil ⟨H.stab [(0, 0), (3, 3)] ⟨rfl, rfl, trivial⟩, ?_⟩
        refine any_take 11 rfl (by kernel_rfl) (by kernel_rfl) (by kernel_rfl) (v_move (v := (.tuple _)) rfl rfl) ?_
        refine any_take 12 rfl (by kernel_rfl) (by kernel_rfl) (by kernel_rfl) (v_extract (v := (.int _ _)) rfl rfl rfl) ?_
        refine any_take 13 rfl (by kernel_rfl) (by kernel_rfl) (by kernel_rfl) (v_extract (v := (.int _ _)) rfl rfl rfl) ?_
        refine any_take 14 rfl (by kernel_rfl) (by kernel_rfl) (by kernel_rfl) (v_assign (v := (.int _ _)) rfl rfl) ?_
        refine any_take 15 rfl (by kernel_rfl) (by kernel_rfl) (by kernel_rfl) (v_assign (v := (.int _ _)) rfl rfl) ?_
        refine any_done (by kernel_rfl) ?_
        refine W_seq ?_
        refine W_seq ?_
        refine W_region ?_
        refine ops_v (v_move (v := (.int _ _)) rfl rfl) ?_
        refine ops_v (v_move (v := (.int _ _)) rfl rfl) ?_
        refine ops_v (v_neq false rfl rfl rfl (decide_eq_false (by first | omega | (simp only; omega) | rfl | decide))) ?_
        refine ops_v (v_move (v := (.bool _)) rfl rfl) ?_
        refine ops_v (v_move (v := (.int _ _)) rfl rfl) ?_
        refine ops_v (v_move (v := (.int _ _)) rfl rfl) ?_
        refine ops_v (v_neq false rfl rfl rfl (decide_eq_false (by first | omega | (simp only; omega) | rfl | decide))) ?_
        refine ops_v (v_pick_f (v := (.bool _)) rfl rfl rfl) ?_
        refine ops_v (v_move (v := (.bool _)) rfl rfl) ?_
        refine ops_v (v_move (v := (.int _ _)) rfl rfl) ?_
        refine ops_v (v_move (v := (.int _ _)) rfl rfl) ?_
        refine ops_v (v_neq false rfl rfl rfl (decide_eq_false (by first | omega | (simp only; omega) | rfl | decide))) ?_
        refine ops_v (v_pick_f (v := (.bool _)) rfl rfl rfl) ?_
        refine ops_v (v_move (v := (.bool _)) rfl rfl) ?_
        refine ops_v (v_move (v := (.int _ _)) rfl rfl) ?_
        refine ops_v (v_move (v := (.int _ _)) rfl rfl) ?_
        refine ops_v (v_neq false rfl rfl rfl (decide_eq_false (by first | omega | (simp only; omega) | rfl | decide))) ?_
        refine ops_v (v_pick_f (v := (.bool _)) rfl rfl rfl) ?_
        refine ops_v (v_move (v := (.bool _)) rfl rfl) ?_
        refine ops_v (v_move (v := (.pointer _)) rfl rfl) ?_
        refine ops_call rfl c30 (FnC.ro 4 rfl H (fun _ => Size_ok)) ?_
        clear H; rintro _ w ⟨rfl, H⟩
        refine ops_v (v_move (v := (.pointer _)) rfl rfl) ?_
        refine ops_call rfl c30 (FnC.ro 6 rfl H (fun _ => Size_ok)) ?_
        clear H; rintro _ w ⟨rfl, H⟩
        refine ops_v (v_neq false rfl rfl rfl (decide_eq_false (by first | omega | (simp only; omega) | rfl | decide))) ?_
        refine ops_v (v_pick_f (v := (.bool _)) rfl rfl rfl) ?_
        refine ops_v (v_move (v := (.bool _)) rfl rfl) ?_
        refine ops_v (v_move (v := (.pointer _)) rfl rfl) ?_
        refine ops_call rfl c30 (FnC.ro 4 rfl H (fun _ => Size_ok)) ?_
        clear H; rintro _ w ⟨rfl, H⟩
        refine ops_v (v_move (v := (.pointer _)) rfl rfl) ?_
        refine ops_call rfl c30 (FnC.ro 8 rfl H (fun _ => Size_ok)) ?_
        clear H; rintro _ w ⟨rfl, H⟩
        refine ops_v (v_neq false rfl rfl rfl (decide_eq_false (by first | omega | (simp only; omega) | rfl | decide))) ?_
        refine ops_v (v_pick_f (v := (.bool _)) rfl rfl rfl) ?_
        refine ops_nil ?_
        refine W_if_f rfl ?_
        refine W_skip ?_
        refine W_seq ?_
        refine W_seq ?_
        -- (backstaylaw14.ApplyCaches: until; chunks n0,s1,s2,s3,S1,C1,S2,C2,S3; ptr 20=n0)
        generalize bn0 = bx at *
        by_cases hiw : (i : Int) < (l3.length : Int)
        · obtain ⟨wn, hwn⟩ : ∃ wn, l3[i]? = some wn := ⟨l3[i]'(by omega), by simp⟩
          obtain ⟨⟨rb3, ro3, rfl, hcell3⟩, hok3⟩ := hrl3 i wn hwn
          have hcell3' : ∀ w', Base wb w' → w'.cell? ⟨rb3, ro3 + ((i : Int)).toNat * 1, none⟩ = some (.int .i64 wn) := fun w' H' => by
            rw [Nat.mul_one]; exact H'.cell hcell3
          by_cases hpk : M.pick wn 2 = 1
          · skip
            by_cases he : e' = 0
            · refine W_region ?_
              refine ops_v (v_move (v := (.int _ _)) rfl rfl) ?_
              refine ops_v (v_move (v := (.slice _ _ _)) rfl rfl) ?_
              refine ops_v (v_len rfl sl40 rfl) ?_
              refine ops_v (v_lss true rfl rfl rfl (decide_eq_true (by first | omega | (simp only; omega) | rfl | decide))) ?_
              refine ops_v (v_move (v := (.bool _)) rfl rfl) ?_
              refine ops_v (v_move (v := (.slice _ _ _)) rfl rfl) ?_
              refine ops_v (v_move (v := (.int _ _)) rfl rfl) ?_
              refine ops_v (v_indexAddr_sl rfl se40 rfl rfl (by omega) (by omega)) ?_
              refine ops_v (v_loadBase1 (v := .int .i64 wn) rfl tc3 (fun w' hw' => by rw [hw']; exact hcell3' _ H.base) rfl) ?_
              refine ops_call rfl c41 (pick14_ok H wn 2 hok3 (by decide)) ?_
              clear H; rintro _ w ⟨rfl, H⟩
              refine ops_v (v_eql true rfl rfl rfl (decide_eq_true (by first | omega | (simp only; omega) | rfl | decide))) ?_
              refine ops_v (v_pick_t (v := (.bool _)) rfl rfl rfl) ?_
              refine ops_nil ?_
              refine W_if_t rfl ?_
              refine W_seq ?_
              refine W_region ?_
              refine ops_v (v_move (v := (.pointer _)) rfl rfl) ?_
              refine ops_call rfl c52 (FnC.at 7 rfl H (fun _ H => Clear_ok H)) ?_
              clear H; rintro _ w ⟨rfl, H⟩
              refine ops_nil ?_
              refine W_seq ?_
              refine W_region ?_
              refine ops_v (v_move (v := (.pointer _)) rfl rfl) ?_
              refine ops_call rfl c53 (FnC.ro 7 rfl H (fun _ H => CSizeE_ok H)) ?_
              clear H; rintro _ w ⟨rfl, H⟩
              have H := H.mapAt 7 rfl (fun _ H => H.cacheE (F := opF) (st := s'))
              refine ops_v (v_neq false rfl rfl rfl (decide_eq_false (by first | omega | (simp only; omega) | rfl | decide))) ?_
              refine ops_nil ?_
              refine W_if_f rfl ?_
              refine W_skip ?_
              refine W_seq ?_
              refine W_region ?_
              refine ops_v (v_move (v := (.int _ _)) rfl rfl) ?_
              refine ops_v (v_eql true rfl rfl rfl (decide_eq_true (by first | omega | (simp only; omega) | rfl | decide))) ?_
              refine ops_nil ?_
              refine W_if_t rfl ?_
              refine W_seq ?_
              have H := H.blkToSlAt 1 rfl t11 t12 t13 t14
              have H := H.blkToSlAt 2 rfl t21 t22 t23 t24
              have H := H.blkToSlAt 3 rfl t31 t32 t33 t34
              refine W_region ?_
              refine ops_v (v_move (v := (.slice _ _ _)) rfl rfl) ?_
              refine ops_v (v_move (v := (.int _ _)) rfl rfl) ?_
              refine ops_buildSlice (cs := [(.int _ _)]) H rfl bs40_1 rfl ?_
              clear H; intro bn0 w H
              refine ops_append (b := bn0) (news := [.int .i64 k]) 2 0 H rfl ap40 rfl rfl rfl rfl rfl rfl hm63 hby ?_
              clear H; intro p0' z0' w H
              rw [hints] at H
              refine ops_v (v_assign (v := (.slice _ _ _)) rfl rfl) ?_
              refine ops_nil ?_
              refine W_seq ?_
              refine W_region ?_
              refine ops_v (v_move (v := (.slice _ _ _)) rfl rfl) ?_
              refine ops_v (v_move (v := (.int _ _)) rfl rfl) ?_
              refine ops_buildSlice (cs := [(.int _ _)]) H rfl bs40_1 rfl ?_
              clear H; intro bn1 w H
              refine ops_append (b := bn1) (news := [.int .i64 k]) 4 0 H rfl ap40 rfl rfl rfl rfl rfl rfl hm63 hby ?_
              clear H; intro p1' z1' w H
              rw [hints] at H
              refine ops_v (v_assign (v := (.slice _ _ _)) rfl rfl) ?_
              refine ops_nil ?_
              refine W_region ?_
              refine ops_v (v_move (v := (.slice _ _ _)) rfl rfl) ?_
              refine ops_v (v_move (v := (.int _ _)) rfl rfl) ?_
              refine ops_buildSlice (cs := [(.int _ _)]) H rfl bs40_1 rfl ?_
              clear H; intro bn2 w H
              refine ops_append (b := bn2) (news := [.int .i64 k]) 6 0 H rfl ap40 rfl rfl rfl rfl rfl rfl hm63 hby ?_
              clear H; intro p2' z2' w H
              rw [hints] at H
              refine ops_v (v_assign (v := (.slice _ _ _)) rfl rfl) ?_
              refine ops_nil ?_
              refine W_region ?_
              refine ops_v (v_move (v := (.int _ _)) rfl rfl) ?_
              refine ops_v (v_add _ rfl rfl rfl (wrap_in (by omega) (by omega))) ?_
              refine ops_v (v_assign (v := (.int _ _)) rfl rfl) ?_
              refine ops_nil ?_
              refine ⟨⟨i + 1, s', ids ++ [k], p0', z0', p1', z1', p2', z2'⟩, by simp only; omega, ⟨rfl, rfl, rfl, rfl, ?_, rfl, ?_, rfl, ?_, rfl, rfl, rfl, trivial⟩, ?_, ⟨gd.wf, ?_, by simp, by simp only; omega, by simp only [hlen1]; omega⟩⟩
              · simp only [hlen1]; rfl
              · simp only [hlen1]; rfl
              · simp only [hlen1]; rfl
              · simp only [hlen1]; exact H.tail.tail.tail.tail
              · intro z hz; rcases List.mem_append.1 hz with hz | hz; exact gd.ext.isN (hnodes z hz); simp at hz; subst hz; exact gd.here he
              -- (backstaylaw14.ApplyCaches: loopend; chunks n2,n1,n0,x,s1,s2,s3,S1,C1,S2,C2,S3; ptr 20=x)
            · refine W_region ?_
              refine ops_v (v_move (v := (.int _ _)) rfl rfl) ?_
              refine ops_v (v_move (v := (.slice _ _ _)) rfl rfl) ?_
              refine ops_v (v_len rfl sl40 rfl) ?_
              refine ops_v (v_lss true rfl rfl rfl (decide_eq_true (by first | omega | (simp only; omega) | rfl | decide))) ?_
              refine ops_v (v_move (v := (.bool _)) rfl rfl) ?_
              refine ops_v (v_move (v := (.slice _ _ _)) rfl rfl) ?_
              refine ops_v (v_move (v := (.int _ _)) rfl rfl) ?_
              refine ops_v (v_indexAddr_sl rfl se40 rfl rfl (by omega) (by omega)) ?_
              refine ops_v (v_loadBase1 (v := .int .i64 wn) rfl tc3 (fun w' hw' => by rw [hw']; exact hcell3' _ H.base) rfl) ?_
              refine ops_call rfl c41 (pick14_ok H wn 2 hok3 (by decide)) ?_
              clear H; rintro _ w ⟨rfl, H⟩
              refine ops_v (v_eql true rfl rfl rfl (decide_eq_true (by first | omega | (simp only; omega) | rfl | decide))) ?_
              refine ops_v (v_pick_t (v := (.bool _)) rfl rfl rfl) ?_
              refine ops_nil ?_
              refine W_if_t rfl ?_
              refine W_seq ?_
              refine W_region ?_
              refine ops_v (v_move (v := (.pointer _)) rfl rfl) ?_
              refine ops_call rfl c52 (FnC.at 7 rfl H (fun _ H => Clear_ok H)) ?_
              clear H; rintro _ w ⟨rfl, H⟩
              refine ops_nil ?_
              refine W_seq ?_
              refine W_region ?_
              refine ops_v (v_move (v := (.pointer _)) rfl rfl) ?_
              refine ops_call rfl c53 (FnC.ro 7 rfl H (fun _ H => CSizeE_ok H)) ?_
              clear H; rintro _ w ⟨rfl, H⟩
              have H := H.mapAt 7 rfl (fun _ H => H.cacheE (F := opF) (st := s'))
              refine ops_v (v_neq false rfl rfl rfl (decide_eq_false (by first | omega | (simp only; omega) | rfl | decide))) ?_
              refine ops_nil ?_
              refine W_if_f rfl ?_
              refine W_skip ?_
              refine W_seq ?_
              refine W_region ?_
              refine ops_v (v_move (v := (.int _ _)) rfl rfl) ?_
              refine ops_v (v_eql false rfl rfl rfl (decide_eq_false (by first | omega | (simp only; omega) | rfl | decide))) ?_
              refine ops_nil ?_
              refine W_if_f rfl ?_
              refine W_skip ?_
              refine W_region ?_
              refine ops_v (v_move (v := (.int _ _)) rfl rfl) ?_
              refine ops_v (v_add _ rfl rfl rfl (wrap_in (by omega) (by omega))) ?_
              refine ops_v (v_assign (v := (.int _ _)) rfl rfl) ?_
              refine ops_nil ?_
              have H := H.blkToSlAt 1 rfl t11 t12 t13 t14
              have H := H.blkToSlAt 2 rfl t21 t22 t23 t24
              have H := H.blkToSlAt 3 rfl t31 t32 t33 t34
              exact ⟨⟨i + 1, s', ids, _, k1, _, k2, _, k3⟩, by simp only; omega, ⟨rfl, rfl, rfl, rfl, rfl, rfl, rfl, rfl, rfl, rfl, rfl, rfl, trivial⟩, H.tail, ⟨gd.wf, fun z hz => gd.ext.isN (hnodes z hz), h0, by simp only; omega, by simp only; omega⟩⟩
              -- (backstaylaw14.ApplyCaches: loopend; chunks x,s1,s2,s3,S1,C1,S2,C2,S3; ptr 20=x)
          · skip
            by_cases he : e' = 0
            · refine W_region ?_
              refine ops_v (v_move (v := (.int _ _)) rfl rfl) ?_
              refine ops_v (v_move (v := (.slice _ _ _)) rfl rfl) ?_
              refine ops_v (v_len rfl sl40 rfl) ?_
              refine ops_v (v_lss true rfl rfl rfl (decide_eq_true (by first | omega | (simp only; omega) | rfl | decide))) ?_
              refine ops_v (v_move (v := (.bool _)) rfl rfl) ?_
              refine ops_v (v_move (v := (.slice _ _ _)) rfl rfl) ?_
              refine ops_v (v_move (v := (.int _ _)) rfl rfl) ?_
              refine ops_v (v_indexAddr_sl rfl se40 rfl rfl (by omega) (by omega)) ?_
              refine ops_v (v_loadBase1 (v := .int .i64 wn) rfl tc3 (fun w' hw' => by rw [hw']; exact hcell3' _ H.base) rfl) ?_
              refine ops_call rfl c41 (pick14_ok H wn 2 hok3 (by decide)) ?_
              clear H; rintro _ w ⟨rfl, H⟩
              refine ops_v (v_eql false rfl rfl rfl (decide_eq_false (by first | omega | (simp only; omega) | rfl | decide))) ?_
              refine ops_v (v_pick_t (v := (.bool _)) rfl rfl rfl) ?_
              refine ops_nil ?_
              refine W_if_f rfl ?_
              refine W_skip ?_
              refine W_seq ?_
              refine W_region ?_
              refine ops_v (v_move (v := (.int _ _)) rfl rfl) ?_
              refine ops_v (v_eql true rfl rfl rfl (decide_eq_true (by first | omega | (simp only; omega) | rfl | decide))) ?_
              refine ops_nil ?_
              refine W_if_t rfl ?_
              refine W_seq ?_
              have H := H.blkToSlAt 1 rfl t11 t12 t13 t14
              have H := H.blkToSlAt 2 rfl t21 t22 t23 t24
              have H := H.blkToSlAt 3 rfl t31 t32 t33 t34
              refine W_region ?_
              refine ops_v (v_move (v := (.slice _ _ _)) rfl rfl) ?_
              refine ops_v (v_move (v := (.int _ _)) rfl rfl) ?_
              refine ops_buildSlice (cs := [(.int _ _)]) H rfl bs40_1 rfl ?_
              clear H; intro bn0 w H
              refine ops_append (b := bn0) (news := [.int .i64 k]) 2 0 H rfl ap40 rfl rfl rfl rfl rfl rfl hm63 hby ?_
              clear H; intro p0' z0' w H
              rw [hints] at H
              refine ops_v (v_assign (v := (.slice _ _ _)) rfl rfl) ?_
              refine ops_nil ?_
              refine W_seq ?_
              refine W_region ?_
              refine ops_v (v_move (v := (.slice _ _ _)) rfl rfl) ?_
              refine ops_v (v_move (v := (.int _ _)) rfl rfl) ?_
              refine ops_buildSlice (cs := [(.int _ _)]) H rfl bs40_1 rfl ?_
              clear H; intro bn1 w H
              refine ops_append (b := bn1) (news := [.int .i64 k]) 4 0 H rfl ap40 rfl rfl rfl rfl rfl rfl hm63 hby ?_
              clear H; intro p1' z1' w H
              rw [hints] at H
              refine ops_v (v_assign (v := (.slice _ _ _)) rfl rfl) ?_
              refine ops_nil ?_
              refine W_region ?_
              refine ops_v (v_move (v := (.slice _ _ _)) rfl rfl) ?_
              refine ops_v (v_move (v := (.int _ _)) rfl rfl) ?_
              refine ops_buildSlice (cs := [(.int _ _)]) H rfl bs40_1 rfl ?_
              clear H; intro bn2 w H
              refine ops_append (b := bn2) (news := [.int .i64 k]) 6 0 H rfl ap40 rfl rfl rfl rfl rfl rfl hm63 hby ?_
              clear H; intro p2' z2' w H
              rw [hints] at H
              refine ops_v (v_assign (v := (.slice _ _ _)) rfl rfl) ?_
              refine ops_nil ?_
              refine W_region ?_
              refine ops_v (v_move (v := (.int _ _)) rfl rfl) ?_
              refine ops_v (v_add _ rfl rfl rfl (wrap_in (by omega) (by omega))) ?_
              refine ops_v (v_assign (v := (.int _ _)) rfl rfl) ?_
              refine ops_nil ?_
              refine ⟨⟨i + 1, s', ids ++ [k], p0', z0', p1', z1', p2', z2'⟩, by simp only; omega, ⟨rfl, rfl, rfl, rfl, ?_, rfl, ?_, rfl, ?_, rfl, rfl, rfl, trivial⟩, ?_, ⟨gd.wf, ?_, by simp, by simp only; omega, by simp only [hlen1]; omega⟩⟩
              · simp only [hlen1]; rfl
              · simp only [hlen1]; rfl
              · simp only [hlen1]; rfl
              · simp only [hlen1]; exact H.tail.tail.tail.tail
              · intro z hz; rcases List.mem_append.1 hz with hz | hz; exact gd.ext.isN (hnodes z hz); simp at hz; subst hz; exact gd.here he
              -- (backstaylaw14.ApplyCaches: loopend; chunks n2,n1,n0,x,s1,s2,s3,S1,C1,S2,C2,S3; ptr 20=x)
            · refine W_region ?_
              refine ops_v (v_move (v := (.int _ _)) rfl rfl) ?_
              refine ops_v (v_move (v := (.slice _ _ _)) rfl rfl) ?_
              refine ops_v (v_len rfl sl40 rfl) ?_
              refine ops_v (v_lss true rfl rfl rfl (decide_eq_true (by first | omega | (simp only; omega) | rfl | decide))) ?_
              refine ops_v (v_move (v := (.bool _)) rfl rfl) ?_
              refine ops_v (v_move (v := (.slice _ _ _)) rfl rfl) ?_
              refine ops_v (v_move (v := (.int _ _)) rfl rfl) ?_
              refine ops_v (v_indexAddr_sl rfl se40 rfl rfl (by omega) (by omega)) ?_
              refine ops_v (v_loadBase1 (v := .int .i64 wn) rfl tc3 (fun w' hw' => by rw [hw']; exact hcell3' _ H.base) rfl) ?_
              refine ops_call rfl c41 (pick14_ok H wn 2 hok3 (by decide)) ?_
              clear H; rintro _ w ⟨rfl, H⟩
              refine ops_v (v_eql false rfl rfl rfl (decide_eq_false (by first | omega | (simp only; omega) | rfl | decide))) ?_
              refine ops_v (v_pick_t (v := (.bool _)) rfl rfl rfl) ?_
              refine ops_nil ?_
              refine W_if_f rfl ?_
              refine W_skip ?_
              refine W_seq ?_
              refine W_region ?_
              refine ops_v (v_move (v := (.int _ _)) rfl rfl) ?_
              refine ops_v (v_eql false rfl rfl rfl (decide_eq_false (by first | omega | (simp only; omega) | rfl | decide))) ?_
              refine ops_nil ?_
              refine W_if_f rfl ?_
              refine W_skip ?_
              refine W_region ?_
              refine ops_v (v_move (v := (.int _ _)) rfl rfl) ?_
              refine ops_v (v_add _ rfl rfl rfl (wrap_in (by omega) (by omega))) ?_
              refine ops_v (v_assign (v := (.int _ _)) rfl rfl) ?_
              refine ops_nil ?_
              have H := H.blkToSlAt 1 rfl t11 t12 t13 t14
              have H := H.blkToSlAt 2 rfl t21 t22 t23 t24
              have H := H.blkToSlAt 3 rfl t31 t32 t33 t34
              exact ⟨⟨i + 1, s', ids, _, k1, _, k2, _, k3⟩, by simp only; omega, ⟨rfl, rfl, rfl, rfl, rfl, rfl, rfl, rfl, rfl, rfl, rfl, rfl, trivial⟩, H.tail, ⟨gd.wf, fun z hz => gd.ext.isN (hnodes z hz), h0, by simp only; omega, by simp only; omega⟩⟩
              -- (backstaylaw14.ApplyCaches: loopend; chunks x,s1,s2,s3,S1,C1,S2,C2,S3; ptr 20=x)
        · skip
          by_cases he : e' = 0
          · refine W_region ?_
            refine ops_v (v_move (v := (.int _ _)) rfl rfl) ?_
            refine ops_v (v_move (v := (.slice _ _ _)) rfl rfl) ?_
            refine ops_v (v_len rfl sl40 rfl) ?_
            refine ops_v (v_lss false rfl rfl rfl (decide_eq_false (by first | omega | (simp only; omega) | rfl | decide))) ?_
            refine ops_v (v_move (v := (.bool _)) rfl rfl) ?_
            refine ops_skip rfl rfl ?_
            refine ops_skip rfl rfl ?_
            refine ops_skip rfl rfl ?_
            refine ops_skip rfl rfl ?_
            refine ops_skip rfl rfl ?_
            refine ops_skip rfl rfl ?_
            refine ops_v (v_pick_f (v := (.bool _)) rfl rfl rfl) ?_
            refine ops_nil ?_
            refine W_if_f rfl ?_
            refine W_skip ?_
            refine W_seq ?_
            refine W_region ?_
            refine ops_v (v_move (v := (.int _ _)) rfl rfl) ?_
            refine ops_v (v_eql true rfl rfl rfl (decide_eq_true (by first | omega | (simp only; omega) | rfl | decide))) ?_
            refine ops_nil ?_
            refine W_if_t rfl ?_
            refine W_seq ?_
            have H := H.blkToSlAt 1 rfl t11 t12 t13 t14
            have H := H.blkToSlAt 2 rfl t21 t22 t23 t24
            have H := H.blkToSlAt 3 rfl t31 t32 t33 t34
            refine W_region ?_
            refine ops_v (v_move (v := (.slice _ _ _)) rfl rfl) ?_
            refine ops_v (v_move (v := (.int _ _)) rfl rfl) ?_
            refine ops_buildSlice (cs := [(.int _ _)]) H rfl bs40_1 rfl ?_
            clear H; intro bn0 w H
            refine ops_append (b := bn0) (news := [.int .i64 k]) 2 0 H rfl ap40 rfl rfl rfl rfl rfl rfl hm63 hby ?_
            clear H; intro p0' z0' w H
            rw [hints] at H
            refine ops_v (v_assign (v := (.slice _ _ _)) rfl rfl) ?_
            refine ops_nil ?_
            refine W_seq ?_
            refine W_region ?_
            refine ops_v (v_move (v := (.slice _ _ _)) rfl rfl) ?_
            refine ops_v (v_move (v := (.int _ _)) rfl rfl) ?_
            refine ops_buildSlice (cs := [(.int _ _)]) H rfl bs40_1 rfl ?_
            clear H; intro bn1 w H
            refine ops_append (b := bn1) (news := [.int .i64 k]) 4 0 H rfl ap40 rfl rfl rfl rfl rfl rfl hm63 hby ?_
            clear H; intro p1' z1' w H
            rw [hints] at H
            refine ops_v (v_assign (v := (.slice _ _ _)) rfl rfl) ?_
            refine ops_nil ?_
            refine W_region ?_
            refine ops_v (v_move (v := (.slice _ _ _)) rfl rfl) ?_
            refine ops_v (v_move (v := (.int _ _)) rfl rfl) ?_
            refine ops_buildSlice (cs := [(.int _ _)]) H rfl bs40_1 rfl ?_
            clear H; intro bn2 w H
            refine ops_append (b := bn2) (news := [.int .i64 k]) 6 0 H rfl ap40 rfl rfl rfl rfl rfl rfl hm63 hby ?_
            clear H; intro p2' z2' w H
            rw [hints] at H
            refine ops_v (v_assign (v := (.slice _ _ _)) rfl rfl) ?_
            refine ops_nil ?_
            refine W_region ?_
            refine ops_v (v_move (v := (.int _ _)) rfl rfl) ?_
            refine ops_v (v_add _ rfl rfl rfl (wrap_in (by omega) (by omega))) ?_
            refine ops_v (v_assign (v := (.int _ _)) rfl rfl) ?_
            refine ops_nil ?_
            refine ⟨⟨i + 1, s', ids ++ [k], p0', z0', p1', z1', p2', z2'⟩, by simp only; omega, ⟨rfl, rfl, rfl, rfl, ?_, rfl, ?_, rfl, ?_, rfl, rfl, rfl, trivial⟩, ?_, ⟨gd.wf, ?_, by simp, by simp only; omega, by simp only [hlen1]; omega⟩⟩
            · simp only [hlen1]; rfl
            · simp only [hlen1]; rfl
            · simp only [hlen1]; rfl
            · simp only [hlen1]; exact H.tail.tail.tail.tail
            · intro z hz; rcases List.mem_append.1 hz with hz | hz; exact gd.ext.isN (hnodes z hz); simp at hz; subst hz; exact gd.here he
            -- (backstaylaw14.ApplyCaches: loopend; chunks n2,n1,n0,x,s1,s2,s3,S1,C1,S2,C2,S3; ptr 20=x)
          · refine W_region ?_
            refine ops_v (v_move (v := (.int _ _)) rfl rfl) ?_
            refine ops_v (v_move (v := (.slice _ _ _)) rfl rfl) ?_
            refine ops_v (v_len rfl sl40 rfl) ?_
            refine ops_v (v_lss false rfl rfl rfl (decide_eq_false (by first | omega | (simp only; omega) | rfl | decide))) ?_
            refine ops_v (v_move (v := (.bool _)) rfl rfl) ?_
            refine ops_skip rfl rfl ?_
            refine ops_skip rfl rfl ?_
            refine ops_skip rfl rfl ?_
            refine ops_skip rfl rfl ?_
            refine ops_skip rfl rfl ?_
            refine ops_skip rfl rfl ?_
            refine ops_v (v_pick_f (v := (.bool _)) rfl rfl rfl) ?_
            refine ops_nil ?_
            refine W_if_f rfl ?_
            refine W_skip ?_
            refine W_seq ?_
            refine W_region ?_
            refine ops_v (v_move (v := (.int _ _)) rfl rfl) ?_
            refine ops_v (v_eql false rfl rfl rfl (decide_eq_false (by first | omega | (simp only; omega) | rfl | decide))) ?_
            refine ops_nil ?_
            refine W_if_f rfl ?_
            refine W_skip ?_
            refine W_region ?_
            refine ops_v (v_move (v := (.int _ _)) rfl rfl) ?_
            refine ops_v (v_add _ rfl rfl rfl (wrap_in (by omega) (by omega))) ?_
            refine ops_v (v_assign (v := (.int _ _)) rfl rfl) ?_
            refine ops_nil ?_
            have H := H.blkToSlAt 1 rfl t11 t12 t13 t14
            have H := H.blkToSlAt 2 rfl t21 t22 t23 t24
            have H := H.blkToSlAt 3 rfl t31 t32 t33 t34
            exact ⟨⟨i + 1, s', ids, _, k1, _, k2, _, k3⟩, by simp only; omega, ⟨rfl, rfl, rfl, rfl, rfl, rfl, rfl, rfl, rfl, rfl, rfl, rfl, trivial⟩, H.tail, ⟨gd.wf, fun z hz => gd.ext.isN (hnodes z hz), h0, by simp only; omega, by simp only; omega⟩⟩
            -- (backstaylaw14.ApplyCaches: loopend; chunks x,s1,s2,s3,S1,C1,S2,C2,S3; ptr 20=x)
      · refine W_seq ?_
        refine W_seq ?_
        refine W_region ?_
        refine ops_v (v_move (v := (.int _ _)) rfl rfl) ?_
        refine ops_v (v_move (v := (.slice _ _ _)) rfl rfl) ?_
        refine ops_v (v_len rfl sl22 rfl) ?_
        refine ops_v (v_lss true rfl rfl rfl (decide_eq_true (by first | omega | (simp only; omega) | rfl | decide))) ?_
        refine ops_v (v_move (v := (.bool _)) rfl rfl) ?_
        refine ops_v (v_move (v := (.int _ _)) rfl rfl) ?_
        refine ops_v (v_lss false rfl rfl rfl (decide_eq_false (by first | omega | (simp only; omega) | rfl | decide))) ?_
        refine ops_v (v_pick_t (v := (.bool _)) rfl rfl rfl) ?_
        refine ops_nil ?_
        refine W_if_f rfl ?_
        refine W_exit ?_
        refine W_seq ?_
        refine W_region ?_
        refine ops_v (v_move (v := (.bool _)) rfl rfl) ?_
        refine ops_v (v_assign (v := (.bool _)) rfl rfl) ?_
        refine ops_nil ?_
        refine W_ret ?_
        refine ⟨_, (.tmp (v := (.bool _)) rfl .nil), ?_⟩
        exact ⟨rfl, _, H⟩
        -- (backstaylaw14.ApplyCaches: ret; chunks s1,s2,s3,S1,C1,S2,C2,S3; ptr )
    · refine W_seq ?_
      refine W_seq ?_
      refine W_region ?_
      refine ops_v (v_move (v := (.int _ _)) rfl rfl) ?_
      refine ops_v (v_move (v := (.slice _ _ _)) rfl rfl) ?_
      refine ops_v (v_len rfl sl22 rfl) ?_
      refine ops_v (v_lss false rfl rfl rfl (decide_eq_false (by first | omega | (simp only; omega) | rfl | decide))) ?_
      refine ops_v (v_move (v := (.bool _)) rfl rfl) ?_
      refine ops_skip rfl rfl ?_
      refine ops_skip rfl rfl ?_
      refine ops_v (v_pick_f (v := (.bool _)) rfl rfl rfl) ?_
      refine ops_nil ?_
      refine W_if_f rfl ?_
      refine W_exit ?_
      refine W_seq ?_
      refine W_region ?_
      refine ops_v (v_move (v := (.bool _)) rfl rfl) ?_
      refine ops_v (v_assign (v := (.bool _)) rfl rfl) ?_
      refine ops_nil ?_
      refine W_ret ?_
      refine ⟨_, (.tmp (v := (.bool _)) rfl .nil), ?_⟩
      exact ⟨rfl, _, H⟩
      -- (backstaylaw14.ApplyCaches: ret; chunks s1,s2,s3,S1,C1,S2,C2,S3; ptr )
theorem walk (W : World) (links : Int) (i1 : i64 links) (v : Value) (l : List R4) (hr : RawIs W v l) (v2 : Value) (l2 : List R4) (hr2 : RawIs W v2 l2) (v3 : Value) (l3 : List Int) (hr3 : IntsAre W v3 l3) :
    FnC Try.prog 11 [int links, v, v2, v3] W (fun v w' => v = .bool true ∧ Base W w') :=
  (law_ok (Own.start W) links i1 v l hr v2 l2 hr2 v3 l3 hr3).mono (fun _ _ ⟨a, _, H⟩ => ⟨a, H.base⟩)
theorem own : ownKnob Try.prog.godebug = none := by kernel_rfl
set_option maxRecDepth 100000 in
theorem lifted (os : Os) (started : os.Started) (H : Type) (enc : TypeId × Value → H) :
    ReturnsInHanded {} Try.checked os 11 .any (Rows.applyCachesSpec.pre6 enc Try.prog Try.f11 Rows.applyCachesRow.domain false) (Rows.applyCachesSpec.post enc Try.prog Try.f11 false true false false) := by
  refine returnsInHanded_of_change (C := Try.checked) own started (by kernel_rfl) Try.func11
    (ChangeSpec.witness6 (enc := enc) (C := Try.checked) false ⟨#[], #[.int .i64 0, .slice none 0 0, .slice none 0 0, .slice none 0 0], []⟩ 8 (by kernel_rfl) (by kernel_rfl) (by kernel_rfl) (by kernel_rfl)) ?_
  intro W base args ds gs before hval0 hW hcnd _
  have hval : ∀ (j : Nat) t v, Try.f11.params[j]? = some t → args[j]? = some v → Value.okWide Try.prog W .any base t v := hval0
  have hW' := hW
  obtain ⟨p, q, hA0, hV, rfl, hfz, hnd⟩ := hW
  have hA : DataW.TrodAll enc Try.prog W 0 (fun _ => true) true Try.f11.params.toList args.toList ds p := hA0
  rw [Try.params11] at hA hval
  obtain ⟨v0, vs0, d0, ds0, p0, q0, hargs, rfl, rfl, h0, r0⟩ := trodAll_cons hA
  obtain ⟨v1, vs1, d1, ds1, p1, q1, rfl, rfl, rfl, h1, r1⟩ := trodAll_cons r0
  obtain ⟨v2, vs2, d2, ds2, p2, q2, rfl, rfl, rfl, h2, r2⟩ := trodAll_cons r1
  obtain ⟨v3, vs3, d3, ds3, p3, q3, rfl, rfl, rfl, h3, r3⟩ := trodAll_cons r2
  obtain ⟨rfl, rfl, rfl⟩ := trodAll_nil r3
  obtain rfl : args = #[v0, v1, v2, v3] := by cases args; simp_all
  obtain ⟨rfl, rfl⟩ := trodVars_none hV
  obtain ⟨a0, rfl, rfl, rfl, x0⟩ := open_int Try.underlying3 (hval 0 3 v0 rfl rfl) h0
  have k1 := h1
  have lt1 : ∀ x ∈ p1, x.block < W.heap.size := by obtain ⟨m, hm⟩ := k1; exact DataW.trod_lt m _ _ _ hm
  obtain ⟨l1, w1⟩ := raw_of_trod h1 (okWide_slice Try.underlying22 (hval 1 22 v1 rfl rfl))
  have k2 := h2
  have lt2 : ∀ x ∈ p2, x.block < W.heap.size := by obtain ⟨m, hm⟩ := k2; exact DataW.trod_lt m _ _ _ hm
  obtain ⟨l2, w2⟩ := raw_of_trod h2 (okWide_slice Try.underlying22 (hval 2 22 v2 rfl rfl))
  have k3 := h3
  have lt3 : ∀ x ∈ p3, x.block < W.heap.size := by obtain ⟨m, hm⟩ := k3; exact DataW.trod_lt m _ _ _ hm
  obtain ⟨l3, w3⟩ := ints_of_trod h3 (okWide_slice Try.underlying40 (hval 3 40 v3 rfl rfl))
  clear hA0 hval0
  refine Calls.mono (walk W a0 (bounds_i64 x0) v1 l1 w1 v2 l2 w2 v3 l3 w3) ?_
  rintro e W' ⟨_, rfl, rfl, hb⟩
  have bel := hb.below
  exact ⟨_, rfl, _, _, _, [], _, [], hW', trodAll_mk1 (shut_bool Try.underlying4 _), (trodAll_cons_mk (shut_int Try.underlying3 x0) (trodAll_cons_mk (Below.trod laidOut (by kernel_rfl) (of_decide_eq_true (by kernel_rfl)) k1 bel lt1) (trodAll_cons_mk (Below.trod laidOut (by kernel_rfl) (of_decide_eq_true (by kernel_rfl)) k2 bel lt2) (trodAll_cons_mk (Below.trod laidOut (by kernel_rfl) (of_decide_eq_true (by kernel_rfl)) k3 bel lt3) trodAll_mk0)))), rfl, bel.frame _, fun h => by cases h⟩
theorem closed : joinedFacts Try.prog 11 Try.f11 Rows.applyCachesSpec Rows.applyCachesRow = true := Go.Proofs.Ytchikjmhncojfaa.Head.joined (by kernel_rfl) rfl rfl (by kernel_rfl) (by kernel_rfl) (by kernel_rfl) (by kernel_rfl)
theorem over : Rows.applyCachesRow.holds Try.pinned (OpenSpec.ofChange Rows.applyCachesSpec) :=
  OpenClaim.holds_of_wide 11 Try.f11 rfl rfl rfl rfl rfl rfl rfl ⟨rfl, rfl, rfl, rfl, rfl⟩ rfl rfl rfl rfl rfl (by kernel_rfl) Try.func11 closed
    (of_decide_eq_true (by kernel_rfl)) (by unfold Func.isWrapper; first | (rw [if_pos (by decide +kernel)]; kernel_rfl) | (rw [if_neg (by decide +kernel)]; exact ⟨rfl, rfl⟩))
    (fun os started H enc _ => lifted os started H enc)
/-- The statement. -/
theorem proved : Rows.ApplyCachesSaid := over
end Go.Proofs.Ytchikjmhncojfaa.applyCaches
