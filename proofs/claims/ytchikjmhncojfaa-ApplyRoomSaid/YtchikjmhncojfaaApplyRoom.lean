/- ApplyRoom of layer 14: with room for all the node is told; with less ErrFull is, and the store is full. Conditions: none. -/
import Derived.Test.YtchikjmhncojfaaLaw14
import Derived.Test.YtchikjmhncojfaaOrderM
import Derived.Test.YtchikjmhncojfaaHead
import Derived.ProofKit
import Derived.OpenShut
set_option linter.unusedVariables false
namespace Go.Proofs.Ytchikjmhncojfaa.applyRoom
open Go Go.Proofs Go.RowKit Go.ChangeShapes Go.WideShapes Go.ChangeAt Go.Proofs.Ytchikjmhncojfaa.W
open Go.Proofs.Ytchikjmhncojfaa.M (Br St get getZ isN idx has down Wf rank i64 leafB askB R4 MadeOk Lifts Ext opF oneF twoF chooseF tr Tells Room6)
variable {w wb : World} {R : List Chunk}
theorem step_nil {p : Nat} {s s' : St} {r : R4} {a b i e : Int} (h : Lifts (opF (M.stepT r)) s a (M.stepB r a b) (M.stepC r a b) s' i e) (hr : r.ok) (hw : Wf s) (ia : isN s a = true) (ib : isN s b = true) (H : Own wb (StoreC p s :: R) w) :
    FnC Try.prog 51 [ptr p, .pointer none, .agg (cells4 r).toArray, int a, int b] w (fun u w' => u = pairV i e ∧ Own wb (StoreC p s' :: R) w') :=
  (step_ok (o := none) h hr hw ia ib (H.toPure trivial (p := True)).swap2).mono fun _ _ ⟨hv, H⟩ => ⟨hv, H.swap2.tail⟩
/-- the first k nodes of a store, in a room of its own -/
def part (s : St) (m k : Nat) : St := ⟨s.links, m, s.nodes.take k⟩
theorem put_next {s : St} (w : Wf s) {m k : Nat} {b : Br} (hb : s.nodes[k]? = some b) (hm : k < m) : M.put (part s m k) b = (part s m (k + 1), (k : Int), 0) := by
  have hlt := (List.getElem?_eq_some_iff.1 hb).1
  have hlen : (part s m k).nodes.length = k := by unfold part; simp; omega
  rcases M.put_cases (part s m k) b with ⟨i, hi, _⟩ | ⟨_, hge, _⟩ | ⟨_, _, h⟩
  · have hi' : i < k ∧ s.nodes[i]? = some b := by
      unfold part at hi
      rw [List.getElem?_take] at hi
      split at hi
      · exact ⟨by assumption, hi⟩
      · cases hi
    have := (List.getElem?_inj hlt w.nodup).1 (hb.trans hi'.2.symm)
    omega
  · rw [hlen] at hge
    have : (part s m k).most = m := rfl
    omega
  · rw [h, hlen]
    have : (part s m k).nodes ++ [b] = (part s m (k + 1)).nodes := by unfold part; simp only; rw [List.take_add_one, hb]; rfl
    rw [this]
    rfl
theorem part_get {s : St} {m k : Nat} {id : Int} {b : Br} (hg : M.get s id = some b) (hk : id < k) : M.get (part s m k) id = some b := by
  obtain ⟨h0, h1, h2⟩ := M.get_some hg
  unfold M.get part
  rw [if_neg (by omega)]
  simp only
  rw [List.getElem?_take, if_pos (by omega)]
  exact h2
theorem leaf_next {s : St} (w : Wf s) {m k : Nat} {b : Br} (hb : s.nodes[k]? = some b) (hl : b.leaf = true) (hm : k < m) : M.leaf (part s m k) b.value = (part s m (k + 1), (k : Int), 0) := by
  have := put_next w hb hm
  rw [w.leafs k b hb hl] at this
  exact this
theorem make_next {s : St} (w : Wf s) {m k : Nat} {b : Br} (hb : s.nodes[k]? = some b) (hl : b.leaf = false) (hm : k < m) : M.make (part s m k) b.link b.stands b.fails = (part s m (k + 1), (k : Int), 0) := by
  obtain ⟨e, a1, a2, a3, a4, a5, a6, a7⟩ := w.asks k b hb hl
  have und : ∀ {x : Int}, M.under s b.link x = true → x < k → M.under (part s m k) b.link x = true := by
    intro x hx hk
    obtain ⟨y, hy⟩ := M.isN_get (M.under_isN hx)
    rw [M.under_eq (part_get hy hk)]
    rw [M.under_eq hy] at hx
    exact hx
  have hok : M.makeOk (part s m k) b.link b.stands b.fails = true := M.makeOk_iff.2 ⟨a1, a2, und a4 a6, und a5 a7⟩
  unfold M.make
  rw [if_pos hok, if_neg a3]
  have := put_next w hb hm
  rw [← e]
  exact this
theorem wf_room {s : St} (w : Wf s) {m : Nat} (h1 : s.nodes.length ≤ m) (h2 : m ≤ 1073741824) : Wf (s.room m) := ⟨w.links, h2, h1, w.nodup, w.leafs, w.asks⟩
set_option maxRecDepth 8000 in
set_option maxHeartbeats 2000000 in
theorem law_ok (H : Own wb R w) (links : Int) (i1 : i64 links) (v : Value) (l : List R4) (hr : RawIs wb v l) (r : R4) (hro : r.ok) (most : Int) (i2 : i64 most) :
    FnC Try.prog 13 [int links, v, .agg (cells4 r).toArray, int most] w (fun u w' => u = .bool true ∧ ∃ R', Own wb R' w') := by
  have lo := M.pick_lo (c := links) (n := 7) (by decide)
  have hi := M.pick_hi (c := links) (n := 7) (by decide)
  obtain ⟨rp, rcap, hv, _⟩ := id hr
  subst hv
  generalize hn : M.pick links 7 = n at lo hi
  refine FnC_of Try.func13 rfl rfl rfl rfl ?_
  refine W_seq ?_
  refine W_region ?_
  refine ops_box (v := (.agg _)) (cs := [_, _, _, _]) H rfl rfl rfl ?_
  clear H; intro bn0 w H
  refine ops_v (v_assign (v := _) rfl rfl) ?_
  refine ops_nil ?_
  refine W_seq ?_
  refine W_region ?_
  refine ops_call rfl c40 (awake14_ok H) ?_
  clear H; rintro _ w ⟨rfl, H⟩
  refine ops_v (v_assign (v := (.bool _)) rfl rfl) ?_
  refine ops_nil ?_
  refine W_seq ?_
  refine W_region ?_
  refine ops_v (v_move (v := (.int _ _)) rfl rfl) ?_
  refine ops_call rfl c41 (pick14_ok H links 7 i1 (by decide)) ?_
  clear H; rintro _ w ⟨rfl, H⟩
  rw [hn]
  refine ops_v (v_assign (v := (.int _ _)) rfl rfl) ?_
  refine ops_nil ?_
  refine W_seq ?_
  refine W_region ?_
  refine ops_v (v_move (v := (.int _ _)) rfl rfl) ?_
  refine ops_v (v_move (v := (.slice _ _ _)) rfl rfl) ?_
  refine ops_call rfl c37 (Made_ok H n lo (by omega) _ l hr) ?_
  clear H; rintro _ w ⟨p, st, q, cap, ids, rfl, hm, H⟩
  refine ops_v (v_move (v := (.tuple _)) rfl rfl) ?_
  refine ops_v (v_extract (v := (.pointer _)) rfl rfl rfl) ?_
  refine ops_v (v_extract (v := (.slice _ _ _)) rfl rfl rfl) ?_
  refine ops_v (v_assign (v := (.pointer _)) rfl rfl) ?_
  refine ops_v (v_assign (v := (.slice _ _ _)) rfl rfl) ?_
  refine ops_nil ?_
  refine W_seq ?_
  refine W_seq ?_
  -- (backstaylaw14.ApplyRoom: until; chunks s,S,n0; ptr 6=n0)
  generalize bn0 = bx at *
  rcases Nat.eq_zero_or_pos ids.length with h0 | h0
  · have h0' : (ids.length : Int) = 0 := by omega
    refine W_region ?_
    refine ops_v (v_move (v := (.slice _ _ _)) rfl rfl) ?_
    refine ops_v (v_len rfl sl40 rfl) ?_
    refine ops_v (v_eql true rfl rfl rfl (decide_eq_true (by first | omega | (simp only; omega) | rfl | decide))) ?_
    refine ops_nil ?_
    refine W_if_t rfl ?_
    refine W_seq ?_
    refine W_region ?_
    refine ops_v (v_move (v := (.bool _)) rfl rfl) ?_
    refine ops_v (v_assign (v := (.bool _)) rfl rfl) ?_
    refine ops_nil ?_
    refine W_ret ?_
    refine ⟨_, (.tmp (v := (.bool _)) rfl .nil), ?_⟩
    exact ⟨rfl, _, H⟩
    -- (backstaylaw14.ApplyRoom: ret; chunks s,S,x; ptr 6=x)
  · have h0' : (0 : Int) < (ids.length : Int) := by omega
    have h0'' : ¬ ((ids.length : Int) = 0) := by omega
    obtain ⟨g, rfl⟩ := H.slSome 0 rfl h0
    have getI : ∀ c : Int, ∃ a, ids[(M.pick c ids.length).toNat]? = some a := fun c => ⟨ids[(M.pick c ids.length).toNat]'(by have := M.pick_hi (c := c) h0'; have := M.pick_lo (c := c) h0'; omega), by simp⟩
    obtain ⟨a, ha⟩ := getI r.b
    have ha' : (ints ids)[0 + (M.pick r.b ids.length).toNat * 1]? = some (.int .i64 a) := by rw [Nat.zero_add, Nat.mul_one]; simp [ints, ha]
    have a1 := M.pick_lo (c := r.b) h0'
    have a2 := M.pick_hi (c := r.b) h0'
    have ta : Tells st a _ := .of (hm.nodes a (List.mem_of_getElem? ha))
    obtain ⟨b, hb⟩ := getI r.c
    have hb' : (ints ids)[0 + (M.pick r.c ids.length).toNat * 1]? = some (.int .i64 b) := by rw [Nat.zero_add, Nat.mul_one]; simp [ints, hb]
    have b1 := M.pick_lo (c := r.c) h0'
    have b2 := M.pick_hi (c := r.c) h0'
    have tb : Tells st b _ := .of (hm.nodes b (List.mem_of_getElem? hb))
    have m0 : Room6 st 40 := ⟨hm.wf, by have := hm.links; omega, hm.most, hm.few⟩
    have oB : isN st (M.stepB r a b) = true := by rcases M.stepB_or r a b with h | h <;> rw [h]; exact ta.here; exact tb.here
    have oC : isN st (M.stepC r a b) = true := by rcases M.stepC_or r a b with h | h <;> rw [h]; exact ta.here; exact tb.here
    obtain ⟨s1, k, L1, x1, m1, tk⟩ := M.lift_room (opF (M.stepT r)) m0 (by decide) ta (.of oB) (.of oC)
    have hgrew : st.nodes.length ≤ s1.nodes.length := x1.len
    have hlen := m1.len
    have hpos : 1 ≤ st.nodes.length := by have := M.isN_iff.1 ta.here; omega
    have hneed : (0 : Int) < (s1.nodes.length : Int) - st.nodes.length + 2 := by omega
    have e1 := M.pick_lo (c := most) hneed
    have e2 := M.pick_hi (c := most) hneed
    obtain ⟨mm, hmm⟩ : ∃ mm : Nat, (st.nodes.length : Int) + M.pick most ((s1.nodes.length : Int) - st.nodes.length + 2) = mm := ⟨((st.nodes.length : Int) + M.pick most ((s1.nodes.length : Int) - st.nodes.length + 2)).toNat, by omega⟩
    have hmax : (if (mm : Int) < 1 then 1 else (mm : Int)) = (mm : Int) := by rw [if_neg (by omega)]
    have hlinks := hm.links
    have hsim := L1.sim m0.wf ta.here oB oC rfl mm (by omega)
    have hpart0 : part st mm 0 = ⟨n.toNat, mm, []⟩ := by unfold part; simp; omega
    have hpartN : part st mm st.nodes.length = st.room mm := by unfold part M.St.room; rw [List.take_of_length_le (Nat.le_refl _)]
    have hmm2 : (mm : Nat) ≤ 1073741824 := by omega
    have hwt := wf_room m0.wf (m := mm) (by omega) hmm2
    refine W_region ?_
    refine ops_v (v_move (v := (.slice _ _ _)) rfl rfl) ?_
    refine ops_v (v_len rfl sl40 rfl) ?_
    refine ops_v (v_eql false rfl rfl rfl (decide_eq_false (by first | omega | (simp only; omega) | rfl | decide))) ?_
    refine ops_nil ?_
    refine W_if_f rfl ?_
    refine W_skip ?_
    refine W_seq ?_
    refine W_region ?_
    refine ops_v (v_move (v := (.pointer _)) rfl rfl) ?_
    refine ops_call rfl c30 (FnC.ro 1 rfl H (fun _ => Size_ok)) ?_
    clear H; rintro _ w ⟨rfl, H⟩
    refine ops_v (v_assign (v := (.int _ _)) rfl rfl) ?_
    refine ops_nil ?_
    refine W_seq ?_
    refine W_region ?_
    refine ops_v (v_indexAddr_arr rfl ae39 rfl rfl (by first | omega | decide) rfl) ?_
    refine ops_load (v := (.int _ _)) 2 H rfl tc3 rfl rfl rfl ?_
    refine ops_v (v_move (v := (.slice _ _ _)) rfl rfl) ?_
    refine ops_v (v_len rfl sl40 rfl) ?_
    refine ops_call rfl c41 (pick14_ok H r.b ids.length hro.2.1 h0') ?_
    clear H; rintro _ w ⟨rfl, H⟩
    refine ops_v (v_assign (v := (.int _ _)) rfl rfl) ?_
    refine ops_nil ?_
    refine W_seq ?_
    refine W_region ?_
    refine ops_v (v_indexAddr_arr rfl ae39 rfl rfl (by first | omega | decide) rfl) ?_
    refine ops_load (v := (.int _ _)) 2 H rfl tc3 rfl rfl rfl ?_
    refine ops_v (v_move (v := (.slice _ _ _)) rfl rfl) ?_
    refine ops_v (v_len rfl sl40 rfl) ?_
    refine ops_call rfl c41 (pick14_ok H r.c ids.length hro.2.2.1 h0') ?_
    clear H; rintro _ w ⟨rfl, H⟩
    refine ops_v (v_assign (v := (.int _ _)) rfl rfl) ?_
    refine ops_nil ?_
    refine W_seq ?_
    obtain ⟨cs, t1, t2, t3, t4, H⟩ := H.slToBlk 0 rfl
    refine W_draw (is := [2, 0]) mixed H ?_
    clear H; intro w H
    refine any_take 0 rfl (by kernel_rfl) (by kernel_rfl) (by kernel_rfl) (v_move (v := (.pointer _)) rfl rfl) ?_
    refine any_take 1 rfl (by kernel_rfl) (by kernel_rfl) (by kernel_rfl) (v_loadA (vs := [_, _, _, _]) rfl ta39 (fun _ hS => hS.1 _ _ _ rfl) rfl rfl rfl) ?_
    refine any_take 2 rfl (by kernel_rfl) (by kernel_rfl) (by kernel_rfl) (v_move (v := (.slice _ _ _)) rfl rfl) ?_
    refine any_take 3 rfl (by kernel_rfl) (by kernel_rfl) (by kernel_rfl) (v_move (v := (.int _ _)) rfl rfl) ?_
    refine any_take 4 rfl (by kernel_rfl) (by kernel_rfl) (by kernel_rfl) (v_indexAddr_sl rfl se40 rfl rfl (by omega) (by omega)) ?_
    refine any_take 5 rfl (by kernel_rfl) (by kernel_rfl) (by kernel_rfl) (v_load (v := .int .i64 a) rfl tc3 (fun _ hS => hS.2.1 _ _ _ rfl) rfl (take_get t1 ha')) ?_
    refine any_take 6 rfl (by kernel_rfl) (by kernel_rfl) (by kernel_rfl) (v_move (v := (.slice _ _ _)) rfl rfl) ?_
    refine any_take 7 rfl (by kernel_rfl) (by kernel_rfl) (by kernel_rfl) (v_move (v := (.int _ _)) rfl rfl) ?_
    refine any_take 8 rfl (by kernel_rfl) (by kernel_rfl) (by kernel_rfl) (v_indexAddr_sl rfl se40 rfl rfl (by omega) (by omega)) ?_
    refine any_take 9 rfl (by kernel_rfl) (by kernel_rfl) (by kernel_rfl) (v_load (v := .int .i64 b) rfl tc3 (fun _ hS => hS.2.1 _ _ _ rfl) rfl (take_get t1 hb')) ?_
    refine any_one 10 rfl (by kernel_rfl) ?_
    refine ops_call rfl c51 (FnC.at 1 rfl H (fun _ H => step_nil L1 hro m0.wf ta.here tb.here H)) ?_
    clear H; rintro _ w ⟨rfl, H⟩
    refine ops_nil ⟨H.stab [(2, 2), (0, 0)] ⟨rfl, rfl, trivial⟩, ?_⟩
    refine any_take 11 rfl (by kernel_rfl) (by kernel_rfl) (by kernel_rfl) (v_move (v := (.tuple _)) rfl rfl) ?_
    refine any_take 12 rfl (by kernel_rfl) (by kernel_rfl) (by kernel_rfl) (v_extract (v := (.int _ _)) rfl rfl rfl) ?_
    refine any_take 13 rfl (by kernel_rfl) (by kernel_rfl) (by kernel_rfl) (v_extract (v := (.int _ _)) rfl rfl rfl) ?_
    refine any_take 14 rfl (by kernel_rfl) (by kernel_rfl) (by kernel_rfl) (v_assign (v := (.int _ _)) rfl rfl) ?_
    refine any_take 15 rfl (by kernel_rfl) (by kernel_rfl) (by kernel_rfl) (v_assign (v := (.int _ _)) rfl rfl) ?_
    refine any_done (by kernel_rfl) ?_
    refine W_seq ?_
    refine W_region ?_
    refine ops_v (v_move (v := (.pointer _)) rfl rfl) ?_
    refine ops_call rfl c30 (FnC.ro 1 rfl H (fun _ => Size_ok)) ?_
    clear H; rintro _ w ⟨rfl, H⟩
    refine ops_v (v_assign (v := (.int _ _)) rfl rfl) ?_
    refine ops_nil ?_
    refine W_seq ?_
    refine W_region ?_
    refine ops_v (v_move (v := (.int _ _)) rfl rfl) ?_
    refine ops_v (v_move (v := (.int _ _)) rfl rfl) ?_
    refine ops_v (v_move (v := (.int _ _)) rfl rfl) ?_
    refine ops_v (v_move (v := (.int _ _)) rfl rfl) ?_
    refine ops_v (v_sub _ rfl rfl rfl (wrap_in (by omega) (by omega))) ?_
    refine ops_v (v_add _ rfl rfl rfl (wrap_in (by omega) (by omega))) ?_
    refine ops_call rfl c41 (pick14_ok H most _ i2 hneed) ?_
    clear H; rintro _ w ⟨rfl, H⟩
    refine ops_v (v_add (mm : Int) rfl rfl rfl (by rw [hmm]; exact wrap_in (by omega) (by omega))) ?_
    refine ops_v (v_assign (v := (.int _ _)) rfl rfl) ?_
    refine ops_nil ?_
    refine W_seq ?_
    refine W_region ?_
    refine ops_v (v_move (v := (.int _ _)) rfl rfl) ?_
    refine ops_v (v_move (v := (.int _ _)) rfl rfl) ?_
    refine ops_v (v_max (c := (mm : Int)) rfl rfl rfl hmax) ?_
    refine ops_call rfl c26 (New_ok H n mm lo (by omega) (by omega) (by omega)) ?_
    clear H; rintro _ w ⟨pt, rfl, H⟩
    rw [Int.toNat_natCast, ← hpart0] at H
    refine ops_v (v_assign (v := (.pointer _)) rfl rfl) ?_
    refine ops_nil ?_
    refine W_seq ?_
    refine W_seq ?_
    refine W_region ?_
    refine ops_v (v_assign (v := _) rfl rfl) ?_
    refine ops_nil ?_
    refine W_block ?_
    -- (backstaylaw14.ApplyRoom: loop; chunks T,s,S,x; ptr 6=x,42=x,47=x)
    refine W_loopS (fun (k : Nat) => [(6, ptr bx), (9, .bool true), (11, ptr p), (12, .slice (some ⟨g, 0, none⟩) ids.length cap), (13, .int .i64 st.nodes.length), (14, int (M.pick r.b ids.length)), (15, int (M.pick r.c ids.length)), (17, int 0), (18, .int .i64 s1.nodes.length), (19, int mm), (20, ptr pt), (21, .int .i64 k)])
      (fun k w => Own wb (StoreC pt (part st mm k) :: Blk g cs 3 :: StoreC p s1 :: Blk bx (cells4 r) 39 :: R) w ∧ k ≤ st.nodes.length)
      (fun k => st.nodes.length - k) 0 ⟨rfl, rfl, rfl, rfl, rfl, rfl, rfl, rfl, rfl, rfl, rfl, rfl, trivial⟩ ⟨H, Nat.zero_le _⟩ ?_
    clear H
    rintro j e w ⟨H, hj⟩
    by_cases hjl : (j : Int) < st.nodes.length
    · have hjl' : j < st.nodes.length := by omega
      have hget := List.getElem?_eq_getElem hjl'
      have hg0 : M.get st j = some st.nodes[j] := by rw [M.get_nat]; exact hget
      have hg1 := x1.get hg0
      have hlf := leaf_next m0.wf (m := mm) hget
      have hmk := make_next m0.wf (m := mm) hget
      generalize st.nodes[j] = b at *
      obtain ⟨lf, vl, bl, bs, bf⟩ := b
      cases lf with
      | true =>
        have hV : nodeV ⟨true, vl, bl, bs, bf⟩ true = .tuple [.agg [.bool true, .int .i64 vl, .int .i64 bl, .int .i64 bs, .int .i64 bf].toArray, .bool true].toArray := rfl
        have hlf := hlf rfl (by omega)
        refine W_seq ?_
        refine W_seq ?_
        refine W_region ?_
        refine ops_v (v_move (v := (.int _ _)) rfl rfl) ?_
        refine ops_v (v_move (v := (.int _ _)) rfl rfl) ?_
        refine ops_v (v_lss true rfl rfl rfl (decide_eq_true (by first | omega | (simp only; omega) | rfl | decide))) ?_
        refine ops_nil ?_
        refine W_if_t rfl ?_
        refine W_skip ?_
        refine W_seq ?_
        refine W_block ?_
        refine W_seq ?_
        refine W_region ?_
        refine ops_v (v_move (v := (.pointer _)) rfl rfl) ?_
        refine ops_v (v_move (v := (.int _ _)) rfl rfl) ?_
        refine ops_call rfl c31 (FnC.ro 2 rfl H (fun _ H' => (by have := Node_ok hg1 H'; rw [hV] at this; exact this))) ?_
        clear H; rintro _ w ⟨rfl, H⟩
        refine ops_v (v_move (v := (.tuple _)) rfl rfl) ?_
        refine ops_v (v_extract (v := (.agg _)) rfl rfl rfl) ?_
        refine ops_v (v_extract (v := (.bool _)) rfl rfl rfl) ?_
        refine ops_alloc H rfl tz42 ?_
        clear H; intro bn0 w H
        refine ops_store (vs := [_, _, _, _, _]) (v := (.agg _)) (cs' := [_, _, _, _, _]) 0 H rfl ts42 rfl rfl rfl rfl rfl rfl rfl rfl ?_
        clear H; intro w H
        refine ops_v (v_assign (v := (.bool _)) rfl rfl) ?_
        refine ops_nil ?_
        refine W_seq ?_
        refine W_region ?_
        refine ops_v (v_fieldAddr rfl fo42_0 rfl rfl) ?_
        refine ops_load (v := (.bool _)) 0 H rfl tc4 rfl rfl rfl ?_
        refine ops_nil ?_
        refine W_if_t rfl ?_
        refine W_region ?_
        refine ops_v (v_move (v := (.pointer _)) rfl rfl) ?_
        refine ops_v (v_fieldAddr rfl fo42_1 rfl rfl) ?_
        refine ops_load (v := (.int _ _)) 0 H rfl tc3 rfl rfl rfl ?_
        refine ops_call rfl c38 (FnC.at 1 rfl H (fun _ H => Leaf_ok hmm2 hlf H)) ?_
        clear H; rintro _ w ⟨rfl, H⟩
        refine ops_v (v_move (v := (.tuple _)) rfl rfl) ?_
        refine ops_v (v_extract (v := (.int _ _)) rfl rfl rfl) ?_
        refine ops_v (v_extract (v := (.int _ _)) rfl rfl rfl) ?_
        refine ops_nil ?_
        refine W_region ?_
        refine ops_v (v_move (v := (.int _ _)) rfl rfl) ?_
        refine ops_v (v_add _ rfl rfl rfl (wrap_in (by omega) (by omega))) ?_
        refine ops_v (v_assign (v := (.int _ _)) rfl rfl) ?_
        refine ops_nil ?_
        exact ⟨j + 1, by omega, ⟨rfl, rfl, rfl, rfl, rfl, rfl, rfl, rfl, rfl, rfl, rfl, rfl, trivial⟩, H.tail, hjl'⟩
        -- (backstaylaw14.ApplyRoom: loopend; chunks n0,T,s,S,x; ptr 6=x,22=n0)
      | false =>
        have hV : nodeV ⟨false, vl, bl, bs, bf⟩ true = .tuple [.agg [.bool false, .int .i64 vl, .int .i64 bl, .int .i64 bs, .int .i64 bf].toArray, .bool true].toArray := rfl
        have hmk := hmk rfl (by omega)
        refine W_seq ?_
        refine W_seq ?_
        refine W_region ?_
        refine ops_v (v_move (v := (.int _ _)) rfl rfl) ?_
        refine ops_v (v_move (v := (.int _ _)) rfl rfl) ?_
        refine ops_v (v_lss true rfl rfl rfl (decide_eq_true (by first | omega | (simp only; omega) | rfl | decide))) ?_
        refine ops_nil ?_
        refine W_if_t rfl ?_
        refine W_skip ?_
        refine W_seq ?_
        refine W_block ?_
        refine W_seq ?_
        refine W_region ?_
        refine ops_v (v_move (v := (.pointer _)) rfl rfl) ?_
        refine ops_v (v_move (v := (.int _ _)) rfl rfl) ?_
        refine ops_call rfl c31 (FnC.ro 2 rfl H (fun _ H' => (by have := Node_ok hg1 H'; rw [hV] at this; exact this))) ?_
        clear H; rintro _ w ⟨rfl, H⟩
        refine ops_v (v_move (v := (.tuple _)) rfl rfl) ?_
        refine ops_v (v_extract (v := (.agg _)) rfl rfl rfl) ?_
        refine ops_v (v_extract (v := (.bool _)) rfl rfl rfl) ?_
        refine ops_alloc H rfl tz42 ?_
        clear H; intro bn0 w H
        refine ops_store (vs := [_, _, _, _, _]) (v := (.agg _)) (cs' := [_, _, _, _, _]) 0 H rfl ts42 rfl rfl rfl rfl rfl rfl rfl rfl ?_
        clear H; intro w H
        refine ops_v (v_assign (v := (.bool _)) rfl rfl) ?_
        refine ops_nil ?_
        refine W_seq ?_
        refine W_region ?_
        refine ops_v (v_fieldAddr rfl fo42_0 rfl rfl) ?_
        refine ops_load (v := (.bool _)) 0 H rfl tc4 rfl rfl rfl ?_
        refine ops_nil ?_
        refine W_if_f rfl ?_
        refine W_region ?_
        refine ops_v (v_move (v := (.pointer _)) rfl rfl) ?_
        refine ops_v (v_fieldAddr rfl fo42_2 rfl rfl) ?_
        refine ops_load (v := (.int _ _)) 0 H rfl tc3 rfl rfl rfl ?_
        refine ops_v (v_fieldAddr rfl fo42_3 rfl rfl) ?_
        refine ops_load (v := (.int _ _)) 0 H rfl tc3 rfl rfl rfl ?_
        refine ops_v (v_fieldAddr rfl fo42_4 rfl rfl) ?_
        refine ops_load (v := (.int _ _)) 0 H rfl tc3 rfl rfl rfl ?_
        refine ops_call rfl c39 (FnC.at 1 rfl H (fun _ H => Make_ok hmm2 hmk H)) ?_
        clear H; rintro _ w ⟨rfl, H⟩
        refine ops_v (v_move (v := (.tuple _)) rfl rfl) ?_
        refine ops_v (v_extract (v := (.int _ _)) rfl rfl rfl) ?_
        refine ops_v (v_extract (v := (.int _ _)) rfl rfl rfl) ?_
        refine ops_nil ?_
        refine W_region ?_
        refine ops_v (v_move (v := (.int _ _)) rfl rfl) ?_
        refine ops_v (v_add _ rfl rfl rfl (wrap_in (by omega) (by omega))) ?_
        refine ops_v (v_assign (v := (.int _ _)) rfl rfl) ?_
        refine ops_nil ?_
        exact ⟨j + 1, by omega, ⟨rfl, rfl, rfl, rfl, rfl, rfl, rfl, rfl, rfl, rfl, rfl, rfl, trivial⟩, H.tail, hjl'⟩
        -- (backstaylaw14.ApplyRoom: loopend; chunks n0,T,s,S,x; ptr 6=x,22=n0)
    · have hjeq : j = st.nodes.length := by omega
      subst hjeq
      rw [hpartN] at H
      by_cases hroom : (mm : Int) < s1.nodes.length
      · obtain ⟨t', Lt, ht'⟩ := hsim.2 (by omega)
        refine W_seq ?_
        refine W_seq ?_
        refine W_region ?_
        refine ops_v (v_move (v := (.int _ _)) rfl rfl) ?_
        refine ops_v (v_move (v := (.int _ _)) rfl rfl) ?_
        refine ops_v (v_lss false rfl rfl rfl (decide_eq_false (by first | omega | (simp only; omega) | rfl | decide))) ?_
        refine ops_nil ?_
        refine W_if_f rfl ?_
        refine W_exit ?_
        refine W_seq ?_
        refine W_region ?_
        refine ops_call rfl c42 (CNew_ok opF (st.room mm) H) ?_
        clear H; rintro _ w ⟨c, rfl, H⟩
        refine ops_v (v_assign (v := (.pointer _)) rfl rfl) ?_
        refine ops_nil ?_
        refine W_seq ?_
        have H := H.swap2
        refine W_draw (is := [4, 2]) mixed H ?_
        clear H; intro w H
        refine any_take 0 rfl (by kernel_rfl) (by kernel_rfl) (by kernel_rfl) (v_move (v := (.pointer _)) rfl rfl) ?_
        refine any_take 1 rfl (by kernel_rfl) (by kernel_rfl) (by kernel_rfl) (v_move (v := (.pointer _)) rfl rfl) ?_
        refine any_take 2 rfl (by kernel_rfl) (by kernel_rfl) (by kernel_rfl) (v_loadA (vs := [_, _, _, _]) rfl ta39 (fun _ hS => hS.1 _ _ _ rfl) rfl rfl rfl) ?_
        refine any_take 3 rfl (by kernel_rfl) (by kernel_rfl) (by kernel_rfl) (v_move (v := (.slice _ _ _)) rfl rfl) ?_
        refine any_take 4 rfl (by kernel_rfl) (by kernel_rfl) (by kernel_rfl) (v_move (v := (.int _ _)) rfl rfl) ?_
        refine any_take 5 rfl (by kernel_rfl) (by kernel_rfl) (by kernel_rfl) (v_indexAddr_sl rfl se40 rfl rfl (by omega) (by omega)) ?_
        refine any_take 6 rfl (by kernel_rfl) (by kernel_rfl) (by kernel_rfl) (v_load (v := .int .i64 a) rfl tc3 (fun _ hS => hS.2.1 _ _ _ rfl) rfl (take_get t1 ha')) ?_
        refine any_take 7 rfl (by kernel_rfl) (by kernel_rfl) (by kernel_rfl) (v_move (v := (.slice _ _ _)) rfl rfl) ?_
        refine any_take 8 rfl (by kernel_rfl) (by kernel_rfl) (by kernel_rfl) (v_move (v := (.int _ _)) rfl rfl) ?_
        refine any_take 9 rfl (by kernel_rfl) (by kernel_rfl) (by kernel_rfl) (v_indexAddr_sl rfl se40 rfl rfl (by omega) (by omega)) ?_
        refine any_take 10 rfl (by kernel_rfl) (by kernel_rfl) (by kernel_rfl) (v_load (v := .int .i64 b) rfl tc3 (fun _ hS => hS.2.1 _ _ _ rfl) rfl (take_get t1 hb')) ?_
        refine any_one 11 rfl (by kernel_rfl) ?_
        refine ops_call rfl c51 (step_ok Lt hro hwt ta.here tb.here H) ?_
        clear H; rintro _ w ⟨rfl, H⟩
        refine ops_nil ⟨H.stab [(4, 4), (2, 2)] ⟨rfl, rfl, trivial⟩, ?_⟩
        refine any_take 12 rfl (by kernel_rfl) (by kernel_rfl) (by kernel_rfl) (v_move (v := (.tuple _)) rfl rfl) ?_
        refine any_take 13 rfl (by kernel_rfl) (by kernel_rfl) (by kernel_rfl) (v_extract (v := (.int _ _)) rfl rfl rfl) ?_
        refine any_take 14 rfl (by kernel_rfl) (by kernel_rfl) (by kernel_rfl) (v_extract (v := (.int _ _)) rfl rfl rfl) ?_
        refine any_take 15 rfl (by kernel_rfl) (by kernel_rfl) (by kernel_rfl) (v_assign (v := (.int _ _)) rfl rfl) ?_
        refine any_take 16 rfl (by kernel_rfl) (by kernel_rfl) (by kernel_rfl) (v_assign (v := (.int _ _)) rfl rfl) ?_
        refine any_done (by kernel_rfl) ?_
        refine W_seq ?_
        refine W_seq ?_
        refine W_region ?_
        refine ops_v (v_move (v := (.int _ _)) rfl rfl) ?_
        refine ops_v (v_move (v := (.int _ _)) rfl rfl) ?_
        refine ops_v (v_lss true rfl rfl rfl (decide_eq_true (by first | omega | (simp only; omega) | rfl | decide))) ?_
        refine ops_nil ?_
        refine W_if_t rfl ?_
        refine W_seq ?_
        refine W_region ?_
        refine ops_v (v_move (v := (.bool _)) rfl rfl) ?_
        refine ops_v (v_move (v := (.bool _)) rfl rfl) ?_
        refine ops_v (v_move (v := (.int _ _)) rfl rfl) ?_
        refine ops_v (v_eql true rfl rfl rfl (decide_eq_true (by first | omega | (simp only; omega) | rfl | decide))) ?_
        refine ops_v (v_pick_t (v := (.bool _)) rfl rfl rfl) ?_
        refine ops_v (v_move (v := (.bool _)) rfl rfl) ?_
        refine ops_v (v_move (v := (.int _ _)) rfl rfl) ?_
        refine ops_v (v_eql true rfl rfl rfl (decide_eq_true (by first | omega | (simp only; omega) | rfl | decide))) ?_
        refine ops_v (v_pick_t (v := (.bool _)) rfl rfl rfl) ?_
        refine ops_v (v_move (v := (.bool _)) rfl rfl) ?_
        refine ops_v (v_move (v := (.pointer _)) rfl rfl) ?_
        refine ops_call rfl c30 (FnC.ro 0 rfl H (fun _ => Size_ok)) ?_
        clear H; rintro _ w ⟨rfl, H⟩
        refine ops_v (v_move (v := (.int _ _)) rfl rfl) ?_
        refine ops_v (v_eql true rfl rfl rfl (decide_eq_true (by first | omega | (simp only; omega) | rfl | decide))) ?_
        refine ops_v (v_pick_t (v := (.bool _)) rfl rfl rfl) ?_
        refine ops_v (v_assign (v := (.bool _)) rfl rfl) ?_
        refine ops_nil ?_
        refine W_ret ?_
        refine ⟨_, (.tmp (v := (.bool _)) rfl .nil), ?_⟩
        exact ⟨rfl, _, H⟩
        -- (backstaylaw14.ApplyRoom: ret; chunks T,C,s,S,x; ptr 6=x)
      · have Lt := hsim.1 (by omega)
        have hsz : (s1.room mm).nodes.length = s1.nodes.length := rfl
        refine W_seq ?_
        refine W_seq ?_
        refine W_region ?_
        refine ops_v (v_move (v := (.int _ _)) rfl rfl) ?_
        refine ops_v (v_move (v := (.int _ _)) rfl rfl) ?_
        refine ops_v (v_lss false rfl rfl rfl (decide_eq_false (by first | omega | (simp only; omega) | rfl | decide))) ?_
        refine ops_nil ?_
        refine W_if_f rfl ?_
        refine W_exit ?_
        refine W_seq ?_
        refine W_region ?_
        refine ops_call rfl c42 (CNew_ok opF (st.room mm) H) ?_
        clear H; rintro _ w ⟨c, rfl, H⟩
        refine ops_v (v_assign (v := (.pointer _)) rfl rfl) ?_
        refine ops_nil ?_
        refine W_seq ?_
        have H := H.swap2
        refine W_draw (is := [4, 2]) mixed H ?_
        clear H; intro w H
        refine any_take 0 rfl (by kernel_rfl) (by kernel_rfl) (by kernel_rfl) (v_move (v := (.pointer _)) rfl rfl) ?_
        refine any_take 1 rfl (by kernel_rfl) (by kernel_rfl) (by kernel_rfl) (v_move (v := (.pointer _)) rfl rfl) ?_
        refine any_take 2 rfl (by kernel_rfl) (by kernel_rfl) (by kernel_rfl) (v_loadA (vs := [_, _, _, _]) rfl ta39 (fun _ hS => hS.1 _ _ _ rfl) rfl rfl rfl) ?_
        refine any_take 3 rfl (by kernel_rfl) (by kernel_rfl) (by kernel_rfl) (v_move (v := (.slice _ _ _)) rfl rfl) ?_
        refine any_take 4 rfl (by kernel_rfl) (by kernel_rfl) (by kernel_rfl) (v_move (v := (.int _ _)) rfl rfl) ?_
        refine any_take 5 rfl (by kernel_rfl) (by kernel_rfl) (by kernel_rfl) (v_indexAddr_sl rfl se40 rfl rfl (by omega) (by omega)) ?_
        refine any_take 6 rfl (by kernel_rfl) (by kernel_rfl) (by kernel_rfl) (v_load (v := .int .i64 a) rfl tc3 (fun _ hS => hS.2.1 _ _ _ rfl) rfl (take_get t1 ha')) ?_
        refine any_take 7 rfl (by kernel_rfl) (by kernel_rfl) (by kernel_rfl) (v_move (v := (.slice _ _ _)) rfl rfl) ?_
        refine any_take 8 rfl (by kernel_rfl) (by kernel_rfl) (by kernel_rfl) (v_move (v := (.int _ _)) rfl rfl) ?_
        refine any_take 9 rfl (by kernel_rfl) (by kernel_rfl) (by kernel_rfl) (v_indexAddr_sl rfl se40 rfl rfl (by omega) (by omega)) ?_
        refine any_take 10 rfl (by kernel_rfl) (by kernel_rfl) (by kernel_rfl) (v_load (v := .int .i64 b) rfl tc3 (fun _ hS => hS.2.1 _ _ _ rfl) rfl (take_get t1 hb')) ?_
        refine any_one 11 rfl (by kernel_rfl) ?_
        refine ops_call rfl c51 (step_ok Lt hro hwt ta.here tb.here H) ?_
        clear H; rintro _ w ⟨rfl, H⟩
        refine ops_nil ⟨H.stab [(4, 4), (2, 2)] ⟨rfl, rfl, trivial⟩, ?_⟩
        refine any_take 12 rfl (by kernel_rfl) (by kernel_rfl) (by kernel_rfl) (v_move (v := (.tuple _)) rfl rfl) ?_
        refine any_take 13 rfl (by kernel_rfl) (by kernel_rfl) (by kernel_rfl) (v_extract (v := (.int _ _)) rfl rfl rfl) ?_
        refine any_take 14 rfl (by kernel_rfl) (by kernel_rfl) (by kernel_rfl) (v_extract (v := (.int _ _)) rfl rfl rfl) ?_
        refine any_take 15 rfl (by kernel_rfl) (by kernel_rfl) (by kernel_rfl) (v_assign (v := (.int _ _)) rfl rfl) ?_
        refine any_take 16 rfl (by kernel_rfl) (by kernel_rfl) (by kernel_rfl) (v_assign (v := (.int _ _)) rfl rfl) ?_
        refine any_done (by kernel_rfl) ?_
        refine W_seq ?_
        refine W_seq ?_
        refine W_region ?_
        refine ops_v (v_move (v := (.int _ _)) rfl rfl) ?_
        refine ops_v (v_move (v := (.int _ _)) rfl rfl) ?_
        refine ops_v (v_lss false rfl rfl rfl (decide_eq_false (by first | omega | (simp only; omega) | rfl | decide))) ?_
        refine ops_nil ?_
        refine W_if_f rfl ?_
        refine W_skip ?_
        refine W_seq ?_
        refine W_region ?_
        refine ops_v (v_move (v := (.bool _)) rfl rfl) ?_
        refine ops_v (v_move (v := (.bool _)) rfl rfl) ?_
        refine ops_v (v_move (v := (.int _ _)) rfl rfl) ?_
        refine ops_v (v_eql true rfl rfl rfl (decide_eq_true (by first | omega | (simp only; omega) | rfl | decide))) ?_
        refine ops_v (v_pick_t (v := (.bool _)) rfl rfl rfl) ?_
        refine ops_v (v_move (v := (.bool _)) rfl rfl) ?_
        refine ops_v (v_move (v := (.int _ _)) rfl rfl) ?_
        refine ops_v (v_eql true rfl rfl rfl (decide_eq_true (by first | omega | (simp only; omega) | rfl | decide))) ?_
        refine ops_v (v_pick_t (v := (.bool _)) rfl rfl rfl) ?_
        refine ops_v (v_move (v := (.bool _)) rfl rfl) ?_
        refine ops_v (v_move (v := (.pointer _)) rfl rfl) ?_
        refine ops_call rfl c30 (FnC.ro 0 rfl H (fun _ => Size_ok)) ?_
        clear H; rintro _ w ⟨rfl, H⟩
        refine ops_v (v_move (v := (.int _ _)) rfl rfl) ?_
        refine ops_v (v_eql true rfl rfl rfl (decide_eq_true (by first | omega | (simp only; omega) | rfl | decide))) ?_
        refine ops_v (v_pick_t (v := (.bool _)) rfl rfl rfl) ?_
        refine ops_v (v_assign (v := (.bool _)) rfl rfl) ?_
        refine ops_nil ?_
        refine W_ret ?_
        refine ⟨_, (.tmp (v := (.bool _)) rfl .nil), ?_⟩
        exact ⟨rfl, _, H⟩
        -- (backstaylaw14.ApplyRoom: ret; chunks T,C,s,S,x; ptr 6=x)
theorem walk (W : World) (links : Int) (i1 : i64 links) (v : Value) (l : List R4) (hr : RawIs W v l) (r : R4) (hro : r.ok) (most : Int) (i2 : i64 most) :
    FnC Try.prog 13 [int links, v, .agg (cells4 r).toArray, int most] W (fun v w' => v = .bool true ∧ Base W w') :=
  (law_ok (Own.start W) links i1 v l hr r hro most i2).mono (fun _ _ ⟨a, _, H⟩ => ⟨a, H.base⟩)
theorem own : ownKnob Try.prog.godebug = none := by kernel_rfl
set_option maxRecDepth 100000 in
theorem lifted (os : Os) (started : os.Started) (H : Type) (enc : TypeId × Value → H) :
    ReturnsInHanded {} Try.checked os 13 .any (Rows.applyRoomSpec.pre6 enc Try.prog Try.f13 Rows.applyRoomRow.domain false) (Rows.applyRoomSpec.post enc Try.prog Try.f13 false true false false) := by
  refine returnsInHanded_of_change (C := Try.checked) own started (by kernel_rfl) Try.func13
    (ChangeSpec.witness6 (enc := enc) (C := Try.checked) false ⟨#[], #[.int .i64 0, .slice none 0 0, .agg #[.int .i64 0, .int .i64 0, .int .i64 0, .int .i64 0], .int .i64 0], []⟩ 8 (by kernel_rfl) (by kernel_rfl) (by kernel_rfl) (by kernel_rfl)) ?_
  intro W base args ds gs before hval0 hW hcnd _
  have hval : ∀ (j : Nat) t v, Try.f13.params[j]? = some t → args[j]? = some v → Value.okWide Try.prog W .any base t v := hval0
  have hW' := hW
  obtain ⟨p, q, hA0, hV, rfl, hfz, hnd⟩ := hW
  have hA : DataW.TrodAll enc Try.prog W 0 (fun _ => true) true Try.f13.params.toList args.toList ds p := hA0
  rw [Try.params13] at hA hval
  obtain ⟨v0, vs0, d0, ds0, p0, q0, hargs, rfl, rfl, h0, r0⟩ := trodAll_cons hA
  obtain ⟨v1, vs1, d1, ds1, p1, q1, rfl, rfl, rfl, h1, r1⟩ := trodAll_cons r0
  obtain ⟨v2, vs2, d2, ds2, p2, q2, rfl, rfl, rfl, h2, r2⟩ := trodAll_cons r1
  obtain ⟨v3, vs3, d3, ds3, p3, q3, rfl, rfl, rfl, h3, r3⟩ := trodAll_cons r2
  obtain ⟨rfl, rfl, rfl⟩ := trodAll_nil r3
  obtain rfl : args = #[v0, v1, v2, v3] := by cases args; simp_all
  obtain ⟨rfl, rfl⟩ := trodVars_none hV
  obtain ⟨a0, rfl, rfl, rfl, x0⟩ := open_int Try.underlying3 (hval 0 3 v0 rfl rfl) h0
  have k1 := h1
  have lt1 : ∀ x ∈ p1, x.block < W.heap.size := by obtain ⟨m, hm⟩ := k1; exact DataW.trod_lt m _ _ _ hm
  obtain ⟨l1, w1⟩ := raw_of_trod h1 (okWide_slice Try.underlying22 (hval 1 22 v1 rfl rfl))
  have k2 := h2
  have lt2 : ∀ x ∈ p2, x.block < W.heap.size := by obtain ⟨m, hm⟩ := k2; exact DataW.trod_lt m _ _ _ hm
  obtain ⟨l2, rfl, w2⟩ := arrv_of_trod h2 (hval 2 39 v2 rfl rfl)
  obtain ⟨a3, rfl, rfl, rfl, x3⟩ := open_int Try.underlying3 (hval 3 3 v3 rfl rfl) h3
  clear hA0 hval0
  refine Calls.mono (walk W a0 (bounds_i64 x0) v1 l1 w1 l2 w2 a3 (bounds_i64 x3)) ?_
  rintro e W' ⟨_, rfl, rfl, hb⟩
  have bel := hb.below
  exact ⟨_, rfl, _, _, _, [], _, [], hW', trodAll_mk1 (shut_bool Try.underlying4 _), (trodAll_cons_mk (shut_int Try.underlying3 x0) (trodAll_cons_mk (Below.trod laidOut (by kernel_rfl) (of_decide_eq_true (by kernel_rfl)) k1 bel lt1) (trodAll_cons_mk (Below.trod laidOut (by kernel_rfl) (of_decide_eq_true (by kernel_rfl)) k2 bel lt2) (trodAll_cons_mk (shut_int Try.underlying3 x3) trodAll_mk0)))), rfl, bel.frame _, fun h => by cases h⟩
theorem closed : joinedFacts Try.prog 13 Try.f13 Rows.applyRoomSpec Rows.applyRoomRow = true := Go.Proofs.Ytchikjmhncojfaa.Head.joined (by kernel_rfl) rfl rfl (by kernel_rfl) (by kernel_rfl) (by kernel_rfl) (by kernel_rfl)
theorem over : Rows.applyRoomRow.holds Try.pinned (OpenSpec.ofChange Rows.applyRoomSpec) :=
  OpenClaim.holds_of_wide 13 Try.f13 rfl rfl rfl rfl rfl rfl rfl ⟨rfl, rfl, rfl, rfl, rfl⟩ rfl rfl rfl rfl rfl (by kernel_rfl) Try.func13 closed
    (of_decide_eq_true (by kernel_rfl)) (by unfold Func.isWrapper; first | (rw [if_pos (by decide +kernel)]; kernel_rfl) | (rw [if_neg (by decide +kernel)]; exact ⟨rfl, rfl⟩))
    (fun os started H enc _ => lifted os started H enc)
/-- The statement. -/
theorem proved : Rows.ApplyRoomSaid := over
end Go.Proofs.Ytchikjmhncojfaa.applyRoom
