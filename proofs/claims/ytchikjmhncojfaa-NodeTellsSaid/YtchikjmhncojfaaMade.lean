/- The walk of backstaylaw13.Made: a store of raw steps. Conditions: none. -/
import Derived.Test.YtchikjmhncojfaaLaw13
namespace Go.Proofs.Ytchikjmhncojfaa.M
theorem make_any {s : St} (w : Wf s) (k a b : Int) : ∃ s' id e, make s k a b = (s', id, e) ∧ Wf s' ∧ Ext s s' ∧ (e = 0 → isN s' id = true) ∧ s'.nodes.length ≤ s.nodes.length + 1 ∧ s'.links = s.links ∧ s'.most = s.most := by
  refine ⟨(make s k a b).1, (make s k a b).2.1, (make s k a b).2.2, rfl, w.make k a b, make_ext s k a b, ?_, ?_, (make_ext s k a b).links, (make_ext s k a b).most⟩
  · unfold make
    split
    · rename_i h
      split
      · intro _; exact under_isN (makeOk_iff.1 h).2.2.1
      · rcases put_cases s (askB k a b) with ⟨i, hi, h⟩ | ⟨_, _, h⟩ | ⟨_, _, h⟩ <;> rw [h]
        · intro _; exact isN_iff.2 ⟨Int.natCast_nonneg i, by have := (List.getElem?_eq_some_iff.1 hi).1; simpa using this⟩
        · intro h; cases h
        · intro _; exact isN_iff.2 ⟨by simp only; omega, by simp only [List.length_append, List.length_cons, List.length_nil]; omega⟩
    · intro h; cases h
  · unfold make
    split
    · split
      · simp
      · rcases put_cases s (askB k a b) with ⟨i, _, h⟩ | ⟨_, _, h⟩ | ⟨_, _, h⟩ <;> rw [h] <;> simp
    · simp
theorem leaf_room {s : St} (w : Wf s) (hl : s.nodes.length < s.most) (v : Int) : ∃ s' id, leaf s v = (s', id, 0) ∧ Wf s' ∧ Ext s s' ∧ isN s' id = true ∧ s'.nodes.length ≤ s.nodes.length + 1 ∧ s'.links = s.links ∧ s'.most = s.most := by
  have hx := leaf_ext s v
  have hw := w.leaf v
  unfold leaf at *
  rcases put_cases s (leafB v) with ⟨i, hi, h⟩ | ⟨_, hge, h⟩ | ⟨_, _, h⟩
  · rw [h] at hx hw
    exact ⟨s, i, h, hw, hx, isN_iff.2 ⟨by omega, by have := (List.getElem?_eq_some_iff.1 hi).1; simpa using this⟩, by omega, rfl, rfl⟩
  · omega
  · rw [h] at hx hw
    exact ⟨_, _, h, hw, hx, isN_iff.2 ⟨by omega, by simp only [List.length_append, List.length_cons, List.length_nil]; omega⟩, by simp, rfl, rfl⟩
structure MadeOk (st : St) (n : Int) (ids : List Int) : Prop where
  wf : Wf st
  links : (st.links : Int) = n
  most : st.most = 1000
  few : st.nodes.length ≤ 40
  short : ids.length ≤ 40
  nodes : ∀ x ∈ ids, isN st x = true
  vals : ∀ b ∈ st.nodes, b.leaf = true → 0 ≤ b.value ∧ b.value ≤ 3
/-- what one raw step makes -/
def madeStep (n : Int) (acc : St × List Int) (r : R4) : St × List Int :=
  if (acc.2.length : Int) < 2 ∨ pick r.a 3 = 0 then ((leaf acc.1 (pick r.b 4)).1, acc.2 ++ [(leaf acc.1 (pick r.b 4)).2.1])
  else
    let m := make acc.1 (pick r.b (max n 1)) (acc.2.getD (pick r.c acc.2.length).toNat 0) (acc.2.getD (pick r.d acc.2.length).toNat 0)
    if m.2.2 = 0 then (m.1, acc.2 ++ [m.2.1]) else (m.1, acc.2)
def madeF (n : Int) (l : List R4) : St × List Int := (l.take 40).foldl (madeStep n) (⟨n.toNat, 1000, []⟩, [])
/-- on the way there -/
structure MadeWay (st : St) (n : Int) (ids : List Int) (i : Nat) (l : List R4) : Prop where
  wf : Wf st
  links : (st.links : Int) = n
  most : st.most = 1000
  le : i ≤ 40
  few : st.nodes.length ≤ i
  short : ids.length ≤ i
  nodes : ∀ x ∈ ids, isN st x = true
  vals : ∀ b ∈ st.nodes, b.leaf = true → 0 ≤ b.value ∧ b.value ≤ 3
  made : (st, ids) = (l.take i).foldl (madeStep n) (⟨n.toNat, 1000, []⟩, [])
theorem MadeWay.next {st st' : St} {n : Int} {ids ids' : List Int} {i : Nat} {l : List R4} {r : R4} (h : MadeWay st n ids i l) (hr : l[i]? = some r) (hm : madeStep n (st, ids) r = (st', ids')) : (st', ids') = (l.take (i + 1)).foldl (madeStep n) (⟨n.toNat, 1000, []⟩, []) := by
  rw [List.take_add_one, hr, List.foldl_append, ← h.made, ← hm]
  rfl
theorem MadeWay.step {st st' : St} {n k : Int} {ids : List Int} {i : Nat} {l : List R4} {r : R4} (h : MadeWay st n ids i l) (hi : i < 40) (w : Wf st') (hx : Ext st st') (hf : st'.nodes.length ≤ st.nodes.length + 1) (hk : isN st' k = true)
    (hv : ∀ b ∈ st'.nodes, b.leaf = true → 0 ≤ b.value ∧ b.value ≤ 3) (hr : l[i]? = some r) (hm : madeStep n (st, ids) r = (st', ids ++ [k])) : MadeWay st' n (ids ++ [k]) (i + 1) l where
  wf := w
  links := by rw [hx.links]; exact h.links
  most := by rw [hx.most]; exact h.most
  le := hi
  few := by have := h.few; omega
  short := by have := h.short; simp; omega
  nodes := by
    intro x hm
    rcases List.mem_append.1 hm with hm | hm
    · exact hx.isN (h.nodes x hm)
    · simp at hm; subst hm; exact hk
  vals := hv
  made := h.next hr hm
theorem MadeWay.stay {st st' : St} {n : Int} {ids : List Int} {i : Nat} {l : List R4} {r : R4} (h : MadeWay st n ids i l) (hi : i < 40) (w : Wf st') (hx : Ext st st') (hf : st'.nodes.length ≤ st.nodes.length + 1)
    (hv : ∀ b ∈ st'.nodes, b.leaf = true → 0 ≤ b.value ∧ b.value ≤ 3) (hr : l[i]? = some r) (hm : madeStep n (st, ids) r = (st', ids)) : MadeWay st' n ids (i + 1) l where
  wf := w
  links := by rw [hx.links]; exact h.links
  most := by rw [hx.most]; exact h.most
  le := hi
  few := by have := h.few; omega
  short := by have := h.short; omega
  nodes := fun x hm => hx.isN (h.nodes x hm)
  vals := hv
  made := h.next hr hm
theorem MadeWay.made' {st : St} {n : Int} {ids : List Int} {i : Nat} {l : List R4} (h : MadeWay st n ids i l) : MadeOk st n ids :=
  ⟨h.wf, h.links, h.most, by have := h.few; have := h.le; omega, by have := h.short; have := h.le; omega, h.nodes, h.vals⟩
theorem MadeWay.last {st : St} {n : Int} {ids : List Int} {i : Nat} {l : List R4} (h : MadeWay st n ids i l) (hi : i = 40 ∨ l.length ≤ i) : (st, ids) = madeF n l := by
  rw [h.made, madeF]
  rcases hi with rfl | hi
  · rfl
  · have := h.le
    rw [List.take_of_length_le hi, List.take_of_length_le (by omega)]
theorem leaf_vals {st : St} (h : ∀ b ∈ st.nodes, b.leaf = true → 0 ≤ b.value ∧ b.value ≤ 3) {v : Int} (h0 : 0 ≤ v) (h3 : v ≤ 3) : ∀ b ∈ (leaf st v).1.nodes, b.leaf = true → 0 ≤ b.value ∧ b.value ≤ 3 := by
  intro b hb hl
  unfold leaf at hb
  rcases put_cases st (leafB v) with ⟨i, _, hp⟩ | ⟨_, _, hp⟩ | ⟨_, _, hp⟩ <;> rw [hp] at hb
  · exact h b hb hl
  · exact h b hb hl
  · rcases List.mem_append.1 hb with hb | hb
    · exact h b hb hl
    · simp at hb; subst hb; exact ⟨h0, h3⟩
theorem make_vals {st : St} (h : ∀ b ∈ st.nodes, b.leaf = true → 0 ≤ b.value ∧ b.value ≤ 3) (k x y : Int) : ∀ b ∈ (make st k x y).1.nodes, b.leaf = true → 0 ≤ b.value ∧ b.value ≤ 3 := by
  intro b hb hl
  unfold make at hb
  split at hb
  · split at hb
    · exact h b hb hl
    · rcases put_cases st (askB k x y) with ⟨i, _, hp⟩ | ⟨_, _, hp⟩ | ⟨_, _, hp⟩ <;> rw [hp] at hb
      · exact h b hb hl
      · exact h b hb hl
      · rcases List.mem_append.1 hb with hb | hb
        · exact h b hb hl
        · simp at hb; subst hb; cases hl
  · exact h b hb hl
end Go.Proofs.Ytchikjmhncojfaa.M
namespace Go.Proofs.Ytchikjmhncojfaa.W
open Go Go.Proofs Go.RowKit
open Go.Proofs.Ytchikjmhncojfaa.M (Br St get getZ isN idx has down Wf rank i64 R4 leafB askB MadeOk MadeWay)

section
variable {P : Program} {n : Nat} {ops : List Oper} {K : Env → World → Prop} {rest : List Oper} {e : Env} {w wb : World} {L : List Chunk}
variable {S : World → Prop} {d : Nat} {ty : TypeId} {g : Option (Nat × Bool)} {x y : Operand} {ps : String} {af : Array Edge}
theorem v_loadBase1 {t : TypeId} {b o : Nat} {v : Value} (hp : pre n d ops e g = true) (ht : isCell P t = true) (hS : ∀ w, S w → w.cell? ⟨b, o, none⟩ = some v)
    (hx : ev e x = .pointer (some ⟨b, o, none⟩)) : OpVal P n ops S e d (.load t x) ty g v :=
  ⟨hp, fun _ _ a ha w hs => by
    have h1 : (loadVar t ⟨b, o, none⟩).run P w = .ok v w := by simp [loadVar, run_isAgg_false ht, hS w hs]
    simp [execOp, ha.eval, hx, Instr.loadAt, Instr.sureAddr, h1]⟩
theorem v_loadBase {t : TypeId} {b o m : Nat} {vs : List Value} (hp : pre n d ops e g = true) (ht : aggSize P t = some m) (hS : ∀ w, S w → ∀ (j : Nat) (u : Value), vs[j]? = some u → w.cell? ⟨b, o + j, none⟩ = some u)
    (hx : ev e x = .pointer (some ⟨b, o, none⟩)) (hl : vs.length = m) : OpVal P n ops S e d (.load t x) ty g (.agg vs.toArray) :=
  ⟨hp, fun _ _ a ha w hs => by
    have hc : ∀ (j : Nat) v, vs[j]? = some v → w.cell? ((⟨b, o, none⟩ : Addr).add j) = some v := fun j v hj => by rw [addr_add]; exact hS w hs j v hj
    have h1 : (loadVar t ⟨b, o, none⟩).run P w = .ok (.agg vs.toArray) w := by
      have := run_loadCells_list (P := P) w ⟨b, o, none⟩ vs hc
      rw [hl] at this
      simp [loadVar, run_isAgg_true ht, run_sizeOf (sizeT_of_agg ht), this]
    simp [execOp, ha.eval, hx, Instr.loadAt, Instr.sureAddr, h1]⟩
/-- an owned slice as its block, for a while -/
theorem Own.slToBlk {g k cap el sz : Nat} {xs : List Value} (H : Own wb L w) (i : Nat) (hi : L[i]? = some (SlC (some ⟨g, 0, none⟩) k cap el sz xs)) :
    ∃ cs : List Value, cs.take (k * sz) = xs ∧ cs.length = cap * sz ∧ k ≤ cap ∧ cap ≤ maxLen ∧ Own wb (L.set i (Blk g cs el)) w := by
  have hf := H.front i hi
  obtain ⟨D, hD⟩ := H.at i hi
  rcases hD.2 with ⟨h0, _⟩ | ⟨g', cur, h1, h2, h3, h4, h5, h6, h7⟩
  · cases h0
  · cases h1
    refine ⟨cur.toList, h7, by simpa using h6, h4, h5, Own.back i hi (hf.imp fun D' hD' => ?_)⟩
    rcases hD'.2 with ⟨h0, _⟩ | ⟨g'', cur', e1, e2, e3, _⟩
    · cases h0
    · cases e1
      exact ⟨e2, by simpa using h3⟩
theorem Own.blkToSlAt {g k cap el sz : Nat} {cs xs : List Value} (H : Own wb L w) (i : Nat) (hi : L[i]? = some (Blk g cs el)) (h1 : cs.take (k * sz) = xs) (h2 : cs.length = cap * sz) (h3 : k ≤ cap) (h4 : cap ≤ maxLen) :
    Own wb (L.set i (SlC (some ⟨g, 0, none⟩) k cap el sz xs)) w := by
  have hf := H.front i hi
  refine Own.back i hi (hf.imp fun D hD => ⟨?_, .inr ⟨g, cs.toArray, rfl, hD.1, hD.2, h3, h4, by simpa using h2, by simpa using h1⟩⟩)
  rw [← h1, List.length_take, h2]
  exact Nat.min_eq_left (Nat.mul_le_mul_right sz h3)
theorem take_get {cs xs : List Value} {m j : Nat} {v : Value} (h : cs.take m = xs) (hj : xs[j]? = some v) : cs[j]? = some v := by
  rw [← h, List.getElem?_take] at hj
  split at hj
  · exact hj
  · cases hj
end

set_option maxHeartbeats 1000000 in
theorem Made_ok' {wb w : World} {R : List Chunk} (H : Own wb R w) (n : Int) (h0 : 0 ≤ n) (h1 : n ≤ 16) (v : Value) (l : List R4) (hr : RawIs wb v l) :
    FnC Try.prog 37 [int n, v] w (fun u w' => ∃ p st q cap ids, u = .tuple [ptr p, .slice q ids.length cap].toArray ∧ MadeOk st n ids ∧ (st, ids) = M.madeF n l ∧ Own wb (SlC q ids.length cap 3 1 (ints ids) :: StoreC p st :: R) w') := by
  obtain ⟨rp, rcap, rfl, hlm, hrl⟩ := hr
  have hmx : (if n < 1 then 1 else n) = max n 1 := by rw [Int.max_def]; split <;> split <;> omega
  have hm1 : 0 < max n 1 := by omega
  refine FnC_of Try.func37 rfl rfl rfl rfl ?_
  refine W_seq ?_
  refine W_region ?_
  refine ops_v (v_assign (v := _) rfl rfl) ?_
  refine ops_v (v_assign (v := _) rfl rfl) ?_
  refine ops_nil ?_
  refine W_seq ?_
  refine W_region ?_
  refine ops_v (v_move (v := (.int _ _)) rfl rfl) ?_
  refine ops_call rfl c26 (New_ok H n 1000 h0 h1 (by decide) (by decide)) ?_
  clear H; rintro _ w ⟨p, rfl, H⟩
  refine ops_v (v_assign (v := (.pointer _)) rfl rfl) ?_
  refine ops_nil ?_
  refine W_seq ?_
  refine W_region ?_
  refine ops_v (v_assign (v := _) rfl rfl) ?_
  refine ops_nil ?_
  refine W_seq ?_
  refine W_seq ?_
  refine W_region ?_
  refine ops_v (v_assign (v := _) rfl rfl) ?_
  refine ops_nil ?_
  refine W_block ?_
  -- (backstaylaw13.Made: loop; chunks S; ptr )
  have H := sl_nil 3 1 H
  refine W_loopS (fun (s : Nat × Option Addr × Nat × List Int × St) => [(0, int n), (1, .slice rp l.length rcap), (6, ptr p), (7, .slice s.2.1 s.2.2.2.1.length s.2.2.1), (8, .int .i64 s.1)])
    (fun s w => Own wb (SlC s.2.1 s.2.2.2.1.length s.2.2.1 3 1 (ints s.2.2.2.1) :: StoreC p s.2.2.2.2 :: R) w ∧ MadeWay s.2.2.2.2 n s.2.2.2.1 s.1 l)
    (fun s => 40 - s.1) (0, none, 0, [], ⟨n.toNat, 1000, []⟩) ⟨rfl, rfl, rfl, rfl, rfl, trivial⟩ ⟨H, ⟨Wf.empty (by omega) (by decide), by simp only; omega, rfl, Nat.zero_le _, Nat.le_refl _, Nat.le_refl _, by simp, by simp, by simp⟩⟩ ?_
  clear H
  rintro ⟨i, q, cap, ids, st⟩ e w ⟨H, hw⟩
  simp only at H hw ⊢
  have hle := hw.le
  by_cases hil : (i : Int) < (l.length : Int)
  · by_cases hi : (i : Int) < 40
    · obtain ⟨r, hri⟩ : ∃ r, l[i]? = some r := ⟨l[i]'(by omega), by simp⟩
      obtain ⟨⟨rb, ro, rfl, hcell⟩, hok⟩ := hrl i r hri
      have hcell' : ∀ w', Own wb (SlC q ids.length cap 3 1 (ints ids) :: StoreC p st :: R) w' → ∀ (j : Nat) (u : Value), (cells4 r)[j]? = some u → w'.cell? ⟨rb, ro + ((i : Int)).toNat * 4 + j, none⟩ = some u := fun w' H' j u hu => by
        rw [Nat.add_assoc]; exact H'.base.cell (hcell j u hu)
      have hroom : st.nodes.length < st.most := by have := hw.few; have := hw.most; omega
      have hm : st.most ≤ 1073741824 := hw.wf.most
      have hsh := hw.short
      have hm63 : ids.length + 1 ≤ maxLen := by unfold maxLen; omega
      have hby : (ids.length + 1) * 8 ≤ 140737488355328 := by omega
      obtain ⟨s1, k, hleaf, l1, l2, l3, l4, l5, l6⟩ := M.leaf_room hw.wf hroom (M.pick r.b 4)
      have hv1 : ∀ b ∈ s1.nodes, b.leaf = true → 0 ≤ b.value ∧ b.value ≤ 3 := by
        have h0 := M.pick_lo (c := r.b) (n := 4) (by decide)
        have h4 := M.pick_hi (c := r.b) (n := 4) (by decide)
        have := M.leaf_vals hw.vals (v := M.pick r.b 4) h0 (by omega)
        rwa [hleaf] at this
      have hints : ints ids ++ [.int .i64 k] = ints (ids ++ [k]) := by simp [ints]
      have hlen1 : (ids ++ [k]).length = ids.length + 1 := by simp
      by_cases h2 : (ids.length : Int) < 2
      · have hways := hw.step (by omega) l1 l2 l4 l3 hv1 hri (by unfold M.madeStep; simp only; rw [if_pos (.inl h2), hleaf])
        refine W_seq ?_
        refine W_seq ?_
        refine W_region ?_
        refine ops_v (v_move (v := (.int _ _)) rfl rfl) ?_
        refine ops_v (v_move (v := (.slice _ _ _)) rfl rfl) ?_
        refine ops_v (v_len rfl sl22 rfl) ?_
        refine ops_v (v_lss true rfl rfl rfl (decide_eq_true (by first | omega | (simp only; omega) | rfl | decide))) ?_
        refine ops_v (v_move (v := (.bool _)) rfl rfl) ?_
        refine ops_v (v_move (v := (.int _ _)) rfl rfl) ?_
        refine ops_v (v_lss true rfl rfl rfl (decide_eq_true (by first | omega | (simp only; omega) | rfl | decide))) ?_
        refine ops_v (v_pick_t (v := (.bool _)) rfl rfl rfl) ?_
        refine ops_nil ?_
        refine W_if_t rfl ?_
        refine W_skip ?_
        refine W_seq ?_
        refine W_block ?_
        refine W_seq ?_
        refine W_region ?_
        refine ops_v (v_move (v := (.slice _ _ _)) rfl rfl) ?_
        refine ops_v (v_move (v := (.int _ _)) rfl rfl) ?_
        refine ops_v (v_indexAddr_sl rfl se22 rfl rfl (by omega) (by omega)) ?_
        refine ops_v (v_loadBase (vs := cells4 r) rfl ta39 (fun w' hw' => by rw [hw']; exact hcell' _ H) rfl rfl) ?_
        refine ops_alloc H rfl tz39 ?_
        clear H; intro bn0 w H
        refine ops_store (vs := [_, _, _, _]) (v := (.agg _)) (cs' := [_, _, _, _]) 0 H rfl ts39 rfl rfl rfl rfl rfl rfl rfl rfl ?_
        clear H; intro w H
        refine ops_nil ?_
        refine W_seq ?_
        refine W_seq ?_
        refine W_region ?_
        refine ops_v (v_move (v := (.slice _ _ _)) rfl rfl) ?_
        refine ops_v (v_len rfl sl40 rfl) ?_
        refine ops_v (v_lss true rfl rfl rfl (decide_eq_true (by first | omega | (simp only; omega) | rfl | decide))) ?_
        refine ops_v (v_move (v := (.bool _)) rfl rfl) ?_
        refine ops_skip rfl rfl ?_
        refine ops_skip rfl rfl ?_
        refine ops_skip rfl rfl ?_
        refine ops_skip rfl rfl ?_
        refine ops_v (v_pick_t (v := (.bool _)) rfl rfl rfl) ?_
        refine ops_nil ?_
        refine W_if_t rfl ?_
        refine W_seq ?_
        refine W_region ?_
        refine ops_v (v_move (v := (.pointer _)) rfl rfl) ?_
        refine ops_v (v_indexAddr_arr rfl ae39 rfl rfl (by first | omega | decide) rfl) ?_
        refine ops_load (v := (.int _ _)) 0 H rfl tc3 rfl rfl rfl ?_
        refine ops_call rfl c25 (pick13_ok H r.b 4 hok.2.1 (by decide)) ?_
        clear H; rintro _ w ⟨rfl, H⟩
        refine ops_call rfl c38 (FnC.at 2 rfl H (fun _ H => Leaf_ok hm hleaf H)) ?_
        clear H; rintro _ w ⟨rfl, H⟩
        refine ops_v (v_move (v := (.tuple _)) rfl rfl) ?_
        refine ops_v (v_extract (v := (.int _ _)) rfl rfl rfl) ?_
        refine ops_v (v_extract (v := (.int _ _)) rfl rfl rfl) ?_
        refine ops_v (v_assign (v := (.int _ _)) rfl rfl) ?_
        refine ops_v (v_assign (v := (.int _ _)) rfl rfl) ?_
        refine ops_nil ?_
        refine W_seq ?_
        refine W_region ?_
        refine ops_v (v_move (v := (.slice _ _ _)) rfl rfl) ?_
        refine ops_v (v_move (v := (.int _ _)) rfl rfl) ?_
        refine ops_buildSlice (cs := [(.int _ _)]) H rfl bs40_1 rfl ?_
        clear H; intro bn1 w H
        refine ops_append (b := bn1) (news := [.int .i64 k]) 2 0 H rfl ap40 rfl rfl rfl rfl rfl rfl hm63 hby ?_
        clear H; intro q' cap' w H
        rw [hints] at H
        refine ops_v (v_assign (v := (.slice _ _ _)) rfl rfl) ?_
        refine ops_nil ?_
        refine W_exit ?_
        refine W_region ?_
        refine ops_v (v_move (v := (.int _ _)) rfl rfl) ?_
        refine ops_v (v_add _ rfl rfl rfl (wrap_in (by omega) (by omega))) ?_
        refine ops_v (v_assign (v := (.int _ _)) rfl rfl) ?_
        refine ops_nil ?_
        refine ⟨(i + 1, q', cap', ids ++ [k], s1), ?_, ⟨rfl, rfl, rfl, ?_, rfl, trivial⟩, ?_, hways⟩
        · show 40 - (i + 1) < 40 - i; omega
        · simp only [hlen1]; rfl
        · simp only [hlen1]; exact H.tail.tail
        -- (backstaylaw13.Made: loopend; chunks n1,n0,s,S; ptr 9=n0,41=n0)
      · obtain ⟨g, rfl⟩ := H.slSome 0 rfl (by omega)
        by_cases h3 : M.pick r.a 3 = 0
        · have hways := hw.step (by omega) l1 l2 l4 l3 hv1 hri (by unfold M.madeStep; simp only; rw [if_pos (.inr h3), hleaf])
          refine W_seq ?_
          refine W_seq ?_
          refine W_region ?_
          refine ops_v (v_move (v := (.int _ _)) rfl rfl) ?_
          refine ops_v (v_move (v := (.slice _ _ _)) rfl rfl) ?_
          refine ops_v (v_len rfl sl22 rfl) ?_
          refine ops_v (v_lss true rfl rfl rfl (decide_eq_true (by first | omega | (simp only; omega) | rfl | decide))) ?_
          refine ops_v (v_move (v := (.bool _)) rfl rfl) ?_
          refine ops_v (v_move (v := (.int _ _)) rfl rfl) ?_
          refine ops_v (v_lss true rfl rfl rfl (decide_eq_true (by first | omega | (simp only; omega) | rfl | decide))) ?_
          refine ops_v (v_pick_t (v := (.bool _)) rfl rfl rfl) ?_
          refine ops_nil ?_
          refine W_if_t rfl ?_
          refine W_skip ?_
          refine W_seq ?_
          refine W_block ?_
          refine W_seq ?_
          refine W_region ?_
          refine ops_v (v_move (v := (.slice _ _ _)) rfl rfl) ?_
          refine ops_v (v_move (v := (.int _ _)) rfl rfl) ?_
          refine ops_v (v_indexAddr_sl rfl se22 rfl rfl (by omega) (by omega)) ?_
          refine ops_v (v_loadBase (vs := cells4 r) rfl ta39 (fun w' hw' => by rw [hw']; exact hcell' _ H) rfl rfl) ?_
          refine ops_alloc H rfl tz39 ?_
          clear H; intro bn0 w H
          refine ops_store (vs := [_, _, _, _]) (v := (.agg _)) (cs' := [_, _, _, _]) 0 H rfl ts39 rfl rfl rfl rfl rfl rfl rfl rfl ?_
          clear H; intro w H
          refine ops_nil ?_
          refine W_seq ?_
          refine W_seq ?_
          refine W_region ?_
          refine ops_v (v_move (v := (.slice _ _ _)) rfl rfl) ?_
          refine ops_v (v_len rfl sl40 rfl) ?_
          refine ops_v (v_lss false rfl rfl rfl (decide_eq_false (by first | omega | (simp only; omega) | rfl | decide))) ?_
          refine ops_v (v_move (v := (.bool _)) rfl rfl) ?_
          refine ops_v (v_indexAddr_arr rfl ae39 rfl rfl (by first | omega | decide) rfl) ?_
          refine ops_load (v := (.int _ _)) 0 H rfl tc3 rfl rfl rfl ?_
          refine ops_call rfl c25 (pick13_ok H r.a 3 hok.1 (by decide)) ?_
          clear H; rintro _ w ⟨rfl, H⟩
          refine ops_v (v_eql true rfl rfl rfl (decide_eq_true (by first | omega | (simp only; omega) | rfl | decide))) ?_
          refine ops_v (v_pick_f (v := (.bool _)) rfl rfl rfl) ?_
          refine ops_nil ?_
          refine W_if_t rfl ?_
          refine W_seq ?_
          refine W_region ?_
          refine ops_v (v_move (v := (.pointer _)) rfl rfl) ?_
          refine ops_v (v_indexAddr_arr rfl ae39 rfl rfl (by first | omega | decide) rfl) ?_
          refine ops_load (v := (.int _ _)) 0 H rfl tc3 rfl rfl rfl ?_
          refine ops_call rfl c25 (pick13_ok H r.b 4 hok.2.1 (by decide)) ?_
          clear H; rintro _ w ⟨rfl, H⟩
          refine ops_call rfl c38 (FnC.at 2 rfl H (fun _ H => Leaf_ok hm hleaf H)) ?_
          clear H; rintro _ w ⟨rfl, H⟩
          refine ops_v (v_move (v := (.tuple _)) rfl rfl) ?_
          refine ops_v (v_extract (v := (.int _ _)) rfl rfl rfl) ?_
          refine ops_v (v_extract (v := (.int _ _)) rfl rfl rfl) ?_
          refine ops_v (v_assign (v := (.int _ _)) rfl rfl) ?_
          refine ops_v (v_assign (v := (.int _ _)) rfl rfl) ?_
          refine ops_nil ?_
          refine W_seq ?_
          refine W_region ?_
          refine ops_v (v_move (v := (.slice _ _ _)) rfl rfl) ?_
          refine ops_v (v_move (v := (.int _ _)) rfl rfl) ?_
          refine ops_buildSlice (cs := [(.int _ _)]) H rfl bs40_1 rfl ?_
          clear H; intro bn1 w H
          refine ops_append (b := bn1) (news := [.int .i64 k]) 2 0 H rfl ap40 rfl rfl rfl rfl rfl rfl hm63 hby ?_
          clear H; intro q' cap' w H
          rw [hints] at H
          refine ops_v (v_assign (v := (.slice _ _ _)) rfl rfl) ?_
          refine ops_nil ?_
          refine W_exit ?_
          refine W_region ?_
          refine ops_v (v_move (v := (.int _ _)) rfl rfl) ?_
          refine ops_v (v_add _ rfl rfl rfl (wrap_in (by omega) (by omega))) ?_
          refine ops_v (v_assign (v := (.int _ _)) rfl rfl) ?_
          refine ops_nil ?_
          refine ⟨(i + 1, q', cap', ids ++ [k], s1), ?_, ⟨rfl, rfl, rfl, ?_, rfl, trivial⟩, ?_, hways⟩
          · show 40 - (i + 1) < 40 - i; omega
          · simp only [hlen1]; rfl
          · simp only [hlen1]; exact H.tail.tail
          -- (backstaylaw13.Made: loopend; chunks n1,n0,s,S; ptr 9=n0,34=n0,41=n0)
        · have hp0 : (0 : Int) < (ids.length : Int) := by omega
          obtain ⟨a, ha⟩ : ∃ a, ids[(M.pick r.c ids.length).toNat]? = some a := ⟨ids[(M.pick r.c ids.length).toNat]'(by have := M.pick_hi (c := r.c) hp0; have := M.pick_lo (c := r.c) hp0; omega), by simp⟩
          obtain ⟨b, hb⟩ : ∃ b, ids[(M.pick r.d ids.length).toNat]? = some b := ⟨ids[(M.pick r.d ids.length).toNat]'(by have := M.pick_hi (c := r.d) hp0; have := M.pick_lo (c := r.d) hp0; omega), by simp⟩
          have ha' : (ints ids)[0 + (M.pick r.c ids.length).toNat * 1]? = some (.int .i64 a) := by rw [Nat.zero_add, Nat.mul_one]; simp [ints, ha]
          have hb' : (ints ids)[0 + (M.pick r.d ids.length).toNat * 1]? = some (.int .i64 b) := by rw [Nat.zero_add, Nat.mul_one]; simp [ints, hb]
          obtain ⟨s2, k2, e2, hmake, m1, m2, m3, m4, m5, m6⟩ := M.make_any hw.wf (M.pick r.b (max n 1)) a b
          have c1 := M.pick_lo (c := r.c) hp0
          have c2 := M.pick_hi (c := r.c) hp0
          have d1 := M.pick_lo (c := r.d) hp0
          have d2 := M.pick_hi (c := r.d) hp0
          have hv2 : ∀ b ∈ s2.nodes, b.leaf = true → 0 ≤ b.value ∧ b.value ≤ 3 := by
            have := M.make_vals hw.vals (M.pick r.b (max n 1)) a b
            rwa [hmake] at this
          have hst : M.madeStep n (st, ids) r = if e2 = 0 then (s2, ids ++ [k2]) else (s2, ids) := by
            unfold M.madeStep
            simp only [List.getD_eq_getElem?_getD, ha, hb, Option.getD_some, hmake]
            rw [if_neg (by omega)]
          have hints2 : ints ids ++ [.int .i64 k2] = ints (ids ++ [k2]) := by simp [ints]
          have hlen2 : (ids ++ [k2]).length = ids.length + 1 := by simp
          by_cases he : e2 = 0
          · subst he
            have hways2 := hw.step (by omega) m1 m2 m4 (m3 rfl) hv2 hri (by rw [hst, if_pos rfl])
            refine W_seq ?_
            refine W_seq ?_
            refine W_region ?_
            refine ops_v (v_move (v := (.int _ _)) rfl rfl) ?_
            refine ops_v (v_move (v := (.slice _ _ _)) rfl rfl) ?_
            refine ops_v (v_len rfl sl22 rfl) ?_
            refine ops_v (v_lss true rfl rfl rfl (decide_eq_true (by first | omega | (simp only; omega) | rfl | decide))) ?_
            refine ops_v (v_move (v := (.bool _)) rfl rfl) ?_
            refine ops_v (v_move (v := (.int _ _)) rfl rfl) ?_
            refine ops_v (v_lss true rfl rfl rfl (decide_eq_true (by first | omega | (simp only; omega) | rfl | decide))) ?_
            refine ops_v (v_pick_t (v := (.bool _)) rfl rfl rfl) ?_
            refine ops_nil ?_
            refine W_if_t rfl ?_
            refine W_skip ?_
            refine W_seq ?_
            refine W_block ?_
            refine W_seq ?_
            refine W_region ?_
            refine ops_v (v_move (v := (.slice _ _ _)) rfl rfl) ?_
            refine ops_v (v_move (v := (.int _ _)) rfl rfl) ?_
            refine ops_v (v_indexAddr_sl rfl se22 rfl rfl (by omega) (by omega)) ?_
            refine ops_v (v_loadBase (vs := cells4 r) rfl ta39 (fun w' hw' => by rw [hw']; exact hcell' _ H) rfl rfl) ?_
            refine ops_alloc H rfl tz39 ?_
            clear H; intro bn0 w H
            refine ops_store (vs := [_, _, _, _]) (v := (.agg _)) (cs' := [_, _, _, _]) 0 H rfl ts39 rfl rfl rfl rfl rfl rfl rfl rfl ?_
            clear H; intro w H
            refine ops_nil ?_
            refine W_seq ?_
            refine W_seq ?_
            refine W_region ?_
            refine ops_v (v_move (v := (.slice _ _ _)) rfl rfl) ?_
            refine ops_v (v_len rfl sl40 rfl) ?_
            refine ops_v (v_lss false rfl rfl rfl (decide_eq_false (by first | omega | (simp only; omega) | rfl | decide))) ?_
            refine ops_v (v_move (v := (.bool _)) rfl rfl) ?_
            refine ops_v (v_indexAddr_arr rfl ae39 rfl rfl (by first | omega | decide) rfl) ?_
            refine ops_load (v := (.int _ _)) 0 H rfl tc3 rfl rfl rfl ?_
            refine ops_call rfl c25 (pick13_ok H r.a 3 hok.1 (by decide)) ?_
            clear H; rintro _ w ⟨rfl, H⟩
            refine ops_v (v_eql false rfl rfl rfl (decide_eq_false (by first | omega | (simp only; omega) | rfl | decide))) ?_
            refine ops_v (v_pick_f (v := (.bool _)) rfl rfl rfl) ?_
            refine ops_nil ?_
            refine W_if_f rfl ?_
            refine W_skip ?_
            refine W_seq ?_
            obtain ⟨cs, t1, t2, t3, t4, H⟩ := H.slToBlk 1 rfl
            refine W_draw (is := [0, 1]) mixed H ?_
            clear H; intro w H
            refine any_take 0 rfl (by kernel_rfl) (by kernel_rfl) (by kernel_rfl) (v_move (v := (.pointer _)) rfl rfl) ?_
            refine any_take 1 rfl (by kernel_rfl) (by kernel_rfl) (by kernel_rfl) (v_indexAddr_arr rfl ae39 rfl rfl (by first | omega | decide) rfl) ?_
            refine any_take 2 rfl (by kernel_rfl) (by kernel_rfl) (by kernel_rfl) (v_load (v := (.int _ _)) rfl tc3 (fun _ hS => hS.1 _ _ _ rfl) rfl rfl) ?_
            refine any_take 3 rfl (by kernel_rfl) (by kernel_rfl) (by kernel_rfl) (v_move (v := (.int _ _)) rfl rfl) ?_
            refine any_take 4 rfl (by kernel_rfl) (by kernel_rfl) (by kernel_rfl) (v_max (c := max n 1) rfl rfl rfl hmx) ?_
            refine any_take 6 rfl (by kernel_rfl) (by kernel_rfl) (by kernel_rfl) (v_move (v := (.slice _ _ _)) rfl rfl) ?_
            refine any_take 7 rfl (by kernel_rfl) (by kernel_rfl) (by kernel_rfl) (v_indexAddr_arr rfl ae39 rfl rfl (by first | omega | decide) rfl) ?_
            refine any_take 8 rfl (by kernel_rfl) (by kernel_rfl) (by kernel_rfl) (v_load (v := (.int _ _)) rfl tc3 (fun _ hS => hS.1 _ _ _ rfl) rfl rfl) ?_
            refine any_take 9 rfl (by kernel_rfl) (by kernel_rfl) (by kernel_rfl) (v_move (v := (.slice _ _ _)) rfl rfl) ?_
            refine any_take 10 rfl (by kernel_rfl) (by kernel_rfl) (by kernel_rfl) (v_len rfl sl40 rfl) ?_
            refine any_take 14 rfl (by kernel_rfl) (by kernel_rfl) (by kernel_rfl) (v_move (v := (.slice _ _ _)) rfl rfl) ?_
            refine any_take 15 rfl (by kernel_rfl) (by kernel_rfl) (by kernel_rfl) (v_indexAddr_arr rfl ae39 rfl rfl (by first | omega | decide) rfl) ?_
            refine any_take 16 rfl (by kernel_rfl) (by kernel_rfl) (by kernel_rfl) (v_load (v := (.int _ _)) rfl tc3 (fun _ hS => hS.1 _ _ _ rfl) rfl rfl) ?_
            refine any_take 17 rfl (by kernel_rfl) (by kernel_rfl) (by kernel_rfl) (v_move (v := (.slice _ _ _)) rfl rfl) ?_
            refine any_take 18 rfl (by kernel_rfl) (by kernel_rfl) (by kernel_rfl) (v_len rfl sl40 rfl) ?_
            refine any_one 5 rfl (by kernel_rfl) ?_
            refine ops_call rfl c25 (pick13_ok H r.b (max n 1) hok.2.1 hm1) ?_
            clear H; rintro _ w ⟨rfl, H⟩
            refine ops_nil ⟨H.stab [(0, 0), (1, 1)] ⟨rfl, rfl, trivial⟩, ?_⟩
            refine any_one 11 rfl (by kernel_rfl) ?_
            refine ops_call rfl c25 (pick13_ok H r.c ids.length hok.2.2.1 hp0) ?_
            clear H; rintro _ w ⟨rfl, H⟩
            refine ops_nil ⟨H.stab [(0, 0), (1, 1)] ⟨rfl, rfl, trivial⟩, ?_⟩
            refine any_take 12 rfl (by kernel_rfl) (by kernel_rfl) (by kernel_rfl) (v_indexAddr_sl rfl se40 rfl rfl (by omega) (by omega)) ?_
            refine any_take 13 rfl (by kernel_rfl) (by kernel_rfl) (by kernel_rfl) (v_load (v := .int .i64 a) rfl tc3 (fun _ hS => hS.2.1 _ _ _ rfl) rfl (take_get t1 ha')) ?_
            refine any_one 19 rfl (by kernel_rfl) ?_
            refine ops_call rfl c25 (pick13_ok H r.d ids.length hok.2.2.2 hp0) ?_
            clear H; rintro _ w ⟨rfl, H⟩
            refine ops_nil ⟨H.stab [(0, 0), (1, 1)] ⟨rfl, rfl, trivial⟩, ?_⟩
            refine any_take 20 rfl (by kernel_rfl) (by kernel_rfl) (by kernel_rfl) (v_indexAddr_sl rfl se40 rfl rfl (by omega) (by omega)) ?_
            refine any_take 21 rfl (by kernel_rfl) (by kernel_rfl) (by kernel_rfl) (v_load (v := .int .i64 b) rfl tc3 (fun _ hS => hS.2.1 _ _ _ rfl) rfl (take_get t1 hb')) ?_
            refine any_one 22 rfl (by kernel_rfl) ?_
            refine ops_call rfl c39 (FnC.at 2 rfl H (fun _ H => Make_ok hm hmake H)) ?_
            clear H; rintro _ w ⟨rfl, H⟩
            refine ops_nil ⟨H.stab [(0, 0), (1, 1)] ⟨rfl, rfl, trivial⟩, ?_⟩
            refine any_take 23 rfl (by kernel_rfl) (by kernel_rfl) (by kernel_rfl) (v_move (v := (.tuple _)) rfl rfl) ?_
            refine any_take 24 rfl (by kernel_rfl) (by kernel_rfl) (by kernel_rfl) (v_extract (v := (.int _ _)) rfl rfl rfl) ?_
            refine any_take 25 rfl (by kernel_rfl) (by kernel_rfl) (by kernel_rfl) (v_extract (v := (.int _ _)) rfl rfl rfl) ?_
            refine any_take 26 rfl (by kernel_rfl) (by kernel_rfl) (by kernel_rfl) (v_assign (v := (.int _ _)) rfl rfl) ?_
            refine any_take 27 rfl (by kernel_rfl) (by kernel_rfl) (by kernel_rfl) (v_assign (v := (.int _ _)) rfl rfl) ?_
            refine any_done (by kernel_rfl) ?_
            refine W_seq ?_
            have H := H.blkToSlAt 1 rfl t1 t2 t3 t4
            refine W_region ?_
            refine ops_v (v_move (v := (.int _ _)) rfl rfl) ?_
            refine ops_v (v_eql true rfl rfl rfl (decide_eq_true (by first | omega | (simp only; omega) | rfl | decide))) ?_
            refine ops_nil ?_
            refine W_if_t rfl ?_
            refine W_region ?_
            refine ops_v (v_move (v := (.slice _ _ _)) rfl rfl) ?_
            refine ops_v (v_move (v := (.int _ _)) rfl rfl) ?_
            refine ops_buildSlice (cs := [(.int _ _)]) H rfl bs40_1 rfl ?_
            clear H; intro bn1 w H
            refine ops_append (b := bn1) (news := [.int .i64 k2]) 2 0 H rfl ap40 rfl rfl rfl rfl rfl rfl hm63 hby ?_
            clear H; intro q' cap' w H
            rw [hints2] at H
            refine ops_v (v_assign (v := (.slice _ _ _)) rfl rfl) ?_
            refine ops_nil ?_
            refine W_region ?_
            refine ops_v (v_move (v := (.int _ _)) rfl rfl) ?_
            refine ops_v (v_add _ rfl rfl rfl (wrap_in (by omega) (by omega))) ?_
            refine ops_v (v_assign (v := (.int _ _)) rfl rfl) ?_
            refine ops_nil ?_
            refine ⟨(i + 1, q', cap', ids ++ [k2], s2), ?_, ⟨rfl, rfl, rfl, ?_, rfl, trivial⟩, ?_, hways2⟩
            · show 40 - (i + 1) < 40 - i; omega
            · simp only [hlen2]; rfl
            · simp only [hlen2]; exact H.tail.tail
            -- (backstaylaw13.Made: loopend; chunks n1,n0,s,S; ptr 9=n0,34=n0,53=n0,59=n0)
          · have hways2 := hw.stay (by omega) m1 m2 m4 hv2 hri (by rw [hst, if_neg he])
            refine W_seq ?_
            refine W_seq ?_
            refine W_region ?_
            refine ops_v (v_move (v := (.int _ _)) rfl rfl) ?_
            refine ops_v (v_move (v := (.slice _ _ _)) rfl rfl) ?_
            refine ops_v (v_len rfl sl22 rfl) ?_
            refine ops_v (v_lss true rfl rfl rfl (decide_eq_true (by first | omega | (simp only; omega) | rfl | decide))) ?_
            refine ops_v (v_move (v := (.bool _)) rfl rfl) ?_
            refine ops_v (v_move (v := (.int _ _)) rfl rfl) ?_
            refine ops_v (v_lss true rfl rfl rfl (decide_eq_true (by first | omega | (simp only; omega) | rfl | decide))) ?_
            refine ops_v (v_pick_t (v := (.bool _)) rfl rfl rfl) ?_
            refine ops_nil ?_
            refine W_if_t rfl ?_
            refine W_skip ?_
            refine W_seq ?_
            refine W_block ?_
            refine W_seq ?_
            refine W_region ?_
            refine ops_v (v_move (v := (.slice _ _ _)) rfl rfl) ?_
            refine ops_v (v_move (v := (.int _ _)) rfl rfl) ?_
            refine ops_v (v_indexAddr_sl rfl se22 rfl rfl (by omega) (by omega)) ?_
            refine ops_v (v_loadBase (vs := cells4 r) rfl ta39 (fun w' hw' => by rw [hw']; exact hcell' _ H) rfl rfl) ?_
            refine ops_alloc H rfl tz39 ?_
            clear H; intro bn0 w H
            refine ops_store (vs := [_, _, _, _]) (v := (.agg _)) (cs' := [_, _, _, _]) 0 H rfl ts39 rfl rfl rfl rfl rfl rfl rfl rfl ?_
            clear H; intro w H
            refine ops_nil ?_
            refine W_seq ?_
            refine W_seq ?_
            refine W_region ?_
            refine ops_v (v_move (v := (.slice _ _ _)) rfl rfl) ?_
            refine ops_v (v_len rfl sl40 rfl) ?_
            refine ops_v (v_lss false rfl rfl rfl (decide_eq_false (by first | omega | (simp only; omega) | rfl | decide))) ?_
            refine ops_v (v_move (v := (.bool _)) rfl rfl) ?_
            refine ops_v (v_indexAddr_arr rfl ae39 rfl rfl (by first | omega | decide) rfl) ?_
            refine ops_load (v := (.int _ _)) 0 H rfl tc3 rfl rfl rfl ?_
            refine ops_call rfl c25 (pick13_ok H r.a 3 hok.1 (by decide)) ?_
            clear H; rintro _ w ⟨rfl, H⟩
            refine ops_v (v_eql false rfl rfl rfl (decide_eq_false (by first | omega | (simp only; omega) | rfl | decide))) ?_
            refine ops_v (v_pick_f (v := (.bool _)) rfl rfl rfl) ?_
            refine ops_nil ?_
            refine W_if_f rfl ?_
            refine W_skip ?_
            refine W_seq ?_
            obtain ⟨cs, t1, t2, t3, t4, H⟩ := H.slToBlk 1 rfl
            refine W_draw (is := [0, 1]) mixed H ?_
            clear H; intro w H
            refine any_take 0 rfl (by kernel_rfl) (by kernel_rfl) (by kernel_rfl) (v_move (v := (.pointer _)) rfl rfl) ?_
            refine any_take 1 rfl (by kernel_rfl) (by kernel_rfl) (by kernel_rfl) (v_indexAddr_arr rfl ae39 rfl rfl (by first | omega | decide) rfl) ?_
            refine any_take 2 rfl (by kernel_rfl) (by kernel_rfl) (by kernel_rfl) (v_load (v := (.int _ _)) rfl tc3 (fun _ hS => hS.1 _ _ _ rfl) rfl rfl) ?_
            refine any_take 3 rfl (by kernel_rfl) (by kernel_rfl) (by kernel_rfl) (v_move (v := (.int _ _)) rfl rfl) ?_
            refine any_take 4 rfl (by kernel_rfl) (by kernel_rfl) (by kernel_rfl) (v_max (c := max n 1) rfl rfl rfl hmx) ?_
            refine any_take 6 rfl (by kernel_rfl) (by kernel_rfl) (by kernel_rfl) (v_move (v := (.slice _ _ _)) rfl rfl) ?_
            refine any_take 7 rfl (by kernel_rfl) (by kernel_rfl) (by kernel_rfl) (v_indexAddr_arr rfl ae39 rfl rfl (by first | omega | decide) rfl) ?_
            refine any_take 8 rfl (by kernel_rfl) (by kernel_rfl) (by kernel_rfl) (v_load (v := (.int _ _)) rfl tc3 (fun _ hS => hS.1 _ _ _ rfl) rfl rfl) ?_
            refine any_take 9 rfl (by kernel_rfl) (by kernel_rfl) (by kernel_rfl) (v_move (v := (.slice _ _ _)) rfl rfl) ?_
            refine any_take 10 rfl (by kernel_rfl) (by kernel_rfl) (by kernel_rfl) (v_len rfl sl40 rfl) ?_
            refine any_take 14 rfl (by kernel_rfl) (by kernel_rfl) (by kernel_rfl) (v_move (v := (.slice _ _ _)) rfl rfl) ?_
            refine any_take 15 rfl (by kernel_rfl) (by kernel_rfl) (by kernel_rfl) (v_indexAddr_arr rfl ae39 rfl rfl (by first | omega | decide) rfl) ?_
            refine any_take 16 rfl (by kernel_rfl) (by kernel_rfl) (by kernel_rfl) (v_load (v := (.int _ _)) rfl tc3 (fun _ hS => hS.1 _ _ _ rfl) rfl rfl) ?_
            refine any_take 17 rfl (by kernel_rfl) (by kernel_rfl) (by kernel_rfl) (v_move (v := (.slice _ _ _)) rfl rfl) ?_
            refine any_take 18 rfl (by kernel_rfl) (by kernel_rfl) (by kernel_rfl) (v_len rfl sl40 rfl) ?_
            refine any_one 5 rfl (by kernel_rfl) ?_
            refine ops_call rfl c25 (pick13_ok H r.b (max n 1) hok.2.1 hm1) ?_
            clear H; rintro _ w ⟨rfl, H⟩
            refine ops_nil ⟨H.stab [(0, 0), (1, 1)] ⟨rfl, rfl, trivial⟩, ?_⟩
            refine any_one 11 rfl (by kernel_rfl) ?_
            refine ops_call rfl c25 (pick13_ok H r.c ids.length hok.2.2.1 hp0) ?_
            clear H; rintro _ w ⟨rfl, H⟩
            refine ops_nil ⟨H.stab [(0, 0), (1, 1)] ⟨rfl, rfl, trivial⟩, ?_⟩
            refine any_take 12 rfl (by kernel_rfl) (by kernel_rfl) (by kernel_rfl) (v_indexAddr_sl rfl se40 rfl rfl (by omega) (by omega)) ?_
            refine any_take 13 rfl (by kernel_rfl) (by kernel_rfl) (by kernel_rfl) (v_load (v := .int .i64 a) rfl tc3 (fun _ hS => hS.2.1 _ _ _ rfl) rfl (take_get t1 ha')) ?_
            refine any_one 19 rfl (by kernel_rfl) ?_
            refine ops_call rfl c25 (pick13_ok H r.d ids.length hok.2.2.2 hp0) ?_
            clear H; rintro _ w ⟨rfl, H⟩
            refine ops_nil ⟨H.stab [(0, 0), (1, 1)] ⟨rfl, rfl, trivial⟩, ?_⟩
            refine any_take 20 rfl (by kernel_rfl) (by kernel_rfl) (by kernel_rfl) (v_indexAddr_sl rfl se40 rfl rfl (by omega) (by omega)) ?_
            refine any_take 21 rfl (by kernel_rfl) (by kernel_rfl) (by kernel_rfl) (v_load (v := .int .i64 b) rfl tc3 (fun _ hS => hS.2.1 _ _ _ rfl) rfl (take_get t1 hb')) ?_
            refine any_one 22 rfl (by kernel_rfl) ?_
            refine ops_call rfl c39 (FnC.at 2 rfl H (fun _ H => Make_ok hm hmake H)) ?_
            clear H; rintro _ w ⟨rfl, H⟩
            refine ops_nil ⟨H.stab [(0, 0), (1, 1)] ⟨rfl, rfl, trivial⟩, ?_⟩
            refine any_take 23 rfl (by kernel_rfl) (by kernel_rfl) (by kernel_rfl) (v_move (v := (.tuple _)) rfl rfl) ?_
            refine any_take 24 rfl (by kernel_rfl) (by kernel_rfl) (by kernel_rfl) (v_extract (v := (.int _ _)) rfl rfl rfl) ?_
            refine any_take 25 rfl (by kernel_rfl) (by kernel_rfl) (by kernel_rfl) (v_extract (v := (.int _ _)) rfl rfl rfl) ?_
            refine any_take 26 rfl (by kernel_rfl) (by kernel_rfl) (by kernel_rfl) (v_assign (v := (.int _ _)) rfl rfl) ?_
            refine any_take 27 rfl (by kernel_rfl) (by kernel_rfl) (by kernel_rfl) (v_assign (v := (.int _ _)) rfl rfl) ?_
            refine any_done (by kernel_rfl) ?_
            refine W_seq ?_
            have H := H.blkToSlAt 1 rfl t1 t2 t3 t4
            refine W_region ?_
            refine ops_v (v_move (v := (.int _ _)) rfl rfl) ?_
            refine ops_v (v_eql false rfl rfl rfl (decide_eq_false (by first | omega | (simp only; omega) | rfl | decide))) ?_
            refine ops_nil ?_
            refine W_if_f rfl ?_
            refine W_skip ?_
            refine W_region ?_
            refine ops_v (v_move (v := (.int _ _)) rfl rfl) ?_
            refine ops_v (v_add _ rfl rfl rfl (wrap_in (by omega) (by omega))) ?_
            refine ops_v (v_assign (v := (.int _ _)) rfl rfl) ?_
            refine ops_nil ?_
            refine ⟨(i + 1, some ⟨g, 0, none⟩, cap, ids, s2), ?_, ⟨rfl, rfl, rfl, rfl, rfl, trivial⟩, H.tail, hways2⟩
            show 40 - (i + 1) < 40 - i; omega
            -- (backstaylaw13.Made: loopend; chunks n0,s,S; ptr 9=n0,34=n0,53=n0,59=n0)
    · refine W_seq ?_
      refine W_seq ?_
      refine W_region ?_
      refine ops_v (v_move (v := (.int _ _)) rfl rfl) ?_
      refine ops_v (v_move (v := (.slice _ _ _)) rfl rfl) ?_
      refine ops_v (v_len rfl sl22 rfl) ?_
      refine ops_v (v_lss true rfl rfl rfl (decide_eq_true (by first | omega | (simp only; omega) | rfl | decide))) ?_
      refine ops_v (v_move (v := (.bool _)) rfl rfl) ?_
      refine ops_v (v_move (v := (.int _ _)) rfl rfl) ?_
      refine ops_v (v_lss false rfl rfl rfl (decide_eq_false (by first | omega | (simp only; omega) | rfl | decide))) ?_
      refine ops_v (v_pick_t (v := (.bool _)) rfl rfl rfl) ?_
      refine ops_nil ?_
      refine W_if_f rfl ?_
      refine W_exit ?_
      refine W_seq ?_
      refine W_region ?_
      refine ops_v (v_move (v := (.pointer _)) rfl rfl) ?_
      refine ops_v (v_move (v := (.slice _ _ _)) rfl rfl) ?_
      refine ops_v (v_assign (v := (.pointer _)) rfl rfl) ?_
      refine ops_v (v_assign (v := (.slice _ _ _)) rfl rfl) ?_
      refine ops_nil ?_
      refine W_ret ?_
      refine ⟨_, (.tmp (v := (.pointer _)) rfl (.tmp (v := (.slice _ _ _)) rfl .nil)), ?_⟩
      exact ⟨p, st, q, cap, ids, rfl, hw.made', hw.last (by omega), H⟩
      -- (backstaylaw13.Made: ret; chunks s,S; ptr )
  · refine W_seq ?_
    refine W_seq ?_
    refine W_region ?_
    refine ops_v (v_move (v := (.int _ _)) rfl rfl) ?_
    refine ops_v (v_move (v := (.slice _ _ _)) rfl rfl) ?_
    refine ops_v (v_len rfl sl22 rfl) ?_
    refine ops_v (v_lss false rfl rfl rfl (decide_eq_false (by first | omega | (simp only; omega) | rfl | decide))) ?_
    refine ops_v (v_move (v := (.bool _)) rfl rfl) ?_
    refine ops_skip rfl rfl ?_
    refine ops_skip rfl rfl ?_
    refine ops_v (v_pick_f (v := (.bool _)) rfl rfl rfl) ?_
    refine ops_nil ?_
    refine W_if_f rfl ?_
    refine W_exit ?_
    refine W_seq ?_
    refine W_region ?_
    refine ops_v (v_move (v := (.pointer _)) rfl rfl) ?_
    refine ops_v (v_move (v := (.slice _ _ _)) rfl rfl) ?_
    refine ops_v (v_assign (v := (.pointer _)) rfl rfl) ?_
    refine ops_v (v_assign (v := (.slice _ _ _)) rfl rfl) ?_
    refine ops_nil ?_
    refine W_ret ?_
    refine ⟨_, (.tmp (v := (.pointer _)) rfl (.tmp (v := (.slice _ _ _)) rfl .nil)), ?_⟩
    exact ⟨p, st, q, cap, ids, rfl, hw.made', hw.last (by omega), H⟩
    -- (backstaylaw13.Made: ret; chunks s,S; ptr )
theorem Made_ok {wb w : World} {R : List Chunk} (H : Own wb R w) (n : Int) (h0 : 0 ≤ n) (h1 : n ≤ 16) (v : Value) (l : List R4) (hr : RawIs wb v l) :
    FnC Try.prog 37 [int n, v] w (fun u w' => ∃ p st q cap ids, u = .tuple [ptr p, .slice q ids.length cap].toArray ∧ MadeOk st n ids ∧ Own wb (SlC q ids.length cap 3 1 (ints ids) :: StoreC p st :: R) w') :=
  (Made_ok' H n h0 h1 v l hr).mono fun _ _ ⟨p, st, q, cap, ids, e, hm, _, H⟩ => ⟨p, st, q, cap, ids, e, hm, H⟩
end Go.Proofs.Ytchikjmhncojfaa.W
