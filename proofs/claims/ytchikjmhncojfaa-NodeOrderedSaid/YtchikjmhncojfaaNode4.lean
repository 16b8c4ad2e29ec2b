/- The walk of (*node.Store).Count. Conditions: none. -/
import Derived.Test.YtchikjmhncojfaaNode3
import Derived.Test.YtchikjmhncojfaaCountM
namespace Go.Proofs.Ytchikjmhncojfaa.W
open Go Go.Proofs Go.RowKit
open Go.Proofs.Ytchikjmhncojfaa.M (Br St get getZ isN idx has down Wf rank Dfs)

def unit : Value := .agg ([] : List Value).toArray
def seenL (sn : List Int) : List (Int × Value) := sn.map fun i => (i, unit)
theorem look_seen (n : Int) : ∀ (sn : List Int), look (seenL sn) n = if n ∈ sn then some unit else none
  | [] => rfl
  | x :: sn => by
    show look ((x, unit) :: seenL sn) n = _
    rw [look_cons, look_seen n sn]
    by_cases h : n = x
    · simp [h]
    · simp [h]
theorem keyI : KeyLaw Try.prog 3 encI := keyLaw_int Try.underlying3
theorem zeroUnit (w : World) : (zeroValue 77).run Try.prog w = .ok unit w := by kernel_rfl
theorem Own.blkToSl {wb w : World} {b el sz k : Nat} {cs : List Value} {R : List Chunk} (H : Own wb (Blk b cs el :: R) w) (hl : cs.length = k * sz) (hm : k ≤ maxLen) : Own wb (SlC (some ⟨b, 0, none⟩) k k el sz cs :: R) w :=
  H.imp fun D hD => ⟨hl, .inr ⟨b, cs.toArray, rfl, hD.1, hD.2, Nat.le_refl _, hm, by simp [hl], by rw [← hl]; simp⟩⟩
def ints (l : List Int) : List Value := l.map fun i => .int .i64 i

set_option maxHeartbeats 1000000 in
theorem Count_ok {wb w : World} {p : Nat} {st : St} {R : List Chunk} (hw : Wf st) (id : Int) (H : Own wb (StoreC p st :: R) w) :
    FnC Try.prog 35 [ptr p, int id] w (fun v w' => v = .int .i64 (M.count st id) ∧ Own wb (StoreC p st :: R) w') := by
  refine FnC_of Try.func35 rfl rfl rfl rfl ?_
  refine W_seq ?_
  refine W_region ?_
  refine ops_v (v_assign (v := _) rfl rfl) ?_
  refine ops_nil ?_
  refine W_seq ?_
  refine W_region ?_
  refine ops_makeMap H encI rfl ?_
  clear H; intro m w H
  refine ops_v (v_assign (v := (.map _)) rfl rfl) ?_
  refine ops_nil ?_
  refine W_seq ?_
  refine W_seq ?_
  refine W_region ?_
  refine ops_v (v_move (v := (.int _ _)) rfl rfl) ?_
  refine ops_buildSlice (cs := [.int _ _]) H rfl bs40_1 rfl ?_
  clear H; intro g w H
  refine ops_v (v_assign (v := (.slice _ _ _)) rfl rfl) ?_
  refine ops_nil ?_
  refine W_block ?_
  -- ((*node.Store).Count: loop; chunks m,S; ptr )
  have H := H.blkToSl (sz := 1) (k := 1) rfl (by decide)
  refine W_loopS (fun (s : Option Addr × Nat × List Int × List Int) => [(0, ptr p), (5, .map (some m)), (6, .slice s.1 s.2.2.2.length s.2.1)])
    (fun s w => Own wb (SlC s.1 s.2.2.2.length s.2.1 3 1 (ints s.2.2.2) :: MapC encI m (seenL s.2.2.1) :: StoreC p st :: R) w ∧ Dfs st id s.2.2.1 s.2.2.2)
    (fun s => 3 * (st.nodes.length - s.2.2.1.length) + s.2.2.2.length) (some ⟨g, 0, none⟩, 1, [], [id]) ⟨rfl, rfl, rfl, trivial⟩ ⟨H, Dfs.start st id⟩ ?_
  clear H
  rintro ⟨q, cap, sn, stk⟩ e w ⟨H, hd⟩
  simp only at H hd ⊢
  have hlens := hd.lens hw
  rcases List.eq_nil_or_concat stk with rfl | ⟨stk', n, rfl⟩
  · have hc := hd.done hw
    have hz : (List.length ([] : List Int)) = 0 := rfl
    refine W_seq ?_
    refine W_seq ?_
    refine W_region ?_
    refine ops_v (v_move (v := (.slice _ _ _)) rfl rfl) ?_
    refine ops_v (v_len rfl sl40 rfl) ?_
    refine ops_v (v_gtr false rfl rfl rfl (decide_eq_false (by first | omega | (simp only; omega) | rfl | decide))) ?_
    refine ops_nil ?_
    refine W_if_f rfl ?_
    refine W_exit ?_
    refine W_seq ?_
    refine W_region ?_
    refine ops_v (v_move (v := (.map _)) rfl rfl) ?_
    refine ops_v (v_lenMap (l := seenL sn) Try.underlying76 rfl rfl (fun w' hw' => by rw [hw']; exact H.map 1 rfl)) ?_
    refine ops_v (v_assign (v := (.int _ _)) rfl rfl) ?_
    refine ops_nil ?_
    refine W_ret ?_
    refine ⟨_, (.tmp (v := (.int _ _)) rfl .nil), ?_⟩
    exact ⟨by rw [← hc]; simp [packV, seenL], H.tail.tail⟩
    -- ((*node.Store).Count: ret; chunks s,m,S; ptr )
  · have hlen : (stk' ++ [n]).length = stk'.length + 1 := by simp
    have hsk := hd.len
    rw [List.concat_eq_append] at *
    rw [hlen] at H hsk ⊢
    have hle : stk'.length ≤ stk'.length + 1 := by omega
    obtain ⟨g, rfl⟩ := H.slSome 0 rfl (by omega)
    have hcap : stk'.length ≤ cap := by
      obtain ⟨D, hD⟩ := H.at 0 rfl
      rcases hD.2 with ⟨h0, _⟩ | ⟨_, _, _, _, _, h4, _⟩
      · cases h0
      · omega
    have hv : (ints (stk' ++ [n]))[0 + ((stk'.length : Int)).toNat * 1]? = some (.int .i64 n) := by
      have : 0 + ((stk'.length : Int)).toNat * 1 = stk'.length := by omega
      rw [this]
      simp [ints]
    have hx : (ints (stk' ++ [n])).take (stk'.length * 1) = ints stk' := by simp [ints]
    have hm63 : stk'.length + 2 ≤ maxLen := by have := hw.room; have := hw.most; unfold maxLen; omega
    have hby : (stk'.length + 2) * 8 ≤ 140737488355328 := by have := hw.room; have := hw.most; omega
    have hbd : stk'.length ≤ 2000000000 := by have := hw.room; have := hw.most; omega
    by_cases hin : n ∈ sn
    · have hlk : look (seenL sn) n = some unit := by rw [look_seen, if_pos hin]
      have hd' := hd.skip hw (.inl hin)
      refine W_seq ?_
      refine W_seq ?_
      refine W_region ?_
      refine ops_v (v_move (v := (.slice _ _ _)) rfl rfl) ?_
      refine ops_v (v_len rfl sl40 rfl) ?_
      refine ops_v (v_gtr true rfl rfl rfl (decide_eq_true (by first | omega | (simp only; omega) | rfl | decide))) ?_
      refine ops_nil ?_
      refine W_if_t rfl ?_
      refine W_skip ?_
      refine W_block ?_
      refine W_seq ?_
      refine W_region ?_
      refine ops_v (v_move (v := (.slice _ _ _)) rfl rfl) ?_
      refine ops_v (v_len rfl sl40 rfl) ?_
      refine ops_v (v_sub (stk'.length : Int) rfl rfl rfl (by rw [wrap_in (by omega) (by omega)]; omega)) ?_
      refine ops_v (v_assign (v := (.int _ _)) rfl rfl) ?_
      refine ops_nil ?_
      refine W_seq ?_
      refine W_region ?_
      refine ops_v (v_move (v := (.slice _ _ _)) rfl rfl) ?_
      refine ops_v (v_move (v := (.int _ _)) rfl rfl) ?_
      refine ops_v (v_indexAddr_sl rfl se40 rfl rfl (by omega) (by omega)) ?_
      refine ops_loadSl (v := .int .i64 n) 0 H rfl tc3 rfl rfl hv ?_
      refine ops_v (v_assign (v := (.int _ _)) rfl rfl) ?_
      refine ops_nil ?_
      refine W_seq ?_
      refine W_region ?_
      refine ops_v (v_move (v := (.slice _ _ _)) rfl rfl) ?_
      refine ops_v (v_move (v := (.int _ _)) rfl rfl) ?_
      refine ops_v (v_sliceHi rfl se40 rfl rfl hcap) ?_
      refine ops_v (v_assign (v := (.slice _ _ _)) rfl rfl) ?_
      refine ops_nil ?_
      refine W_seq ?_
      have H := H.slTake stk'.length hle
      rw [hx] at H
      refine W_region ?_
      refine ops_v (v_move (v := (.pointer _)) rfl rfl) ?_
      refine ops_v (v_move (v := (.int _ _)) rfl rfl) ?_
      refine ops_call rfl c31 (FnC.ro 2 rfl H (fun _ => NodeZ_ok n)) ?_
      clear H; rintro _ w ⟨rfl, H⟩
      refine ops_v (v_move (v := (.tuple _)) rfl rfl) ?_
      refine ops_v (v_extract (v := (.agg _)) rfl rfl rfl) ?_
      refine ops_v (v_extract (v := (.bool _)) rfl rfl rfl) ?_
      refine ops_alloc H rfl tz42 ?_
      clear H; intro bn0 w H
      refine ops_store (vs := [_, _, _, _, _]) (v := (.agg _)) (cs' := [_, _, _, _, _]) 0 H rfl ts42 rfl rfl rfl rfl rfl rfl rfl rfl ?_
      clear H; intro w H
      refine ops_v (v_assign (v := (.bool _)) rfl rfl) ?_
      refine ops_nil ?_
      refine W_seq ?_
      refine W_seq ?_
      refine W_region ?_
      refine ops_v (v_move (v := (.map _)) rfl rfl) ?_
      refine ops_v (v_move (v := (.int _ _)) rfl rfl) ?_
      refine ops_lookup 2 H keyI Try.underlying76 zeroUnit rfl rfl rfl rfl hlk ?_
      refine ops_v (v_move (v := (.tuple _)) rfl rfl) ?_
      refine ops_v (v_extract (v := (.agg _)) rfl rfl rfl) ?_
      refine ops_v (v_extract (v := (.bool _)) rfl rfl rfl) ?_
      refine ops_alloc H rfl tz77 ?_
      clear H; intro bn1 w H
      refine ops_store (vs := []) (v := (.agg _)) (cs' := []) 0 H rfl ts77 rfl rfl rfl rfl rfl rfl rfl rfl ?_
      clear H; intro w H
      refine ops_v (v_assign (v := (.bool _)) rfl rfl) ?_
      refine ops_nil ?_
      refine W_seq ?_
      refine W_region ?_
      refine ops_v (v_move (v := (.bool _)) rfl rfl) ?_
      refine ops_v (v_move (v := (.bool _)) rfl rfl) ?_
      refine ops_skip rfl rfl ?_
      refine ops_skip rfl rfl ?_
      refine ops_v (v_pick_t (v := (.bool _)) rfl rfl rfl) ?_
      refine ops_nil ?_
      refine W_if_t rfl ?_
      refine W_exit ?_
      exact ⟨(some ⟨g, 0, none⟩, cap, sn, stk'), by simp, ⟨rfl, rfl, rfl, trivial⟩, H.tail.tail, hd'⟩
      -- ((*node.Store).Count: loopend; chunks n1,n0,s,m,S; ptr 9=n0,11=n1)
    · have hlk : look (seenL sn) n = none := by rw [look_seen, if_neg hin]
      cases hg : get st n with
      | none =>
        have e1 : isN st n = false := by simp [isN, hg]
        have hd' := hd.skip hw (.inr e1)
        refine W_seq ?_
        refine W_seq ?_
        refine W_region ?_
        refine ops_v (v_move (v := (.slice _ _ _)) rfl rfl) ?_
        refine ops_v (v_len rfl sl40 rfl) ?_
        refine ops_v (v_gtr true rfl rfl rfl (decide_eq_true (by first | omega | (simp only; omega) | rfl | decide))) ?_
        refine ops_nil ?_
        refine W_if_t rfl ?_
        refine W_skip ?_
        refine W_block ?_
        refine W_seq ?_
        refine W_region ?_
        refine ops_v (v_move (v := (.slice _ _ _)) rfl rfl) ?_
        refine ops_v (v_len rfl sl40 rfl) ?_
        refine ops_v (v_sub (stk'.length : Int) rfl rfl rfl (by rw [wrap_in (by omega) (by omega)]; omega)) ?_
        refine ops_v (v_assign (v := (.int _ _)) rfl rfl) ?_
        refine ops_nil ?_
        refine W_seq ?_
        refine W_region ?_
        refine ops_v (v_move (v := (.slice _ _ _)) rfl rfl) ?_
        refine ops_v (v_move (v := (.int _ _)) rfl rfl) ?_
        refine ops_v (v_indexAddr_sl rfl se40 rfl rfl (by omega) (by omega)) ?_
        refine ops_loadSl (v := .int .i64 n) 0 H rfl tc3 rfl rfl hv ?_
        refine ops_v (v_assign (v := (.int _ _)) rfl rfl) ?_
        refine ops_nil ?_
        refine W_seq ?_
        refine W_region ?_
        refine ops_v (v_move (v := (.slice _ _ _)) rfl rfl) ?_
        refine ops_v (v_move (v := (.int _ _)) rfl rfl) ?_
        refine ops_v (v_sliceHi rfl se40 rfl rfl hcap) ?_
        refine ops_v (v_assign (v := (.slice _ _ _)) rfl rfl) ?_
        refine ops_nil ?_
        refine W_seq ?_
        have H := H.slTake stk'.length hle
        rw [hx] at H
        refine W_region ?_
        refine ops_v (v_move (v := (.pointer _)) rfl rfl) ?_
        refine ops_v (v_move (v := (.int _ _)) rfl rfl) ?_
        refine ops_call rfl c31 (FnC.ro 2 rfl H (fun _ => Node_bad hg)) ?_
        clear H; rintro _ w ⟨rfl, H⟩
        refine ops_v (v_move (v := (.tuple _)) rfl rfl) ?_
        refine ops_v (v_extract (v := (.agg _)) rfl rfl rfl) ?_
        refine ops_v (v_extract (v := (.bool _)) rfl rfl rfl) ?_
        refine ops_alloc H rfl tz42 ?_
        clear H; intro bn0 w H
        refine ops_store (vs := [_, _, _, _, _]) (v := (.agg _)) (cs' := [_, _, _, _, _]) 0 H rfl ts42 rfl rfl rfl rfl rfl rfl rfl rfl ?_
        clear H; intro w H
        refine ops_v (v_assign (v := (.bool _)) rfl rfl) ?_
        refine ops_nil ?_
        refine W_seq ?_
        refine W_seq ?_
        refine W_region ?_
        refine ops_v (v_move (v := (.map _)) rfl rfl) ?_
        refine ops_v (v_move (v := (.int _ _)) rfl rfl) ?_
        refine ops_lookup 2 H keyI Try.underlying76 zeroUnit rfl rfl rfl rfl hlk ?_
        refine ops_v (v_move (v := (.tuple _)) rfl rfl) ?_
        refine ops_v (v_extract (v := (.agg _)) rfl rfl rfl) ?_
        refine ops_v (v_extract (v := (.bool _)) rfl rfl rfl) ?_
        refine ops_alloc H rfl tz77 ?_
        clear H; intro bn1 w H
        refine ops_store (vs := []) (v := (.agg _)) (cs' := []) 0 H rfl ts77 rfl rfl rfl rfl rfl rfl rfl rfl ?_
        clear H; intro w H
        refine ops_v (v_assign (v := (.bool _)) rfl rfl) ?_
        refine ops_nil ?_
        refine W_seq ?_
        refine W_region ?_
        refine ops_v (v_move (v := (.bool _)) rfl rfl) ?_
        refine ops_v (v_move (v := (.bool _)) rfl rfl) ?_
        refine ops_v (v_move (v := (.bool _)) rfl rfl) ?_
        refine ops_v (v_not rfl rfl _ rfl) ?_
        refine ops_v (v_pick_f (v := (.bool _)) rfl rfl rfl) ?_
        refine ops_nil ?_
        refine W_if_t rfl ?_
        refine W_exit ?_
        exact ⟨(some ⟨g, 0, none⟩, cap, sn, stk'), by simp, ⟨rfl, rfl, rfl, trivial⟩, H.tail.tail, hd'⟩
        -- ((*node.Store).Count: loopend; chunks n1,n0,s,m,S; ptr 9=n0,11=n1)
      | some b =>
        have e1 : isN st n = true := by simp [isN, hg]
        have hput : putL (seenL sn) n unit = seenL (sn ++ [n]) := by rw [putL_none hlk]; simp [seenL]
        cases hl : b.leaf with
        | true =>
          have hd' := hd.take (more := []) hw hin e1 (fun x hx hlx => by rw [hg] at hx; cases hx; rw [hl] at hlx; cases hlx) (fun _ _ _ => rfl)
          simp only [List.append_nil] at hd'
          have hlens' := hd'.lens hw
          simp at hlens'
          have hV : nodeV b true = .tuple [.agg [.bool true, .int .i64 b.value, .int .i64 b.link, .int .i64 b.stands, .int .i64 b.fails].toArray, .bool true].toArray := by unfold nodeV encB cellsB; rw [hl]
          refine W_seq ?_
          refine W_seq ?_
          refine W_region ?_
          refine ops_v (v_move (v := (.slice _ _ _)) rfl rfl) ?_
          refine ops_v (v_len rfl sl40 rfl) ?_
          refine ops_v (v_gtr true rfl rfl rfl (decide_eq_true (by first | omega | (simp only; omega) | rfl | decide))) ?_
          refine ops_nil ?_
          refine W_if_t rfl ?_
          refine W_skip ?_
          refine W_block ?_
          refine W_seq ?_
          refine W_region ?_
          refine ops_v (v_move (v := (.slice _ _ _)) rfl rfl) ?_
          refine ops_v (v_len rfl sl40 rfl) ?_
          refine ops_v (v_sub (stk'.length : Int) rfl rfl rfl (by rw [wrap_in (by omega) (by omega)]; omega)) ?_
          refine ops_v (v_assign (v := (.int _ _)) rfl rfl) ?_
          refine ops_nil ?_
          refine W_seq ?_
          refine W_region ?_
          refine ops_v (v_move (v := (.slice _ _ _)) rfl rfl) ?_
          refine ops_v (v_move (v := (.int _ _)) rfl rfl) ?_
          refine ops_v (v_indexAddr_sl rfl se40 rfl rfl (by omega) (by omega)) ?_
          refine ops_loadSl (v := .int .i64 n) 0 H rfl tc3 rfl rfl hv ?_
          refine ops_v (v_assign (v := (.int _ _)) rfl rfl) ?_
          refine ops_nil ?_
          refine W_seq ?_
          refine W_region ?_
          refine ops_v (v_move (v := (.slice _ _ _)) rfl rfl) ?_
          refine ops_v (v_move (v := (.int _ _)) rfl rfl) ?_
          refine ops_v (v_sliceHi rfl se40 rfl rfl hcap) ?_
          refine ops_v (v_assign (v := (.slice _ _ _)) rfl rfl) ?_
          refine ops_nil ?_
          refine W_seq ?_
          have H := H.slTake stk'.length hle
          rw [hx] at H
          refine W_region ?_
          refine ops_v (v_move (v := (.pointer _)) rfl rfl) ?_
          refine ops_v (v_move (v := (.int _ _)) rfl rfl) ?_
          refine ops_call rfl c31 (FnC.ro 2 rfl H (fun _ H' => (by have := Node_ok hg H'; rw [hV] at this; exact this))) ?_
          clear H; rintro _ w ⟨rfl, H⟩
          refine ops_v (v_move (v := (.tuple _)) rfl rfl) ?_
          refine ops_v (v_extract (v := (.agg _)) rfl rfl rfl) ?_
          refine ops_v (v_extract (v := (.bool _)) rfl rfl rfl) ?_
          refine ops_alloc H rfl tz42 ?_
          clear H; intro bn0 w H
          refine ops_store (vs := [_, _, _, _, _]) (v := (.agg _)) (cs' := [_, _, _, _, _]) 0 H rfl ts42 rfl rfl rfl rfl rfl rfl rfl rfl ?_
          clear H; intro w H
          refine ops_v (v_assign (v := (.bool _)) rfl rfl) ?_
          refine ops_nil ?_
          refine W_seq ?_
          refine W_seq ?_
          refine W_region ?_
          refine ops_v (v_move (v := (.map _)) rfl rfl) ?_
          refine ops_v (v_move (v := (.int _ _)) rfl rfl) ?_
          refine ops_lookup 2 H keyI Try.underlying76 zeroUnit rfl rfl rfl rfl hlk ?_
          refine ops_v (v_move (v := (.tuple _)) rfl rfl) ?_
          refine ops_v (v_extract (v := (.agg _)) rfl rfl rfl) ?_
          refine ops_v (v_extract (v := (.bool _)) rfl rfl rfl) ?_
          refine ops_alloc H rfl tz77 ?_
          clear H; intro bn1 w H
          refine ops_store (vs := []) (v := (.agg _)) (cs' := []) 0 H rfl ts77 rfl rfl rfl rfl rfl rfl rfl rfl ?_
          clear H; intro w H
          refine ops_v (v_assign (v := (.bool _)) rfl rfl) ?_
          refine ops_nil ?_
          refine W_seq ?_
          refine W_region ?_
          refine ops_v (v_move (v := (.bool _)) rfl rfl) ?_
          refine ops_v (v_move (v := (.bool _)) rfl rfl) ?_
          refine ops_v (v_move (v := (.bool _)) rfl rfl) ?_
          refine ops_v (v_not rfl rfl _ rfl) ?_
          refine ops_v (v_pick_f (v := (.bool _)) rfl rfl rfl) ?_
          refine ops_nil ?_
          refine W_if_f rfl ?_
          refine W_skip ?_
          refine W_seq ?_
          refine W_region ?_
          refine ops_v (v_move (v := (.map _)) rfl rfl) ?_
          refine ops_v (v_move (v := (.int _ _)) rfl rfl) ?_
          refine ops_v (v_build (cs := []) rfl bp77 rfl) ?_
          refine ops_mapUpdate (v := unit) 3 H keyI Try.underlying76 rfl rfl rfl rfl rfl ?_
          clear H; intro w H
          rw [hput] at H
          refine ops_nil ?_
          refine W_seq ?_
          refine W_region ?_
          refine ops_v (v_fieldAddr rfl fo42_0 rfl rfl) ?_
          refine ops_load (v := (.bool _)) 1 H rfl tc4 rfl rfl rfl ?_
          refine ops_v (v_not rfl rfl _ rfl) ?_
          refine ops_nil ?_
          refine W_if_f rfl ?_
          refine W_skip ?_
          refine ⟨(some ⟨g, 0, none⟩, cap, sn ++ [n], stk'), ?_, ⟨rfl, rfl, rfl, trivial⟩, H.tail.tail, hd'⟩
          simp only [List.length_append, List.length_cons, List.length_nil]; omega
          -- ((*node.Store).Count: loopend; chunks n1,n0,s,m,S; ptr 9=n0,11=n1,49=n0)
        | false =>
          have hd' := hd.take (more := [b.stands, b.fails]) hw hin e1 (fun x hx _ => by rw [hg] at hx; cases hx; rfl) (fun x hx hlx => by rw [hg] at hx; cases hx; rw [hl] at hlx; cases hlx)
          have hlens' := hd'.lens hw
          simp at hlens'
          have hV : nodeV b true = .tuple [.agg [.bool false, .int .i64 b.value, .int .i64 b.link, .int .i64 b.stands, .int .i64 b.fails].toArray, .bool true].toArray := by unfold nodeV encB cellsB; rw [hl]
          have hap : ints stk' ++ [.int .i64 b.stands, .int .i64 b.fails] = ints (stk' ++ [b.stands, b.fails]) := by simp [ints]
          have hl2 : (stk' ++ [b.stands, b.fails]).length = stk'.length + 2 := by simp
          refine W_seq ?_
          refine W_seq ?_
          refine W_region ?_
          refine ops_v (v_move (v := (.slice _ _ _)) rfl rfl) ?_
          refine ops_v (v_len rfl sl40 rfl) ?_
          refine ops_v (v_gtr true rfl rfl rfl (decide_eq_true (by first | omega | (simp only; omega) | rfl | decide))) ?_
          refine ops_nil ?_
          refine W_if_t rfl ?_
          refine W_skip ?_
          refine W_block ?_
          refine W_seq ?_
          refine W_region ?_
          refine ops_v (v_move (v := (.slice _ _ _)) rfl rfl) ?_
          refine ops_v (v_len rfl sl40 rfl) ?_
          refine ops_v (v_sub (stk'.length : Int) rfl rfl rfl (by rw [wrap_in (by omega) (by omega)]; omega)) ?_
          refine ops_v (v_assign (v := (.int _ _)) rfl rfl) ?_
          refine ops_nil ?_
          refine W_seq ?_
          refine W_region ?_
          refine ops_v (v_move (v := (.slice _ _ _)) rfl rfl) ?_
          refine ops_v (v_move (v := (.int _ _)) rfl rfl) ?_
          refine ops_v (v_indexAddr_sl rfl se40 rfl rfl (by omega) (by omega)) ?_
          refine ops_loadSl (v := .int .i64 n) 0 H rfl tc3 rfl rfl hv ?_
          refine ops_v (v_assign (v := (.int _ _)) rfl rfl) ?_
          refine ops_nil ?_
          refine W_seq ?_
          refine W_region ?_
          refine ops_v (v_move (v := (.slice _ _ _)) rfl rfl) ?_
          refine ops_v (v_move (v := (.int _ _)) rfl rfl) ?_
          refine ops_v (v_sliceHi rfl se40 rfl rfl hcap) ?_
          refine ops_v (v_assign (v := (.slice _ _ _)) rfl rfl) ?_
          refine ops_nil ?_
          refine W_seq ?_
          have H := H.slTake stk'.length hle
          rw [hx] at H
          refine W_region ?_
          refine ops_v (v_move (v := (.pointer _)) rfl rfl) ?_
          refine ops_v (v_move (v := (.int _ _)) rfl rfl) ?_
          refine ops_call rfl c31 (FnC.ro 2 rfl H (fun _ H' => (by have := Node_ok hg H'; rw [hV] at this; exact this))) ?_
          clear H; rintro _ w ⟨rfl, H⟩
          refine ops_v (v_move (v := (.tuple _)) rfl rfl) ?_
          refine ops_v (v_extract (v := (.agg _)) rfl rfl rfl) ?_
          refine ops_v (v_extract (v := (.bool _)) rfl rfl rfl) ?_
          refine ops_alloc H rfl tz42 ?_
          clear H; intro bn0 w H
          refine ops_store (vs := [_, _, _, _, _]) (v := (.agg _)) (cs' := [_, _, _, _, _]) 0 H rfl ts42 rfl rfl rfl rfl rfl rfl rfl rfl ?_
          clear H; intro w H
          refine ops_v (v_assign (v := (.bool _)) rfl rfl) ?_
          refine ops_nil ?_
          refine W_seq ?_
          refine W_seq ?_
          refine W_region ?_
          refine ops_v (v_move (v := (.map _)) rfl rfl) ?_
          refine ops_v (v_move (v := (.int _ _)) rfl rfl) ?_
          refine ops_lookup 2 H keyI Try.underlying76 zeroUnit rfl rfl rfl rfl hlk ?_
          refine ops_v (v_move (v := (.tuple _)) rfl rfl) ?_
          refine ops_v (v_extract (v := (.agg _)) rfl rfl rfl) ?_
          refine ops_v (v_extract (v := (.bool _)) rfl rfl rfl) ?_
          refine ops_alloc H rfl tz77 ?_
          clear H; intro bn1 w H
          refine ops_store (vs := []) (v := (.agg _)) (cs' := []) 0 H rfl ts77 rfl rfl rfl rfl rfl rfl rfl rfl ?_
          clear H; intro w H
          refine ops_v (v_assign (v := (.bool _)) rfl rfl) ?_
          refine ops_nil ?_
          refine W_seq ?_
          refine W_region ?_
          refine ops_v (v_move (v := (.bool _)) rfl rfl) ?_
          refine ops_v (v_move (v := (.bool _)) rfl rfl) ?_
          refine ops_v (v_move (v := (.bool _)) rfl rfl) ?_
          refine ops_v (v_not rfl rfl _ rfl) ?_
          refine ops_v (v_pick_f (v := (.bool _)) rfl rfl rfl) ?_
          refine ops_nil ?_
          refine W_if_f rfl ?_
          refine W_skip ?_
          refine W_seq ?_
          refine W_region ?_
          refine ops_v (v_move (v := (.map _)) rfl rfl) ?_
          refine ops_v (v_move (v := (.int _ _)) rfl rfl) ?_
          refine ops_v (v_build (cs := []) rfl bp77 rfl) ?_
          refine ops_mapUpdate (v := unit) 3 H keyI Try.underlying76 rfl rfl rfl rfl rfl ?_
          clear H; intro w H
          rw [hput] at H
          refine ops_nil ?_
          refine W_seq ?_
          refine W_region ?_
          refine ops_v (v_fieldAddr rfl fo42_0 rfl rfl) ?_
          refine ops_load (v := (.bool _)) 1 H rfl tc4 rfl rfl rfl ?_
          refine ops_v (v_not rfl rfl _ rfl) ?_
          refine ops_nil ?_
          refine W_if_t rfl ?_
          refine W_region ?_
          refine ops_v (v_move (v := (.slice _ _ _)) rfl rfl) ?_
          refine ops_v (v_fieldAddr rfl fo42_3 rfl rfl) ?_
          refine ops_load (v := (.int _ _)) 1 H rfl tc3 rfl rfl rfl ?_
          refine ops_v (v_fieldAddr rfl fo42_4 rfl rfl) ?_
          refine ops_load (v := (.int _ _)) 1 H rfl tc3 rfl rfl rfl ?_
          refine ops_buildSlice (cs := [(.int _ _), (.int _ _)]) H rfl bs40_2 rfl ?_
          clear H; intro bn2 w H
          refine ops_append (b := bn2) (news := [.int .i64 b.stands, .int .i64 b.fails]) 3 0 H rfl ap40 rfl rfl rfl rfl rfl rfl hm63 hby ?_
          clear H; intro q' cap' w H
          rw [hap] at H
          refine ops_v (v_assign (v := (.slice _ _ _)) rfl rfl) ?_
          refine ops_nil ?_
          refine ⟨(q', cap', sn ++ [n], stk' ++ [b.stands, b.fails]), ?_, ⟨rfl, rfl, ?_, trivial⟩, ?_, hd'⟩
          · simp only [List.length_append, List.length_cons, List.length_nil]; omega
          · simp only [hl2]; rfl
          · simp only [hl2]; exact H.tail.tail.tail
          -- ((*node.Store).Count: loopend; chunks n2,n1,n0,s,m,S; ptr 9=n0,11=n1,49=n0,53=n0,55=n0)
end Go.Proofs.Ytchikjmhncojfaa.W
