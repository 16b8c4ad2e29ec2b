/- The walk of guard.Asks$1: which links the nodes below ask. Conditions: none. -/
import Derived.Test.YtchikjmhncojfaaDoorGuard2
import Derived.Test.YtchikjmhncojfaaDoorOrderM
set_option linter.unusedVariables false
namespace Go.Proofs.YtchikjmhncojfaaDoor.M
/-- what has been seen behind a look from a node on -/
inductive Sk (s : St) : List Int → Int → List Int → Prop
  | stop {sn id} (h : id ∈ sn ∨ lnk s id = 16) : Sk s sn id sn
  | go {sn id s1 s2} (h : id ∉ sn) (hl : lnk s id < 16) (h1 : Sk s (sn ++ [id]) (getZ s id).stands s1) (h2 : Sk s s1 (getZ s id).fails s2) : Sk s sn id s2
def maskOf (s : St) (sn : List Int) : Nat := sn.foldl (fun F x => F ||| 2 ^ (lnk s x).toNat) 0
theorem maskOf_snoc (s : St) (sn : List Int) (x : Int) : maskOf s (sn ++ [x]) = maskOf s sn ||| 2 ^ (lnk s x).toNat := by unfold maskOf; rw [List.foldl_append]; rfl
def skN (s : St) : Nat → List Int → Int → List Int
  | 0, sn, _ => sn
  | n + 1, sn, id => if id ∈ sn ∨ lnk s id = 16 then sn else skN s n (skN s n (sn ++ [id]) (getZ s id).stands) (getZ s id).fails
theorem skN_sk {s : St} (w : Wf s) : ∀ (n : Nat) {sn : List Int} {id : Int}, isN s id = true → (16 - lnk s id).toNat < n → Sk s sn id (skN s n sn id)
  | 0, sn, id, hid, hn => by omega
  | n + 1, sn, id, hid, hn => by
    unfold skN
    split
    · exact .stop (by assumption)
    · rename_i h
      have hr := lnk_range w hid
      have hlt : lnk s id < 16 := by
        refine Classical.byContradiction fun hh => h (.inr (by omega))
      obtain ⟨b, hb⟩ := isN_get hid
      obtain ⟨hbl, hbk⟩ := lnk_lt hb hlt
      have ha := w.ask hb hbl
      have hs1 := lnk_under w (by omega) ha.2.2.2.2.1
      have hf1 := lnk_under w (by omega) ha.2.2.2.2.2.1
      have e : getZ s id = b := getZ_eq hb
      rw [e]
      refine .go (s1 := skN s n (sn ++ [id]) b.stands) (fun hm => h (.inl hm)) hlt ?_ ?_
      · rw [e]; exact skN_sk w n (under_isN ha.2.2.2.2.1) (by omega)
      · rw [e]; exact skN_sk w n (under_isN ha.2.2.2.2.2.1) (by omega)
end Go.Proofs.YtchikjmhncojfaaDoor.M
namespace Go.Proofs.YtchikjmhncojfaaDoor.W
open Go Go.Proofs Go.RowKit
open Go.Proofs.YtchikjmhncojfaaDoor.M (Br St get getZ isN idx has down Wf rank i64 leafB askB lnk Sk)
theorem or_nat (F G : Nat) (hF : F < 2 ^ 62) (hG : G < 2 ^ 62) : IntKind.i64.wrap (BitVec.ofInt IntKind.i64.bits F ||| BitVec.ofInt IntKind.i64.bits G).toNat = ((F ||| G : Nat) : Int) := by
  have h : (BitVec.ofInt IntKind.i64.bits F ||| BitVec.ofInt IntKind.i64.bits G).toNat = F ||| G := by
    show (BitVec.ofInt 64 F ||| BitVec.ofInt 64 G).toNat = _
    rw [BitVec.toNat_or, BitVec.toNat_ofInt, BitVec.toNat_ofInt]
    congr 1 <;> omega
  have hx : F ||| G < 2 ^ 62 := Nat.or_lt_two_pow hF hG
  rw [h]
  exact wrap_in (by omega) (by omega)
set_option maxRecDepth 4000 in
set_option maxHeartbeats 1000000 in
theorem ask1_ok {s : St} (hw : Wf s) {sn : List Int} {id : Int} {sn' : List Int} (h : Sk s sn id sn') : ∀ {wb w : World} {R : List Chunk} {p r b1 b2 b3 b4 : Nat}, isN s id = true → M.maskOf s sn < 2 ^ 16 →
    Own wb (Blk b1 [ptr p] 25 :: Blk b2 [.map (some r)] 62 :: Blk b3 [.int .i64 (M.maskOf s sn : Nat)] 3 :: Blk b4 [.func (.func 31) ([] : List Value).toArray [ptr b1, ptr b2, ptr b3, ptr b4].toArray] 63 :: StoreC p s :: MapC encI r (seenL sn) :: R) w →
    FnC Tryd.prog 31 [int id, ptr b1, ptr b2, ptr b3, ptr b4] w (fun u w' => (u = .tuple #[] ∧ M.maskOf s sn' < 2 ^ 16) ∧ Own wb (Blk b1 [ptr p] 25 :: Blk b2 [.map (some r)] 62 :: Blk b3 [.int .i64 (M.maskOf s sn' : Nat)] 3 :: Blk b4 [.func (.func 31) ([] : List Value).toArray [ptr b1, ptr b2, ptr b3, ptr b4].toArray] 63 :: StoreC p s :: MapC encI r (seenL sn') :: R) w') := by
  induction h with
  | @stop sn id h =>
    intro wb w R p r b1 b2 b3 b4 hid hF H
    obtain ⟨⟨lf, vl, bl, bs, bf⟩, hg⟩ := M.isN_get hid
    have hz := M.getZ_eq hg
    have hln : lnk s id = if lf then 16 else bl := by unfold lnk; rw [hz]
    by_cases hin : id ∈ sn
    · have hlk : look (seenL sn) id = some unit := by rw [look_seen, if_pos hin]
      cases lf with
      | true =>
        have hV : nodeV ⟨true, vl, bl, bs, bf⟩ true = .tuple [.agg [.bool true, .int .i64 vl, .int .i64 bl, .int .i64 bs, .int .i64 bf].toArray, .bool true].toArray := rfl
        refine FnC_of Tryd.func31 rfl rfl rfl rfl ?_
        refine W_seq ?_
        refine W_region ?_
        refine ops_load (v := (.pointer _)) 0 H rfl tc25 rfl rfl rfl ?_
        refine ops_v (v_move (v := (.int _ _)) rfl rfl) ?_
        refine ops_call rfl c27 (FnC.ro 4 rfl H (fun _ H' => (by have := Node_ok hg H'; rw [hV] at this; exact this))) ?_
        clear H; rintro _ w ⟨rfl, H⟩
        refine ops_v (v_move (v := (.tuple _)) rfl rfl) ?_
        refine ops_v (v_extract (v := (.agg _)) rfl rfl rfl) ?_
        refine ops_v (v_extract (v := (.bool _)) rfl rfl rfl) ?_
        refine ops_alloc H rfl tz56 ?_
        clear H; intro bn0 w H
        refine ops_store (vs := [_, _, _, _, _]) (v := (.agg _)) (cs' := [_, _, _, _, _]) 0 H rfl ts56 rfl rfl rfl rfl rfl rfl rfl rfl ?_
        clear H; intro w H
        refine ops_v (v_assign (v := (.bool _)) rfl rfl) ?_
        refine ops_nil ?_
        refine W_seq ?_
        refine W_seq ?_
        refine W_region ?_
        refine ops_load (v := (.map _)) 2 H rfl tc62 rfl rfl rfl ?_
        refine ops_v (v_move (v := (.int _ _)) rfl rfl) ?_
        refine ops_lookup 6 H keyI Tryd.underlying62 zeroUnit rfl rfl rfl rfl hlk ?_
        refine ops_v (v_move (v := (.tuple _)) rfl rfl) ?_
        refine ops_v (v_extract (v := (.agg _)) rfl rfl rfl) ?_
        refine ops_v (v_extract (v := (.bool _)) rfl rfl rfl) ?_
        refine ops_alloc H rfl tz64 ?_
        clear H; intro bn1 w H
        refine ops_store (vs := []) (v := (.agg _)) (cs' := []) 0 H rfl ts64 rfl rfl rfl rfl rfl rfl rfl rfl ?_
        clear H; intro w H
        refine ops_v (v_assign (v := (.bool _)) rfl rfl) ?_
        refine ops_nil ?_
        refine W_seq ?_
        refine W_region ?_
        refine ops_v (v_move (v := (.bool _)) rfl rfl) ?_
        refine ops_v (v_move (v := (.bool _)) rfl rfl) ?_
        refine ops_skip rfl rfl ?_
        refine ops_skip rfl rfl ?_
        refine ops_v (v_pick_t (v := (.bool _)) rfl rfl rfl) ?_
        refine ops_v (v_move (v := (.bool _)) rfl rfl) ?_
        refine ops_skip rfl rfl ?_
        refine ops_skip rfl rfl ?_
        refine ops_v (v_pick_t (v := (.bool _)) rfl rfl rfl) ?_
        refine ops_nil ?_
        refine W_if_t rfl ?_
        refine W_ret ?_
        refine ⟨_, .nil, ?_⟩
        exact ⟨⟨rfl, hF⟩, H.tail.tail⟩
        -- (guard.Asks$1: ret; chunks n1,n0,c1,c2,c3,c4,S,m; ptr 1=c1,2=c2,3=c3,4=c4,6=n0,8=n1)
      | false =>
        have hV : nodeV ⟨false, vl, bl, bs, bf⟩ true = .tuple [.agg [.bool false, .int .i64 vl, .int .i64 bl, .int .i64 bs, .int .i64 bf].toArray, .bool true].toArray := rfl
        refine FnC_of Tryd.func31 rfl rfl rfl rfl ?_
        refine W_seq ?_
        refine W_region ?_
        refine ops_load (v := (.pointer _)) 0 H rfl tc25 rfl rfl rfl ?_
        refine ops_v (v_move (v := (.int _ _)) rfl rfl) ?_
        refine ops_call rfl c27 (FnC.ro 4 rfl H (fun _ H' => (by have := Node_ok hg H'; rw [hV] at this; exact this))) ?_
        clear H; rintro _ w ⟨rfl, H⟩
        refine ops_v (v_move (v := (.tuple _)) rfl rfl) ?_
        refine ops_v (v_extract (v := (.agg _)) rfl rfl rfl) ?_
        refine ops_v (v_extract (v := (.bool _)) rfl rfl rfl) ?_
        refine ops_alloc H rfl tz56 ?_
        clear H; intro bn0 w H
        refine ops_store (vs := [_, _, _, _, _]) (v := (.agg _)) (cs' := [_, _, _, _, _]) 0 H rfl ts56 rfl rfl rfl rfl rfl rfl rfl rfl ?_
        clear H; intro w H
        refine ops_v (v_assign (v := (.bool _)) rfl rfl) ?_
        refine ops_nil ?_
        refine W_seq ?_
        refine W_seq ?_
        refine W_region ?_
        refine ops_load (v := (.map _)) 2 H rfl tc62 rfl rfl rfl ?_
        refine ops_v (v_move (v := (.int _ _)) rfl rfl) ?_
        refine ops_lookup 6 H keyI Tryd.underlying62 zeroUnit rfl rfl rfl rfl hlk ?_
        refine ops_v (v_move (v := (.tuple _)) rfl rfl) ?_
        refine ops_v (v_extract (v := (.agg _)) rfl rfl rfl) ?_
        refine ops_v (v_extract (v := (.bool _)) rfl rfl rfl) ?_
        refine ops_alloc H rfl tz64 ?_
        clear H; intro bn1 w H
        refine ops_store (vs := []) (v := (.agg _)) (cs' := []) 0 H rfl ts64 rfl rfl rfl rfl rfl rfl rfl rfl ?_
        clear H; intro w H
        refine ops_v (v_assign (v := (.bool _)) rfl rfl) ?_
        refine ops_nil ?_
        refine W_seq ?_
        refine W_region ?_
        refine ops_v (v_move (v := (.bool _)) rfl rfl) ?_
        refine ops_v (v_move (v := (.bool _)) rfl rfl) ?_
        refine ops_skip rfl rfl ?_
        refine ops_skip rfl rfl ?_
        refine ops_v (v_pick_t (v := (.bool _)) rfl rfl rfl) ?_
        refine ops_v (v_move (v := (.bool _)) rfl rfl) ?_
        refine ops_skip rfl rfl ?_
        refine ops_skip rfl rfl ?_
        refine ops_v (v_pick_t (v := (.bool _)) rfl rfl rfl) ?_
        refine ops_nil ?_
        refine W_if_t rfl ?_
        refine W_ret ?_
        refine ⟨_, .nil, ?_⟩
        exact ⟨⟨rfl, hF⟩, H.tail.tail⟩
        -- (guard.Asks$1: ret; chunks n1,n0,c1,c2,c3,c4,S,m; ptr 1=c1,2=c2,3=c3,4=c4,6=n0,8=n1)
    · have hlk : look (seenL sn) id = none := by rw [look_seen, if_neg hin]
      have h16 : lnk s id = 16 := by rcases h with h | h; exact (hin h).elim; exact h
      have hlt := M.lnk_16 hw hg h16
      simp only at hlt
      subst hlt
      have hV : nodeV ⟨true, vl, bl, bs, bf⟩ true = .tuple [.agg [.bool true, .int .i64 vl, .int .i64 bl, .int .i64 bs, .int .i64 bf].toArray, .bool true].toArray := rfl
      refine FnC_of Tryd.func31 rfl rfl rfl rfl ?_
      refine W_seq ?_
      refine W_region ?_
      refine ops_load (v := (.pointer _)) 0 H rfl tc25 rfl rfl rfl ?_
      refine ops_v (v_move (v := (.int _ _)) rfl rfl) ?_
      refine ops_call rfl c27 (FnC.ro 4 rfl H (fun _ H' => (by have := Node_ok hg H'; rw [hV] at this; exact this))) ?_
      clear H; rintro _ w ⟨rfl, H⟩
      refine ops_v (v_move (v := (.tuple _)) rfl rfl) ?_
      refine ops_v (v_extract (v := (.agg _)) rfl rfl rfl) ?_
      refine ops_v (v_extract (v := (.bool _)) rfl rfl rfl) ?_
      refine ops_alloc H rfl tz56 ?_
      clear H; intro bn0 w H
      refine ops_store (vs := [_, _, _, _, _]) (v := (.agg _)) (cs' := [_, _, _, _, _]) 0 H rfl ts56 rfl rfl rfl rfl rfl rfl rfl rfl ?_
      clear H; intro w H
      refine ops_v (v_assign (v := (.bool _)) rfl rfl) ?_
      refine ops_nil ?_
      refine W_seq ?_
      refine W_seq ?_
      refine W_region ?_
      refine ops_load (v := (.map _)) 2 H rfl tc62 rfl rfl rfl ?_
      refine ops_v (v_move (v := (.int _ _)) rfl rfl) ?_
      refine ops_lookup 6 H keyI Tryd.underlying62 zeroUnit rfl rfl rfl rfl hlk ?_
      refine ops_v (v_move (v := (.tuple _)) rfl rfl) ?_
      refine ops_v (v_extract (v := (.agg _)) rfl rfl rfl) ?_
      refine ops_v (v_extract (v := (.bool _)) rfl rfl rfl) ?_
      refine ops_alloc H rfl tz64 ?_
      clear H; intro bn1 w H
      refine ops_store (vs := []) (v := (.agg _)) (cs' := []) 0 H rfl ts64 rfl rfl rfl rfl rfl rfl rfl rfl ?_
      clear H; intro w H
      refine ops_v (v_assign (v := (.bool _)) rfl rfl) ?_
      refine ops_nil ?_
      refine W_seq ?_
      refine W_region ?_
      refine ops_v (v_move (v := (.bool _)) rfl rfl) ?_
      refine ops_v (v_move (v := (.bool _)) rfl rfl) ?_
      refine ops_v (v_move (v := (.bool _)) rfl rfl) ?_
      refine ops_v (v_not rfl rfl _ rfl) ?_
      refine ops_v (v_pick_f (v := (.bool _)) rfl rfl rfl) ?_
      refine ops_v (v_move (v := (.bool _)) rfl rfl) ?_
      refine ops_v (v_fieldAddr rfl fo56_0 rfl rfl) ?_
      refine ops_load (v := (.bool _)) 1 H rfl tc4 rfl rfl rfl ?_
      refine ops_v (v_pick_f (v := (.bool _)) rfl rfl rfl) ?_
      refine ops_nil ?_
      refine W_if_t rfl ?_
      refine W_ret ?_
      refine ⟨_, .nil, ?_⟩
      exact ⟨⟨rfl, hF⟩, H.tail.tail⟩
      -- (guard.Asks$1: ret; chunks n1,n0,c1,c2,c3,c4,S,m; ptr 1=c1,2=c2,3=c3,4=c4,6=n0,8=n1,28=n0)
  | @go sn id s1 s2 h hl h1 h2 ih1 ih2 =>
    intro wb w R p r b1 b2 b3 b4 hid hF H
    obtain ⟨⟨lf, vl, bl, bs, bf⟩, hg⟩ := M.isN_get hid
    have hz := M.getZ_eq hg
    have hln : lnk s id = if lf then 16 else bl := by unfold lnk; rw [hz]
    have hlk : look (seenL sn) id = none := by rw [look_seen, if_neg h]
    cases lf with
    | true => simp at hln; omega
    | false =>
      simp at hln
      have ha := hw.ask hg rfl
      have hlinks := hw.links
      simp only at ha
      rw [hz] at ih1 ih2
      obtain ⟨ll, hll⟩ : ∃ ll : Nat, bl = ll := ⟨bl.toNat, by omega⟩
      subst hll
      have hput : putL (seenL sn) id unit = seenL (sn ++ [id]) := by rw [putL_none hlk]; simp [seenL]
      have hmask : M.maskOf s (sn ++ [id]) = M.maskOf s sn ||| 2 ^ ll := by rw [M.maskOf_snoc, hln, Int.toNat_natCast]
      have hpow : (2 : Nat) ^ ll < 2 ^ 16 := Nat.pow_lt_pow_right (by decide) (by omega)
      have hF1 : M.maskOf s (sn ++ [id]) < 2 ^ 16 := by rw [hmask]; exact Nat.or_lt_two_pow hF hpow
      have hsh : IntKind.i64.wrap (1 * 2 ^ min ((ll : Int)).toNat IntKind.i64.bits) = ((2 ^ ll : Nat) : Int) := by
        rw [Int.toNat_natCast, shl1 ll (by omega)]; push_cast; rfl
      have hV : nodeV ⟨false, vl, ll, bs, bf⟩ true = .tuple [.agg [.bool false, .int .i64 vl, .int .i64 (ll : Int), .int .i64 bs, .int .i64 bf].toArray, .bool true].toArray := rfl
      refine FnC_of Tryd.func31 rfl rfl rfl rfl ?_
      refine W_seq ?_
      refine W_region ?_
      refine ops_load (v := (.pointer _)) 0 H rfl tc25 rfl rfl rfl ?_
      refine ops_v (v_move (v := (.int _ _)) rfl rfl) ?_
      refine ops_call rfl c27 (FnC.ro 4 rfl H (fun _ H' => (by have := Node_ok hg H'; rw [hV] at this; exact this))) ?_
      clear H; rintro _ w ⟨rfl, H⟩
      refine ops_v (v_move (v := (.tuple _)) rfl rfl) ?_
      refine ops_v (v_extract (v := (.agg _)) rfl rfl rfl) ?_
      refine ops_v (v_extract (v := (.bool _)) rfl rfl rfl) ?_
      refine ops_alloc H rfl tz56 ?_
      clear H; intro bn0 w H
      refine ops_store (vs := [_, _, _, _, _]) (v := (.agg _)) (cs' := [_, _, _, _, _]) 0 H rfl ts56 rfl rfl rfl rfl rfl rfl rfl rfl ?_
      clear H; intro w H
      refine ops_v (v_assign (v := (.bool _)) rfl rfl) ?_
      refine ops_nil ?_
      refine W_seq ?_
      refine W_seq ?_
      refine W_region ?_
      refine ops_load (v := (.map _)) 2 H rfl tc62 rfl rfl rfl ?_
      refine ops_v (v_move (v := (.int _ _)) rfl rfl) ?_
      refine ops_lookup 6 H keyI Tryd.underlying62 zeroUnit rfl rfl rfl rfl hlk ?_
      refine ops_v (v_move (v := (.tuple _)) rfl rfl) ?_
      refine ops_v (v_extract (v := (.agg _)) rfl rfl rfl) ?_
      refine ops_v (v_extract (v := (.bool _)) rfl rfl rfl) ?_
      refine ops_alloc H rfl tz64 ?_
      clear H; intro bn1 w H
      refine ops_store (vs := []) (v := (.agg _)) (cs' := []) 0 H rfl ts64 rfl rfl rfl rfl rfl rfl rfl rfl ?_
      clear H; intro w H
      refine ops_v (v_assign (v := (.bool _)) rfl rfl) ?_
      refine ops_nil ?_
      refine W_seq ?_
      refine W_region ?_
      refine ops_v (v_move (v := (.bool _)) rfl rfl) ?_
      refine ops_v (v_move (v := (.bool _)) rfl rfl) ?_
      refine ops_v (v_move (v := (.bool _)) rfl rfl) ?_
      refine ops_v (v_not rfl rfl _ rfl) ?_
      refine ops_v (v_pick_f (v := (.bool _)) rfl rfl rfl) ?_
      refine ops_v (v_move (v := (.bool _)) rfl rfl) ?_
      refine ops_v (v_fieldAddr rfl fo56_0 rfl rfl) ?_
      refine ops_load (v := (.bool _)) 1 H rfl tc4 rfl rfl rfl ?_
      refine ops_v (v_pick_f (v := (.bool _)) rfl rfl rfl) ?_
      refine ops_nil ?_
      refine W_if_f rfl ?_
      refine W_skip ?_
      refine W_seq ?_
      refine W_region ?_
      refine ops_load (v := (.map _)) 3 H rfl tc62 rfl rfl rfl ?_
      refine ops_v (v_move (v := (.int _ _)) rfl rfl) ?_
      refine ops_v (v_build (cs := []) rfl bp64 rfl) ?_
      refine ops_mapUpdate (v := unit) 7 H keyI Tryd.underlying62 rfl rfl rfl rfl rfl ?_
      clear H; intro w H
      rw [hput] at H
      refine ops_nil ?_
      refine W_seq ?_
      refine W_draw (is := []) mixed H ?_
      clear H; intro w H
      refine any_take 1 rfl (by kernel_rfl) (by kernel_rfl) (by kernel_rfl) (v_fieldAddr rfl fo56_2 rfl rfl) ?_
      refine any_two 0 2 rfl rfl (by kernel_rfl) ?_ ?_
      · refine ops_load (v := (.int _ _)) 4 H rfl tc3 rfl rfl rfl ?_
        refine ops_nil ⟨trivial, ?_⟩
        refine any_one 2 rfl (by kernel_rfl) ?_
        refine ops_load (v := (.int _ _)) 1 H rfl tc3 rfl rfl rfl ?_
        refine ops_nil ⟨trivial, ?_⟩
        refine any_take 3 rfl (by kernel_rfl) (by kernel_rfl) (by kernel_rfl) (v_shl ((2 ^ ll : Nat) : Int) rfl rfl rfl (by omega) hsh) ?_
        refine any_take 4 rfl (by kernel_rfl) (by kernel_rfl) (by kernel_rfl) (v_or ((M.maskOf s sn ||| 2 ^ ll : Nat) : Int) rfl rfl rfl (or_nat _ _ (by omega) (by omega))) ?_
        refine any_one 5 rfl (by kernel_rfl) ?_
        refine ops_store (vs := [_]) (v := (.int _ _)) (cs' := [_]) 4 H rfl ts3 rfl rfl rfl rfl rfl rfl rfl rfl ?_
        clear H; intro w H
        refine ops_nil ⟨trivial, ?_⟩
        refine any_done (by kernel_rfl) ?_
        refine W_seq ?_
        simp only [List.set_cons_succ, List.set_cons_zero] at H
        rw [← hmask] at H
        refine W_region ?_
        refine ops_load (v := _) 5 H rfl tc63 rfl rfl rfl ?_
        refine ops_v (v_fieldAddr rfl fo56_3 rfl rfl) ?_
        refine ops_load (v := (.int _ _)) 1 H rfl tc3 rfl rfl rfl ?_
        refine ops_callV (first := []) rfl rfl c31 (FnC.mid (A := [_, _]) (B := [_, _, _, _, _, _]) (B' := [_, _, _, _, _, _]) H (fun _ H => ih1 (M.under_isN ha.2.2.2.2.1) hF1 H)) ?_
        clear H; rintro _ w ⟨⟨rfl, hF2a⟩, H⟩
        simp only [List.cons_append, List.nil_append] at H
        refine ops_nil ?_
        refine W_region ?_
        refine ops_load (v := _) 5 H rfl tc63 rfl rfl rfl ?_
        refine ops_v (v_fieldAddr rfl fo56_4 rfl rfl) ?_
        refine ops_load (v := (.int _ _)) 1 H rfl tc3 rfl rfl rfl ?_
        refine ops_callV (first := []) rfl rfl c31 (FnC.mid (A := [_, _]) (B := [_, _, _, _, _, _]) (B' := [_, _, _, _, _, _]) H (fun _ H => ih2 (M.under_isN ha.2.2.2.2.2.1) hF2a H)) ?_
        clear H; rintro _ w ⟨⟨rfl, hF2⟩, H⟩
        simp only [List.cons_append, List.nil_append] at H
        refine ops_nil ?_
        refine ⟨_, .nil, ?_⟩
        exact ⟨⟨rfl, hF2⟩, H.tail.tail⟩
      · refine ops_load (v := (.int _ _)) 1 H rfl tc3 rfl rfl rfl ?_
        refine ops_nil ⟨trivial, ?_⟩
        refine any_take 3 rfl (by kernel_rfl) (by kernel_rfl) (by kernel_rfl) (v_shl ((2 ^ ll : Nat) : Int) rfl rfl rfl (by omega) hsh) ?_
        refine any_one 0 rfl (by kernel_rfl) ?_
        refine ops_load (v := (.int _ _)) 4 H rfl tc3 rfl rfl rfl ?_
        refine ops_nil ⟨trivial, ?_⟩
        refine any_take 4 rfl (by kernel_rfl) (by kernel_rfl) (by kernel_rfl) (v_or ((M.maskOf s sn ||| 2 ^ ll : Nat) : Int) rfl rfl rfl (or_nat _ _ (by omega) (by omega))) ?_
        refine any_one 5 rfl (by kernel_rfl) ?_
        refine ops_store (vs := [_]) (v := (.int _ _)) (cs' := [_]) 4 H rfl ts3 rfl rfl rfl rfl rfl rfl rfl rfl ?_
        clear H; intro w H
        refine ops_nil ⟨trivial, ?_⟩
        refine any_done (by kernel_rfl) ?_
        refine W_seq ?_
        simp only [List.set_cons_succ, List.set_cons_zero] at H
        rw [← hmask] at H
        refine W_region ?_
        refine ops_load (v := _) 5 H rfl tc63 rfl rfl rfl ?_
        refine ops_v (v_fieldAddr rfl fo56_3 rfl rfl) ?_
        refine ops_load (v := (.int _ _)) 1 H rfl tc3 rfl rfl rfl ?_
        refine ops_callV (first := []) rfl rfl c31 (FnC.mid (A := [_, _]) (B := [_, _, _, _, _, _]) (B' := [_, _, _, _, _, _]) H (fun _ H => ih1 (M.under_isN ha.2.2.2.2.1) hF1 H)) ?_
        clear H; rintro _ w ⟨⟨rfl, hF2a⟩, H⟩
        simp only [List.cons_append, List.nil_append] at H
        refine ops_nil ?_
        refine W_region ?_
        refine ops_load (v := _) 5 H rfl tc63 rfl rfl rfl ?_
        refine ops_v (v_fieldAddr rfl fo56_4 rfl rfl) ?_
        refine ops_load (v := (.int _ _)) 1 H rfl tc3 rfl rfl rfl ?_
        refine ops_callV (first := []) rfl rfl c31 (FnC.mid (A := [_, _]) (B := [_, _, _, _, _, _]) (B' := [_, _, _, _, _, _]) H (fun _ H => ih2 (M.under_isN ha.2.2.2.2.2.1) hF2a H)) ?_
        clear H; rintro _ w ⟨⟨rfl, hF2⟩, H⟩
        simp only [List.cons_append, List.nil_append] at H
        refine ops_nil ?_
        refine ⟨_, .nil, ?_⟩
        exact ⟨⟨rfl, hF2⟩, H.tail.tail⟩
      -- (guard.Asks$1: forked; chunks n1,n0,c1,c2,c3,c4,S,m; ptr 1=c1,2=c2,3=c3,4=c4,6=n0,8=n1,28=n0,35=n0)
end Go.Proofs.YtchikjmhncojfaaDoor.W
