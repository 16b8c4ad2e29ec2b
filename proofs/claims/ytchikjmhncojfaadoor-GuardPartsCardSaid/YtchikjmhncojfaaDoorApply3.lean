/- The walk of (apply.lifter).lift. Conditions: none. -/
import Derived.Test.YtchikjmhncojfaaDoorApply2
set_option linter.unusedVariables false
namespace Go.Proofs.YtchikjmhncojfaaDoor.W
open Go Go.Proofs Go.RowKit
open Go.Proofs.YtchikjmhncojfaaDoor.M (Br St get getZ isN idx has down Wf rank i64 leafB askB Lifts lnk val sideOf linkOf Ext)

/-- a function of three ints that lives on a chunk -/
def FnOk (fv : Value) (f : Int → Int → Int → Int) (C : Chunk) : Prop :=
  ∃ fid captured, fv = .func (.func fid) ([] : List Value).toArray (List.toArray captured) ∧ callable Tryd.prog fid = true ∧
    ∀ (wb w : World) (R : List Chunk) (a b c : Int), Own wb (C :: R) w → FnC Tryd.prog fid ([int a, int b, int c] ++ captured) w (fun v w' => v = pairV (f a b c) 0 ∧ Own wb (C :: R) w')
theorem Own.mapAt {wb w : World} {L : List Chunk} {C C' : Chunk} (H : Own wb L w) (i : Nat) (hi : L[i]? = some C) (h : ∀ R, Own wb (C :: R) w → Own wb (C' :: R) w) : Own wb (L.set i C') w := Own.back i hi (h _ (H.front i hi))
theorem FnC.mid {P : Program} {f : FuncId} {args : List Value} {wb w : World} {A B B' R : List Chunk} {q : Value → Prop} (H : Own wb (A ++ (B ++ R)) w)
    (h : ∀ R, Own wb (B ++ R) w → FnC P f args w (fun v w' => q v ∧ Own wb (B' ++ R) w')) : FnC P f args w (fun v w' => q v ∧ Own wb (A ++ (B' ++ R)) w') := by
  have p : ∀ X : List Chunk, (A ++ (X ++ R)).Perm (X ++ (A ++ R)) := fun X => by
    rw [← List.append_assoc, ← List.append_assoc]
    exact (List.perm_append_comm).append_right R
  exact (h _ (H.perm (p B))).mono fun v w' ⟨hq, H'⟩ => ⟨hq, H'.perm (p B').symm⟩
section
variable {wb w : World} {R L : List Chunk} {F : Int → Int → Int → Int → Int} {st : St} {o : Option Nat} {p : Nat} {t : Int} {fv : Value}
theorem find_ok' (k : K4) (H : Own wb (CacheX F o st :: R) w) : FnC Tryd.prog 40 [xptr o, encK4 k] w
    (fun v w' => (∃ (n : Int) (ok : Bool), v = .tuple [.int .i64 n, .bool ok].toArray ∧ (ok = true → Hit F st k n)) ∧ Own wb (CacheX F o st :: R) w') :=
  (find_ok k H).mono fun v w' ⟨h, H⟩ => ⟨by
    rcases h with rfl | ⟨n, rfl, hh⟩
    · exact ⟨0, false, rfl, fun h => by cases h⟩
    · exact ⟨n, true, rfl, fun _ => hh⟩, H⟩
theorem link_ok' (hw : Wf st) {tk a b c lk : Int} {bb : Bool} (ia : isN st a = true) (ib : isN st b = true) (ic : isN st c = true) (hL : linkOf st a b c = lk) (hb : decide (lk < 16) = bb) (H : Own wb (StoreC p st :: R) w) :
    FnC Tryd.prog 41 [lifterV p o t fv, encK4 ⟨tk, a, b, c⟩] w
      (fun u w' => u = .tuple [.int .i64 lk, .agg [int (val st a), int (val st b), int (val st c)].toArray, .bool bb].toArray ∧ Own wb (StoreC p st :: R) w') := by
  subst hL hb; exact link_ok hw ia ib ic H
theorem sides_ok' {tk a b c a' b' c' : Int} (ia : isN st a = true) (ib : isN st b = true) (ic : isN st c = true) {lk : Int} (h16 : lk < 16) (v : Bool) (ea : sideOf st a lk v = a') (eb : sideOf st b lk v = b') (ec : sideOf st c lk v = c') (H : Own wb (StoreC p st :: R) w) :
    FnC Tryd.prog 43 [lifterV p o t fv, encK4 ⟨tk, a, b, c⟩, int lk, .bool v] w (fun u w' => u = encK4 ⟨tk, a', b', c'⟩ ∧ Own wb (StoreC p st :: R) w') := by
  subst ea eb ec; exact sides_ok ia ib ic h16 v H
theorem done1_at {k : K4} {n e : Int} {bx bk : Nat} (i : Nat) (hi : L[i]? = some (CacheX F o st)) (hh : e = 0 → Hit F st k n) (H : Own wb (Blk bk (cellsK4 k) 76 :: Blk bx (lifterC p o t fv) 74 :: L) w) :
    FnC Tryd.prog 46 [int n, int e, ptr bx, ptr bk] w (fun u w' => u = pairV n e ∧ Own wb (Blk bk (cellsK4 k) 76 :: Blk bx (lifterC p o t fv) 74 :: L) w') := by
  by_cases he : e = 0
  · refine FnC_of Tryd.func46 rfl rfl rfl rfl ?_
    refine W_seq ?_
    refine W_region ?_
    refine ops_v (v_assign (v := _) rfl rfl) ?_
    refine ops_v (v_assign (v := _) rfl rfl) ?_
    refine ops_nil ?_
    refine W_seq ?_
    refine W_seq ?_
    refine W_region ?_
    refine ops_v (v_move (v := (.int _ _)) rfl rfl) ?_
    refine ops_v (v_eql true rfl rfl rfl (decide_eq_true (by first | omega | (simp only; omega) | rfl | decide))) ?_
    refine ops_nil ?_
    refine W_if_t rfl ?_
    refine W_region ?_
    refine ops_v (v_fieldAddr rfl fo74_1 rfl rfl) ?_
    refine ops_load (v := (.pointer _)) 1 H rfl tc29 rfl rfl rfl ?_
    refine ops_loadA (vs := [_, _, _, _]) 0 H rfl ta76 rfl rfl rfl rfl ?_
    refine ops_v (v_move (v := (.int _ _)) rfl rfl) ?_
    refine ops_call rfl c47 (FnC.ro (i + 2) hi H (fun _ H => keep_ok k n (hh he) H)) ?_
    clear H; rintro _ w ⟨rfl, H⟩
    refine ops_nil ?_
    refine W_seq ?_
    refine W_region ?_
    refine ops_v (v_move (v := (.int _ _)) rfl rfl) ?_
    refine ops_v (v_move (v := (.int _ _)) rfl rfl) ?_
    refine ops_v (v_assign (v := (.int _ _)) rfl rfl) ?_
    refine ops_v (v_assign (v := (.int _ _)) rfl rfl) ?_
    refine ops_nil ?_
    refine W_ret ?_
    refine ⟨_, (.tmp (v := (.int _ _)) rfl (.tmp (v := (.int _ _)) rfl .nil)), ?_⟩
    exact ⟨rfl, H⟩
    -- ((apply.lifter).done$1: ret; chunks k,x; ptr 2=x,3=k,10=x)
  · refine FnC_of Tryd.func46 rfl rfl rfl rfl ?_
    refine W_seq ?_
    refine W_region ?_
    refine ops_v (v_assign (v := _) rfl rfl) ?_
    refine ops_v (v_assign (v := _) rfl rfl) ?_
    refine ops_nil ?_
    refine W_seq ?_
    refine W_seq ?_
    refine W_region ?_
    refine ops_v (v_move (v := (.int _ _)) rfl rfl) ?_
    refine ops_v (v_eql false rfl rfl rfl (decide_eq_false (by first | omega | (simp only; omega) | rfl | decide))) ?_
    refine ops_nil ?_
    refine W_if_f rfl ?_
    refine W_skip ?_
    refine W_seq ?_
    refine W_region ?_
    refine ops_v (v_move (v := (.int _ _)) rfl rfl) ?_
    refine ops_v (v_move (v := (.int _ _)) rfl rfl) ?_
    refine ops_v (v_assign (v := (.int _ _)) rfl rfl) ?_
    refine ops_v (v_assign (v := (.int _ _)) rfl rfl) ?_
    refine ops_nil ?_
    refine W_ret ?_
    refine ⟨_, (.tmp (v := (.int _ _)) rfl (.tmp (v := (.int _ _)) rfl .nil)), ?_⟩
    exact ⟨rfl, H⟩
    -- ((apply.lifter).done$1: ret; chunks k,x; ptr 2=x,3=k)
theorem hit_of {f : Int → Int → Int → Int} {s s' : St} {a b c i e : Int} (hF : F t = f) (h : Lifts f s a b c s' i e) (w : Wf s) (ia : isN s a = true) (ib : isN s b = true) (ic : isN s c = true) : e = 0 → Hit F s' ⟨t, a, b, c⟩ i := by
  rintro rfl
  have g := h.good w ia ib ic
  refine ⟨g.ext.isN ia, g.ext.isN ib, g.ext.isN ic, ?_⟩
  show Lifts (F t) _ _ _ _ _ _ _
  rw [hF]
  exact h.again w ia ib ic (Ext.refl _) g.wf
end

set_option maxHeartbeats 1000000 in
theorem lift_ok {F : Int → Int → Int → Int → Int} {f : Int → Int → Int → Int} {s : St} {a b c : Int} {s' : St} {i e : Int} (h : Lifts f s a b c s' i e) :
    ∀ {wb w : World} {R : List Chunk} {o : Option Nat} {p : Nat} {t : Int} {fv : Value} {C : Chunk}, F t = f → FnOk fv f C → Wf s → isN s a = true → isN s b = true → isN s c = true → Own wb (StoreC p s :: CacheX F o s :: C :: R) w →
      FnC Tryd.prog 36 [lifterV p o t fv, encK4 ⟨t, a, b, c⟩] w (fun u w' => u = pairV i e ∧ Own wb (StoreC p s' :: CacheX F o s' :: C :: R) w') := by
  induction h with
  | @leaf s a b c s' i e hL h =>
    intro wb w R o p t fv C hF hf hw ia ib ic H
    have full : Lifts f s a b c s' i e := .leaf hL h
    have g := full.good hw ia ib ic
    have hit := hit_of hF full hw ia ib ic
    have hm := hw.most
    obtain ⟨fid, cap, rfl, hcall, hfn⟩ := hf
    refine FnC_of Tryd.func36 rfl rfl rfl rfl ?_
    refine W_seq ?_
    refine W_region ?_
    refine ops_box (v := (.agg _)) (cs := [_, _, _, _]) H rfl rfl rfl ?_
    clear H; intro bn0 w H
    refine ops_box (v := (.agg _)) (cs := [_, _, _, _]) H rfl rfl rfl ?_
    clear H; intro bn1 w H
    refine ops_v (v_assign (v := _) rfl rfl) ?_
    refine ops_v (v_assign (v := _) rfl rfl) ?_
    refine ops_nil ?_
    refine W_seq ?_
    refine W_seq ?_
    refine W_region ?_
    refine ops_v (v_fieldAddr rfl fo74_1 rfl rfl) ?_
    refine ops_load (v := (.pointer _)) 1 H rfl tc29 rfl rfl rfl ?_
    refine ops_loadA (vs := [_, _, _, _]) 0 H rfl ta76 rfl rfl rfl rfl ?_
    refine ops_call rfl c40 (FnC.ro 3 rfl H (fun _ H => find_ok' ⟨t, a, b, c⟩ H)) ?_
    clear H; rintro _ w ⟨⟨n, ok, rfl, hh⟩, H⟩
    refine ops_v (v_move (v := (.tuple _)) rfl rfl) ?_
    refine ops_v (v_extract (v := (.int _ _)) rfl rfl rfl) ?_
    refine ops_v (v_extract (v := (.bool _)) rfl rfl rfl) ?_
    refine ops_v (v_assign (v := (.int _ _)) rfl rfl) ?_
    refine ops_v (v_assign (v := (.bool _)) rfl rfl) ?_
    refine ops_nil ?_
    refine W_seq ?_
    -- ((apply.lifter).lift: until; chunks n1,n0,S,C,f; ptr 2=n0,3=n1,17=n0)
    cases ok with
    | true =>
      have hh := (hh rfl).2.2.2
      simp only [hF] at hh
      obtain ⟨rfl, rfl, rfl⟩ := full.one hh
      refine W_region ?_
      refine ops_v (v_move (v := (.bool _)) rfl rfl) ?_
      refine ops_nil ?_
      refine W_if_t rfl ?_
      refine W_seq ?_
      refine W_region ?_
      refine ops_v (v_move (v := (.int _ _)) rfl rfl) ?_
      refine ops_v (v_assign (v := (.int _ _)) rfl rfl) ?_
      refine ops_v (v_assign (v := _) rfl rfl) ?_
      refine ops_nil ?_
      refine W_ret ?_
      refine ⟨_, (.tmp (v := (.int _ _)) rfl (.tmp (v := (.int _ _)) rfl .nil)), ?_⟩
      exact ⟨rfl, H.tail.tail⟩
      -- ((apply.lifter).lift: ret; chunks k,x,S,C,f; ptr 2=x,3=k)
    | false =>
      refine W_region ?_
      refine ops_v (v_move (v := (.bool _)) rfl rfl) ?_
      refine ops_nil ?_
      refine W_if_f rfl ?_
      refine W_skip ?_
      refine W_seq ?_
      refine W_region ?_
      refine ops_loadA (vs := [_, _, _, _]) 1 H rfl ta74 rfl rfl rfl rfl ?_
      refine ops_loadA (vs := [_, _, _, _]) 0 H rfl ta76 rfl rfl rfl rfl ?_
      refine ops_call rfl c41 (FnC.ro 2 rfl H (fun _ H => link_ok' hw ia ib ic hL (decide_eq_false (by decide)) H)) ?_
      clear H; rintro _ w ⟨rfl, H⟩
      refine ops_v (v_move (v := (.tuple _)) rfl rfl) ?_
      refine ops_v (v_extract (v := (.int _ _)) rfl rfl rfl) ?_
      refine ops_v (v_extract (v := (.agg _)) rfl rfl rfl) ?_
      refine ops_v (v_extract (v := (.bool _)) rfl rfl rfl) ?_
      refine ops_alloc H rfl tz53 ?_
      clear H; intro bn0 w H
      refine ops_v (v_assign (v := (.int _ _)) rfl rfl) ?_
      refine ops_store (vs := [_, _, _]) (v := (.agg _)) (cs' := [_, _, _]) 0 H rfl ts53 rfl rfl rfl rfl rfl rfl rfl rfl ?_
      clear H; intro w H
      refine ops_v (v_assign (v := (.bool _)) rfl rfl) ?_
      refine ops_nil ?_
      refine W_seq ?_
      refine W_seq ?_
      refine W_region ?_
      refine ops_v (v_move (v := (.bool _)) rfl rfl) ?_
      refine ops_v (v_not rfl rfl _ rfl) ?_
      refine ops_nil ?_
      refine W_if_t rfl ?_
      refine W_seq ?_
      refine W_region ?_
      refine ops_v (v_fieldAddr rfl fo74_3 rfl rfl) ?_
      refine ops_load (v := _) 2 H rfl tc72 rfl rfl rfl ?_
      refine ops_v (v_indexAddr_arr rfl ae53 rfl rfl (by first | omega | decide) rfl) ?_
      refine ops_load (v := (.int _ _)) 0 H rfl tc3 rfl rfl rfl ?_
      refine ops_v (v_indexAddr_arr rfl ae53 rfl rfl (by first | omega | decide) rfl) ?_
      refine ops_load (v := (.int _ _)) 0 H rfl tc3 rfl rfl rfl ?_
      refine ops_v (v_indexAddr_arr rfl ae53 rfl rfl (by first | omega | decide) rfl) ?_
      refine ops_load (v := (.int _ _)) 0 H rfl tc3 rfl rfl rfl ?_
      refine ops_callV (first := []) rfl rfl hcall (FnC.ro 5 rfl H (fun _ H => hfn _ _ _ _ _ _ H)) ?_
      clear H; rintro _ w ⟨rfl, H⟩
      refine ops_v (v_move (v := (.tuple _)) rfl rfl) ?_
      refine ops_v (v_extract (v := (.int _ _)) rfl rfl rfl) ?_
      refine ops_v (v_extract (v := (.int _ _)) rfl rfl rfl) ?_
      refine ops_v (v_assign (v := (.int _ _)) rfl rfl) ?_
      refine ops_v (v_assign (v := (.int _ _)) rfl rfl) ?_
      refine ops_nil ?_
      refine W_seq ?_
      refine W_seq ?_
      refine W_region ?_
      refine ops_v (v_move (v := (.int _ _)) rfl rfl) ?_
      refine ops_v (v_neq false rfl rfl rfl (decide_eq_false (by first | omega | (simp only; omega) | rfl | decide))) ?_
      refine ops_nil ?_
      refine W_if_f rfl ?_
      refine W_skip ?_
      refine W_seq ?_
      refine W_draw (is := [1, 2]) mixed H ?_
      clear H; intro w H
      refine any_take 0 rfl (by kernel_rfl) (by kernel_rfl) (by kernel_rfl) (v_loadA (vs := [_, _, _, _]) rfl ta74 (fun _ hS => hS.2.1 _ _ _ rfl) rfl rfl rfl) ?_
      refine any_take 1 rfl (by kernel_rfl) (by kernel_rfl) (by kernel_rfl) (v_loadA (vs := [_, _, _, _]) rfl ta76 (fun _ hS => hS.1 _ _ _ rfl) rfl rfl rfl) ?_
      refine any_take 3 rfl (by kernel_rfl) (by kernel_rfl) (by kernel_rfl) (v_fieldAddr rfl fo74_0 rfl rfl) ?_
      refine any_take 4 rfl (by kernel_rfl) (by kernel_rfl) (by kernel_rfl) (v_load (v := (.pointer _)) rfl tc25 (fun _ hS => hS.2.1 _ _ _ rfl) rfl rfl) ?_
      refine any_take 5 rfl (by kernel_rfl) (by kernel_rfl) (by kernel_rfl) (v_move (v := (.int _ _)) rfl rfl) ?_
      refine any_one 2 rfl (by kernel_rfl) ?_
      refine ops_call rfl c42 (done_ok (k := ⟨t, a, b, c⟩) H) ?_
      clear H; rintro _ w ⟨bx, bk, rfl, H⟩
      refine ops_nil ⟨H.stab [(3, 1), (4, 2)] ⟨rfl, rfl, trivial⟩, ?_⟩
      refine any_one 6 rfl (by kernel_rfl) ?_
      refine ops_call rfl c17 (FnC.at 5 rfl H (fun _ H => Leaf_ok hm h H)) ?_
      clear H; rintro _ w ⟨rfl, H⟩
      have H := H.mapAt 6 rfl (fun _ H => H.cacheExt hw g.ext g.wf)
      refine ops_nil ⟨H.stab [(3, 1), (4, 2)] ⟨rfl, rfl, trivial⟩, ?_⟩
      refine any_take 7 rfl (by kernel_rfl) (by kernel_rfl) (by kernel_rfl) (v_extract (v := (.int _ _)) rfl rfl rfl) ?_
      refine any_take 8 rfl (by kernel_rfl) (by kernel_rfl) (by kernel_rfl) (v_extract (v := (.int _ _)) rfl rfl rfl) ?_
      refine any_one 9 rfl (by kernel_rfl) ?_
      refine ops_callV (first := []) rfl rfl c46 (done1_at 4 rfl hit H) ?_
      clear H; rintro _ w ⟨rfl, H⟩
      refine ops_nil ⟨H.stab [(3, 1), (4, 2)] ⟨rfl, rfl, trivial⟩, ?_⟩
      refine any_take 10 rfl (by kernel_rfl) (by kernel_rfl) (by kernel_rfl) (v_extract (v := (.int _ _)) rfl rfl rfl) ?_
      refine any_take 11 rfl (by kernel_rfl) (by kernel_rfl) (by kernel_rfl) (v_extract (v := (.int _ _)) rfl rfl rfl) ?_
      refine any_take 12 rfl (by kernel_rfl) (by kernel_rfl) (by kernel_rfl) (v_assign (v := (.int _ _)) rfl rfl) ?_
      refine any_take 13 rfl (by kernel_rfl) (by kernel_rfl) (by kernel_rfl) (v_assign (v := (.int _ _)) rfl rfl) ?_
      refine any_done (by kernel_rfl) ?_
      refine W_ret ?_
      refine ⟨_, (.tmp (v := (.int _ _)) rfl (.tmp (v := (.int _ _)) rfl .nil)), ?_⟩
      exact ⟨rfl, H.tail.tail.tail.tail.tail⟩
      -- ((apply.lifter).lift: ret; chunks j,y,n0,k,x,S,C,f; ptr 2=x,3=k,9=n0,35=x,37=n0,39=n0,41=n0,52=x)
  | @err1 s a b c s1 i e L hL h16 h1 he ih =>
    intro wb w R o p t fv C hF hf hw ia ib ic H
    have full : Lifts f s a b c s1 0 e := .err1 L hL h16 h1 he
    have hs := M.linkOf_sides hw ia ib ic hL h16 false
    refine FnC_of Tryd.func36 rfl rfl rfl rfl ?_
    refine W_seq ?_
    refine W_region ?_
    refine ops_box (v := (.agg _)) (cs := [_, _, _, _]) H rfl rfl rfl ?_
    clear H; intro bn0 w H
    refine ops_box (v := (.agg _)) (cs := [_, _, _, _]) H rfl rfl rfl ?_
    clear H; intro bn1 w H
    refine ops_v (v_assign (v := _) rfl rfl) ?_
    refine ops_v (v_assign (v := _) rfl rfl) ?_
    refine ops_nil ?_
    refine W_seq ?_
    refine W_seq ?_
    refine W_region ?_
    refine ops_v (v_fieldAddr rfl fo74_1 rfl rfl) ?_
    refine ops_load (v := (.pointer _)) 1 H rfl tc29 rfl rfl rfl ?_
    refine ops_loadA (vs := [_, _, _, _]) 0 H rfl ta76 rfl rfl rfl rfl ?_
    refine ops_call rfl c40 (FnC.ro 3 rfl H (fun _ H => find_ok' ⟨t, a, b, c⟩ H)) ?_
    clear H; rintro _ w ⟨⟨n, ok, rfl, hh⟩, H⟩
    refine ops_v (v_move (v := (.tuple _)) rfl rfl) ?_
    refine ops_v (v_extract (v := (.int _ _)) rfl rfl rfl) ?_
    refine ops_v (v_extract (v := (.bool _)) rfl rfl rfl) ?_
    refine ops_v (v_assign (v := (.int _ _)) rfl rfl) ?_
    refine ops_v (v_assign (v := (.bool _)) rfl rfl) ?_
    refine ops_nil ?_
    refine W_seq ?_
    -- ((apply.lifter).lift: until; chunks n1,n0,S,C,f; ptr 2=n0,3=n1,17=n0)
    cases ok with
    | true =>
      have hh := (hh rfl).2.2.2
      simp only [hF] at hh
      exact (he (full.one hh).2.2).elim
    | false =>
      refine W_region ?_
      refine ops_v (v_move (v := (.bool _)) rfl rfl) ?_
      refine ops_nil ?_
      refine W_if_f rfl ?_
      refine W_skip ?_
      refine W_seq ?_
      refine W_region ?_
      refine ops_loadA (vs := [_, _, _, _]) 1 H rfl ta74 rfl rfl rfl rfl ?_
      refine ops_loadA (vs := [_, _, _, _]) 0 H rfl ta76 rfl rfl rfl rfl ?_
      refine ops_call rfl c41 (FnC.ro 2 rfl H (fun _ H => link_ok' hw ia ib ic hL (decide_eq_true h16) H)) ?_
      clear H; rintro _ w ⟨rfl, H⟩
      refine ops_v (v_move (v := (.tuple _)) rfl rfl) ?_
      refine ops_v (v_extract (v := (.int _ _)) rfl rfl rfl) ?_
      refine ops_v (v_extract (v := (.agg _)) rfl rfl rfl) ?_
      refine ops_v (v_extract (v := (.bool _)) rfl rfl rfl) ?_
      refine ops_alloc H rfl tz53 ?_
      clear H; intro bn0 w H
      refine ops_v (v_assign (v := (.int _ _)) rfl rfl) ?_
      refine ops_store (vs := [_, _, _]) (v := (.agg _)) (cs' := [_, _, _]) 0 H rfl ts53 rfl rfl rfl rfl rfl rfl rfl rfl ?_
      clear H; intro w H
      refine ops_v (v_assign (v := (.bool _)) rfl rfl) ?_
      refine ops_nil ?_
      refine W_seq ?_
      refine W_seq ?_
      refine W_region ?_
      refine ops_v (v_move (v := (.bool _)) rfl rfl) ?_
      refine ops_v (v_not rfl rfl _ rfl) ?_
      refine ops_nil ?_
      refine W_if_f rfl ?_
      refine W_skip ?_
      refine W_seq ?_
      refine W_draw (is := [1, 2]) mixed H ?_
      clear H; intro w H
      refine any_take 0 rfl (by kernel_rfl) (by kernel_rfl) (by kernel_rfl) (v_loadA (vs := [_, _, _, _]) rfl ta74 (fun _ hS => hS.2.1 _ _ _ rfl) rfl rfl rfl) ?_
      refine any_take 1 rfl (by kernel_rfl) (by kernel_rfl) (by kernel_rfl) (v_loadA (vs := [_, _, _, _]) rfl ta74 (fun _ hS => hS.2.1 _ _ _ rfl) rfl rfl rfl) ?_
      refine any_take 2 rfl (by kernel_rfl) (by kernel_rfl) (by kernel_rfl) (v_loadA (vs := [_, _, _, _]) rfl ta76 (fun _ hS => hS.1 _ _ _ rfl) rfl rfl rfl) ?_
      refine any_take 3 rfl (by kernel_rfl) (by kernel_rfl) (by kernel_rfl) (v_move (v := (.int _ _)) rfl rfl) ?_
      refine any_one 4 rfl (by kernel_rfl) ?_
      refine ops_call rfl c43 (FnC.ro 3 rfl H (fun _ H => sides_ok' ia ib ic h16 false rfl rfl rfl H)) ?_
      clear H; rintro _ w ⟨rfl, H⟩
      refine ops_nil ⟨H.stab [(1, 1), (2, 2)] ⟨rfl, rfl, trivial⟩, ?_⟩
      refine any_one 5 rfl (by kernel_rfl) ?_
      refine ops_call rfl c36 (FnC.mid (A := [_, _, _]) (B := [_, _, _]) (B' := [_, _, _]) H (fun _ H => ih hF hf hw hs.1 hs.2.1 hs.2.2.1 H)) ?_
      clear H; rintro _ w ⟨rfl, H⟩
      simp only [List.cons_append, List.nil_append] at H
      refine ops_nil ⟨H.stab [(1, 1), (2, 2)] ⟨rfl, rfl, trivial⟩, ?_⟩
      refine any_take 6 rfl (by kernel_rfl) (by kernel_rfl) (by kernel_rfl) (v_move (v := (.tuple _)) rfl rfl) ?_
      refine any_take 7 rfl (by kernel_rfl) (by kernel_rfl) (by kernel_rfl) (v_extract (v := (.int _ _)) rfl rfl rfl) ?_
      refine any_take 8 rfl (by kernel_rfl) (by kernel_rfl) (by kernel_rfl) (v_extract (v := (.int _ _)) rfl rfl rfl) ?_
      refine any_take 9 rfl (by kernel_rfl) (by kernel_rfl) (by kernel_rfl) (v_assign (v := (.int _ _)) rfl rfl) ?_
      refine any_take 10 rfl (by kernel_rfl) (by kernel_rfl) (by kernel_rfl) (v_assign (v := (.int _ _)) rfl rfl) ?_
      refine any_done (by kernel_rfl) ?_
      refine W_seq ?_
      refine W_seq ?_
      refine W_region ?_
      refine ops_v (v_move (v := (.int _ _)) rfl rfl) ?_
      refine ops_v (v_neq true rfl rfl rfl (decide_eq_true (by first | omega | (simp only; omega) | rfl | decide))) ?_
      refine ops_nil ?_
      refine W_if_t rfl ?_
      refine W_seq ?_
      refine W_region ?_
      refine ops_v (v_move (v := (.int _ _)) rfl rfl) ?_
      refine ops_v (v_assign (v := _) rfl rfl) ?_
      refine ops_v (v_assign (v := (.int _ _)) rfl rfl) ?_
      refine ops_nil ?_
      refine W_ret ?_
      refine ⟨_, (.tmp (v := (.int _ _)) rfl (.tmp (v := (.int _ _)) rfl .nil)), ?_⟩
      exact ⟨rfl, H.tail.tail.tail⟩
      -- ((apply.lifter).lift: ret; chunks n0,k,x,S,C,f; ptr 2=x,3=k,9=n0)
  | @err2 s a b c s1 i1 s2 i e L hL h16 h1 h2 he ih1 ih2 =>
    intro wb w R o p t fv C hF hf hw ia ib ic H
    have full : Lifts f s a b c s2 0 e := .err2 L hL h16 h1 h2 he
    have hs := M.linkOf_sides hw ia ib ic hL h16 false
    have ht := M.linkOf_sides hw ia ib ic hL h16 true
    have g1 := h1.good hw hs.1 hs.2.1 hs.2.2.1
    have x1 := g1.ext
    refine FnC_of Tryd.func36 rfl rfl rfl rfl ?_
    refine W_seq ?_
    refine W_region ?_
    refine ops_box (v := (.agg _)) (cs := [_, _, _, _]) H rfl rfl rfl ?_
    clear H; intro bn0 w H
    refine ops_box (v := (.agg _)) (cs := [_, _, _, _]) H rfl rfl rfl ?_
    clear H; intro bn1 w H
    refine ops_v (v_assign (v := _) rfl rfl) ?_
    refine ops_v (v_assign (v := _) rfl rfl) ?_
    refine ops_nil ?_
    refine W_seq ?_
    refine W_seq ?_
    refine W_region ?_
    refine ops_v (v_fieldAddr rfl fo74_1 rfl rfl) ?_
    refine ops_load (v := (.pointer _)) 1 H rfl tc29 rfl rfl rfl ?_
    refine ops_loadA (vs := [_, _, _, _]) 0 H rfl ta76 rfl rfl rfl rfl ?_
    refine ops_call rfl c40 (FnC.ro 3 rfl H (fun _ H => find_ok' ⟨t, a, b, c⟩ H)) ?_
    clear H; rintro _ w ⟨⟨n, ok, rfl, hh⟩, H⟩
    refine ops_v (v_move (v := (.tuple _)) rfl rfl) ?_
    refine ops_v (v_extract (v := (.int _ _)) rfl rfl rfl) ?_
    refine ops_v (v_extract (v := (.bool _)) rfl rfl rfl) ?_
    refine ops_v (v_assign (v := (.int _ _)) rfl rfl) ?_
    refine ops_v (v_assign (v := (.bool _)) rfl rfl) ?_
    refine ops_nil ?_
    refine W_seq ?_
    -- ((apply.lifter).lift: until; chunks n1,n0,S,C,f; ptr 2=n0,3=n1,17=n0)
    cases ok with
    | true =>
      have hh := (hh rfl).2.2.2
      simp only [hF] at hh
      exact (he (full.one hh).2.2).elim
    | false =>
      refine W_region ?_
      refine ops_v (v_move (v := (.bool _)) rfl rfl) ?_
      refine ops_nil ?_
      refine W_if_f rfl ?_
      refine W_skip ?_
      refine W_seq ?_
      refine W_region ?_
      refine ops_loadA (vs := [_, _, _, _]) 1 H rfl ta74 rfl rfl rfl rfl ?_
      refine ops_loadA (vs := [_, _, _, _]) 0 H rfl ta76 rfl rfl rfl rfl ?_
      refine ops_call rfl c41 (FnC.ro 2 rfl H (fun _ H => link_ok' hw ia ib ic hL (decide_eq_true h16) H)) ?_
      clear H; rintro _ w ⟨rfl, H⟩
      refine ops_v (v_move (v := (.tuple _)) rfl rfl) ?_
      refine ops_v (v_extract (v := (.int _ _)) rfl rfl rfl) ?_
      refine ops_v (v_extract (v := (.agg _)) rfl rfl rfl) ?_
      refine ops_v (v_extract (v := (.bool _)) rfl rfl rfl) ?_
      refine ops_alloc H rfl tz53 ?_
      clear H; intro bn0 w H
      refine ops_v (v_assign (v := (.int _ _)) rfl rfl) ?_
      refine ops_store (vs := [_, _, _]) (v := (.agg _)) (cs' := [_, _, _]) 0 H rfl ts53 rfl rfl rfl rfl rfl rfl rfl rfl ?_
      clear H; intro w H
      refine ops_v (v_assign (v := (.bool _)) rfl rfl) ?_
      refine ops_nil ?_
      refine W_seq ?_
      refine W_seq ?_
      refine W_region ?_
      refine ops_v (v_move (v := (.bool _)) rfl rfl) ?_
      refine ops_v (v_not rfl rfl _ rfl) ?_
      refine ops_nil ?_
      refine W_if_f rfl ?_
      refine W_skip ?_
      refine W_seq ?_
      refine W_draw (is := [1, 2]) mixed H ?_
      clear H; intro w H
      refine any_take 0 rfl (by kernel_rfl) (by kernel_rfl) (by kernel_rfl) (v_loadA (vs := [_, _, _, _]) rfl ta74 (fun _ hS => hS.2.1 _ _ _ rfl) rfl rfl rfl) ?_
      refine any_take 1 rfl (by kernel_rfl) (by kernel_rfl) (by kernel_rfl) (v_loadA (vs := [_, _, _, _]) rfl ta74 (fun _ hS => hS.2.1 _ _ _ rfl) rfl rfl rfl) ?_
      refine any_take 2 rfl (by kernel_rfl) (by kernel_rfl) (by kernel_rfl) (v_loadA (vs := [_, _, _, _]) rfl ta76 (fun _ hS => hS.1 _ _ _ rfl) rfl rfl rfl) ?_
      refine any_take 3 rfl (by kernel_rfl) (by kernel_rfl) (by kernel_rfl) (v_move (v := (.int _ _)) rfl rfl) ?_
      refine any_one 4 rfl (by kernel_rfl) ?_
      refine ops_call rfl c43 (FnC.ro 3 rfl H (fun _ H => sides_ok' ia ib ic h16 false rfl rfl rfl H)) ?_
      clear H; rintro _ w ⟨rfl, H⟩
      refine ops_nil ⟨H.stab [(1, 1), (2, 2)] ⟨rfl, rfl, trivial⟩, ?_⟩
      refine any_one 5 rfl (by kernel_rfl) ?_
      refine ops_call rfl c36 (FnC.mid (A := [_, _, _]) (B := [_, _, _]) (B' := [_, _, _]) H (fun _ H => ih1 hF hf hw hs.1 hs.2.1 hs.2.2.1 H)) ?_
      clear H; rintro _ w ⟨rfl, H⟩
      simp only [List.cons_append, List.nil_append] at H
      refine ops_nil ⟨H.stab [(1, 1), (2, 2)] ⟨rfl, rfl, trivial⟩, ?_⟩
      refine any_take 6 rfl (by kernel_rfl) (by kernel_rfl) (by kernel_rfl) (v_move (v := (.tuple _)) rfl rfl) ?_
      refine any_take 7 rfl (by kernel_rfl) (by kernel_rfl) (by kernel_rfl) (v_extract (v := (.int _ _)) rfl rfl rfl) ?_
      refine any_take 8 rfl (by kernel_rfl) (by kernel_rfl) (by kernel_rfl) (v_extract (v := (.int _ _)) rfl rfl rfl) ?_
      refine any_take 9 rfl (by kernel_rfl) (by kernel_rfl) (by kernel_rfl) (v_assign (v := (.int _ _)) rfl rfl) ?_
      refine any_take 10 rfl (by kernel_rfl) (by kernel_rfl) (by kernel_rfl) (v_assign (v := (.int _ _)) rfl rfl) ?_
      refine any_done (by kernel_rfl) ?_
      refine W_seq ?_
      refine W_seq ?_
      refine W_region ?_
      refine ops_v (v_move (v := (.int _ _)) rfl rfl) ?_
      refine ops_v (v_neq false rfl rfl rfl (decide_eq_false (by first | omega | (simp only; omega) | rfl | decide))) ?_
      refine ops_nil ?_
      refine W_if_f rfl ?_
      refine W_skip ?_
      refine W_seq ?_
      refine W_draw (is := [1, 2]) mixed H ?_
      clear H; intro w H
      refine any_take 0 rfl (by kernel_rfl) (by kernel_rfl) (by kernel_rfl) (v_loadA (vs := [_, _, _, _]) rfl ta74 (fun _ hS => hS.2.1 _ _ _ rfl) rfl rfl rfl) ?_
      refine any_take 1 rfl (by kernel_rfl) (by kernel_rfl) (by kernel_rfl) (v_loadA (vs := [_, _, _, _]) rfl ta74 (fun _ hS => hS.2.1 _ _ _ rfl) rfl rfl rfl) ?_
      refine any_take 2 rfl (by kernel_rfl) (by kernel_rfl) (by kernel_rfl) (v_loadA (vs := [_, _, _, _]) rfl ta76 (fun _ hS => hS.1 _ _ _ rfl) rfl rfl rfl) ?_
      refine any_take 3 rfl (by kernel_rfl) (by kernel_rfl) (by kernel_rfl) (v_move (v := (.int _ _)) rfl rfl) ?_
      refine any_one 4 rfl (by kernel_rfl) ?_
      refine ops_call rfl c43 (FnC.ro 3 rfl H (fun _ H => sides_ok' (x1.isN ia) (x1.isN ib) (x1.isN ic) h16 true (x1.sideOf ia L true) (x1.sideOf ib L true) (x1.sideOf ic L true) H)) ?_
      clear H; rintro _ w ⟨rfl, H⟩
      refine ops_nil ⟨H.stab [(1, 1), (2, 2)] ⟨rfl, rfl, trivial⟩, ?_⟩
      refine any_one 5 rfl (by kernel_rfl) ?_
      refine ops_call rfl c36 (FnC.mid (A := [_, _, _]) (B := [_, _, _]) (B' := [_, _, _]) H (fun _ H => ih2 hF hf g1.wf (x1.isN ht.1) (x1.isN ht.2.1) (x1.isN ht.2.2.1) H)) ?_
      clear H; rintro _ w ⟨rfl, H⟩
      simp only [List.cons_append, List.nil_append] at H
      refine ops_nil ⟨H.stab [(1, 1), (2, 2)] ⟨rfl, rfl, trivial⟩, ?_⟩
      refine any_take 6 rfl (by kernel_rfl) (by kernel_rfl) (by kernel_rfl) (v_move (v := (.tuple _)) rfl rfl) ?_
      refine any_take 7 rfl (by kernel_rfl) (by kernel_rfl) (by kernel_rfl) (v_extract (v := (.int _ _)) rfl rfl rfl) ?_
      refine any_take 8 rfl (by kernel_rfl) (by kernel_rfl) (by kernel_rfl) (v_extract (v := (.int _ _)) rfl rfl rfl) ?_
      refine any_take 9 rfl (by kernel_rfl) (by kernel_rfl) (by kernel_rfl) (v_assign (v := (.int _ _)) rfl rfl) ?_
      refine any_take 10 rfl (by kernel_rfl) (by kernel_rfl) (by kernel_rfl) (v_assign (v := (.int _ _)) rfl rfl) ?_
      refine any_done (by kernel_rfl) ?_
      refine W_seq ?_
      refine W_seq ?_
      refine W_region ?_
      refine ops_v (v_move (v := (.int _ _)) rfl rfl) ?_
      refine ops_v (v_neq true rfl rfl rfl (decide_eq_true (by first | omega | (simp only; omega) | rfl | decide))) ?_
      refine ops_nil ?_
      refine W_if_t rfl ?_
      refine W_seq ?_
      refine W_region ?_
      refine ops_v (v_move (v := (.int _ _)) rfl rfl) ?_
      refine ops_v (v_assign (v := _) rfl rfl) ?_
      refine ops_v (v_assign (v := (.int _ _)) rfl rfl) ?_
      refine ops_nil ?_
      refine W_ret ?_
      refine ⟨_, (.tmp (v := (.int _ _)) rfl (.tmp (v := (.int _ _)) rfl .nil)), ?_⟩
      exact ⟨rfl, H.tail.tail.tail⟩
      -- ((apply.lifter).lift: ret; chunks n0,k,x,S,C,f; ptr 2=x,3=k,9=n0)
  | @ask s a b c s1 i1 s2 i2 s3 i3 e3 L hL h16 h1 h2 h3 ih1 ih2 =>
    intro wb w R o p t fv C hF hf hw ia ib ic H
    have full : Lifts f s a b c s3 i3 e3 := .ask L hL h16 h1 h2 h3
    have g := full.good hw ia ib ic
    have hit := hit_of hF full hw ia ib ic
    have hs := M.linkOf_sides hw ia ib ic hL h16 false
    have ht := M.linkOf_sides hw ia ib ic hL h16 true
    have g1 := h1.good hw hs.1 hs.2.1 hs.2.2.1
    have x1 := g1.ext
    have g2 := h2.good g1.wf (x1.isN ht.1) (x1.isN ht.2.1) (x1.isN ht.2.2.1)
    have x3 := M.make_ext s2 L i1 i2
    rw [h3] at x3
    have hm := g2.wf.most
    refine FnC_of Tryd.func36 rfl rfl rfl rfl ?_
    refine W_seq ?_
    refine W_region ?_
    refine ops_box (v := (.agg _)) (cs := [_, _, _, _]) H rfl rfl rfl ?_
    clear H; intro bn0 w H
    refine ops_box (v := (.agg _)) (cs := [_, _, _, _]) H rfl rfl rfl ?_
    clear H; intro bn1 w H
    refine ops_v (v_assign (v := _) rfl rfl) ?_
    refine ops_v (v_assign (v := _) rfl rfl) ?_
    refine ops_nil ?_
    refine W_seq ?_
    refine W_seq ?_
    refine W_region ?_
    refine ops_v (v_fieldAddr rfl fo74_1 rfl rfl) ?_
    refine ops_load (v := (.pointer _)) 1 H rfl tc29 rfl rfl rfl ?_
    refine ops_loadA (vs := [_, _, _, _]) 0 H rfl ta76 rfl rfl rfl rfl ?_
    refine ops_call rfl c40 (FnC.ro 3 rfl H (fun _ H => find_ok' ⟨t, a, b, c⟩ H)) ?_
    clear H; rintro _ w ⟨⟨n, ok, rfl, hh⟩, H⟩
    refine ops_v (v_move (v := (.tuple _)) rfl rfl) ?_
    refine ops_v (v_extract (v := (.int _ _)) rfl rfl rfl) ?_
    refine ops_v (v_extract (v := (.bool _)) rfl rfl rfl) ?_
    refine ops_v (v_assign (v := (.int _ _)) rfl rfl) ?_
    refine ops_v (v_assign (v := (.bool _)) rfl rfl) ?_
    refine ops_nil ?_
    refine W_seq ?_
    -- ((apply.lifter).lift: until; chunks n1,n0,S,C,f; ptr 2=n0,3=n1,17=n0)
    cases ok with
    | true =>
      have hh := (hh rfl).2.2.2
      simp only [hF] at hh
      obtain ⟨rfl, rfl, rfl⟩ := full.one hh
      refine W_region ?_
      refine ops_v (v_move (v := (.bool _)) rfl rfl) ?_
      refine ops_nil ?_
      refine W_if_t rfl ?_
      refine W_seq ?_
      refine W_region ?_
      refine ops_v (v_move (v := (.int _ _)) rfl rfl) ?_
      refine ops_v (v_assign (v := (.int _ _)) rfl rfl) ?_
      refine ops_v (v_assign (v := _) rfl rfl) ?_
      refine ops_nil ?_
      refine W_ret ?_
      refine ⟨_, (.tmp (v := (.int _ _)) rfl (.tmp (v := (.int _ _)) rfl .nil)), ?_⟩
      exact ⟨rfl, H.tail.tail⟩
      -- ((apply.lifter).lift: ret; chunks k,x,S,C,f; ptr 2=x,3=k)
    | false =>
      refine W_region ?_
      refine ops_v (v_move (v := (.bool _)) rfl rfl) ?_
      refine ops_nil ?_
      refine W_if_f rfl ?_
      refine W_skip ?_
      refine W_seq ?_
      refine W_region ?_
      refine ops_loadA (vs := [_, _, _, _]) 1 H rfl ta74 rfl rfl rfl rfl ?_
      refine ops_loadA (vs := [_, _, _, _]) 0 H rfl ta76 rfl rfl rfl rfl ?_
      refine ops_call rfl c41 (FnC.ro 2 rfl H (fun _ H => link_ok' hw ia ib ic hL (decide_eq_true h16) H)) ?_
      clear H; rintro _ w ⟨rfl, H⟩
      refine ops_v (v_move (v := (.tuple _)) rfl rfl) ?_
      refine ops_v (v_extract (v := (.int _ _)) rfl rfl rfl) ?_
      refine ops_v (v_extract (v := (.agg _)) rfl rfl rfl) ?_
      refine ops_v (v_extract (v := (.bool _)) rfl rfl rfl) ?_
      refine ops_alloc H rfl tz53 ?_
      clear H; intro bn0 w H
      refine ops_v (v_assign (v := (.int _ _)) rfl rfl) ?_
      refine ops_store (vs := [_, _, _]) (v := (.agg _)) (cs' := [_, _, _]) 0 H rfl ts53 rfl rfl rfl rfl rfl rfl rfl rfl ?_
      clear H; intro w H
      refine ops_v (v_assign (v := (.bool _)) rfl rfl) ?_
      refine ops_nil ?_
      refine W_seq ?_
      refine W_seq ?_
      refine W_region ?_
      refine ops_v (v_move (v := (.bool _)) rfl rfl) ?_
      refine ops_v (v_not rfl rfl _ rfl) ?_
      refine ops_nil ?_
      refine W_if_f rfl ?_
      refine W_skip ?_
      refine W_seq ?_
      refine W_draw (is := [1, 2]) mixed H ?_
      clear H; intro w H
      refine any_take 0 rfl (by kernel_rfl) (by kernel_rfl) (by kernel_rfl) (v_loadA (vs := [_, _, _, _]) rfl ta74 (fun _ hS => hS.2.1 _ _ _ rfl) rfl rfl rfl) ?_
      refine any_take 1 rfl (by kernel_rfl) (by kernel_rfl) (by kernel_rfl) (v_loadA (vs := [_, _, _, _]) rfl ta74 (fun _ hS => hS.2.1 _ _ _ rfl) rfl rfl rfl) ?_
      refine any_take 2 rfl (by kernel_rfl) (by kernel_rfl) (by kernel_rfl) (v_loadA (vs := [_, _, _, _]) rfl ta76 (fun _ hS => hS.1 _ _ _ rfl) rfl rfl rfl) ?_
      refine any_take 3 rfl (by kernel_rfl) (by kernel_rfl) (by kernel_rfl) (v_move (v := (.int _ _)) rfl rfl) ?_
      refine any_one 4 rfl (by kernel_rfl) ?_
      refine ops_call rfl c43 (FnC.ro 3 rfl H (fun _ H => sides_ok' ia ib ic h16 false rfl rfl rfl H)) ?_
      clear H; rintro _ w ⟨rfl, H⟩
      refine ops_nil ⟨H.stab [(1, 1), (2, 2)] ⟨rfl, rfl, trivial⟩, ?_⟩
      refine any_one 5 rfl (by kernel_rfl) ?_
      refine ops_call rfl c36 (FnC.mid (A := [_, _, _]) (B := [_, _, _]) (B' := [_, _, _]) H (fun _ H => ih1 hF hf hw hs.1 hs.2.1 hs.2.2.1 H)) ?_
      clear H; rintro _ w ⟨rfl, H⟩
      simp only [List.cons_append, List.nil_append] at H
      refine ops_nil ⟨H.stab [(1, 1), (2, 2)] ⟨rfl, rfl, trivial⟩, ?_⟩
      refine any_take 6 rfl (by kernel_rfl) (by kernel_rfl) (by kernel_rfl) (v_move (v := (.tuple _)) rfl rfl) ?_
      refine any_take 7 rfl (by kernel_rfl) (by kernel_rfl) (by kernel_rfl) (v_extract (v := (.int _ _)) rfl rfl rfl) ?_
      refine any_take 8 rfl (by kernel_rfl) (by kernel_rfl) (by kernel_rfl) (v_extract (v := (.int _ _)) rfl rfl rfl) ?_
      refine any_take 9 rfl (by kernel_rfl) (by kernel_rfl) (by kernel_rfl) (v_assign (v := (.int _ _)) rfl rfl) ?_
      refine any_take 10 rfl (by kernel_rfl) (by kernel_rfl) (by kernel_rfl) (v_assign (v := (.int _ _)) rfl rfl) ?_
      refine any_done (by kernel_rfl) ?_
      refine W_seq ?_
      refine W_seq ?_
      refine W_region ?_
      refine ops_v (v_move (v := (.int _ _)) rfl rfl) ?_
      refine ops_v (v_neq false rfl rfl rfl (decide_eq_false (by first | omega | (simp only; omega) | rfl | decide))) ?_
      refine ops_nil ?_
      refine W_if_f rfl ?_
      refine W_skip ?_
      refine W_seq ?_
      refine W_draw (is := [1, 2]) mixed H ?_
      clear H; intro w H
      refine any_take 0 rfl (by kernel_rfl) (by kernel_rfl) (by kernel_rfl) (v_loadA (vs := [_, _, _, _]) rfl ta74 (fun _ hS => hS.2.1 _ _ _ rfl) rfl rfl rfl) ?_
      refine any_take 1 rfl (by kernel_rfl) (by kernel_rfl) (by kernel_rfl) (v_loadA (vs := [_, _, _, _]) rfl ta74 (fun _ hS => hS.2.1 _ _ _ rfl) rfl rfl rfl) ?_
      refine any_take 2 rfl (by kernel_rfl) (by kernel_rfl) (by kernel_rfl) (v_loadA (vs := [_, _, _, _]) rfl ta76 (fun _ hS => hS.1 _ _ _ rfl) rfl rfl rfl) ?_
      refine any_take 3 rfl (by kernel_rfl) (by kernel_rfl) (by kernel_rfl) (v_move (v := (.int _ _)) rfl rfl) ?_
      refine any_one 4 rfl (by kernel_rfl) ?_
      refine ops_call rfl c43 (FnC.ro 3 rfl H (fun _ H => sides_ok' (x1.isN ia) (x1.isN ib) (x1.isN ic) h16 true (x1.sideOf ia L true) (x1.sideOf ib L true) (x1.sideOf ic L true) H)) ?_
      clear H; rintro _ w ⟨rfl, H⟩
      refine ops_nil ⟨H.stab [(1, 1), (2, 2)] ⟨rfl, rfl, trivial⟩, ?_⟩
      refine any_one 5 rfl (by kernel_rfl) ?_
      refine ops_call rfl c36 (FnC.mid (A := [_, _, _]) (B := [_, _, _]) (B' := [_, _, _]) H (fun _ H => ih2 hF hf g1.wf (x1.isN ht.1) (x1.isN ht.2.1) (x1.isN ht.2.2.1) H)) ?_
      clear H; rintro _ w ⟨rfl, H⟩
      simp only [List.cons_append, List.nil_append] at H
      refine ops_nil ⟨H.stab [(1, 1), (2, 2)] ⟨rfl, rfl, trivial⟩, ?_⟩
      refine any_take 6 rfl (by kernel_rfl) (by kernel_rfl) (by kernel_rfl) (v_move (v := (.tuple _)) rfl rfl) ?_
      refine any_take 7 rfl (by kernel_rfl) (by kernel_rfl) (by kernel_rfl) (v_extract (v := (.int _ _)) rfl rfl rfl) ?_
      refine any_take 8 rfl (by kernel_rfl) (by kernel_rfl) (by kernel_rfl) (v_extract (v := (.int _ _)) rfl rfl rfl) ?_
      refine any_take 9 rfl (by kernel_rfl) (by kernel_rfl) (by kernel_rfl) (v_assign (v := (.int _ _)) rfl rfl) ?_
      refine any_take 10 rfl (by kernel_rfl) (by kernel_rfl) (by kernel_rfl) (v_assign (v := (.int _ _)) rfl rfl) ?_
      refine any_done (by kernel_rfl) ?_
      refine W_seq ?_
      refine W_seq ?_
      refine W_region ?_
      refine ops_v (v_move (v := (.int _ _)) rfl rfl) ?_
      refine ops_v (v_neq false rfl rfl rfl (decide_eq_false (by first | omega | (simp only; omega) | rfl | decide))) ?_
      refine ops_nil ?_
      refine W_if_f rfl ?_
      refine W_skip ?_
      refine W_seq ?_
      refine W_draw (is := [1, 2]) mixed H ?_
      clear H; intro w H
      refine any_take 0 rfl (by kernel_rfl) (by kernel_rfl) (by kernel_rfl) (v_loadA (vs := [_, _, _, _]) rfl ta74 (fun _ hS => hS.2.1 _ _ _ rfl) rfl rfl rfl) ?_
      refine any_take 1 rfl (by kernel_rfl) (by kernel_rfl) (by kernel_rfl) (v_loadA (vs := [_, _, _, _]) rfl ta76 (fun _ hS => hS.1 _ _ _ rfl) rfl rfl rfl) ?_
      refine any_take 3 rfl (by kernel_rfl) (by kernel_rfl) (by kernel_rfl) (v_fieldAddr rfl fo74_0 rfl rfl) ?_
      refine any_take 4 rfl (by kernel_rfl) (by kernel_rfl) (by kernel_rfl) (v_load (v := (.pointer _)) rfl tc25 (fun _ hS => hS.2.1 _ _ _ rfl) rfl rfl) ?_
      refine any_take 5 rfl (by kernel_rfl) (by kernel_rfl) (by kernel_rfl) (v_move (v := (.int _ _)) rfl rfl) ?_
      refine any_take 6 rfl (by kernel_rfl) (by kernel_rfl) (by kernel_rfl) (v_move (v := (.int _ _)) rfl rfl) ?_
      refine any_take 7 rfl (by kernel_rfl) (by kernel_rfl) (by kernel_rfl) (v_move (v := (.int _ _)) rfl rfl) ?_
      refine any_one 2 rfl (by kernel_rfl) ?_
      refine ops_call rfl c42 (done_ok (k := ⟨t, a, b, c⟩) H) ?_
      clear H; rintro _ w ⟨bx, bk, rfl, H⟩
      refine ops_nil ⟨H.stab [(3, 1), (4, 2)] ⟨rfl, rfl, trivial⟩, ?_⟩
      refine any_one 8 rfl (by kernel_rfl) ?_
      refine ops_call rfl c21 (FnC.at 5 rfl H (fun _ H => Make_ok hm h3 H)) ?_
      clear H; rintro _ w ⟨rfl, H⟩
      have H := H.mapAt 6 rfl (fun _ H => H.cacheExt g2.wf x3 g.wf)
      refine ops_nil ⟨H.stab [(3, 1), (4, 2)] ⟨rfl, rfl, trivial⟩, ?_⟩
      refine any_take 9 rfl (by kernel_rfl) (by kernel_rfl) (by kernel_rfl) (v_extract (v := (.int _ _)) rfl rfl rfl) ?_
      refine any_take 10 rfl (by kernel_rfl) (by kernel_rfl) (by kernel_rfl) (v_extract (v := (.int _ _)) rfl rfl rfl) ?_
      refine any_one 11 rfl (by kernel_rfl) ?_
      refine ops_callV (first := []) rfl rfl c46 (done1_at 4 rfl hit H) ?_
      clear H; rintro _ w ⟨rfl, H⟩
      refine ops_nil ⟨H.stab [(3, 1), (4, 2)] ⟨rfl, rfl, trivial⟩, ?_⟩
      refine any_take 12 rfl (by kernel_rfl) (by kernel_rfl) (by kernel_rfl) (v_extract (v := (.int _ _)) rfl rfl rfl) ?_
      refine any_take 13 rfl (by kernel_rfl) (by kernel_rfl) (by kernel_rfl) (v_extract (v := (.int _ _)) rfl rfl rfl) ?_
      refine any_take 14 rfl (by kernel_rfl) (by kernel_rfl) (by kernel_rfl) (v_assign (v := (.int _ _)) rfl rfl) ?_
      refine any_take 15 rfl (by kernel_rfl) (by kernel_rfl) (by kernel_rfl) (v_assign (v := (.int _ _)) rfl rfl) ?_
      refine any_done (by kernel_rfl) ?_
      refine W_ret ?_
      refine ⟨_, (.tmp (v := (.int _ _)) rfl (.tmp (v := (.int _ _)) rfl .nil)), ?_⟩
      exact ⟨rfl, H.tail.tail.tail.tail.tail⟩
      -- ((apply.lifter).lift: ret; chunks j,y,n0,k,x,S,C,f; ptr 2=x,3=k,9=n0)
end Go.Proofs.YtchikjmhncojfaaDoor.W
