/- The walks of package limit: from, AtMost, Within. Conditions: none. -/
import Derived.Test.YtchikjmhncojfaaApply4
import Derived.Test.YtchikjmhncojfaaLimitM
set_option linter.unusedVariables false
namespace Go.Proofs.Ytchikjmhncojfaa.W
open Go Go.Proofs Go.RowKit
open Go.Proofs.Ytchikjmhncojfaa.M (Br St get getZ isN idx has down Wf rank i64 leafB askB Lifts lnk val sideOf linkOf Ext opF AtM)

def ValidM (st : St) (l : List (K2 × Value)) : Prop := ∀ k v, look l k = some v → ∃ n : Int, v = int n ∧ 0 ≤ k.a ∧ k.a ≤ 16 ∧ AtM st k.a k.b st n 0
theorem ValidM.ext {s t : St} {l : List (K2 × Value)} (h : ValidM s l) (w : Wf s) (x : Ext s t) (wt : Wf t) : ValidM t l := fun k v hk => by
  obtain ⟨n, hv, h0, h16, hh⟩ := h k v hk
  exact ⟨n, hv, h0, h16, hh.again w h0 h16 x wt⟩
theorem ValidM.nil {s : St} : ValidM s [] := fun k v hk => by simp [look_nil] at hk
theorem ValidM.put {s : St} {l : List (K2 × Value)} (h : ValidM s l) {k : K2} {n : Int} (h0 : 0 ≤ k.a) (h16 : k.a ≤ 16) (hh : AtM s k.a k.b s n 0) : ValidM s (putL l k (int n)) := fun k' v hk => by
  rw [look_putL] at hk
  split at hk
  · rename_i he
    cases hk
    exact ⟨n, rfl, he ▸ h0, he ▸ h16, he ▸ hh⟩
  · exact h k' v hk
def CntX (r : Nat) (st : St) : Chunk := ExC fun l : List (K2 × Value) => Sep (PureC (ValidM st l)) (MapC encK2 r l)
section
variable {wb w : World} {R L : List Chunk} {st : St} {o : Option Nat} {p r : Nat}
theorem Own.swapL {A B : Chunk} (H : Own wb (A :: B :: R) w) : Own wb (B :: A :: R) w := H.perm (List.Perm.swap _ _ _)
theorem Own.openM (H : Own wb (CntX r st :: R) w) : ∃ l, ValidM st l ∧ Own wb (MapC encK2 r l :: R) w := by
  obtain ⟨l, H⟩ := Own.ex H
  obtain ⟨hv, H⟩ := H.sep.pure
  exact ⟨l, hv, H⟩
theorem Own.shutM {l : List (K2 × Value)} (H : Own wb (MapC encK2 r l :: R) w) (hv : ValidM st l) : Own wb (CntX r st :: R) w :=
  Own.toEx (f := fun l : List (K2 × Value) => Sep (PureC (ValidM st l)) (MapC encK2 r l)) l ((H.toPure hv).toSep)
theorem Own.openAt (H : Own wb L w) (i : Nat) (hi : L[i]? = some (CntX r st)) : ∃ l, ValidM st l ∧ Own wb (L.set i (MapC encK2 r l)) w := by
  obtain ⟨l, hv, H'⟩ := (H.front i hi).openM
  exact ⟨l, hv, Own.back i hi H'⟩
theorem Own.cntExt {t : St} (H : Own wb (CntX r st :: R) w) (ws : Wf st) (x : Ext st t) (wt : Wf t) : Own wb (CntX r t :: R) w := by
  obtain ⟨l, hv, H⟩ := H.openM
  exact H.shutM (hv.ext ws x wt)
theorem keyM : KeyLaw Try.prog 24 encK2 := keyLaw_arr2 Try.underlying24 Try.underlying3 (by kernel_rfl) tc3
def counterV (p r : Nat) : Value := .agg [ptr p, .map (some r)].toArray
end
set_option maxRecDepth 4000 in
set_option maxHeartbeats 1000000 in
theorem from_ok {s : St} {k m : Int} {s' : St} {i e : Int} (h : AtM s k m s' i e) : ∀ {wb w : World} {R : List Chunk} {p r : Nat}, Wf s → 0 ≤ k → k ≤ s.links → Own wb (StoreC p s :: CntX r s :: R) w →
    FnC Try.prog 79 [counterV p r, int k, int m] w (fun u w' => u = pairV i e ∧ Own wb (StoreC p s' :: CntX r s' :: R) w') := by
  have hit : ∀ {s : St} {k m : Int} {s' : St} {i e : Int} {wb w : World} {R : List Chunk} {p r : Nat} {l : List (K2 × Value)} {v : Value}, 0 ≤ m → m < (s.links : Int) - k → Wf s → 0 ≤ k → k ≤ s.links → AtM s k m s' i e → ValidM s l → look l ⟨k, m⟩ = some v → Own wb (StoreC p s :: MapC encK2 r l :: R) w →
      FnC Try.prog 79 [counterV p r, int k, int m] w (fun u w' => u = pairV i e ∧ Own wb (StoreC p s' :: CntX r s' :: R) w') := by
    intro s k m s' i e wb w R p r l v hm hk hw h0 hkl full hv hlk H
    obtain ⟨n, rfl, _, _, hh⟩ := hv _ _ hlk
    obtain ⟨rfl, rfl, rfl⟩ := full.only hh
    have hl := hw.links
    refine FnC_of Try.func79 rfl rfl rfl rfl ?_
    refine W_seq ?_
    refine W_region ?_
    refine ops_box (v := (.agg _)) (cs := [_, _]) H rfl rfl rfl ?_
    clear H; intro bn0 w H
    refine ops_v (v_assign (v := _) rfl rfl) ?_
    refine ops_v (v_assign (v := _) rfl rfl) ?_
    refine ops_nil ?_
    refine W_seq ?_
    refine W_seq ?_
    refine W_region ?_
    refine ops_v (v_fieldAddr rfl fo92_0 rfl rfl) ?_
    refine ops_load (v := (.pointer _)) 0 H rfl tc27 rfl rfl rfl ?_
    refine ops_call rfl c28 (FnC.ro 1 rfl H (fun _ => Links_ok)) ?_
    clear H; rintro _ w ⟨rfl, H⟩
    refine ops_v (v_move (v := (.int _ _)) rfl rfl) ?_
    refine ops_v (v_sub _ rfl rfl rfl (wrap_in (by omega) (by omega))) ?_
    refine ops_v (v_assign (v := (.int _ _)) rfl rfl) ?_
    refine ops_nil ?_
    refine W_block ?_
    refine W_seq ?_
    refine W_region ?_
    refine ops_v (v_move (v := (.int _ _)) rfl rfl) ?_
    refine ops_v (v_lss false rfl rfl rfl (decide_eq_false (by first | omega | (simp only; omega) | rfl | decide))) ?_
    refine ops_v (v_assign (v := (.bool _)) rfl rfl) ?_
    refine ops_nil ?_
    refine W_if_f rfl ?_
    refine W_seq ?_
    refine W_region ?_
    refine ops_v (v_move (v := (.int _ _)) rfl rfl) ?_
    refine ops_v (v_move (v := (.int _ _)) rfl rfl) ?_
    refine ops_v (v_geq false rfl rfl rfl (decide_eq_false (by first | omega | (simp only; omega) | rfl | decide))) ?_
    refine ops_v (v_assign (v := (.bool _)) rfl rfl) ?_
    refine ops_nil ?_
    refine W_if_f rfl ?_
    refine W_skip ?_
    refine W_seq ?_
    refine W_region ?_
    refine ops_v (v_move (v := (.int _ _)) rfl rfl) ?_
    refine ops_v (v_move (v := (.int _ _)) rfl rfl) ?_
    refine ops_v (v_build (cs := [(.int _ _), (.int _ _)]) rfl bp24 rfl) ?_
    refine ops_alloc H rfl tz24 ?_
    clear H; intro bn1 w H
    refine ops_store (vs := [_, _]) (v := (.agg _)) (cs' := [_, _]) 0 H rfl ts24 rfl rfl rfl rfl rfl rfl rfl rfl ?_
    clear H; intro w H
    refine ops_nil ?_
    refine W_seq ?_
    refine W_seq ?_
    refine W_region ?_
    refine ops_v (v_fieldAddr rfl fo92_1 rfl rfl) ?_
    refine ops_load (v := (.map _)) 1 H rfl tc90 rfl rfl rfl ?_
    refine ops_loadA (vs := [_, _]) 0 H rfl ta24 rfl rfl rfl rfl ?_
    refine ops_lookup 3 H keyM Try.underlying90 zeroInt rfl rfl rfl rfl hlk ?_
    refine ops_v (v_move (v := (.tuple _)) rfl rfl) ?_
    refine ops_v (v_extract (v := (.int _ _)) rfl rfl rfl) ?_
    refine ops_v (v_extract (v := (.bool _)) rfl rfl rfl) ?_
    refine ops_v (v_assign (v := (.int _ _)) rfl rfl) ?_
    refine ops_v (v_assign (v := (.bool _)) rfl rfl) ?_
    refine ops_nil ?_
    refine W_seq ?_
    refine W_region ?_
    refine ops_v (v_move (v := (.bool _)) rfl rfl) ?_
    refine ops_nil ?_
    refine W_if_t rfl ?_
    refine W_seq ?_
    refine W_region ?_
    refine ops_v (v_move (v := (.int _ _)) rfl rfl) ?_
    refine ops_v (v_assign (v := (.int _ _)) rfl rfl) ?_
    refine ops_v (v_assign (v := _) rfl rfl) ?_
    refine ops_nil ?_
    refine W_ret ?_
    refine ⟨_, (.tmp (v := (.int _ _)) rfl (.tmp (v := (.int _ _)) rfl .nil)), ?_⟩
    exact ⟨rfl, (H.tail.tail.swapL.shutM hv).swapL⟩
    -- ((limit.counter).from: ret; chunks n1,n0,S,m; ptr 3=n0,16=n0,9=n1,42=n0)
  induction h with
  | @zero s k m s' i e hm h =>
    intro wb w R p r hw h0 hkl H
    have full : AtM s k m s' i e := .zero hm h
    have hl := hw.links
    have hmo := hw.most
    have g := full.good hw h0 (by omega)
    refine FnC_of Try.func79 rfl rfl rfl rfl ?_
    refine W_seq ?_
    refine W_region ?_
    refine ops_box (v := (.agg _)) (cs := [_, _]) H rfl rfl rfl ?_
    clear H; intro bn0 w H
    refine ops_v (v_assign (v := _) rfl rfl) ?_
    refine ops_v (v_assign (v := _) rfl rfl) ?_
    refine ops_nil ?_
    refine W_seq ?_
    refine W_seq ?_
    refine W_region ?_
    refine ops_v (v_fieldAddr rfl fo92_0 rfl rfl) ?_
    refine ops_load (v := (.pointer _)) 0 H rfl tc27 rfl rfl rfl ?_
    refine ops_call rfl c28 (FnC.ro 1 rfl H (fun _ => Links_ok)) ?_
    clear H; rintro _ w ⟨rfl, H⟩
    refine ops_v (v_move (v := (.int _ _)) rfl rfl) ?_
    refine ops_v (v_sub _ rfl rfl rfl (wrap_in (by omega) (by omega))) ?_
    refine ops_v (v_assign (v := (.int _ _)) rfl rfl) ?_
    refine ops_nil ?_
    refine W_block ?_
    refine W_seq ?_
    refine W_region ?_
    refine ops_v (v_move (v := (.int _ _)) rfl rfl) ?_
    refine ops_v (v_lss true rfl rfl rfl (decide_eq_true (by first | omega | (simp only; omega) | rfl | decide))) ?_
    refine ops_v (v_assign (v := (.bool _)) rfl rfl) ?_
    refine ops_nil ?_
    refine W_if_t rfl ?_
    refine W_seq ?_
    refine W_region ?_
    refine ops_v (v_fieldAddr rfl fo92_0 rfl rfl) ?_
    refine ops_load (v := (.pointer _)) 0 H rfl tc27 rfl rfl rfl ?_
    refine ops_call rfl c38 (FnC.at 1 rfl H (fun _ H => Leaf_ok hmo h H)) ?_
    clear H; rintro _ w ⟨rfl, H⟩
    refine ops_v (v_extract (v := (.int _ _)) rfl rfl rfl) ?_
    refine ops_v (v_extract (v := (.int _ _)) rfl rfl rfl) ?_
    refine ops_v (v_assign (v := (.int _ _)) rfl rfl) ?_
    refine ops_v (v_assign (v := (.int _ _)) rfl rfl) ?_
    refine ops_nil ?_
    refine W_ret ?_
    refine ⟨_, (.tmp (v := (.int _ _)) rfl (.tmp (v := (.int _ _)) rfl .nil)), ?_⟩
    exact ⟨rfl, H.tail.mapAt 1 rfl (fun _ H => H.cntExt hw g.ext g.wf)⟩
    -- ((limit.counter).from: ret; chunks n0,S,m; ptr 3=n0,16=n0,24=n0)
  | @one s k m s' i e hm hk h =>
    intro wb w R p r hw h0 hkl H
    have full : AtM s k m s' i e := .one hm hk h
    have hl := hw.links
    have hmo := hw.most
    have g := full.good hw h0 (by omega)
    refine FnC_of Try.func79 rfl rfl rfl rfl ?_
    refine W_seq ?_
    refine W_region ?_
    refine ops_box (v := (.agg _)) (cs := [_, _]) H rfl rfl rfl ?_
    clear H; intro bn0 w H
    refine ops_v (v_assign (v := _) rfl rfl) ?_
    refine ops_v (v_assign (v := _) rfl rfl) ?_
    refine ops_nil ?_
    refine W_seq ?_
    refine W_seq ?_
    refine W_region ?_
    refine ops_v (v_fieldAddr rfl fo92_0 rfl rfl) ?_
    refine ops_load (v := (.pointer _)) 0 H rfl tc27 rfl rfl rfl ?_
    refine ops_call rfl c28 (FnC.ro 1 rfl H (fun _ => Links_ok)) ?_
    clear H; rintro _ w ⟨rfl, H⟩
    refine ops_v (v_move (v := (.int _ _)) rfl rfl) ?_
    refine ops_v (v_sub _ rfl rfl rfl (wrap_in (by omega) (by omega))) ?_
    refine ops_v (v_assign (v := (.int _ _)) rfl rfl) ?_
    refine ops_nil ?_
    refine W_block ?_
    refine W_seq ?_
    refine W_region ?_
    refine ops_v (v_move (v := (.int _ _)) rfl rfl) ?_
    refine ops_v (v_lss false rfl rfl rfl (decide_eq_false (by first | omega | (simp only; omega) | rfl | decide))) ?_
    refine ops_v (v_assign (v := (.bool _)) rfl rfl) ?_
    refine ops_nil ?_
    refine W_if_f rfl ?_
    refine W_seq ?_
    refine W_region ?_
    refine ops_v (v_move (v := (.int _ _)) rfl rfl) ?_
    refine ops_v (v_move (v := (.int _ _)) rfl rfl) ?_
    refine ops_v (v_geq true rfl rfl rfl (decide_eq_true (by first | omega | (simp only; omega) | rfl | decide))) ?_
    refine ops_v (v_assign (v := (.bool _)) rfl rfl) ?_
    refine ops_nil ?_
    refine W_if_t rfl ?_
    refine W_seq ?_
    refine W_region ?_
    refine ops_v (v_fieldAddr rfl fo92_0 rfl rfl) ?_
    refine ops_load (v := (.pointer _)) 0 H rfl tc27 rfl rfl rfl ?_
    refine ops_call rfl c38 (FnC.at 1 rfl H (fun _ H => Leaf_ok hmo h H)) ?_
    clear H; rintro _ w ⟨rfl, H⟩
    refine ops_v (v_extract (v := (.int _ _)) rfl rfl rfl) ?_
    refine ops_v (v_extract (v := (.int _ _)) rfl rfl rfl) ?_
    refine ops_v (v_assign (v := (.int _ _)) rfl rfl) ?_
    refine ops_v (v_assign (v := (.int _ _)) rfl rfl) ?_
    refine ops_nil ?_
    refine W_ret ?_
    refine ⟨_, (.tmp (v := (.int _ _)) rfl (.tmp (v := (.int _ _)) rfl .nil)), ?_⟩
    exact ⟨rfl, H.tail.mapAt 1 rfl (fun _ H => H.cntExt hw g.ext g.wf)⟩
    -- ((limit.counter).from: ret; chunks n0,S,m; ptr 3=n0,16=n0,33=n0)
  | @err1 s k m s1 i e hm hk h1 he ih =>
    intro wb w R p r hw h0 hkl H
    have full : AtM s k m s1 0 e := .err1 hm hk h1 he
    have hl := hw.links
    obtain ⟨l, hv, H⟩ := H.swapL.openM
    have H := H.swapL
    cases hlk : look l ⟨k, m⟩ with
    | some v => exact hit hm hk hw h0 hkl full hv hlk H
    | none =>
      refine FnC_of Try.func79 rfl rfl rfl rfl ?_
      refine W_seq ?_
      refine W_region ?_
      refine ops_box (v := (.agg _)) (cs := [_, _]) H rfl rfl rfl ?_
      clear H; intro bn0 w H
      refine ops_v (v_assign (v := _) rfl rfl) ?_
      refine ops_v (v_assign (v := _) rfl rfl) ?_
      refine ops_nil ?_
      refine W_seq ?_
      refine W_seq ?_
      refine W_region ?_
      refine ops_v (v_fieldAddr rfl fo92_0 rfl rfl) ?_
      refine ops_load (v := (.pointer _)) 0 H rfl tc27 rfl rfl rfl ?_
      refine ops_call rfl c28 (FnC.ro 1 rfl H (fun _ => Links_ok)) ?_
      clear H; rintro _ w ⟨rfl, H⟩
      refine ops_v (v_move (v := (.int _ _)) rfl rfl) ?_
      refine ops_v (v_sub _ rfl rfl rfl (wrap_in (by omega) (by omega))) ?_
      refine ops_v (v_assign (v := (.int _ _)) rfl rfl) ?_
      refine ops_nil ?_
      refine W_block ?_
      refine W_seq ?_
      refine W_region ?_
      refine ops_v (v_move (v := (.int _ _)) rfl rfl) ?_
      refine ops_v (v_lss false rfl rfl rfl (decide_eq_false (by first | omega | (simp only; omega) | rfl | decide))) ?_
      refine ops_v (v_assign (v := (.bool _)) rfl rfl) ?_
      refine ops_nil ?_
      refine W_if_f rfl ?_
      refine W_seq ?_
      refine W_region ?_
      refine ops_v (v_move (v := (.int _ _)) rfl rfl) ?_
      refine ops_v (v_move (v := (.int _ _)) rfl rfl) ?_
      refine ops_v (v_geq false rfl rfl rfl (decide_eq_false (by first | omega | (simp only; omega) | rfl | decide))) ?_
      refine ops_v (v_assign (v := (.bool _)) rfl rfl) ?_
      refine ops_nil ?_
      refine W_if_f rfl ?_
      refine W_skip ?_
      refine W_seq ?_
      refine W_region ?_
      refine ops_v (v_move (v := (.int _ _)) rfl rfl) ?_
      refine ops_v (v_move (v := (.int _ _)) rfl rfl) ?_
      refine ops_v (v_build (cs := [(.int _ _), (.int _ _)]) rfl bp24 rfl) ?_
      refine ops_alloc H rfl tz24 ?_
      clear H; intro bn1 w H
      refine ops_store (vs := [_, _]) (v := (.agg _)) (cs' := [_, _]) 0 H rfl ts24 rfl rfl rfl rfl rfl rfl rfl rfl ?_
      clear H; intro w H
      refine ops_nil ?_
      refine W_seq ?_
      refine W_seq ?_
      refine W_region ?_
      refine ops_v (v_fieldAddr rfl fo92_1 rfl rfl) ?_
      refine ops_load (v := (.map _)) 1 H rfl tc90 rfl rfl rfl ?_
      refine ops_loadA (vs := [_, _]) 0 H rfl ta24 rfl rfl rfl rfl ?_
      refine ops_lookup 3 H keyM Try.underlying90 zeroInt rfl rfl rfl rfl hlk ?_
      refine ops_v (v_move (v := (.tuple _)) rfl rfl) ?_
      refine ops_v (v_extract (v := (.int _ _)) rfl rfl rfl) ?_
      refine ops_v (v_extract (v := (.bool _)) rfl rfl rfl) ?_
      refine ops_v (v_assign (v := (.int _ _)) rfl rfl) ?_
      refine ops_v (v_assign (v := (.bool _)) rfl rfl) ?_
      refine ops_nil ?_
      refine W_seq ?_
      have H := H.mapAt 3 rfl (fun _ H => H.shutM hv)
      refine W_region ?_
      refine ops_v (v_move (v := (.bool _)) rfl rfl) ?_
      refine ops_nil ?_
      refine W_if_f rfl ?_
      refine W_skip ?_
      refine W_seq ?_
      refine W_region ?_
      refine ops_loadA (vs := [_, _]) 1 H rfl ta92 rfl rfl rfl rfl ?_
      refine ops_v (v_move (v := (.int _ _)) rfl rfl) ?_
      refine ops_v (v_add _ rfl rfl rfl (wrap_in (by omega) (by omega))) ?_
      refine ops_v (v_move (v := (.int _ _)) rfl rfl) ?_
      refine ops_call rfl c79 (FnC.mid (A := [_, _]) (B := [_, _]) (B' := [_, _]) H (fun _ H => ih hw (by omega) (by omega) H)) ?_
      clear H; rintro _ w ⟨rfl, H⟩
      simp only [List.cons_append, List.nil_append] at H
      refine ops_v (v_move (v := (.tuple _)) rfl rfl) ?_
      refine ops_v (v_extract (v := (.int _ _)) rfl rfl rfl) ?_
      refine ops_v (v_extract (v := (.int _ _)) rfl rfl rfl) ?_
      refine ops_v (v_assign (v := (.int _ _)) rfl rfl) ?_
      refine ops_v (v_assign (v := (.int _ _)) rfl rfl) ?_
      refine ops_nil ?_
      refine W_seq ?_
      refine W_seq ?_
      refine W_region ?_
      refine ops_v (v_move (v := (.int _ _)) rfl rfl) ?_
      refine ops_v (v_neq true rfl rfl rfl (decide_eq_true (by first | omega | (simp only; omega) | rfl | decide))) ?_
      refine ops_nil ?_
      refine W_if_t rfl ?_
      refine W_seq ?_
      refine W_region ?_
      refine ops_v (v_move (v := (.int _ _)) rfl rfl) ?_
      refine ops_v (v_assign (v := _) rfl rfl) ?_
      refine ops_v (v_assign (v := (.int _ _)) rfl rfl) ?_
      refine ops_nil ?_
      refine W_ret ?_
      refine ⟨_, (.tmp (v := (.int _ _)) rfl (.tmp (v := (.int _ _)) rfl .nil)), ?_⟩
      exact ⟨rfl, H.tail.tail⟩
      -- ((limit.counter).from: ret; chunks n1,n0,S,m; ptr 3=n0,16=n0,9=n1,42=n0)
  | @err2 s k m s1 i1 s2 i e hm hk h1 h2 he ih1 ih2 =>
    intro wb w R p r hw h0 hkl H
    have full : AtM s k m s2 0 e := .err2 hm hk h1 h2 he
    have hl := hw.links
    have g1 := h1.good hw (by omega) (by omega)
    have hl1 := g1.ext.links
    obtain ⟨l, hv, H⟩ := H.swapL.openM
    have H := H.swapL
    cases hlk : look l ⟨k, m⟩ with
    | some v => exact hit hm hk hw h0 hkl full hv hlk H
    | none =>
      refine FnC_of Try.func79 rfl rfl rfl rfl ?_
      refine W_seq ?_
      refine W_region ?_
      refine ops_box (v := (.agg _)) (cs := [_, _]) H rfl rfl rfl ?_
      clear H; intro bn0 w H
      refine ops_v (v_assign (v := _) rfl rfl) ?_
      refine ops_v (v_assign (v := _) rfl rfl) ?_
      refine ops_nil ?_
      refine W_seq ?_
      refine W_seq ?_
      refine W_region ?_
      refine ops_v (v_fieldAddr rfl fo92_0 rfl rfl) ?_
      refine ops_load (v := (.pointer _)) 0 H rfl tc27 rfl rfl rfl ?_
      refine ops_call rfl c28 (FnC.ro 1 rfl H (fun _ => Links_ok)) ?_
      clear H; rintro _ w ⟨rfl, H⟩
      refine ops_v (v_move (v := (.int _ _)) rfl rfl) ?_
      refine ops_v (v_sub _ rfl rfl rfl (wrap_in (by omega) (by omega))) ?_
      refine ops_v (v_assign (v := (.int _ _)) rfl rfl) ?_
      refine ops_nil ?_
      refine W_block ?_
      refine W_seq ?_
      refine W_region ?_
      refine ops_v (v_move (v := (.int _ _)) rfl rfl) ?_
      refine ops_v (v_lss false rfl rfl rfl (decide_eq_false (by first | omega | (simp only; omega) | rfl | decide))) ?_
      refine ops_v (v_assign (v := (.bool _)) rfl rfl) ?_
      refine ops_nil ?_
      refine W_if_f rfl ?_
      refine W_seq ?_
      refine W_region ?_
      refine ops_v (v_move (v := (.int _ _)) rfl rfl) ?_
      refine ops_v (v_move (v := (.int _ _)) rfl rfl) ?_
      refine ops_v (v_geq false rfl rfl rfl (decide_eq_false (by first | omega | (simp only; omega) | rfl | decide))) ?_
      refine ops_v (v_assign (v := (.bool _)) rfl rfl) ?_
      refine ops_nil ?_
      refine W_if_f rfl ?_
      refine W_skip ?_
      refine W_seq ?_
      refine W_region ?_
      refine ops_v (v_move (v := (.int _ _)) rfl rfl) ?_
      refine ops_v (v_move (v := (.int _ _)) rfl rfl) ?_
      refine ops_v (v_build (cs := [(.int _ _), (.int _ _)]) rfl bp24 rfl) ?_
      refine ops_alloc H rfl tz24 ?_
      clear H; intro bn1 w H
      refine ops_store (vs := [_, _]) (v := (.agg _)) (cs' := [_, _]) 0 H rfl ts24 rfl rfl rfl rfl rfl rfl rfl rfl ?_
      clear H; intro w H
      refine ops_nil ?_
      refine W_seq ?_
      refine W_seq ?_
      refine W_region ?_
      refine ops_v (v_fieldAddr rfl fo92_1 rfl rfl) ?_
      refine ops_load (v := (.map _)) 1 H rfl tc90 rfl rfl rfl ?_
      refine ops_loadA (vs := [_, _]) 0 H rfl ta24 rfl rfl rfl rfl ?_
      refine ops_lookup 3 H keyM Try.underlying90 zeroInt rfl rfl rfl rfl hlk ?_
      refine ops_v (v_move (v := (.tuple _)) rfl rfl) ?_
      refine ops_v (v_extract (v := (.int _ _)) rfl rfl rfl) ?_
      refine ops_v (v_extract (v := (.bool _)) rfl rfl rfl) ?_
      refine ops_v (v_assign (v := (.int _ _)) rfl rfl) ?_
      refine ops_v (v_assign (v := (.bool _)) rfl rfl) ?_
      refine ops_nil ?_
      refine W_seq ?_
      have H := H.mapAt 3 rfl (fun _ H => H.shutM hv)
      refine W_region ?_
      refine ops_v (v_move (v := (.bool _)) rfl rfl) ?_
      refine ops_nil ?_
      refine W_if_f rfl ?_
      refine W_skip ?_
      refine W_seq ?_
      refine W_region ?_
      refine ops_loadA (vs := [_, _]) 1 H rfl ta92 rfl rfl rfl rfl ?_
      refine ops_v (v_move (v := (.int _ _)) rfl rfl) ?_
      refine ops_v (v_add _ rfl rfl rfl (wrap_in (by omega) (by omega))) ?_
      refine ops_v (v_move (v := (.int _ _)) rfl rfl) ?_
      refine ops_call rfl c79 (FnC.mid (A := [_, _]) (B := [_, _]) (B' := [_, _]) H (fun _ H => ih1 hw (by omega) (by omega) H)) ?_
      clear H; rintro _ w ⟨rfl, H⟩
      simp only [List.cons_append, List.nil_append] at H
      refine ops_v (v_move (v := (.tuple _)) rfl rfl) ?_
      refine ops_v (v_extract (v := (.int _ _)) rfl rfl rfl) ?_
      refine ops_v (v_extract (v := (.int _ _)) rfl rfl rfl) ?_
      refine ops_v (v_assign (v := (.int _ _)) rfl rfl) ?_
      refine ops_v (v_assign (v := (.int _ _)) rfl rfl) ?_
      refine ops_nil ?_
      refine W_seq ?_
      refine W_seq ?_
      refine W_region ?_
      refine ops_v (v_move (v := (.int _ _)) rfl rfl) ?_
      refine ops_v (v_neq false rfl rfl rfl (decide_eq_false (by first | omega | (simp only; omega) | rfl | decide))) ?_
      refine ops_nil ?_
      refine W_if_f rfl ?_
      refine W_skip ?_
      refine W_seq ?_
      refine W_region ?_
      refine ops_loadA (vs := [_, _]) 1 H rfl ta92 rfl rfl rfl rfl ?_
      refine ops_v (v_move (v := (.int _ _)) rfl rfl) ?_
      refine ops_v (v_add _ rfl rfl rfl (wrap_in (by omega) (by omega))) ?_
      refine ops_v (v_move (v := (.int _ _)) rfl rfl) ?_
      refine ops_v (v_sub _ rfl rfl rfl (wrap_in (by omega) (by omega))) ?_
      refine ops_call rfl c79 (FnC.mid (A := [_, _]) (B := [_, _]) (B' := [_, _]) H (fun _ H => ih2 g1.wf (by omega) (by omega) H)) ?_
      clear H; rintro _ w ⟨rfl, H⟩
      simp only [List.cons_append, List.nil_append] at H
      refine ops_v (v_move (v := (.tuple _)) rfl rfl) ?_
      refine ops_v (v_extract (v := (.int _ _)) rfl rfl rfl) ?_
      refine ops_v (v_extract (v := (.int _ _)) rfl rfl rfl) ?_
      refine ops_v (v_assign (v := (.int _ _)) rfl rfl) ?_
      refine ops_v (v_assign (v := (.int _ _)) rfl rfl) ?_
      refine ops_nil ?_
      refine W_seq ?_
      refine W_seq ?_
      refine W_region ?_
      refine ops_v (v_move (v := (.int _ _)) rfl rfl) ?_
      refine ops_v (v_neq true rfl rfl rfl (decide_eq_true (by first | omega | (simp only; omega) | rfl | decide))) ?_
      refine ops_nil ?_
      refine W_if_t rfl ?_
      refine W_seq ?_
      refine W_region ?_
      refine ops_v (v_move (v := (.int _ _)) rfl rfl) ?_
      refine ops_v (v_assign (v := _) rfl rfl) ?_
      refine ops_v (v_assign (v := (.int _ _)) rfl rfl) ?_
      refine ops_nil ?_
      refine W_ret ?_
      refine ⟨_, (.tmp (v := (.int _ _)) rfl (.tmp (v := (.int _ _)) rfl .nil)), ?_⟩
      exact ⟨rfl, H.tail.tail⟩
      -- ((limit.counter).from: ret; chunks n1,n0,S,m; ptr 3=n0,16=n0,9=n1,42=n0)
  | @ask s k m s1 i1 s2 i2 s3 i3 e3 hm hk h1 h2 h3 ih1 ih2 =>
    intro wb w R p r hw h0 hkl H
    have full : AtM s k m s3 i3 e3 := .ask hm hk h1 h2 h3
    have hl := hw.links
    have g := full.good hw h0 (by omega)
    have g1 := h1.good hw (by omega) (by omega)
    have hl1 := g1.ext.links
    have g2 := h2.good g1.wf (by omega) (by omega)
    have hmo := g2.wf.most
    have x3 := M.make_ext s2 k i1 i2
    rw [h3] at x3
    obtain ⟨l, hv, H⟩ := H.swapL.openM
    have H := H.swapL
    cases hlk : look l ⟨k, m⟩ with
    | some v => exact hit hm hk hw h0 hkl full hv hlk H
    | none =>
      by_cases he : e3 = 0
      · subst he
        have hag := full.again hw h0 (by omega) (Ext.refl _) g.wf
        refine FnC_of Try.func79 rfl rfl rfl rfl ?_
        refine W_seq ?_
        refine W_region ?_
        refine ops_box (v := (.agg _)) (cs := [_, _]) H rfl rfl rfl ?_
        clear H; intro bn0 w H
        refine ops_v (v_assign (v := _) rfl rfl) ?_
        refine ops_v (v_assign (v := _) rfl rfl) ?_
        refine ops_nil ?_
        refine W_seq ?_
        refine W_seq ?_
        refine W_region ?_
        refine ops_v (v_fieldAddr rfl fo92_0 rfl rfl) ?_
        refine ops_load (v := (.pointer _)) 0 H rfl tc27 rfl rfl rfl ?_
        refine ops_call rfl c28 (FnC.ro 1 rfl H (fun _ => Links_ok)) ?_
        clear H; rintro _ w ⟨rfl, H⟩
        refine ops_v (v_move (v := (.int _ _)) rfl rfl) ?_
        refine ops_v (v_sub _ rfl rfl rfl (wrap_in (by omega) (by omega))) ?_
        refine ops_v (v_assign (v := (.int _ _)) rfl rfl) ?_
        refine ops_nil ?_
        refine W_block ?_
        refine W_seq ?_
        refine W_region ?_
        refine ops_v (v_move (v := (.int _ _)) rfl rfl) ?_
        refine ops_v (v_lss false rfl rfl rfl (decide_eq_false (by first | omega | (simp only; omega) | rfl | decide))) ?_
        refine ops_v (v_assign (v := (.bool _)) rfl rfl) ?_
        refine ops_nil ?_
        refine W_if_f rfl ?_
        refine W_seq ?_
        refine W_region ?_
        refine ops_v (v_move (v := (.int _ _)) rfl rfl) ?_
        refine ops_v (v_move (v := (.int _ _)) rfl rfl) ?_
        refine ops_v (v_geq false rfl rfl rfl (decide_eq_false (by first | omega | (simp only; omega) | rfl | decide))) ?_
        refine ops_v (v_assign (v := (.bool _)) rfl rfl) ?_
        refine ops_nil ?_
        refine W_if_f rfl ?_
        refine W_skip ?_
        refine W_seq ?_
        refine W_region ?_
        refine ops_v (v_move (v := (.int _ _)) rfl rfl) ?_
        refine ops_v (v_move (v := (.int _ _)) rfl rfl) ?_
        refine ops_v (v_build (cs := [(.int _ _), (.int _ _)]) rfl bp24 rfl) ?_
        refine ops_alloc H rfl tz24 ?_
        clear H; intro bn1 w H
        refine ops_store (vs := [_, _]) (v := (.agg _)) (cs' := [_, _]) 0 H rfl ts24 rfl rfl rfl rfl rfl rfl rfl rfl ?_
        clear H; intro w H
        refine ops_nil ?_
        refine W_seq ?_
        refine W_seq ?_
        refine W_region ?_
        refine ops_v (v_fieldAddr rfl fo92_1 rfl rfl) ?_
        refine ops_load (v := (.map _)) 1 H rfl tc90 rfl rfl rfl ?_
        refine ops_loadA (vs := [_, _]) 0 H rfl ta24 rfl rfl rfl rfl ?_
        refine ops_lookup 3 H keyM Try.underlying90 zeroInt rfl rfl rfl rfl hlk ?_
        refine ops_v (v_move (v := (.tuple _)) rfl rfl) ?_
        refine ops_v (v_extract (v := (.int _ _)) rfl rfl rfl) ?_
        refine ops_v (v_extract (v := (.bool _)) rfl rfl rfl) ?_
        refine ops_v (v_assign (v := (.int _ _)) rfl rfl) ?_
        refine ops_v (v_assign (v := (.bool _)) rfl rfl) ?_
        refine ops_nil ?_
        refine W_seq ?_
        have H := H.mapAt 3 rfl (fun _ H => H.shutM hv)
        refine W_region ?_
        refine ops_v (v_move (v := (.bool _)) rfl rfl) ?_
        refine ops_nil ?_
        refine W_if_f rfl ?_
        refine W_skip ?_
        refine W_seq ?_
        refine W_region ?_
        refine ops_loadA (vs := [_, _]) 1 H rfl ta92 rfl rfl rfl rfl ?_
        refine ops_v (v_move (v := (.int _ _)) rfl rfl) ?_
        refine ops_v (v_add _ rfl rfl rfl (wrap_in (by omega) (by omega))) ?_
        refine ops_v (v_move (v := (.int _ _)) rfl rfl) ?_
        refine ops_call rfl c79 (FnC.mid (A := [_, _]) (B := [_, _]) (B' := [_, _]) H (fun _ H => ih1 hw (by omega) (by omega) H)) ?_
        clear H; rintro _ w ⟨rfl, H⟩
        simp only [List.cons_append, List.nil_append] at H
        refine ops_v (v_move (v := (.tuple _)) rfl rfl) ?_
        refine ops_v (v_extract (v := (.int _ _)) rfl rfl rfl) ?_
        refine ops_v (v_extract (v := (.int _ _)) rfl rfl rfl) ?_
        refine ops_v (v_assign (v := (.int _ _)) rfl rfl) ?_
        refine ops_v (v_assign (v := (.int _ _)) rfl rfl) ?_
        refine ops_nil ?_
        refine W_seq ?_
        refine W_seq ?_
        refine W_region ?_
        refine ops_v (v_move (v := (.int _ _)) rfl rfl) ?_
        refine ops_v (v_neq false rfl rfl rfl (decide_eq_false (by first | omega | (simp only; omega) | rfl | decide))) ?_
        refine ops_nil ?_
        refine W_if_f rfl ?_
        refine W_skip ?_
        refine W_seq ?_
        refine W_region ?_
        refine ops_loadA (vs := [_, _]) 1 H rfl ta92 rfl rfl rfl rfl ?_
        refine ops_v (v_move (v := (.int _ _)) rfl rfl) ?_
        refine ops_v (v_add _ rfl rfl rfl (wrap_in (by omega) (by omega))) ?_
        refine ops_v (v_move (v := (.int _ _)) rfl rfl) ?_
        refine ops_v (v_sub _ rfl rfl rfl (wrap_in (by omega) (by omega))) ?_
        refine ops_call rfl c79 (FnC.mid (A := [_, _]) (B := [_, _]) (B' := [_, _]) H (fun _ H => ih2 g1.wf (by omega) (by omega) H)) ?_
        clear H; rintro _ w ⟨rfl, H⟩
        simp only [List.cons_append, List.nil_append] at H
        refine ops_v (v_move (v := (.tuple _)) rfl rfl) ?_
        refine ops_v (v_extract (v := (.int _ _)) rfl rfl rfl) ?_
        refine ops_v (v_extract (v := (.int _ _)) rfl rfl rfl) ?_
        refine ops_v (v_assign (v := (.int _ _)) rfl rfl) ?_
        refine ops_v (v_assign (v := (.int _ _)) rfl rfl) ?_
        refine ops_nil ?_
        refine W_seq ?_
        refine W_seq ?_
        refine W_region ?_
        refine ops_v (v_move (v := (.int _ _)) rfl rfl) ?_
        refine ops_v (v_neq false rfl rfl rfl (decide_eq_false (by first | omega | (simp only; omega) | rfl | decide))) ?_
        refine ops_nil ?_
        refine W_if_f rfl ?_
        refine W_skip ?_
        refine W_seq ?_
        refine W_region ?_
        refine ops_v (v_fieldAddr rfl fo92_0 rfl rfl) ?_
        refine ops_load (v := (.pointer _)) 1 H rfl tc27 rfl rfl rfl ?_
        refine ops_v (v_move (v := (.int _ _)) rfl rfl) ?_
        refine ops_v (v_move (v := (.int _ _)) rfl rfl) ?_
        refine ops_v (v_move (v := (.int _ _)) rfl rfl) ?_
        refine ops_call rfl c39 (FnC.at 2 rfl H (fun _ H => Make_ok hmo h3 H)) ?_
        clear H; rintro _ w ⟨rfl, H⟩
        have H := H.mapAt 3 rfl (fun _ H => H.cntExt g2.wf x3 g.wf)
        obtain ⟨l', hv', H⟩ := H.openAt 3 rfl
        refine ops_v (v_move (v := (.tuple _)) rfl rfl) ?_
        refine ops_v (v_extract (v := (.int _ _)) rfl rfl rfl) ?_
        refine ops_v (v_extract (v := (.int _ _)) rfl rfl rfl) ?_
        refine ops_v (v_assign (v := (.int _ _)) rfl rfl) ?_
        refine ops_v (v_assign (v := (.int _ _)) rfl rfl) ?_
        refine ops_nil ?_
        refine W_seq ?_
        refine W_seq ?_
        refine W_region ?_
        refine ops_v (v_move (v := (.int _ _)) rfl rfl) ?_
        refine ops_v (v_eql true rfl rfl rfl (decide_eq_true (by first | omega | (simp only; omega) | rfl | decide))) ?_
        refine ops_nil ?_
        refine W_if_t rfl ?_
        refine W_region ?_
        refine ops_v (v_fieldAddr rfl fo92_1 rfl rfl) ?_
        refine ops_load (v := (.map _)) 1 H rfl tc90 rfl rfl rfl ?_
        refine ops_loadA (vs := [_, _]) 0 H rfl ta24 rfl rfl rfl rfl ?_
        refine ops_v (v_move (v := (.int _ _)) rfl rfl) ?_
        refine ops_mapUpdate (k := (⟨k, m⟩ : K2)) (v := int i3) 3 H keyM Try.underlying90 rfl rfl rfl rfl rfl ?_
        clear H; intro w H
        refine ops_nil ?_
        refine W_seq ?_
        refine W_region ?_
        refine ops_v (v_move (v := (.int _ _)) rfl rfl) ?_
        refine ops_v (v_move (v := (.int _ _)) rfl rfl) ?_
        refine ops_v (v_assign (v := (.int _ _)) rfl rfl) ?_
        refine ops_v (v_assign (v := (.int _ _)) rfl rfl) ?_
        refine ops_nil ?_
        refine W_ret ?_
        refine ⟨_, (.tmp (v := (.int _ _)) rfl (.tmp (v := (.int _ _)) rfl .nil)), ?_⟩
        have H := H.mapAt 3 rfl (fun _ H => H.shutM (hv'.put (k := ⟨k, m⟩) h0 (show k ≤ 16 by omega) hag))
        exact ⟨rfl, H.tail.tail⟩
        -- ((limit.counter).from: ret; chunks n1,n0,S,m; ptr 3=n0,16=n0,9=n1,42=n0)
      · refine FnC_of Try.func79 rfl rfl rfl rfl ?_
        refine W_seq ?_
        refine W_region ?_
        refine ops_box (v := (.agg _)) (cs := [_, _]) H rfl rfl rfl ?_
        clear H; intro bn0 w H
        refine ops_v (v_assign (v := _) rfl rfl) ?_
        refine ops_v (v_assign (v := _) rfl rfl) ?_
        refine ops_nil ?_
        refine W_seq ?_
        refine W_seq ?_
        refine W_region ?_
        refine ops_v (v_fieldAddr rfl fo92_0 rfl rfl) ?_
        refine ops_load (v := (.pointer _)) 0 H rfl tc27 rfl rfl rfl ?_
        refine ops_call rfl c28 (FnC.ro 1 rfl H (fun _ => Links_ok)) ?_
        clear H; rintro _ w ⟨rfl, H⟩
        refine ops_v (v_move (v := (.int _ _)) rfl rfl) ?_
        refine ops_v (v_sub _ rfl rfl rfl (wrap_in (by omega) (by omega))) ?_
        refine ops_v (v_assign (v := (.int _ _)) rfl rfl) ?_
        refine ops_nil ?_
        refine W_block ?_
        refine W_seq ?_
        refine W_region ?_
        refine ops_v (v_move (v := (.int _ _)) rfl rfl) ?_
        refine ops_v (v_lss false rfl rfl rfl (decide_eq_false (by first | omega | (simp only; omega) | rfl | decide))) ?_
        refine ops_v (v_assign (v := (.bool _)) rfl rfl) ?_
        refine ops_nil ?_
        refine W_if_f rfl ?_
        refine W_seq ?_
        refine W_region ?_
        refine ops_v (v_move (v := (.int _ _)) rfl rfl) ?_
        refine ops_v (v_move (v := (.int _ _)) rfl rfl) ?_
        refine ops_v (v_geq false rfl rfl rfl (decide_eq_false (by first | omega | (simp only; omega) | rfl | decide))) ?_
        refine ops_v (v_assign (v := (.bool _)) rfl rfl) ?_
        refine ops_nil ?_
        refine W_if_f rfl ?_
        refine W_skip ?_
        refine W_seq ?_
        refine W_region ?_
        refine ops_v (v_move (v := (.int _ _)) rfl rfl) ?_
        refine ops_v (v_move (v := (.int _ _)) rfl rfl) ?_
        refine ops_v (v_build (cs := [(.int _ _), (.int _ _)]) rfl bp24 rfl) ?_
        refine ops_alloc H rfl tz24 ?_
        clear H; intro bn1 w H
        refine ops_store (vs := [_, _]) (v := (.agg _)) (cs' := [_, _]) 0 H rfl ts24 rfl rfl rfl rfl rfl rfl rfl rfl ?_
        clear H; intro w H
        refine ops_nil ?_
        refine W_seq ?_
        refine W_seq ?_
        refine W_region ?_
        refine ops_v (v_fieldAddr rfl fo92_1 rfl rfl) ?_
        refine ops_load (v := (.map _)) 1 H rfl tc90 rfl rfl rfl ?_
        refine ops_loadA (vs := [_, _]) 0 H rfl ta24 rfl rfl rfl rfl ?_
        refine ops_lookup 3 H keyM Try.underlying90 zeroInt rfl rfl rfl rfl hlk ?_
        refine ops_v (v_move (v := (.tuple _)) rfl rfl) ?_
        refine ops_v (v_extract (v := (.int _ _)) rfl rfl rfl) ?_
        refine ops_v (v_extract (v := (.bool _)) rfl rfl rfl) ?_
        refine ops_v (v_assign (v := (.int _ _)) rfl rfl) ?_
        refine ops_v (v_assign (v := (.bool _)) rfl rfl) ?_
        refine ops_nil ?_
        refine W_seq ?_
        have H := H.mapAt 3 rfl (fun _ H => H.shutM hv)
        refine W_region ?_
        refine ops_v (v_move (v := (.bool _)) rfl rfl) ?_
        refine ops_nil ?_
        refine W_if_f rfl ?_
        refine W_skip ?_
        refine W_seq ?_
        refine W_region ?_
        refine ops_loadA (vs := [_, _]) 1 H rfl ta92 rfl rfl rfl rfl ?_
        refine ops_v (v_move (v := (.int _ _)) rfl rfl) ?_
        refine ops_v (v_add _ rfl rfl rfl (wrap_in (by omega) (by omega))) ?_
        refine ops_v (v_move (v := (.int _ _)) rfl rfl) ?_
        refine ops_call rfl c79 (FnC.mid (A := [_, _]) (B := [_, _]) (B' := [_, _]) H (fun _ H => ih1 hw (by omega) (by omega) H)) ?_
        clear H; rintro _ w ⟨rfl, H⟩
        simp only [List.cons_append, List.nil_append] at H
        refine ops_v (v_move (v := (.tuple _)) rfl rfl) ?_
        refine ops_v (v_extract (v := (.int _ _)) rfl rfl rfl) ?_
        refine ops_v (v_extract (v := (.int _ _)) rfl rfl rfl) ?_
        refine ops_v (v_assign (v := (.int _ _)) rfl rfl) ?_
        refine ops_v (v_assign (v := (.int _ _)) rfl rfl) ?_
        refine ops_nil ?_
        refine W_seq ?_
        refine W_seq ?_
        refine W_region ?_
        refine ops_v (v_move (v := (.int _ _)) rfl rfl) ?_
        refine ops_v (v_neq false rfl rfl rfl (decide_eq_false (by first | omega | (simp only; omega) | rfl | decide))) ?_
        refine ops_nil ?_
        refine W_if_f rfl ?_
        refine W_skip ?_
        refine W_seq ?_
        refine W_region ?_
        refine ops_loadA (vs := [_, _]) 1 H rfl ta92 rfl rfl rfl rfl ?_
        refine ops_v (v_move (v := (.int _ _)) rfl rfl) ?_
        refine ops_v (v_add _ rfl rfl rfl (wrap_in (by omega) (by omega))) ?_
        refine ops_v (v_move (v := (.int _ _)) rfl rfl) ?_
        refine ops_v (v_sub _ rfl rfl rfl (wrap_in (by omega) (by omega))) ?_
        refine ops_call rfl c79 (FnC.mid (A := [_, _]) (B := [_, _]) (B' := [_, _]) H (fun _ H => ih2 g1.wf (by omega) (by omega) H)) ?_
        clear H; rintro _ w ⟨rfl, H⟩
        simp only [List.cons_append, List.nil_append] at H
        refine ops_v (v_move (v := (.tuple _)) rfl rfl) ?_
        refine ops_v (v_extract (v := (.int _ _)) rfl rfl rfl) ?_
        refine ops_v (v_extract (v := (.int _ _)) rfl rfl rfl) ?_
        refine ops_v (v_assign (v := (.int _ _)) rfl rfl) ?_
        refine ops_v (v_assign (v := (.int _ _)) rfl rfl) ?_
        refine ops_nil ?_
        refine W_seq ?_
        refine W_seq ?_
        refine W_region ?_
        refine ops_v (v_move (v := (.int _ _)) rfl rfl) ?_
        refine ops_v (v_neq false rfl rfl rfl (decide_eq_false (by first | omega | (simp only; omega) | rfl | decide))) ?_
        refine ops_nil ?_
        refine W_if_f rfl ?_
        refine W_skip ?_
        refine W_seq ?_
        refine W_region ?_
        refine ops_v (v_fieldAddr rfl fo92_0 rfl rfl) ?_
        refine ops_load (v := (.pointer _)) 1 H rfl tc27 rfl rfl rfl ?_
        refine ops_v (v_move (v := (.int _ _)) rfl rfl) ?_
        refine ops_v (v_move (v := (.int _ _)) rfl rfl) ?_
        refine ops_v (v_move (v := (.int _ _)) rfl rfl) ?_
        refine ops_call rfl c39 (FnC.at 2 rfl H (fun _ H => Make_ok hmo h3 H)) ?_
        clear H; rintro _ w ⟨rfl, H⟩
        have H := H.mapAt 3 rfl (fun _ H => H.cntExt g2.wf x3 g.wf)
        refine ops_v (v_move (v := (.tuple _)) rfl rfl) ?_
        refine ops_v (v_extract (v := (.int _ _)) rfl rfl rfl) ?_
        refine ops_v (v_extract (v := (.int _ _)) rfl rfl rfl) ?_
        refine ops_v (v_assign (v := (.int _ _)) rfl rfl) ?_
        refine ops_v (v_assign (v := (.int _ _)) rfl rfl) ?_
        refine ops_nil ?_
        refine W_seq ?_
        refine W_seq ?_
        refine W_region ?_
        refine ops_v (v_move (v := (.int _ _)) rfl rfl) ?_
        refine ops_v (v_eql false rfl rfl rfl (decide_eq_false (by first | omega | (simp only; omega) | rfl | decide))) ?_
        refine ops_nil ?_
        refine W_if_f rfl ?_
        refine W_skip ?_
        refine W_seq ?_
        refine W_region ?_
        refine ops_v (v_move (v := (.int _ _)) rfl rfl) ?_
        refine ops_v (v_move (v := (.int _ _)) rfl rfl) ?_
        refine ops_v (v_assign (v := (.int _ _)) rfl rfl) ?_
        refine ops_v (v_assign (v := (.int _ _)) rfl rfl) ?_
        refine ops_nil ?_
        refine W_ret ?_
        refine ⟨_, (.tmp (v := (.int _ _)) rfl (.tmp (v := (.int _ _)) rfl .nil)), ?_⟩
        exact ⟨rfl, H.tail.tail⟩
        -- ((limit.counter).from: ret; chunks n1,n0,S,m; ptr 3=n0,16=n0,9=n1,42=n0)
section
variable {wb w : World} {R L : List Chunk} {o : Option Nat} {p : Nat}
theorem AtMost_ok {s s' : St} {m i e : Int} (h : AtM s 0 m s' i e) (hw : Wf s) (H : Own wb (StoreC p s :: R) w) :
    FnC Try.prog 57 [ptr p, int m] w (fun u w' => u = pairV i e ∧ Own wb (StoreC p s' :: R) w') := by
  refine FnC_of Try.func57 rfl rfl rfl rfl ?_
  refine W_seq ?_
  refine W_region ?_
  refine ops_v (v_assign (v := _) rfl rfl) ?_
  refine ops_v (v_assign (v := _) rfl rfl) ?_
  refine ops_nil ?_
  refine W_seq ?_
  refine W_region ?_
  refine ops_v (v_move (v := (.pointer _)) rfl rfl) ?_
  refine ops_makeMap H encK2 rfl ?_
  clear H; intro m w H
  have H := (H.shutM (st := s) ValidM.nil).swapL
  refine ops_v (v_build (cs := [(.pointer _), (.map _)]) rfl bp92 rfl) ?_
  refine ops_v (v_move (v := (.int _ _)) rfl rfl) ?_
  refine ops_call rfl c79 (from_ok h hw (by decide) (by omega) H) ?_
  clear H; rintro _ w ⟨rfl, H⟩
  refine ops_v (v_extract (v := (.int _ _)) rfl rfl rfl) ?_
  refine ops_v (v_extract (v := (.int _ _)) rfl rfl rfl) ?_
  refine ops_v (v_assign (v := (.int _ _)) rfl rfl) ?_
  refine ops_v (v_assign (v := (.int _ _)) rfl rfl) ?_
  refine ops_nil ?_
  refine W_ret ?_
  refine ⟨_, (.tmp (v := (.int _ _)) rfl (.tmp (v := (.int _ _)) rfl .nil)), ?_⟩
  exact ⟨rfl, H.swapL.tail⟩
  -- (limit.AtMost: ret; chunks S,m; ptr )
theorem Within1_ok : FnOk (funcV 81) (fun a b _ => M.withinF a b) (PureC True) := by
  refine ⟨_, _, rfl, by kernel_rfl, fun wb w R a b c H => ?_⟩
  by_cases h : a = 0
  · refine FnC_of Try.func81 rfl rfl rfl rfl ?_
    refine W_seq ?_
    refine W_region ?_
    refine ops_v (v_assign (v := _) rfl rfl) ?_
    refine ops_v (v_assign (v := _) rfl rfl) ?_
    refine ops_nil ?_
    refine W_seq ?_
    refine W_seq ?_
    refine W_region ?_
    refine ops_v (v_move (v := (.int _ _)) rfl rfl) ?_
    refine ops_v (v_eql true rfl rfl rfl (decide_eq_true (by first | omega | (simp only; omega) | rfl | decide))) ?_
    refine ops_nil ?_
    refine W_if_t rfl ?_
    refine W_seq ?_
    refine W_region ?_
    refine ops_v (v_assign (v := _) rfl rfl) ?_
    refine ops_v (v_assign (v := _) rfl rfl) ?_
    refine ops_nil ?_
    refine W_ret ?_
    refine ⟨_, (.tmp (v := (.int _ _)) rfl (.tmp (v := (.int _ _)) rfl .nil)), ?_⟩
    exact ⟨by simp [M.withinF, h, packV, pairV, M.dontCare], H⟩
    -- (limit.Within$1: ret; chunks ; ptr )
  · refine FnC_of Try.func81 rfl rfl rfl rfl ?_
    refine W_seq ?_
    refine W_region ?_
    refine ops_v (v_assign (v := _) rfl rfl) ?_
    refine ops_v (v_assign (v := _) rfl rfl) ?_
    refine ops_nil ?_
    refine W_seq ?_
    refine W_seq ?_
    refine W_region ?_
    refine ops_v (v_move (v := (.int _ _)) rfl rfl) ?_
    refine ops_v (v_eql false rfl rfl rfl (decide_eq_false (by first | omega | (simp only; omega) | rfl | decide))) ?_
    refine ops_nil ?_
    refine W_if_f rfl ?_
    refine W_skip ?_
    refine W_seq ?_
    refine W_region ?_
    refine ops_v (v_move (v := (.int _ _)) rfl rfl) ?_
    refine ops_v (v_assign (v := (.int _ _)) rfl rfl) ?_
    refine ops_v (v_assign (v := _) rfl rfl) ?_
    refine ops_nil ?_
    refine W_ret ?_
    refine ⟨_, (.tmp (v := (.int _ _)) rfl (.tmp (v := (.int _ _)) rfl .nil)), ?_⟩
    exact ⟨by simp [M.withinF, h, packV, pairV], H⟩
    -- (limit.Within$1: ret; chunks ; ptr )
theorem Within_ok {s s1 s2 : St} {id m few i e : Int} (hA : AtM s 0 m s1 few 0) (hL : Lifts (opF (-1)) s1 few id id s2 i e) (hw : Wf s) (hid : isN s id = true) (H : Own wb (StoreC p s :: CacheX opF o s :: R) w) :
    FnC Try.prog 60 [ptr p, xptr o, int id, int m] w (fun u w' => u = pairV i e ∧ Own wb (StoreC p s2 :: CacheX opF o s2 :: R) w') := by
  have g := hA.good hw (by decide) (by decide)
  have hid1 := g.ext.isN hid
  refine FnC_of Try.func60 rfl rfl rfl rfl ?_
  refine W_seq ?_
  refine W_region ?_
  refine ops_v (v_assign (v := _) rfl rfl) ?_
  refine ops_v (v_assign (v := _) rfl rfl) ?_
  refine ops_nil ?_
  refine W_seq ?_
  refine W_seq ?_
  refine W_region ?_
  refine ops_v (v_move (v := (.pointer _)) rfl rfl) ?_
  refine ops_v (v_move (v := (.int _ _)) rfl rfl) ?_
  refine ops_call rfl c31 (FnC.ro 0 rfl H (fun _ H => NodeIs hid H)) ?_
  clear H; rintro _ w ⟨rfl, H⟩
  refine ops_v (v_move (v := (.tuple _)) rfl rfl) ?_
  refine ops_v (v_extract (v := (.agg _)) rfl rfl rfl) ?_
  refine ops_v (v_extract (v := (.bool _)) rfl rfl rfl) ?_
  refine ops_alloc H rfl tz42 ?_
  clear H; intro bn0 w H
  refine ops_store (vs := [_, _, _, _, _]) (v := (.agg _)) (cs' := [_, _, _, _, _]) 0 H rfl ts42 rfl rfl rfl rfl rfl rfl rfl rfl ?_
  clear H; intro w H
  refine ops_v (v_assign (v := (.bool _)) rfl rfl) ?_
  refine ops_nil ?_
  refine W_seq ?_
  refine W_region ?_
  refine ops_v (v_move (v := (.bool _)) rfl rfl) ?_
  refine ops_v (v_not rfl rfl _ rfl) ?_
  refine ops_nil ?_
  refine W_if_f rfl ?_
  refine W_skip ?_
  refine W_seq ?_
  refine W_region ?_
  refine ops_v (v_move (v := (.pointer _)) rfl rfl) ?_
  refine ops_v (v_move (v := (.int _ _)) rfl rfl) ?_
  refine ops_call rfl c57 (FnC.at 1 rfl H (fun _ H => AtMost_ok hA hw H)) ?_
  clear H; rintro _ w ⟨rfl, H⟩
  have H := H.mapAt 2 rfl (fun _ H => H.cacheExt hw g.ext g.wf)
  have H := H.tail.toPure trivial (p := True)
  refine ops_v (v_move (v := (.tuple _)) rfl rfl) ?_
  refine ops_v (v_extract (v := (.int _ _)) rfl rfl rfl) ?_
  refine ops_v (v_extract (v := (.int _ _)) rfl rfl rfl) ?_
  refine ops_v (v_assign (v := (.int _ _)) rfl rfl) ?_
  refine ops_v (v_assign (v := (.int _ _)) rfl rfl) ?_
  refine ops_nil ?_
  refine W_seq ?_
  refine W_seq ?_
  refine W_region ?_
  refine ops_v (v_move (v := (.int _ _)) rfl rfl) ?_
  refine ops_v (v_neq false rfl rfl rfl (decide_eq_false (by first | omega | (simp only; omega) | rfl | decide))) ?_
  refine ops_nil ?_
  refine W_if_f rfl ?_
  refine W_skip ?_
  refine W_seq ?_
  refine W_region ?_
  refine ops_v (v_move (v := (.pointer _)) rfl rfl) ?_
  refine ops_v (v_move (v := (.pointer _)) rfl rfl) ?_
  refine ops_v (v_move (v := (.int _ _)) rfl rfl) ?_
  refine ops_v (v_move (v := (.int _ _)) rfl rfl) ?_
  refine ops_v (v_move (v := (.int _ _)) rfl rfl) ?_
  refine ops_v (v_build (cs := [(.int _ _), (.int _ _), (.int _ _)]) rfl bp87 rfl) ?_
  refine ops_call rfl c73 (Lift_ok (fv := funcV 81) hL rfl (M.opF_within ▸ Within1_ok) g.wf (g.here rfl) hid1 hid1 H) ?_
  clear H; rintro _ w ⟨rfl, H⟩
  refine ops_v (v_extract (v := (.int _ _)) rfl rfl rfl) ?_
  refine ops_v (v_extract (v := (.int _ _)) rfl rfl rfl) ?_
  refine ops_v (v_assign (v := (.int _ _)) rfl rfl) ?_
  refine ops_v (v_assign (v := (.int _ _)) rfl rfl) ?_
  refine ops_nil ?_
  refine W_ret ?_
  refine ⟨_, (.tmp (v := (.int _ _)) rfl (.tmp (v := (.int _ _)) rfl .nil)), ?_⟩
  exact ⟨rfl, H.tail⟩
  -- (limit.Within: ret; chunks f,S,C; ptr 10=n0)
theorem Within_bad {s : St} {id m : Int} (hid : isN s id = false) (H : Own wb (StoreC p s :: R) w) :
    FnC Try.prog 60 [ptr p, xptr o, int id, int m] w (fun u w' => u = pairV 0 1 ∧ Own wb (StoreC p s :: R) w') := by
  refine FnC_of Try.func60 rfl rfl rfl rfl ?_
  refine W_seq ?_
  refine W_region ?_
  refine ops_v (v_assign (v := _) rfl rfl) ?_
  refine ops_v (v_assign (v := _) rfl rfl) ?_
  refine ops_nil ?_
  refine W_seq ?_
  refine W_seq ?_
  refine W_region ?_
  refine ops_v (v_move (v := (.pointer _)) rfl rfl) ?_
  refine ops_v (v_move (v := (.int _ _)) rfl rfl) ?_
  refine ops_call rfl c31 (FnC.ro 0 rfl H (fun _ H => NodeIs hid H)) ?_
  clear H; rintro _ w ⟨rfl, H⟩
  refine ops_v (v_move (v := (.tuple _)) rfl rfl) ?_
  refine ops_v (v_extract (v := (.agg _)) rfl rfl rfl) ?_
  refine ops_v (v_extract (v := (.bool _)) rfl rfl rfl) ?_
  refine ops_alloc H rfl tz42 ?_
  clear H; intro bn0 w H
  refine ops_store (vs := [_, _, _, _, _]) (v := (.agg _)) (cs' := [_, _, _, _, _]) 0 H rfl ts42 rfl rfl rfl rfl rfl rfl rfl rfl ?_
  clear H; intro w H
  refine ops_v (v_assign (v := (.bool _)) rfl rfl) ?_
  refine ops_nil ?_
  refine W_seq ?_
  refine W_region ?_
  refine ops_v (v_move (v := (.bool _)) rfl rfl) ?_
  refine ops_v (v_not rfl rfl _ rfl) ?_
  refine ops_nil ?_
  refine W_if_t rfl ?_
  refine W_seq ?_
  refine W_region ?_
  refine ops_v (v_assign (v := _) rfl rfl) ?_
  refine ops_v (v_assign (v := _) rfl rfl) ?_
  refine ops_nil ?_
  refine W_ret ?_
  refine ⟨_, (.tmp (v := (.int _ _)) rfl (.tmp (v := (.int _ _)) rfl .nil)), ?_⟩
  exact ⟨rfl, H.tail⟩
  -- (limit.Within: ret; chunks n0,S; ptr 10=n0)
theorem Within_nil {s s1 s2 : St} {id m few i e : Int} (hA : AtM s 0 m s1 few 0) (hL : Lifts (opF (-1)) s1 few id id s2 i e) (hw : Wf s) (hid : isN s id = true) (H : Own wb (StoreC p s :: R) w) :
    FnC Try.prog 60 [ptr p, .pointer none, int id, int m] w (fun u w' => u = pairV i e ∧ Own wb (StoreC p s2 :: R) w') :=
  (Within_ok (o := none) hA hL hw hid (H.toPure trivial (p := True)).swapL).mono fun _ _ ⟨hv, H⟩ => ⟨hv, H.swapL.tail⟩
end
end Go.Proofs.Ytchikjmhncojfaa.W
