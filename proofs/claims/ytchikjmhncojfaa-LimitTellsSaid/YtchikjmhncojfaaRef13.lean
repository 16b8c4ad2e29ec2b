/- The document's own store (backstayref13): walks. Conditions: none. -/
import Derived.Test.YtchikjmhncojfaaNodeNil
namespace Go.Proofs.Ytchikjmhncojfaa.W
open Go Go.Proofs Go.RowKit
open Go.Proofs.Ytchikjmhncojfaa.M (Br St getZ isN idx has down Wf rank i64 leafB askB)
section
variable {n : Nat} {ops : List Oper} {K : Env → World → Prop} {rest : List Oper} {e : Env} {w wb : World} {L : List Chunk}
variable {S : World → Prop} {d : Nat} {ty : TypeId} {g : Option (Nat × Bool)} {x y : Operand} {ps : String} {af : Array Edge}
theorem noGuardB : Try.prog.eqGuardType Try.prog.depth 42 = false := by kernel_rfl
theorem run_guardB (op : BinOp) (x y : Operand) (k k' : Br) (w : World) : (eqGuard op 42 x y (encB k) (encB k')).run Try.prog w = .ok () w := by
  unfold eqGuard
  cases op <;> simp [encB]
theorem binEqlB (k k' : Br) (w : World) : (binOp .eql 42 (encB k) (encB k')).run Try.prog w = .ok (.bool (decide (k = k'))) w := by
  show (do pure (Value.bool (← Op.equal 42 (encB k) (encB k'))) : Sem Value).run Try.prog w = _
  simp only [Sem.run_bind, eqB_run, Result.andThen_ok]; rfl
theorem binNeqB (k k' : Br) (w : World) : (binOp .neq 42 (encB k) (encB k')).run Try.prog w = .ok (.bool (!decide (k = k'))) w := by
  show (do pure (Value.bool (!(← Op.equal 42 (encB k) (encB k')))) : Sem Value).run Try.prog w = _
  simp only [Sem.run_bind, eqB_run, Result.andThen_ok]; rfl
theorem v_eqlB (k k' : Br) (c : Bool) {yt : TypeId} (hp : pre n d ops e g = true) (hx : ev e x = encB k) (hy : ev e y = encB k') (hc : decide (k = k') = c) : OpVal Try.prog n ops S e d (.binOp .eql 42 x y yt) ty g (.bool c) :=
  ⟨hp, fun _ _ a ha w _ => by
    subst hc
    simp only [execOp, ha.eval, hx, hy, Sem.run_bind, run_guardB, Result.andThen_ok, binEqlB]; rfl⟩
theorem v_neqB (k k' : Br) (c : Bool) {yt : TypeId} (hp : pre n d ops e g = true) (hx : ev e x = encB k) (hy : ev e y = encB k') (hc : (!decide (k = k')) = c) : OpVal Try.prog n ops S e d (.binOp .neq 42 x y yt) ty g (.bool c) :=
  ⟨hp, fun _ _ a ha w _ => by
    subst hc
    simp only [execOp, ha.eval, hx, hy, Sem.run_bind, run_guardB, Result.andThen_ok, binNeqB]; rfl⟩
end
def RefP (p : Nat) (st : St) (a : Option Addr) (cap : Nat) : Chunk := Blk p [.int .i64 st.links, .int .i64 st.most, .slice a st.nodes.length cap] 31
def RefC (p : Nat) (st : St) : Chunk :=
  ExC fun (x : Option Addr × Nat) => Sep (RefP p st x.1 x.2) (SlC x.1 st.nodes.length x.2 42 5 (flatB st.nodes))
theorem Own.openR {wb w : World} {p : Nat} {st : St} {R : List Chunk} (H : Own wb (RefC p st :: R) w) :
    ∃ a cap, Own wb (Blk p [.int .i64 st.links, .int .i64 st.most, .slice a st.nodes.length cap] 31 :: SlC a st.nodes.length cap 42 5 (flatB st.nodes) :: R) w := by
  obtain ⟨⟨a, cap⟩, H⟩ := H.ex
  exact ⟨a, cap, H.sep⟩
theorem Own.shutR {wb w : World} {p : Nat} {st : St} {a : Option Addr} {cap : Nat} {R : List Chunk}
    (H : Own wb (Blk p [.int .i64 st.links, .int .i64 st.most, .slice a st.nodes.length cap] 31 :: SlC a st.nodes.length cap 42 5 (flatB st.nodes) :: R) w) :
    Own wb (RefC p st :: R) w :=
  Own.toEx (f := fun (x : Option Addr × Nat) => Sep (RefP p st x.1 x.2) (SlC x.1 st.nodes.length x.2 42 5 (flatB st.nodes))) (a, cap) H.toSep
def refV (links most : Int) : Value := .agg [.int .i64 links, .int .i64 most, .slice none 0 0].toArray
theorem New13_ok {wb w : World} {R : List Chunk} (H : Own wb R w) (links most : Int) (h1 : 0 ≤ links) (h2 : links ≤ 16) (h3 : 1 ≤ most) (h4 : most ≤ 1073741824) :
    FnC Try.prog 27 [int links, int most] w (fun v w' => v = .tuple [refV links most, .bool true].toArray ∧ Own wb R w') := by
  refine FnC_of Try.func27 rfl rfl rfl rfl ?_
  refine W_seq ?_
  refine W_region ?_
  refine ops_alloc H rfl tz31 ?_
  clear H; intro bn0 w H
  refine ops_v (v_assign (v := _) rfl rfl) ?_
  refine ops_nil ?_
  refine W_seq ?_
  refine W_seq ?_
  refine W_region ?_
  refine ops_v (v_move (v := (.int _ _)) rfl rfl) ?_
  refine ops_v (v_lss false rfl rfl rfl (decide_eq_false (by first | omega | (simp only; omega) | rfl | decide))) ?_
  refine ops_v (v_move (v := (.bool _)) rfl rfl) ?_
  refine ops_v (v_move (v := (.int _ _)) rfl rfl) ?_
  refine ops_v (v_gtr false rfl rfl rfl (decide_eq_false (by first | omega | (simp only; omega) | rfl | decide))) ?_
  refine ops_v (v_pick_f (v := (.bool _)) rfl rfl rfl) ?_
  refine ops_v (v_move (v := (.bool _)) rfl rfl) ?_
  refine ops_v (v_move (v := (.int _ _)) rfl rfl) ?_
  refine ops_v (v_lss false rfl rfl rfl (decide_eq_false (by first | omega | (simp only; omega) | rfl | decide))) ?_
  refine ops_v (v_pick_f (v := (.bool _)) rfl rfl rfl) ?_
  refine ops_v (v_move (v := (.bool _)) rfl rfl) ?_
  refine ops_v (v_move (v := (.int _ _)) rfl rfl) ?_
  refine ops_v (v_gtr false rfl rfl rfl (decide_eq_false (by first | omega | (simp only; omega) | rfl | decide))) ?_
  refine ops_v (v_pick_f (v := (.bool _)) rfl rfl rfl) ?_
  refine ops_nil ?_
  refine W_if_f rfl ?_
  refine W_skip ?_
  refine W_seq ?_
  refine W_region ?_
  refine ops_v (v_move (v := (.int _ _)) rfl rfl) ?_
  refine ops_v (v_move (v := (.int _ _)) rfl rfl) ?_
  refine ops_v (v_build (cs := [(.int _ _), (.int _ _), (.slice _ _ _)]) rfl bp31 rfl) ?_
  refine ops_store (vs := [_, _, _]) (v := (.agg _)) (cs' := [_, _, _]) 0 H rfl ts31 rfl rfl rfl rfl rfl rfl rfl rfl ?_
  clear H; intro w H
  refine ops_v (v_assign (v := _) rfl rfl) ?_
  refine ops_nil ?_
  refine W_ret ?_
  refine ⟨_, (.cell rfl (run_loadA (vs := [_, _, _]) ta31 (H.blk 0 rfl) rfl rfl) (.tmp (v := (.bool _)) rfl .nil)), ?_⟩
  exact ⟨rfl, H.tail⟩
  -- (backstayref13.New: ret; chunks n0; ptr 4=n0)
theorem New13_no {wb w : World} {R : List Chunk} (H : Own wb R w) (links most : Int) (h : links < 0 ∨ 16 < links ∨ most < 1 ∨ 1073741824 < most) :
    FnC Try.prog 27 [int links, int most] w (fun v w' => v = .tuple [refV 0 0, .bool false].toArray ∧ Own wb R w') := by
  by_cases c1 : links < 0
  · refine FnC_of Try.func27 rfl rfl rfl rfl ?_
    refine W_seq ?_
    refine W_region ?_
    refine ops_alloc H rfl tz31 ?_
    clear H; intro bn0 w H
    refine ops_v (v_assign (v := _) rfl rfl) ?_
    refine ops_nil ?_
    refine W_seq ?_
    refine W_seq ?_
    refine W_region ?_
    refine ops_v (v_move (v := (.int _ _)) rfl rfl) ?_
    refine ops_v (v_lss true rfl rfl rfl (decide_eq_true (by first | omega | (simp only; omega) | rfl | decide))) ?_
    refine ops_v (v_move (v := (.bool _)) rfl rfl) ?_
    refine ops_skip rfl rfl ?_
    refine ops_skip rfl rfl ?_
    refine ops_v (v_pick_t (v := (.bool _)) rfl rfl rfl) ?_
    refine ops_v (v_move (v := (.bool _)) rfl rfl) ?_
    refine ops_skip rfl rfl ?_
    refine ops_skip rfl rfl ?_
    refine ops_v (v_pick_t (v := (.bool _)) rfl rfl rfl) ?_
    refine ops_v (v_move (v := (.bool _)) rfl rfl) ?_
    refine ops_skip rfl rfl ?_
    refine ops_skip rfl rfl ?_
    refine ops_v (v_pick_t (v := (.bool _)) rfl rfl rfl) ?_
    refine ops_nil ?_
    refine W_if_t rfl ?_
    refine W_seq ?_
    refine W_region ?_
    refine ops_v (v_build (cs := [(.int _ _), (.int _ _), (.slice _ _ _)]) rfl bp31 rfl) ?_
    refine ops_store (vs := [_, _, _]) (v := (.agg _)) (cs' := [_, _, _]) 0 H rfl ts31 rfl rfl rfl rfl rfl rfl rfl rfl ?_
    clear H; intro w H
    refine ops_v (v_assign (v := _) rfl rfl) ?_
    refine ops_nil ?_
    refine W_ret ?_
    refine ⟨_, (.cell rfl (run_loadA (vs := [_, _, _]) ta31 (H.blk 0 rfl) rfl rfl) (.tmp (v := (.bool _)) rfl .nil)), ?_⟩
    exact ⟨rfl, H.tail⟩
    -- (backstayref13.New: ret; chunks n0; ptr 4=n0)
  by_cases c2 : 16 < links
  · refine FnC_of Try.func27 rfl rfl rfl rfl ?_
    refine W_seq ?_
    refine W_region ?_
    refine ops_alloc H rfl tz31 ?_
    clear H; intro bn0 w H
    refine ops_v (v_assign (v := _) rfl rfl) ?_
    refine ops_nil ?_
    refine W_seq ?_
    refine W_seq ?_
    refine W_region ?_
    refine ops_v (v_move (v := (.int _ _)) rfl rfl) ?_
    refine ops_v (v_lss false rfl rfl rfl (decide_eq_false (by first | omega | (simp only; omega) | rfl | decide))) ?_
    refine ops_v (v_move (v := (.bool _)) rfl rfl) ?_
    refine ops_v (v_move (v := (.int _ _)) rfl rfl) ?_
    refine ops_v (v_gtr true rfl rfl rfl (decide_eq_true (by first | omega | (simp only; omega) | rfl | decide))) ?_
    refine ops_v (v_pick_f (v := (.bool _)) rfl rfl rfl) ?_
    refine ops_v (v_move (v := (.bool _)) rfl rfl) ?_
    refine ops_skip rfl rfl ?_
    refine ops_skip rfl rfl ?_
    refine ops_v (v_pick_t (v := (.bool _)) rfl rfl rfl) ?_
    refine ops_v (v_move (v := (.bool _)) rfl rfl) ?_
    refine ops_skip rfl rfl ?_
    refine ops_skip rfl rfl ?_
    refine ops_v (v_pick_t (v := (.bool _)) rfl rfl rfl) ?_
    refine ops_nil ?_
    refine W_if_t rfl ?_
    refine W_seq ?_
    refine W_region ?_
    refine ops_v (v_build (cs := [(.int _ _), (.int _ _), (.slice _ _ _)]) rfl bp31 rfl) ?_
    refine ops_store (vs := [_, _, _]) (v := (.agg _)) (cs' := [_, _, _]) 0 H rfl ts31 rfl rfl rfl rfl rfl rfl rfl rfl ?_
    clear H; intro w H
    refine ops_v (v_assign (v := _) rfl rfl) ?_
    refine ops_nil ?_
    refine W_ret ?_
    refine ⟨_, (.cell rfl (run_loadA (vs := [_, _, _]) ta31 (H.blk 0 rfl) rfl rfl) (.tmp (v := (.bool _)) rfl .nil)), ?_⟩
    exact ⟨rfl, H.tail⟩
    -- (backstayref13.New: ret; chunks n0; ptr 4=n0)
  by_cases c3 : most < 1
  · refine FnC_of Try.func27 rfl rfl rfl rfl ?_
    refine W_seq ?_
    refine W_region ?_
    refine ops_alloc H rfl tz31 ?_
    clear H; intro bn0 w H
    refine ops_v (v_assign (v := _) rfl rfl) ?_
    refine ops_nil ?_
    refine W_seq ?_
    refine W_seq ?_
    refine W_region ?_
    refine ops_v (v_move (v := (.int _ _)) rfl rfl) ?_
    refine ops_v (v_lss false rfl rfl rfl (decide_eq_false (by first | omega | (simp only; omega) | rfl | decide))) ?_
    refine ops_v (v_move (v := (.bool _)) rfl rfl) ?_
    refine ops_v (v_move (v := (.int _ _)) rfl rfl) ?_
    refine ops_v (v_gtr false rfl rfl rfl (decide_eq_false (by first | omega | (simp only; omega) | rfl | decide))) ?_
    refine ops_v (v_pick_f (v := (.bool _)) rfl rfl rfl) ?_
    refine ops_v (v_move (v := (.bool _)) rfl rfl) ?_
    refine ops_v (v_move (v := (.int _ _)) rfl rfl) ?_
    refine ops_v (v_lss true rfl rfl rfl (decide_eq_true (by first | omega | (simp only; omega) | rfl | decide))) ?_
    refine ops_v (v_pick_f (v := (.bool _)) rfl rfl rfl) ?_
    refine ops_v (v_move (v := (.bool _)) rfl rfl) ?_
    refine ops_skip rfl rfl ?_
    refine ops_skip rfl rfl ?_
    refine ops_v (v_pick_t (v := (.bool _)) rfl rfl rfl) ?_
    refine ops_nil ?_
    refine W_if_t rfl ?_
    refine W_seq ?_
    refine W_region ?_
    refine ops_v (v_build (cs := [(.int _ _), (.int _ _), (.slice _ _ _)]) rfl bp31 rfl) ?_
    refine ops_store (vs := [_, _, _]) (v := (.agg _)) (cs' := [_, _, _]) 0 H rfl ts31 rfl rfl rfl rfl rfl rfl rfl rfl ?_
    clear H; intro w H
    refine ops_v (v_assign (v := _) rfl rfl) ?_
    refine ops_nil ?_
    refine W_ret ?_
    refine ⟨_, (.cell rfl (run_loadA (vs := [_, _, _]) ta31 (H.blk 0 rfl) rfl rfl) (.tmp (v := (.bool _)) rfl .nil)), ?_⟩
    exact ⟨rfl, H.tail⟩
    -- (backstayref13.New: ret; chunks n0; ptr 4=n0)
  have c4 : 1073741824 < most := by omega
  refine FnC_of Try.func27 rfl rfl rfl rfl ?_
  refine W_seq ?_
  refine W_region ?_
  refine ops_alloc H rfl tz31 ?_
  clear H; intro bn0 w H
  refine ops_v (v_assign (v := _) rfl rfl) ?_
  refine ops_nil ?_
  refine W_seq ?_
  refine W_seq ?_
  refine W_region ?_
  refine ops_v (v_move (v := (.int _ _)) rfl rfl) ?_
  refine ops_v (v_lss false rfl rfl rfl (decide_eq_false (by first | omega | (simp only; omega) | rfl | decide))) ?_
  refine ops_v (v_move (v := (.bool _)) rfl rfl) ?_
  refine ops_v (v_move (v := (.int _ _)) rfl rfl) ?_
  refine ops_v (v_gtr false rfl rfl rfl (decide_eq_false (by first | omega | (simp only; omega) | rfl | decide))) ?_
  refine ops_v (v_pick_f (v := (.bool _)) rfl rfl rfl) ?_
  refine ops_v (v_move (v := (.bool _)) rfl rfl) ?_
  refine ops_v (v_move (v := (.int _ _)) rfl rfl) ?_
  refine ops_v (v_lss false rfl rfl rfl (decide_eq_false (by first | omega | (simp only; omega) | rfl | decide))) ?_
  refine ops_v (v_pick_f (v := (.bool _)) rfl rfl rfl) ?_
  refine ops_v (v_move (v := (.bool _)) rfl rfl) ?_
  refine ops_v (v_move (v := (.int _ _)) rfl rfl) ?_
  refine ops_v (v_gtr true rfl rfl rfl (decide_eq_true (by first | omega | (simp only; omega) | rfl | decide))) ?_
  refine ops_v (v_pick_f (v := (.bool _)) rfl rfl rfl) ?_
  refine ops_nil ?_
  refine W_if_t rfl ?_
  refine W_seq ?_
  refine W_region ?_
  refine ops_v (v_build (cs := [(.int _ _), (.int _ _), (.slice _ _ _)]) rfl bp31 rfl) ?_
  refine ops_store (vs := [_, _, _]) (v := (.agg _)) (cs' := [_, _, _]) 0 H rfl ts31 rfl rfl rfl rfl rfl rfl rfl rfl ?_
  clear H; intro w H
  refine ops_v (v_assign (v := _) rfl rfl) ?_
  refine ops_nil ?_
  refine W_ret ?_
  refine ⟨_, (.cell rfl (run_loadA (vs := [_, _, _]) ta31 (H.blk 0 rfl) rfl rfl) (.tmp (v := (.bool _)) rfl .nil)), ?_⟩
  exact ⟨rfl, H.tail⟩
  -- (backstayref13.New: ret; chunks n0; ptr 4=n0)
theorem Node13_ok {wb w : World} {p : Nat} {st : St} {R : List Chunk} (id : Int) (H : Own wb (RefC p st :: R) w) :
    FnC Try.prog 32 [ptr p, int id] w (fun v w' => v = nodeV (getZ st id) (isN st id) ∧ Own wb (RefC p st :: R) w') := by
  obtain ⟨a, cap, H⟩ := H.openR
  unfold getZ isN
  by_cases h0 : id < 0
  · rw [M.get_none_lt h0]
    refine FnC_of Try.func32 rfl rfl rfl rfl ?_
    refine W_seq ?_
    refine W_region ?_
    refine ops_alloc H rfl tz42 ?_
    clear H; intro bn0 w H
    refine ops_v (v_assign (v := _) rfl rfl) ?_
    refine ops_nil ?_
    refine W_seq ?_
    refine W_seq ?_
    refine W_region ?_
    refine ops_v (v_move (v := (.int _ _)) rfl rfl) ?_
    refine ops_v (v_lss true rfl rfl rfl (decide_eq_true (by first | omega | (simp only; omega) | rfl | decide))) ?_
    refine ops_v (v_move (v := (.bool _)) rfl rfl) ?_
    refine ops_skip rfl rfl ?_
    refine ops_skip rfl rfl ?_
    refine ops_skip rfl rfl ?_
    refine ops_skip rfl rfl ?_
    refine ops_skip rfl rfl ?_
    refine ops_skip rfl rfl ?_
    refine ops_skip rfl rfl ?_
    refine ops_v (v_pick_t (v := (.bool _)) rfl rfl rfl) ?_
    refine ops_nil ?_
    refine W_if_t rfl ?_
    refine W_seq ?_
    refine W_region ?_
    refine ops_v (v_build (cs := [(.bool _), (.int _ _), (.int _ _), (.int _ _), (.int _ _)]) rfl bp42 rfl) ?_
    refine ops_store (vs := [_, _, _, _, _]) (v := (.agg _)) (cs' := [_, _, _, _, _]) 0 H rfl ts42 rfl rfl rfl rfl rfl rfl rfl rfl ?_
    clear H; intro w H
    refine ops_v (v_assign (v := _) rfl rfl) ?_
    refine ops_nil ?_
    refine W_ret ?_
    refine ⟨_, (.cell rfl (run_loadA (vs := [_, _, _, _, _]) ta42 (H.blk 0 rfl) rfl rfl) (.tmp (v := (.bool _)) rfl .nil)), ?_⟩
    exact ⟨rfl, H.tail.shutR⟩
    -- ((*backstayref13.Store).Node: ret; chunks n0,p,s; ptr 0=p,4=n0)
  · by_cases h1 : id < st.nodes.length
    · obtain ⟨b, hb, hn⟩ := M.get_in (by omega) h1
      rw [hb]
      obtain ⟨g, rfl⟩ := H.slSome 1 rfl (by omega)
      have hv : ((flatB st.nodes).drop (0 + id.toNat * 5)).take 5 = cellsB b := by rw [Nat.zero_add]; exact flatB_get _ _ _ hn
      have h1' : ¬ ((st.nodes.length : Int) ≤ id) := by omega
      refine FnC_of Try.func32 rfl rfl rfl rfl ?_
      refine W_seq ?_
      refine W_region ?_
      refine ops_alloc H rfl tz42 ?_
      clear H; intro bn0 w H
      refine ops_v (v_assign (v := _) rfl rfl) ?_
      refine ops_nil ?_
      refine W_seq ?_
      refine W_seq ?_
      refine W_region ?_
      refine ops_v (v_move (v := (.int _ _)) rfl rfl) ?_
      refine ops_v (v_lss false rfl rfl rfl (decide_eq_false (by first | omega | (simp only; omega) | rfl | decide))) ?_
      refine ops_v (v_move (v := (.bool _)) rfl rfl) ?_
      refine ops_v (v_move (v := (.int _ _)) rfl rfl) ?_
      refine ops_v (v_move (v := (.pointer _)) rfl rfl) ?_
      refine ops_v (v_nilCheck rfl rfl) ?_
      refine ops_v (v_fieldAddr rfl fo31_2 rfl rfl) ?_
      refine ops_load (v := (.slice _ _ _)) 1 H rfl tc29 rfl rfl rfl ?_
      refine ops_v (v_len rfl sl29 rfl) ?_
      refine ops_v (v_geq false rfl rfl rfl (decide_eq_false (by first | omega | (simp only; omega) | rfl | decide))) ?_
      refine ops_v (v_pick_f (v := (.bool _)) rfl rfl rfl) ?_
      refine ops_nil ?_
      refine W_if_f rfl ?_
      refine W_skip ?_
      refine W_seq ?_
      refine W_region ?_
      refine ops_v (v_move (v := (.pointer _)) rfl rfl) ?_
      refine ops_v (v_nilCheck rfl rfl) ?_
      refine ops_v (v_fieldAddr rfl fo31_2 rfl rfl) ?_
      refine ops_load (v := (.slice _ _ _)) 1 H rfl tc29 rfl rfl rfl ?_
      refine ops_v (v_move (v := (.int _ _)) rfl rfl) ?_
      refine ops_v (v_indexAddr_sl rfl se29 rfl rfl (by omega) (by omega)) ?_
      refine ops_loadSlA (vs := [_, _, _, _, _]) 2 H rfl ta42 rfl rfl hv rfl ?_
      refine ops_store (vs := [_, _, _, _, _]) (v := (.agg _)) (cs' := [_, _, _, _, _]) 0 H rfl ts42 rfl rfl rfl rfl rfl rfl rfl rfl ?_
      clear H; intro w H
      refine ops_v (v_assign (v := _) rfl rfl) ?_
      refine ops_nil ?_
      refine W_ret ?_
      refine ⟨_, (.cell rfl (run_loadA (vs := [_, _, _, _, _]) ta42 (H.blk 0 rfl) rfl rfl) (.tmp (v := (.bool _)) rfl .nil)), ?_⟩
      exact ⟨rfl, H.tail.shutR⟩
      -- ((*backstayref13.Store).Node: ret; chunks n0,p,s; ptr 0=p,4=n0,10=p,11=p,12=p,18=p,19=p,20=p)
    · rw [M.get_none_ge (by omega)]
      refine FnC_of Try.func32 rfl rfl rfl rfl ?_
      refine W_seq ?_
      refine W_region ?_
      refine ops_alloc H rfl tz42 ?_
      clear H; intro bn0 w H
      refine ops_v (v_assign (v := _) rfl rfl) ?_
      refine ops_nil ?_
      refine W_seq ?_
      refine W_seq ?_
      refine W_region ?_
      refine ops_v (v_move (v := (.int _ _)) rfl rfl) ?_
      refine ops_v (v_lss false rfl rfl rfl (decide_eq_false (by first | omega | (simp only; omega) | rfl | decide))) ?_
      refine ops_v (v_move (v := (.bool _)) rfl rfl) ?_
      refine ops_v (v_move (v := (.int _ _)) rfl rfl) ?_
      refine ops_v (v_move (v := (.pointer _)) rfl rfl) ?_
      refine ops_v (v_nilCheck rfl rfl) ?_
      refine ops_v (v_fieldAddr rfl fo31_2 rfl rfl) ?_
      refine ops_load (v := (.slice _ _ _)) 1 H rfl tc29 rfl rfl rfl ?_
      refine ops_v (v_len rfl sl29 rfl) ?_
      refine ops_v (v_geq true rfl rfl rfl (decide_eq_true (by first | omega | (simp only; omega) | rfl | decide))) ?_
      refine ops_v (v_pick_f (v := (.bool _)) rfl rfl rfl) ?_
      refine ops_nil ?_
      refine W_if_t rfl ?_
      refine W_seq ?_
      refine W_region ?_
      refine ops_v (v_build (cs := [(.bool _), (.int _ _), (.int _ _), (.int _ _), (.int _ _)]) rfl bp42 rfl) ?_
      refine ops_store (vs := [_, _, _, _, _]) (v := (.agg _)) (cs' := [_, _, _, _, _]) 0 H rfl ts42 rfl rfl rfl rfl rfl rfl rfl rfl ?_
      clear H; intro w H
      refine ops_v (v_assign (v := _) rfl rfl) ?_
      refine ops_nil ?_
      refine W_ret ?_
      refine ⟨_, (.cell rfl (run_loadA (vs := [_, _, _, _, _]) ta42 (H.blk 0 rfl) rfl rfl) (.tmp (v := (.bool _)) rfl .nil)), ?_⟩
      exact ⟨rfl, H.tail.shutR⟩
      -- ((*backstayref13.Store).Node: ret; chunks n0,p,s; ptr 0=p,4=n0,10=p,11=p,12=p)
end Go.Proofs.Ytchikjmhncojfaa.W
