/- The walks of package node (and what it calls): each function by one contract over the plain model. Conditions: none. -/
import Derived.Test.YtchikjmhncojfaaFacts
import Derived.Test.YtchikjmhncojfaaNodeM
namespace Go.Proofs.Ytchikjmhncojfaa.W
open Go Go.Proofs Go.RowKit
open Go.Proofs.Ytchikjmhncojfaa.M (Br St get getZ isN idx has down)

def cellsB (b : Br) : List Value := [.bool b.leaf, .int .i64 b.value, .int .i64 b.link, .int .i64 b.stands, .int .i64 b.fails]
def encB (b : Br) : Value := .agg (cellsB b).toArray
def flatB (l : List Br) : List Value := l.flatMap cellsB
def mapFrom (l : List Br) (i : Nat) : List (Br × Value) := (l.zipIdx i).map fun p => (p.1, .int .i64 p.2)
def mapB (l : List Br) : List (Br × Value) := mapFrom l 0
def ptr (p : Nat) : Value := .pointer (some ⟨p, 0, none⟩)
def int (n : Int) : Value := .int .i64 n

def StoreP (p : Nat) (st : St) (a : Option Addr) (cap m : Nat) : Chunk := Blk p [.int .i64 st.links, .int .i64 st.most, .slice a st.nodes.length cap, .map (some m)] 74
def StoreC (p : Nat) (st : St) : Chunk :=
  ExC fun (x : Option Addr × Nat × Nat) => Sep (StoreP p st x.1 x.2.1 x.2.2) (Sep (SlC x.1 st.nodes.length x.2.1 42 5 (flatB st.nodes)) (MapC encB x.2.2 (mapB st.nodes)))
theorem Own.openS {wb w : World} {p : Nat} {st : St} {R : List Chunk} (H : Own wb (StoreC p st :: R) w) :
    ∃ a cap m, Own wb (Blk p [.int .i64 st.links, .int .i64 st.most, .slice a st.nodes.length cap, .map (some m)] 74 :: SlC a st.nodes.length cap 42 5 (flatB st.nodes) :: MapC encB m (mapB st.nodes) :: R) w := by
  obtain ⟨⟨a, cap, m⟩, H⟩ := H.ex
  have H := H.sep
  have H := (H.perm (L' := _ :: StoreP p st a cap m :: R) (List.Perm.swap _ _ _)).sep
  exact ⟨a, cap, m, H.perm ((List.Perm.cons _ (List.Perm.swap _ _ _)).trans (List.Perm.swap _ _ _))⟩
theorem Own.shutS {wb w : World} {p : Nat} {st : St} {a : Option Addr} {cap m : Nat} {R : List Chunk}
    (H : Own wb (Blk p [.int .i64 st.links, .int .i64 st.most, .slice a st.nodes.length cap, .map (some m)] 74 :: SlC a st.nodes.length cap 42 5 (flatB st.nodes) :: MapC encB m (mapB st.nodes) :: R) w) :
    Own wb (StoreC p st :: R) w := by
  have H := (H.perm ((List.Perm.swap _ _ _).trans (List.Perm.cons _ (List.Perm.swap _ _ _)))).toSep
  have H := (H.perm (L' := StoreP p st a cap m :: _ :: R) (List.Perm.swap _ _ _)).toSep
  exact Own.toEx (f := fun (x : Option Addr × Nat × Nat) => Sep (StoreP p st x.1 x.2.1 x.2.2) (Sep (SlC x.1 st.nodes.length x.2.1 42 5 (flatB st.nodes)) (MapC encB x.2.2 (mapB st.nodes)))) (a, cap, m) H

theorem Links_ok {wb w : World} {p : Nat} {st : St} {R : List Chunk} (H : Own wb (StoreC p st :: R) w) :
    FnC Try.prog 28 [ptr p] w (fun v w' => v = .int .i64 st.links ∧ Own wb (StoreC p st :: R) w') := by
  obtain ⟨a, cap, m, H⟩ := H.openS
  refine FnC_of Try.func28 rfl rfl rfl rfl ?_
  refine W_seq ?_
  refine W_region ?_
  refine ops_v (v_assign (v := _) rfl rfl) ?_
  refine ops_nil ?_
  refine W_seq ?_
  refine W_seq ?_
  refine W_region ?_
  refine ops_v (v_move (v := (.pointer _)) rfl rfl) ?_
  refine ops_v (v_eql_nil _ rfl ip27 rfl rfl rfl) ?_
  refine ops_nil ?_
  refine W_if_f rfl ?_
  refine W_skip ?_
  refine W_seq ?_
  refine W_region ?_
  refine ops_v (v_move (v := (.pointer _)) rfl rfl) ?_
  refine ops_v (v_nilCheck rfl rfl) ?_
  refine ops_v (v_fieldAddr rfl fo74_0 rfl rfl) ?_
  refine ops_load (v := (.int _ _)) 0 H rfl tc3 rfl rfl rfl ?_
  refine ops_v (v_assign (v := (.int _ _)) rfl rfl) ?_
  refine ops_nil ?_
  refine W_ret ?_
  refine ⟨_, (.tmp (v := (.int _ _)) rfl .nil), ?_⟩
  -- ((*node.Store).Links: ret; chunks p,s,m; ptr 0=p,3=p,5=p,6=p,7=p)
  exact ⟨rfl, H.shutS⟩
theorem Size_ok {wb w : World} {p : Nat} {st : St} {R : List Chunk} (H : Own wb (StoreC p st :: R) w) :
    FnC Try.prog 30 [ptr p] w (fun v w' => v = .int .i64 st.nodes.length ∧ Own wb (StoreC p st :: R) w') := by
  obtain ⟨a, cap, m, H⟩ := H.openS
  refine FnC_of Try.func30 rfl rfl rfl rfl ?_
  refine W_seq ?_
  refine W_region ?_
  refine ops_v (v_assign (v := _) rfl rfl) ?_
  refine ops_nil ?_
  refine W_seq ?_
  refine W_seq ?_
  refine W_region ?_
  refine ops_v (v_move (v := (.pointer _)) rfl rfl) ?_
  refine ops_v (v_eql_nil _ rfl ip27 rfl rfl rfl) ?_
  refine ops_nil ?_
  refine W_if_f rfl ?_
  refine W_skip ?_
  refine W_seq ?_
  refine W_region ?_
  refine ops_v (v_move (v := (.pointer _)) rfl rfl) ?_
  refine ops_v (v_nilCheck rfl rfl) ?_
  refine ops_v (v_fieldAddr rfl fo74_2 rfl rfl) ?_
  refine ops_load (v := (.slice _ _ _)) 0 H rfl tc29 rfl rfl rfl ?_
  refine ops_v (v_len rfl sl29 rfl) ?_
  refine ops_v (v_assign (v := (.int _ _)) rfl rfl) ?_
  refine ops_nil ?_
  refine W_ret ?_
  refine ⟨_, (.tmp (v := (.int _ _)) rfl .nil), ?_⟩
  -- ((*node.Store).Size: ret; chunks p,s,m; ptr 0=p,3=p,5=p,6=p,7=p)
  exact ⟨rfl, H.shutS⟩

/-! ### keys and plain facts -/
theorem eqB_run (k k' : Br) (w : World) : (Op.equal 42 (encB k) (encB k')).run Try.prog w = .ok (decide (k = k')) w := by
  have key : ∀ d, (Op.equalIn (d + 2) 42 (encB k) (encB k')).run Try.prog w = .ok (decide (k = k')) w := fun d => by
    have hf : Try.prog.underlying 42 = some (.struct (Try.prog.fieldsOf 42)) := by kernel_rfl
    have hst : Try.prog.stoodInHeld 42 = false := by kernel_rfl
    have hbo : ∀ w a b, (Op.equalIn (d + 1) 4 (.bool a) (.bool b)).run Try.prog w = .ok (a == b) w := fun w a b => run_equalIn_bool' w d _ a b Try.underlying4
    have hin : ∀ w a b, (Op.equalIn (d + 1) 3 (.int .i64 a) (.int .i64 b)).run Try.prog w = .ok (a == b) w := fun w a b => run_equalIn_int w d _ .i64 .i64 a b Try.underlying3
    unfold encB
    rw [run_equalIn_struct w (d + 1) 42 _ _ hf hst]
    obtain ⟨l, v, k1, s1, f1'⟩ := k
    obtain ⟨l', v', k1', s1', f1''⟩ := k'
    simp [Program.fieldsOf, Try.underlying42, Op.eqFields, cellsB, part, run_isAgg_false tc3, run_isAgg_false tc4, hbo, hin]
    by_cases h0 : l = l' <;> by_cases h1 : v = v' <;> by_cases h2 : k1 = k1' <;> by_cases h3 : s1 = s1' <;> by_cases h4 : f1' = f1'' <;> simp [h0, h1, h2, h3, h4]
  exact key 9998
theorem keyB : KeyLaw Try.prog 42 encB := by
  refine KeyLaw.of_eq Try.underlying42 (fun _ _ => rfl) ?_ ?_ ?_
  · intro b k w
    have key : ∀ d, (Instr.checkKey b (d + 2) 42 (encB k)).run Try.prog w = .ok () w := fun d => by
      simp [Instr.checkKey, encB, cellsB, run_underlying Try.underlying42, run_underlying Try.underlying3, run_underlying Try.underlying4, part, run_isAgg_false tc3, run_isAgg_false tc4]
    exact key 9998
  · exact eqB_run
  · intro k
    have key : ∀ d, Instr.sameBits (d + 2) (encB k) (encB k) = true := fun d => by simp [Instr.sameBits, encB, cellsB]
    exact key 9998

theorem flatB_get : ∀ (l : List Br) (i : Nat) (b : Br), l[i]? = some b → ((flatB l).drop (i * 5)).take 5 = cellsB b
  | [], i, b, h => by simp at h
  | x :: l, 0, b, h => by simp at h; subst h; simp [flatB, cellsB]
  | x :: l, i + 1, b, h => by
    have := flatB_get l i b (by simpa using h)
    simp only [flatB, List.flatMap_cons] at this ⊢
    rw [show (i + 1) * 5 = 5 + i * 5 from by omega, ← List.drop_drop]
    simpa [cellsB] using this
theorem flatB_len (l : List Br) : (flatB l).length = l.length * 5 := by
  induction l with
  | nil => rfl
  | cons b l ih => simp only [flatB, List.flatMap_cons, List.length_append, List.length_cons] at ih ⊢; rw [ih]; simp [cellsB]; omega
theorem findIx_map (b : Br) : ∀ (l : List Br) (i j : Nat), findIx b (mapFrom l i) j = (M.idx l b).map fun k => (j + k, .int .i64 ((i + k : Nat) : Int))
  | [], i, j => rfl
  | x :: l, i, j => by
    have ih := findIx_map b l (i + 1) (j + 1)
    unfold mapFrom at ih ⊢
    simp only [List.zipIdx_cons, List.map_cons, findIx]
    unfold M.idx at ih ⊢
    rw [List.findIdx?_cons]
    by_cases h : b = x
    · subst h; simp
    · have h' : ¬ x = b := fun e => h e.symm
      simp only [h, h', decide_false, Bool.false_eq_true, if_false]
      rw [ih]
      cases List.findIdx? (fun y => decide (y = b)) l with
      | none => rfl
      | some k => simp; omega
theorem look_mapB (l : List Br) (b : Br) : look (mapB l) b = (M.idx l b).map fun k => .int .i64 (k : Int) := by
  unfold look mapB
  rw [findIx_map]
  cases M.idx l b <;> simp
theorem mapB_snoc (l : List Br) (b : Br) : mapB (l ++ [b]) = mapB l ++ [(b, .int .i64 (l.length : Int))] := by
  unfold mapB mapFrom
  rw [List.zipIdx_append]
  simp
theorem flatB_snoc (l : List Br) (b : Br) : flatB (l ++ [b]) = flatB l ++ cellsB b := by simp [flatB]
theorem zeroInt (w : World) : (zeroValue 3).run Try.prog w = .ok (.int .i64 0) w := by kernel_rfl

/-! ### bits.Has -/
theorem isLink_ok {wb w : World} {R : List Chunk} (H : Own wb R w) (l : Int) (b : Bool) (hb : decide (0 ≤ l ∧ l < 16) = b) :
    FnC Try.prog 88 [int l] w (fun v w' => v = .bool b ∧ Own wb R w') := by
  cases b with
  | true =>
    have h := of_decide_eq_true hb
    refine FnC_of Try.func88 rfl rfl rfl rfl ?_
    refine W_seq ?_
    refine W_region ?_
    refine ops_v (v_assign (v := _) rfl rfl) ?_
    refine ops_nil ?_
    refine W_seq ?_
    refine W_region ?_
    refine ops_v (v_move (v := (.int _ _)) rfl rfl) ?_
    refine ops_v (v_geq true rfl rfl rfl (decide_eq_true (by first | omega | (simp only; omega) | rfl | decide))) ?_
    refine ops_v (v_move (v := (.bool _)) rfl rfl) ?_
    refine ops_v (v_move (v := (.int _ _)) rfl rfl) ?_
    refine ops_v (v_lss true rfl rfl rfl (decide_eq_true (by first | omega | (simp only; omega) | rfl | decide))) ?_
    refine ops_v (v_pick_t (v := (.bool _)) rfl rfl rfl) ?_
    refine ops_v (v_assign (v := (.bool _)) rfl rfl) ?_
    refine ops_nil ?_
    refine W_ret ?_
    refine ⟨_, (.tmp (v := (.bool _)) rfl .nil), ?_⟩
    exact ⟨rfl, H⟩
    -- (bits.isLink: ret; chunks ; ptr )
  | false =>
    have h := of_decide_eq_false hb
    by_cases h0 : 0 ≤ l
    · refine FnC_of Try.func88 rfl rfl rfl rfl ?_
      refine W_seq ?_
      refine W_region ?_
      refine ops_v (v_assign (v := _) rfl rfl) ?_
      refine ops_nil ?_
      refine W_seq ?_
      refine W_region ?_
      refine ops_v (v_move (v := (.int _ _)) rfl rfl) ?_
      refine ops_v (v_geq true rfl rfl rfl (decide_eq_true (by first | omega | (simp only; omega) | rfl | decide))) ?_
      refine ops_v (v_move (v := (.bool _)) rfl rfl) ?_
      refine ops_v (v_move (v := (.int _ _)) rfl rfl) ?_
      refine ops_v (v_lss false rfl rfl rfl (decide_eq_false (by first | omega | (simp only; omega) | rfl | decide))) ?_
      refine ops_v (v_pick_t (v := (.bool _)) rfl rfl rfl) ?_
      refine ops_v (v_assign (v := (.bool _)) rfl rfl) ?_
      refine ops_nil ?_
      refine W_ret ?_
      refine ⟨_, (.tmp (v := (.bool _)) rfl .nil), ?_⟩
      exact ⟨rfl, H⟩
      -- (bits.isLink: ret; chunks ; ptr )
    · refine FnC_of Try.func88 rfl rfl rfl rfl ?_
      refine W_seq ?_
      refine W_region ?_
      refine ops_v (v_assign (v := _) rfl rfl) ?_
      refine ops_nil ?_
      refine W_seq ?_
      refine W_region ?_
      refine ops_v (v_move (v := (.int _ _)) rfl rfl) ?_
      refine ops_v (v_geq false rfl rfl rfl (decide_eq_false (by first | omega | (simp only; omega) | rfl | decide))) ?_
      refine ops_v (v_move (v := (.bool _)) rfl rfl) ?_
      refine ops_skip rfl rfl ?_
      refine ops_skip rfl rfl ?_
      refine ops_v (v_pick_f (v := (.bool _)) rfl rfl rfl) ?_
      refine ops_v (v_assign (v := (.bool _)) rfl rfl) ?_
      refine ops_nil ?_
      refine W_ret ?_
      refine ⟨_, (.tmp (v := (.bool _)) rfl .nil), ?_⟩
      exact ⟨rfl, H⟩
      -- (bits.isLink: ret; chunks ; ptr )
theorem has_eq {f l : Int} (h0 : 0 ≤ l) (h1 : l < 16) : decide (f.fdiv (2 ^ min l.toNat IntKind.i64.bits) % 2 = 1) = has f l := by
  have hm : min l.toNat IntKind.i64.bits = l.toNat := by
    have : IntKind.i64.bits = 64 := rfl
    omega
  rw [hm, Int.fdiv_eq_ediv_of_nonneg _ (by exact Int.le_of_lt (Int.pow_pos (by decide)))]
  simp [has, h0, h1]
theorem Has_ok {wb w : World} {R : List Chunk} (H : Own wb R w) (f l : Int) (b : Bool) (hb : has f l = b) :
    FnC Try.prog 67 [int f, int l] w (fun v w' => v = .bool b ∧ Own wb R w') := by
  by_cases h : 0 ≤ l ∧ l < 16
  · have e := has_eq (f := f) h.1 h.2
    refine FnC_of Try.func67 rfl rfl rfl rfl ?_
    refine W_seq ?_
    refine W_region ?_
    refine ops_v (v_assign (v := _) rfl rfl) ?_
    refine ops_nil ?_
    refine W_seq ?_
    refine W_region ?_
    refine ops_v (v_move (v := (.int _ _)) rfl rfl) ?_
    refine ops_call rfl c88 (isLink_ok H l true (decide_eq_true h)) ?_
    clear H; rintro _ w ⟨rfl, H⟩
    refine ops_v (v_move (v := (.bool _)) rfl rfl) ?_
    refine ops_v (v_move (v := (.int _ _)) rfl rfl) ?_
    refine ops_v (v_move (v := (.int _ _)) rfl rfl) ?_
    refine ops_v (v_shr _ rfl rfl rfl (by omega) rfl) ?_
    refine ops_v (v_and1 _ rfl rfl rfl rfl) ?_
    refine ops_v (v_eql _ rfl rfl rfl rfl) ?_
    refine ops_v (v_pick_t (v := (.bool _)) rfl rfl rfl) ?_
    refine ops_v (v_assign (v := (.bool _)) rfl rfl) ?_
    refine ops_nil ?_
    refine W_ret ?_
    refine ⟨_, (.tmp (v := (.bool _)) rfl .nil), ?_⟩
    exact ⟨by rw [← hb, ← e]; rfl, H⟩
    -- (bits.Has: ret; chunks ; ptr )
  · have hf : b = false := by
      rw [← hb]; unfold has
      by_cases h0 : 0 ≤ l
      · have h1 : ¬ l < 16 := fun h1 => h ⟨h0, h1⟩
        simp [h1]
      · simp [h0]
    subst hf
    refine FnC_of Try.func67 rfl rfl rfl rfl ?_
    refine W_seq ?_
    refine W_region ?_
    refine ops_v (v_assign (v := _) rfl rfl) ?_
    refine ops_nil ?_
    refine W_seq ?_
    refine W_region ?_
    refine ops_v (v_move (v := (.int _ _)) rfl rfl) ?_
    refine ops_call rfl c88 (isLink_ok H l false (decide_eq_false h)) ?_
    clear H; rintro _ w ⟨rfl, H⟩
    refine ops_v (v_move (v := (.bool _)) rfl rfl) ?_
    refine ops_skip rfl rfl ?_
    refine ops_skip rfl rfl ?_
    refine ops_skip rfl rfl ?_
    refine ops_skip rfl rfl ?_
    refine ops_skip rfl rfl ?_
    refine ops_v (v_pick_f (v := (.bool _)) rfl rfl rfl) ?_
    refine ops_v (v_assign (v := (.bool _)) rfl rfl) ?_
    refine ops_nil ?_
    refine W_ret ?_
    refine ⟨_, (.tmp (v := (.bool _)) rfl .nil), ?_⟩
    exact ⟨rfl, H⟩
    -- (bits.Has: ret; chunks ; ptr )

/-! ### package node -/
theorem New_ok {wb w : World} {R : List Chunk} (H : Own wb R w) (links most : Int) (h1 : 0 ≤ links) (h2 : links ≤ 16) (h3 : 1 ≤ most) (h4 : most ≤ 1073741824) :
    FnC Try.prog 26 [int links, int most] w (fun v w' => ∃ p, v = ptr p ∧ Own wb (StoreC p ⟨links.toNat, most.toNat, []⟩ :: R) w') := by
  refine FnC_of Try.func26 rfl rfl rfl rfl ?_
  refine W_seq ?_
  refine W_region ?_
  refine ops_v (v_assign (v := _) rfl rfl) ?_
  refine ops_nil ?_
  refine W_seq ?_
  refine W_seq ?_
  refine W_region ?_
  refine ops_v (v_move (v := (.int _ _)) rfl rfl) ?_
  refine ops_v (v_lss false rfl rfl rfl (decide_eq_false (by first | omega | (simp only; omega) | rfl | decide))) ?_
  refine ops_v (v_move (v := (.bool _)) rfl rfl) ?_
  refine ops_v (v_move (v := (.int _ _)) rfl rfl) ?_
  refine ops_v (v_gtr false rfl rfl rfl (decide_eq_false (by first | omega | (simp only; omega) | rfl | decide))) ?_
  refine ops_v (v_pick_f (v := (.bool _)) rfl rfl rfl) ?_
  refine ops_v (v_move (v := (.bool _)) rfl rfl) ?_
  refine ops_v (v_move (v := (.int _ _)) rfl rfl) ?_
  refine ops_v (v_lss false rfl rfl rfl (decide_eq_false (by first | omega | (simp only; omega) | rfl | decide))) ?_
  refine ops_v (v_pick_f (v := (.bool _)) rfl rfl rfl) ?_
  refine ops_v (v_move (v := (.bool _)) rfl rfl) ?_
  refine ops_v (v_move (v := (.int _ _)) rfl rfl) ?_
  refine ops_v (v_gtr false rfl rfl rfl (decide_eq_false (by first | omega | (simp only; omega) | rfl | decide))) ?_
  refine ops_v (v_pick_f (v := (.bool _)) rfl rfl rfl) ?_
  refine ops_nil ?_
  refine W_if_f rfl ?_
  refine W_skip ?_
  refine W_seq ?_
  refine W_region ?_
  refine ops_v (v_move (v := (.int _ _)) rfl rfl) ?_
  refine ops_v (v_move (v := (.int _ _)) rfl rfl) ?_
  refine ops_makeMap H encB rfl ?_
  clear H; intro m w H
  refine ops_v (v_build (cs := [(.int _ _), (.int _ _), (.slice _ _ _), (.map _)]) rfl bp74 rfl) ?_
  refine ops_box (v := (.agg _)) (cs := [_, _, _, _]) H rfl rfl rfl ?_
  clear H; intro p w H
  refine ops_v (v_assign (v := (.pointer _)) rfl rfl) ?_
  refine ops_nil ?_
  refine W_ret ?_
  refine ⟨_, (.tmp (v := (.pointer _)) rfl .nil), ?_⟩
  -- (node.New: ret; chunks ; ptr )
  have H := sl_nil 42 5 H
  have H := H.perm ((List.Perm.swap _ _ _))
  have e1 : ((links.toNat : Nat) : Int) = links := by omega
  have e2 : ((most.toNat : Nat) : Int) = most := by omega
  refine ⟨p, rfl, ?_⟩
  have := Own.shutS (p := p) (st := ⟨links.toNat, most.toNat, []⟩) (a := none) (cap := 0) (m := m) (R := R) (wb := wb) (w := w)
  simp only [e1, e2] at this
  exact this H
theorem New_nil {wb w : World} {R : List Chunk} (H : Own wb R w) (links most : Int) (h : links < 0 ∨ 16 < links ∨ most < 1 ∨ 1073741824 < most) :
    FnC Try.prog 26 [int links, int most] w (fun v w' => v = .pointer none ∧ Own wb R w') := by
  by_cases c1 : links < 0
  · refine FnC_of Try.func26 rfl rfl rfl rfl ?_
    refine W_seq ?_
    refine W_region ?_
    refine ops_v (v_assign (v := _) rfl rfl) ?_
    refine ops_nil ?_
    refine W_seq ?_
    refine W_seq ?_
    refine W_region ?_
    refine ops_v (v_move (v := (.int _ _)) rfl rfl) ?_
    refine ops_v (v_lss true rfl rfl rfl (decide_eq_true (by first | omega | (simp only; omega) | rfl | decide))) ?_
    refine ops_v (v_move (v := (.bool _)) rfl rfl) ?_
    refine ops_skip rfl rfl ?_
    refine ops_skip rfl rfl ?_
    refine ops_v (v_pick_t (v := (.bool _)) rfl rfl rfl) ?_
    refine ops_v (v_move (v := (.bool _)) rfl rfl) ?_
    refine ops_skip rfl rfl ?_
    refine ops_skip rfl rfl ?_
    refine ops_v (v_pick_t (v := (.bool _)) rfl rfl rfl) ?_
    refine ops_v (v_move (v := (.bool _)) rfl rfl) ?_
    refine ops_skip rfl rfl ?_
    refine ops_skip rfl rfl ?_
    refine ops_v (v_pick_t (v := (.bool _)) rfl rfl rfl) ?_
    refine ops_nil ?_
    refine W_if_t rfl ?_
    refine W_seq ?_
    refine W_region ?_
    refine ops_v (v_assign (v := _) rfl rfl) ?_
    refine ops_nil ?_
    refine W_ret ?_
    refine ⟨_, (.tmp (v := (.pointer _)) rfl .nil), ?_⟩
    exact ⟨rfl, H⟩
    -- (node.New: ret; chunks ; ptr )
  by_cases c2 : 16 < links
  · refine FnC_of Try.func26 rfl rfl rfl rfl ?_
    refine W_seq ?_
    refine W_region ?_
    refine ops_v (v_assign (v := _) rfl rfl) ?_
    refine ops_nil ?_
    refine W_seq ?_
    refine W_seq ?_
    refine W_region ?_
    refine ops_v (v_move (v := (.int _ _)) rfl rfl) ?_
    refine ops_v (v_lss false rfl rfl rfl (decide_eq_false (by first | omega | (simp only; omega) | rfl | decide))) ?_
    refine ops_v (v_move (v := (.bool _)) rfl rfl) ?_
    refine ops_v (v_move (v := (.int _ _)) rfl rfl) ?_
    refine ops_v (v_gtr true rfl rfl rfl (decide_eq_true (by first | omega | (simp only; omega) | rfl | decide))) ?_
    refine ops_v (v_pick_f (v := (.bool _)) rfl rfl rfl) ?_
    refine ops_v (v_move (v := (.bool _)) rfl rfl) ?_
    refine ops_skip rfl rfl ?_
    refine ops_skip rfl rfl ?_
    refine ops_v (v_pick_t (v := (.bool _)) rfl rfl rfl) ?_
    refine ops_v (v_move (v := (.bool _)) rfl rfl) ?_
    refine ops_skip rfl rfl ?_
    refine ops_skip rfl rfl ?_
    refine ops_v (v_pick_t (v := (.bool _)) rfl rfl rfl) ?_
    refine ops_nil ?_
    refine W_if_t rfl ?_
    refine W_seq ?_
    refine W_region ?_
    refine ops_v (v_assign (v := _) rfl rfl) ?_
    refine ops_nil ?_
    refine W_ret ?_
    refine ⟨_, (.tmp (v := (.pointer _)) rfl .nil), ?_⟩
    exact ⟨rfl, H⟩
    -- (node.New: ret; chunks ; ptr )
  by_cases c3 : most < 1
  · refine FnC_of Try.func26 rfl rfl rfl rfl ?_
    refine W_seq ?_
    refine W_region ?_
    refine ops_v (v_assign (v := _) rfl rfl) ?_
    refine ops_nil ?_
    refine W_seq ?_
    refine W_seq ?_
    refine W_region ?_
    refine ops_v (v_move (v := (.int _ _)) rfl rfl) ?_
    refine ops_v (v_lss false rfl rfl rfl (decide_eq_false (by first | omega | (simp only; omega) | rfl | decide))) ?_
    refine ops_v (v_move (v := (.bool _)) rfl rfl) ?_
    refine ops_v (v_move (v := (.int _ _)) rfl rfl) ?_
    refine ops_v (v_gtr false rfl rfl rfl (decide_eq_false (by first | omega | (simp only; omega) | rfl | decide))) ?_
    refine ops_v (v_pick_f (v := (.bool _)) rfl rfl rfl) ?_
    refine ops_v (v_move (v := (.bool _)) rfl rfl) ?_
    refine ops_v (v_move (v := (.int _ _)) rfl rfl) ?_
    refine ops_v (v_lss true rfl rfl rfl (decide_eq_true (by first | omega | (simp only; omega) | rfl | decide))) ?_
    refine ops_v (v_pick_f (v := (.bool _)) rfl rfl rfl) ?_
    refine ops_v (v_move (v := (.bool _)) rfl rfl) ?_
    refine ops_skip rfl rfl ?_
    refine ops_skip rfl rfl ?_
    refine ops_v (v_pick_t (v := (.bool _)) rfl rfl rfl) ?_
    refine ops_nil ?_
    refine W_if_t rfl ?_
    refine W_seq ?_
    refine W_region ?_
    refine ops_v (v_assign (v := _) rfl rfl) ?_
    refine ops_nil ?_
    refine W_ret ?_
    refine ⟨_, (.tmp (v := (.pointer _)) rfl .nil), ?_⟩
    exact ⟨rfl, H⟩
    -- (node.New: ret; chunks ; ptr )
  refine FnC_of Try.func26 rfl rfl rfl rfl ?_
  refine W_seq ?_
  refine W_region ?_
  refine ops_v (v_assign (v := _) rfl rfl) ?_
  refine ops_nil ?_
  refine W_seq ?_
  refine W_seq ?_
  refine W_region ?_
  refine ops_v (v_move (v := (.int _ _)) rfl rfl) ?_
  refine ops_v (v_lss false rfl rfl rfl (decide_eq_false (by first | omega | (simp only; omega) | rfl | decide))) ?_
  refine ops_v (v_move (v := (.bool _)) rfl rfl) ?_
  refine ops_v (v_move (v := (.int _ _)) rfl rfl) ?_
  refine ops_v (v_gtr false rfl rfl rfl (decide_eq_false (by first | omega | (simp only; omega) | rfl | decide))) ?_
  refine ops_v (v_pick_f (v := (.bool _)) rfl rfl rfl) ?_
  refine ops_v (v_move (v := (.bool _)) rfl rfl) ?_
  refine ops_v (v_move (v := (.int _ _)) rfl rfl) ?_
  refine ops_v (v_lss false rfl rfl rfl (decide_eq_false (by first | omega | (simp only; omega) | rfl | decide))) ?_
  refine ops_v (v_pick_f (v := (.bool _)) rfl rfl rfl) ?_
  refine ops_v (v_move (v := (.bool _)) rfl rfl) ?_
  refine ops_v (v_move (v := (.int _ _)) rfl rfl) ?_
  refine ops_v (v_gtr true rfl rfl rfl (decide_eq_true (by first | omega | (simp only; omega) | rfl | decide))) ?_
  refine ops_v (v_pick_f (v := (.bool _)) rfl rfl rfl) ?_
  refine ops_nil ?_
  refine W_if_t rfl ?_
  refine W_seq ?_
  refine W_region ?_
  refine ops_v (v_assign (v := _) rfl rfl) ?_
  refine ops_nil ?_
  refine W_ret ?_
  refine ⟨_, (.tmp (v := (.pointer _)) rfl .nil), ?_⟩
  exact ⟨rfl, H⟩
  -- (node.New: ret; chunks ; ptr )

def nodeV (b : Br) (is : Bool) : Value := .tuple [encB b, .bool is].toArray
theorem Node_ok {wb w : World} {p : Nat} {st : St} {R : List Chunk} {id : Int} {b : Br} (hg : get st id = some b) (H : Own wb (StoreC p st :: R) w) :
    FnC Try.prog 31 [ptr p, int id] w (fun v w' => v = nodeV b true ∧ Own wb (StoreC p st :: R) w') := by
  obtain ⟨h0, h1, hn⟩ := M.get_some hg
  have hv : ((flatB st.nodes).drop (0 + id.toNat * 5)).take 5 = cellsB b := by rw [Nat.zero_add]; exact flatB_get _ _ _ hn
  refine FnC_of Try.func31 rfl rfl rfl rfl ?_
  refine W_seq ?_
  refine W_region ?_
  refine ops_alloc H rfl tz42 ?_
  clear H; intro bn0 w H
  refine ops_v (v_assign (v := _) rfl rfl) ?_
  refine ops_nil ?_
  refine W_seq ?_
  refine W_seq ?_
  refine W_region ?_
  refine ops_v (v_move (v := (.int _ _)) rfl rfl) ?_
  refine ops_v (v_lss false rfl rfl rfl (decide_eq_false (by first | omega | (simp only; omega) | rfl | decide))) ?_
  refine ops_v (v_move (v := (.bool _)) rfl rfl) ?_
  refine ops_v (v_move (v := (.int _ _)) rfl rfl) ?_
  refine ops_v (v_move (v := (.pointer _)) rfl rfl) ?_
  refine ops_call rfl c30 (FnC.ro 1 rfl H (fun _ => Size_ok)) ?_
  clear H; rintro _ w ⟨rfl, H⟩
  refine ops_v (v_geq false rfl rfl rfl (decide_eq_false (by first | omega | (simp only; omega) | rfl | decide))) ?_
  refine ops_v (v_pick_f (v := (.bool _)) rfl rfl rfl) ?_
  refine ops_nil ?_
  refine W_if_f rfl ?_
  refine W_skip ?_
  refine W_seq ?_
  obtain ⟨a, cap, m, H⟩ := (H.front 1 rfl).openS
  obtain ⟨g, rfl⟩ := H.slSome 1 rfl (by omega)
  refine W_region ?_
  refine ops_v (v_move (v := (.pointer _)) rfl rfl) ?_
  refine ops_v (v_nilCheck rfl rfl) ?_
  refine ops_v (v_fieldAddr rfl fo74_2 rfl rfl) ?_
  refine ops_load (v := (.slice _ _ _)) 0 H rfl tc29 rfl rfl rfl ?_
  refine ops_v (v_move (v := (.int _ _)) rfl rfl) ?_
  refine ops_v (v_indexAddr_sl rfl se29 rfl rfl (by omega) (by omega)) ?_
  refine ops_loadSlA (vs := [_, _, _, _, _]) 1 H rfl ta42 rfl rfl hv rfl ?_
  refine ops_store (vs := [_, _, _, _, _]) (v := (.agg _)) (cs' := [_, _, _, _, _]) 3 H rfl ts42 rfl rfl rfl rfl rfl rfl rfl rfl ?_
  clear H; intro w H
  refine ops_v (v_assign (v := _) rfl rfl) ?_
  refine ops_nil ?_
  refine W_ret ?_
  refine ⟨_, (.cell rfl (run_loadA (vs := [_, _, _, _, _]) ta42 (H.blk 3 rfl) rfl rfl) (.tmp (v := (.bool _)) rfl .nil)), ?_⟩
  exact ⟨rfl, H.shutS.drop 1⟩
  -- ((*node.Store).Node: ret; chunks p,s,m,n0; ptr 4=n0,0=p,15=p,16=p,17=p)
theorem Node_bad {wb w : World} {p : Nat} {st : St} {R : List Chunk} {id : Int} (hg : get st id = none) (H : Own wb (StoreC p st :: R) w) :
    FnC Try.prog 31 [ptr p, int id] w (fun v w' => v = nodeV Br.zero false ∧ Own wb (StoreC p st :: R) w') := by
  by_cases h0 : id < 0
  · refine FnC_of Try.func31 rfl rfl rfl rfl ?_
    refine W_seq ?_
    refine W_region ?_
    refine ops_alloc H rfl tz42 ?_
    clear H; intro bn0 w H
    refine ops_v (v_assign (v := _) rfl rfl) ?_
    refine ops_nil ?_
    refine W_seq ?_
    refine W_seq ?_
    refine W_region ?_
    refine ops_v (v_move (v := (.int _ _)) rfl rfl) ?_
    refine ops_v (v_lss true rfl rfl rfl (decide_eq_true (by first | omega | (simp only; omega) | rfl | decide))) ?_
    refine ops_v (v_move (v := (.bool _)) rfl rfl) ?_
    refine ops_skip rfl rfl ?_
    refine ops_skip rfl rfl ?_
    refine ops_skip rfl rfl ?_
    refine ops_skip rfl rfl ?_
    refine ops_v (v_pick_t (v := (.bool _)) rfl rfl rfl) ?_
    refine ops_nil ?_
    refine W_if_t rfl ?_
    refine W_seq ?_
    refine W_region ?_
    refine ops_v (v_build (cs := [(.bool _), (.int _ _), (.int _ _), (.int _ _), (.int _ _)]) rfl bp42 rfl) ?_
    refine ops_store (vs := [_, _, _, _, _]) (v := (.agg _)) (cs' := [_, _, _, _, _]) 0 H rfl ts42 rfl rfl rfl rfl rfl rfl rfl rfl ?_
    clear H; intro w H
    refine ops_v (v_assign (v := _) rfl rfl) ?_
    refine ops_nil ?_
    refine W_ret ?_
    refine ⟨_, (.cell rfl (run_loadA (vs := [_, _, _, _, _]) ta42 (H.blk 0 rfl) rfl rfl) (.tmp (v := (.bool _)) rfl .nil)), ?_⟩
    exact ⟨rfl, H.tail⟩
    -- ((*node.Store).Node: ret; chunks n0,S; ptr 4=n0)
  · have h1 : (st.nodes.length : Int) ≤ id := by
      by_cases h1 : id < st.nodes.length
      · obtain ⟨b, hb, _⟩ := M.get_in (by omega) h1
        rw [hb] at hg; cases hg
      · omega
    refine FnC_of Try.func31 rfl rfl rfl rfl ?_
    refine W_seq ?_
    refine W_region ?_
    refine ops_alloc H rfl tz42 ?_
    clear H; intro bn0 w H
    refine ops_v (v_assign (v := _) rfl rfl) ?_
    refine ops_nil ?_
    refine W_seq ?_
    refine W_seq ?_
    refine W_region ?_
    refine ops_v (v_move (v := (.int _ _)) rfl rfl) ?_
    refine ops_v (v_lss false rfl rfl rfl (decide_eq_false (by first | omega | (simp only; omega) | rfl | decide))) ?_
    refine ops_v (v_move (v := (.bool _)) rfl rfl) ?_
    refine ops_v (v_move (v := (.int _ _)) rfl rfl) ?_
    refine ops_v (v_move (v := (.pointer _)) rfl rfl) ?_
    refine ops_call rfl c30 (FnC.ro 1 rfl H (fun _ => Size_ok)) ?_
    clear H; rintro _ w ⟨rfl, H⟩
    refine ops_v (v_geq true rfl rfl rfl (decide_eq_true (by first | omega | (simp only; omega) | rfl | decide))) ?_
    refine ops_v (v_pick_f (v := (.bool _)) rfl rfl rfl) ?_
    refine ops_nil ?_
    refine W_if_t rfl ?_
    refine W_seq ?_
    refine W_region ?_
    refine ops_v (v_build (cs := [(.bool _), (.int _ _), (.int _ _), (.int _ _), (.int _ _)]) rfl bp42 rfl) ?_
    refine ops_store (vs := [_, _, _, _, _]) (v := (.agg _)) (cs' := [_, _, _, _, _]) 0 H rfl ts42 rfl rfl rfl rfl rfl rfl rfl rfl ?_
    clear H; intro w H
    refine ops_v (v_assign (v := _) rfl rfl) ?_
    refine ops_nil ?_
    refine W_ret ?_
    refine ⟨_, (.cell rfl (run_loadA (vs := [_, _, _, _, _]) ta42 (H.blk 0 rfl) rfl rfl) (.tmp (v := (.bool _)) rfl .nil)), ?_⟩
    exact ⟨rfl, H.tail⟩
    -- ((*node.Store).Node: ret; chunks n0,S; ptr 4=n0)
end Go.Proofs.Ytchikjmhncojfaa.W
