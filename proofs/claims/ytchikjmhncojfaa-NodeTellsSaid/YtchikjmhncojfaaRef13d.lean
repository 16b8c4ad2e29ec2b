/- The document's own store (backstayref13): reach and Count. Conditions: none. -/
import Derived.Test.YtchikjmhncojfaaRef13c
import Derived.Test.YtchikjmhncojfaaReachM
import Derived.Laws.MakeOwn
set_option linter.unusedVariables false
namespace Go.Proofs.Ytchikjmhncojfaa.W
open Go Go.Proofs Go.RowKit
open Go.Proofs.Ytchikjmhncojfaa.M (Br St getZ isN idx has down Wf rank i64 leafB askB)
def bools (l : List Bool) : List Value := l.map fun b => .bool b
section
variable {n : Nat} {ops : List Oper} {K : Env → World → Prop} {rest : List Oper} {e : Env} {w wb : World} {L : List Chunk}
variable {d : Nat} {ty : TypeId} {g : Option (Nat × Bool)} {x y : Operand} {ps : String} {af : Array Edge}
theorem madeBools (k : Nat) : madeCells (Value.cells (.bool false)) (k * 1) = (bools (List.replicate k false)).toArray := by
  apply Array.ext
  · simp [madeCells, bools]
  · intro i h1 h2
    simp [madeCells, bools, Value.cells, Nat.mod_one]
theorem ops_makeBools {k : Nat} (H : Own wb L w) (hk : k ≤ 1073741824) (hp : pre n d ops e g = true) (hx : ev e x = .int .i64 k) (hy : ev e y = .int .i64 k)
    (h : ∀ b w', Own wb (Blk b (bools (List.replicate k false)) 4 :: L) w' → opsW Try.prog n ops K rest (upd e d (.slice (some ⟨b, 0, none⟩) k k)) w') :
    opsW Try.prog n ops K (⟨some d, .makeSlice 80 x y, ty, ps, af, g⟩ :: rest) e w := by
  have z1 : (Try.prog.info? 4).map (fun i => i.zero) = some (some (.bool false)) := by kernel_rfl
  have z2 : (Try.prog.info? 4).map (fun i => i.size) = some 1 := by kernel_rfl
  have z3 : (Try.prog.info? 4).map (fun i => i.bytes) = some 1 := by kernel_rfl
  obtain ⟨i, hi⟩ : ∃ i, Try.prog.info? 4 = some i := by
    cases h : Try.prog.info? 4 with
    | none => rw [h] at z2; cases z2
    | some i => exact ⟨i, rfl⟩
  rw [hi] at z1 z2 z3
  have hz : i.zero = some (.bool false) := Option.some.inj z1
  have hs : i.size = 1 := Option.some.inj z2
  have hb : i.bytes = 1 := Option.some.inj z3
  have hr := run_make (P := Try.prog) w 80 4 i (.bool false) Try.underlying80 hi hz .i64 .i64 k k (by omega) (Int.le_refl _) (by rw [hb]; omega) (by omega)
  rw [hs, Int.toNat_natCast, madeBools] at hr
  refine ops_run (w' := w.alloc (.cells (bools (List.replicate k false)).toArray 4)) (v := .slice (some ⟨w.heap.size, 0, none⟩) k k) hp (fun a ha => ?_) (h _ _ (H.newBlk _ _))
  simp [execOp, ha.eval, hx, hy, hr]
end
theorem bools_get {l : List Bool} {i : Nat} {b : Bool} (h : l[i]? = some b) : (bools l)[0 + ((i : Int)).toNat * 1]? = some (.bool b) := by
  rw [Nat.zero_add, Nat.mul_one, Int.toNat_natCast]; simp [bools, h]
theorem bools_set {l : List Bool} {i : Nat} (hi : i < l.length) : (bools l).take (0 + ((i : Int)).toNat * 1) ++ [.bool true] ++ (bools l).drop (0 + ((i : Int)).toNat * 1 + 1) = bools (l.set i true) := by
  rw [Nat.zero_add, Nat.mul_one, Int.toNat_natCast]
  unfold bools
  rw [List.map_set, List.set_eq_take_append_cons_drop, if_pos (by simpa using hi)]
  simp
def RefB (p gs cap : Nat) (st : St) (cs : List Value) (R : List Chunk) : List Chunk := Blk p [.int .i64 st.links, .int .i64 st.most, .slice (some ⟨gs, 0, none⟩) st.nodes.length cap] 31 :: Blk gs cs 42 :: R
theorem reach_le {st : St} {id : Int} {l l' : List Bool} {c : Nat} (h : M.Reach st id l l' c) : c ≤ l.length := by
  have h1 := h.cnt
  have h2 := List.count_le_length (a := true) (l := l')
  have h3 := h.len
  omega
set_option maxHeartbeats 1000000 in
theorem reach_ok {wb : World} {p gs cap : Nat} {st : St} {R : List Chunk} {g : Nat} {cs : List Value} (hw : Wf st) (hcs : cs.take (st.nodes.length * 5) = flatB st.nodes) : ∀ (m : Nat) (i : Nat) (l : List Bool) (w : World), rank st (i : Int) < m → isN st (i : Int) = true → l.length = st.nodes.length →
    Own wb (Blk g (bools l) 4 :: RefB p gs cap st cs R) w →
    FnC Try.prog 69 [ptr p, .int .i64 i, .slice (some ⟨g, 0, none⟩) st.nodes.length st.nodes.length] w
      (fun v w' => ∃ (l' : List Bool) (c : Nat), v = .int .i64 c ∧ M.Reach st i l l' c ∧ Own wb (Blk g (bools l') 4 :: RefB p gs cap st cs R) w')
  | 0, _, _, _, h, _, _, _ => by omega
  | m + 1, i, l, w, hm, hi, hl, H => by
    obtain ⟨b, hb⟩ := Option.isSome_iff_exists.1 hi
    obtain ⟨_, hlt, hn⟩ := M.get_some hb
    rw [Int.toNat_natCast] at hlt hn
    unfold RefB at H
    have hil : i < l.length := by omega
    obtain ⟨x, hx⟩ : ∃ x, l[i]? = some x := ⟨l[i], by simp [hil]⟩
    have hx' := bools_get hx
    cases x with
    | true =>
      refine FnC_of Try.func69 rfl rfl rfl rfl ?_
      refine W_seq ?_
      refine W_region ?_
      refine ops_v (v_assign (v := _) rfl rfl) ?_
      refine ops_nil ?_
      refine W_seq ?_
      refine W_seq ?_
      refine W_region ?_
      refine ops_v (v_move (v := (.slice _ _ _)) rfl rfl) ?_
      refine ops_v (v_move (v := (.int _ _)) rfl rfl) ?_
      refine ops_v (v_indexAddr_sl rfl se80 rfl rfl (by omega) (by omega)) ?_
      refine ops_load (v := .bool true) 0 H rfl tc4 rfl rfl hx' ?_
      refine ops_nil ?_
      refine W_if_t rfl ?_
      refine W_seq ?_
      refine W_region ?_
      refine ops_v (v_assign (v := _) rfl rfl) ?_
      refine ops_nil ?_
      refine W_ret ?_
      refine ⟨_, (.tmp (v := (.int _ _)) rfl .nil), ?_⟩
      exact ⟨l, 0, rfl, M.Reach.seen (by rw [Int.toNat_natCast]; exact hx), H⟩
      -- ((*backstayref13.Store).reach: ret; chunks q,p,s; ptr 0=p)
    | false =>
      have hx0 : l[((i : Int)).toNat]? = some false := by rw [Int.toNat_natCast]; exact hx
      have hble : Nat.ble (0 + ((i : Int)).toNat * 1 + 1) (bools l).length = true := Nat.ble_eq_true_of_le (by rw [Int.toNat_natCast]; simp [bools]; omega)
      have hv := flatB_at hn
      have cell : ∀ (j : Nat) (u : Value), (cellsB b)[j]? = some u → cs[0 + ((i : Int)).toNat * 5 + j]? = some u := fun j u hu => by
        refine take_get hcs ?_
        rw [← hv, List.getElem?_take] at hu
        split at hu
        · rw [List.getElem?_drop] at hu; exact hu
        · cases hu
      rcases b with ⟨_ | _, bv, bl, bs, bf⟩
      · have ha := hw.ask hb rfl
        simp only at ha
        obtain ⟨_, _, _, _, u1, u2, _, _⟩ := ha
        have r1 := hw.rank_stands hb rfl
        have r2 := hw.rank_fails hb rfl
        simp only at r1 r2
        have i1 := M.under_isN u1
        have i2 := M.under_isN u2
        obtain ⟨j, rfl⟩ : ∃ j : Nat, bs = j := ⟨bs.toNat, by have := (M.isN_iff.1 i1).1; omega⟩
        obtain ⟨k, rfl⟩ : ∃ k : Nat, bf = k := ⟨bf.toNat, by have := (M.isN_iff.1 i2).1; omega⟩
        have hroom := hw.room
        have hmost := hw.most
        refine FnC_of Try.func69 rfl rfl rfl rfl ?_
        refine W_seq ?_
        refine W_region ?_
        refine ops_v (v_assign (v := _) rfl rfl) ?_
        refine ops_nil ?_
        refine W_seq ?_
        refine W_seq ?_
        refine W_region ?_
        refine ops_v (v_move (v := (.slice _ _ _)) rfl rfl) ?_
        refine ops_v (v_move (v := (.int _ _)) rfl rfl) ?_
        refine ops_v (v_indexAddr_sl rfl se80 rfl rfl (by omega) (by omega)) ?_
        refine ops_load (v := .bool false) 0 H rfl tc4 rfl rfl hx' ?_
        refine ops_nil ?_
        refine W_if_f rfl ?_
        refine W_skip ?_
        refine W_seq ?_
        refine W_region ?_
        refine ops_v (v_move (v := (.slice _ _ _)) rfl rfl) ?_
        refine ops_v (v_move (v := (.int _ _)) rfl rfl) ?_
        refine ops_v (v_indexAddr_sl rfl se80 rfl rfl (by omega) (by omega)) ?_
        refine ops_store (vs := [.bool true]) (v := .bool true) (cs' := bools (l.set i true)) 0 H rfl ts4 rfl rfl rfl rfl rfl rfl hble (bools_set hil) ?_
        clear H; intro w H
        refine ops_nil ?_
        refine W_seq ?_
        refine W_seq ?_
        refine W_region ?_
        refine ops_v (v_move (v := (.pointer _)) rfl rfl) ?_
        refine ops_v (v_nilCheck rfl rfl) ?_
        refine ops_v (v_fieldAddr rfl fo31_2 rfl rfl) ?_
        refine ops_load (v := (.slice _ _ _)) 1 H rfl tc29 rfl rfl rfl ?_
        refine ops_v (v_move (v := (.int _ _)) rfl rfl) ?_
        refine ops_v (v_indexAddr_sl rfl se29 rfl rfl (by omega) (by omega)) ?_
        refine ops_v (v_fieldAddr rfl fo42_0 rfl rfl) ?_
        refine ops_load (v := .bool false) 2 H rfl tc4 rfl rfl (cell 0 _ rfl) ?_
        refine ops_nil ?_
        refine W_if_f rfl ?_
        refine W_skip ?_
        refine W_seq ?_
        refine W_draw (is := [1, 2]) mixed H ?_
        clear H; intro w H
        refine any_take 0 rfl (by kernel_rfl) (by kernel_rfl) (by kernel_rfl) (v_move (v := (.pointer _)) rfl rfl) ?_
        refine any_take 1 rfl (by kernel_rfl) (by kernel_rfl) (by kernel_rfl) (v_move (v := (.pointer _)) rfl rfl) ?_
        refine any_take 2 rfl (by kernel_rfl) (by kernel_rfl) (by kernel_rfl) (v_nilCheck rfl rfl) ?_
        refine any_take 3 rfl (by kernel_rfl) (by kernel_rfl) (by kernel_rfl) (v_fieldAddr rfl fo31_2 rfl rfl) ?_
        refine any_take 4 rfl (by kernel_rfl) (by kernel_rfl) (by kernel_rfl) (v_load (v := (.slice _ _ _)) rfl tc29 (fun _ hS => hS.1 _ _ _ rfl) rfl rfl) ?_
        refine any_take 5 rfl (by kernel_rfl) (by kernel_rfl) (by kernel_rfl) (v_move (v := (.int _ _)) rfl rfl) ?_
        refine any_take 6 rfl (by kernel_rfl) (by kernel_rfl) (by kernel_rfl) (v_indexAddr_sl rfl se29 rfl rfl (by omega) (by omega)) ?_
        refine any_take 7 rfl (by kernel_rfl) (by kernel_rfl) (by kernel_rfl) (v_fieldAddr rfl fo42_3 rfl rfl) ?_
        refine any_take 8 rfl (by kernel_rfl) (by kernel_rfl) (by kernel_rfl) (v_load (v := .int .i64 j) rfl tc3 (fun _ hS => hS.2.1 _ _ _ rfl) rfl (cell 3 _ rfl)) ?_
        refine any_take 9 rfl (by kernel_rfl) (by kernel_rfl) (by kernel_rfl) (v_move (v := (.slice _ _ _)) rfl rfl) ?_
        refine any_take 12 rfl (by kernel_rfl) (by kernel_rfl) (by kernel_rfl) (v_move (v := (.pointer _)) rfl rfl) ?_
        refine any_take 13 rfl (by kernel_rfl) (by kernel_rfl) (by kernel_rfl) (v_move (v := (.pointer _)) rfl rfl) ?_
        refine any_take 14 rfl (by kernel_rfl) (by kernel_rfl) (by kernel_rfl) (v_nilCheck rfl rfl) ?_
        refine any_take 15 rfl (by kernel_rfl) (by kernel_rfl) (by kernel_rfl) (v_fieldAddr rfl fo31_2 rfl rfl) ?_
        refine any_take 16 rfl (by kernel_rfl) (by kernel_rfl) (by kernel_rfl) (v_load (v := (.slice _ _ _)) rfl tc29 (fun _ hS => hS.1 _ _ _ rfl) rfl rfl) ?_
        refine any_take 17 rfl (by kernel_rfl) (by kernel_rfl) (by kernel_rfl) (v_move (v := (.int _ _)) rfl rfl) ?_
        refine any_take 18 rfl (by kernel_rfl) (by kernel_rfl) (by kernel_rfl) (v_indexAddr_sl rfl se29 rfl rfl (by omega) (by omega)) ?_
        refine any_take 19 rfl (by kernel_rfl) (by kernel_rfl) (by kernel_rfl) (v_fieldAddr rfl fo42_4 rfl rfl) ?_
        refine any_take 20 rfl (by kernel_rfl) (by kernel_rfl) (by kernel_rfl) (v_load (v := .int .i64 k) rfl tc3 (fun _ hS => hS.2.1 _ _ _ rfl) rfl (cell 4 _ rfl)) ?_
        refine any_take 21 rfl (by kernel_rfl) (by kernel_rfl) (by kernel_rfl) (v_move (v := (.slice _ _ _)) rfl rfl) ?_
        refine any_one 10 rfl (by kernel_rfl) ?_
        refine ops_call rfl c69 (reach_ok hw hcs m j (l.set i true) _ (by omega) i1 (by simpa using hl) H) ?_
        clear H; rintro _ w ⟨l2, c2, rfl, R2, H⟩
        have b2 := reach_le R2
        have n2 := R2.len
        simp at b2 n2
        refine ops_nil ⟨H.stab [(1, 1), (2, 2)] ⟨rfl, rfl, trivial⟩, ?_⟩
        refine any_take 11 rfl (by kernel_rfl) (by kernel_rfl) (by kernel_rfl) (v_add _ rfl rfl rfl (wrap_in (by omega) (by omega))) ?_
        refine any_one 22 rfl (by kernel_rfl) ?_
        refine ops_call rfl c69 (reach_ok hw hcs m k l2 _ (by omega) i2 (by omega) H) ?_
        clear H; rintro _ w ⟨l3, c3, rfl, R3, H⟩
        have b3 := reach_le R3
        refine ops_nil ⟨H.stab [(1, 1), (2, 2)] ⟨rfl, rfl, trivial⟩, ?_⟩
        refine any_take 23 rfl (by kernel_rfl) (by kernel_rfl) (by kernel_rfl) (v_add _ rfl rfl rfl (wrap_in (by omega) (by omega))) ?_
        refine any_take 24 rfl (by kernel_rfl) (by kernel_rfl) (by kernel_rfl) (v_assign (v := (.int _ _)) rfl rfl) ?_
        refine any_done (by kernel_rfl) ?_
        refine W_ret ?_
        refine ⟨_, (.tmp (v := (.int _ _)) rfl .nil), ?_⟩
        exact ⟨l3, 1 + c2 + c3, congrArg (Value.int IntKind.i64) (by omega), M.Reach.ask hw hb rfl hx0 (by rw [Int.toNat_natCast]; exact R2) R3, H⟩
        -- ((*backstayref13.Store).reach: ret; chunks q,p,s; ptr 0=p,14=p,15=p,16=p,22=p,23=p,24=p,25=p,34=p,35=p,36=p,37=p)
      · refine FnC_of Try.func69 rfl rfl rfl rfl ?_
        refine W_seq ?_
        refine W_region ?_
        refine ops_v (v_assign (v := _) rfl rfl) ?_
        refine ops_nil ?_
        refine W_seq ?_
        refine W_seq ?_
        refine W_region ?_
        refine ops_v (v_move (v := (.slice _ _ _)) rfl rfl) ?_
        refine ops_v (v_move (v := (.int _ _)) rfl rfl) ?_
        refine ops_v (v_indexAddr_sl rfl se80 rfl rfl (by omega) (by omega)) ?_
        refine ops_load (v := .bool false) 0 H rfl tc4 rfl rfl hx' ?_
        refine ops_nil ?_
        refine W_if_f rfl ?_
        refine W_skip ?_
        refine W_seq ?_
        refine W_region ?_
        refine ops_v (v_move (v := (.slice _ _ _)) rfl rfl) ?_
        refine ops_v (v_move (v := (.int _ _)) rfl rfl) ?_
        refine ops_v (v_indexAddr_sl rfl se80 rfl rfl (by omega) (by omega)) ?_
        refine ops_store (vs := [.bool true]) (v := .bool true) (cs' := bools (l.set i true)) 0 H rfl ts4 rfl rfl rfl rfl rfl rfl hble (bools_set hil) ?_
        clear H; intro w H
        refine ops_nil ?_
        refine W_seq ?_
        refine W_seq ?_
        refine W_region ?_
        refine ops_v (v_move (v := (.pointer _)) rfl rfl) ?_
        refine ops_v (v_nilCheck rfl rfl) ?_
        refine ops_v (v_fieldAddr rfl fo31_2 rfl rfl) ?_
        refine ops_load (v := (.slice _ _ _)) 1 H rfl tc29 rfl rfl rfl ?_
        refine ops_v (v_move (v := (.int _ _)) rfl rfl) ?_
        refine ops_v (v_indexAddr_sl rfl se29 rfl rfl (by omega) (by omega)) ?_
        refine ops_v (v_fieldAddr rfl fo42_0 rfl rfl) ?_
        refine ops_load (v := .bool true) 2 H rfl tc4 rfl rfl (cell 0 _ rfl) ?_
        refine ops_nil ?_
        refine W_if_t rfl ?_
        refine W_seq ?_
        refine W_region ?_
        refine ops_v (v_assign (v := _) rfl rfl) ?_
        refine ops_nil ?_
        refine W_ret ?_
        refine ⟨_, (.tmp (v := (.int _ _)) rfl .nil), ?_⟩
        exact ⟨l.set i true, 1, rfl, by have := M.Reach.leaf hb rfl hx0; rwa [Int.toNat_natCast] at this, H⟩
        -- ((*backstayref13.Store).reach: ret; chunks q,p,s; ptr 0=p,14=p,15=p,16=p)
theorem count_none {st : St} {id : Int} (h : M.get st id = none) : M.count st id = 0 := by
  unfold M.count
  rw [List.filter_eq_nil_iff.2 (fun x _ => by rw [M.comes_none h]; simp)]
  rfl
theorem Count13_ok {wb w : World} {p : Nat} {st : St} {R : List Chunk} (hw : Wf st) (id : Int) (H : Own wb (RefC p st :: R) w) :
    FnC Try.prog 36 [ptr p, int id] w (fun v w' => v = .int .i64 (M.count st id) ∧ Own wb (RefC p st :: R) w') := by
  obtain ⟨a, cap, H⟩ := H.openR
  by_cases h0 : id < 0
  · rw [count_none (M.get_none_lt h0)]
    refine FnC_of Try.func36 rfl rfl rfl rfl ?_
    refine W_seq ?_
    refine W_region ?_
    refine ops_v (v_assign (v := _) rfl rfl) ?_
    refine ops_nil ?_
    refine W_seq ?_
    refine W_seq ?_
    refine W_region ?_
    refine ops_v (v_move (v := (.int _ _)) rfl rfl) ?_
    refine ops_v (v_lss true rfl rfl rfl (decide_eq_true (by first | omega | (simp only; omega) | rfl | decide))) ?_
    refine ops_v (v_move (v := (.bool _)) rfl rfl) ?_
    refine ops_skip rfl rfl ?_
    refine ops_skip rfl rfl ?_
    refine ops_skip rfl rfl ?_
    refine ops_skip rfl rfl ?_
    refine ops_skip rfl rfl ?_
    refine ops_skip rfl rfl ?_
    refine ops_skip rfl rfl ?_
    refine ops_v (v_pick_t (v := (.bool _)) rfl rfl rfl) ?_
    refine ops_nil ?_
    refine W_if_t rfl ?_
    refine W_seq ?_
    refine W_region ?_
    refine ops_v (v_assign (v := _) rfl rfl) ?_
    refine ops_nil ?_
    refine W_ret ?_
    refine ⟨_, (.tmp (v := (.int _ _)) rfl .nil), ?_⟩
    exact ⟨rfl, H.shutR⟩
    -- ((*backstayref13.Store).Count: ret; chunks p,s; ptr 0=p)
  · by_cases h1 : (st.nodes.length : Int) ≤ id
    · rw [count_none (M.get_none_ge h1)]
      refine FnC_of Try.func36 rfl rfl rfl rfl ?_
      refine W_seq ?_
      refine W_region ?_
      refine ops_v (v_assign (v := _) rfl rfl) ?_
      refine ops_nil ?_
      refine W_seq ?_
      refine W_seq ?_
      refine W_region ?_
      refine ops_v (v_move (v := (.int _ _)) rfl rfl) ?_
      refine ops_v (v_lss false rfl rfl rfl (decide_eq_false (by first | omega | (simp only; omega) | rfl | decide))) ?_
      refine ops_v (v_move (v := (.bool _)) rfl rfl) ?_
      refine ops_v (v_move (v := (.int _ _)) rfl rfl) ?_
      refine ops_v (v_move (v := (.pointer _)) rfl rfl) ?_
      refine ops_v (v_nilCheck rfl rfl) ?_
      refine ops_v (v_fieldAddr rfl fo31_2 rfl rfl) ?_
      refine ops_load (v := (.slice _ _ _)) 0 H rfl tc29 rfl rfl rfl ?_
      refine ops_v (v_len rfl sl29 rfl) ?_
      refine ops_v (v_geq true rfl rfl rfl (decide_eq_true (by first | omega | (simp only; omega) | rfl | decide))) ?_
      refine ops_v (v_pick_f (v := (.bool _)) rfl rfl rfl) ?_
      refine ops_nil ?_
      refine W_if_t rfl ?_
      refine W_seq ?_
      refine W_region ?_
      refine ops_v (v_assign (v := _) rfl rfl) ?_
      refine ops_nil ?_
      refine W_ret ?_
      refine ⟨_, (.tmp (v := (.int _ _)) rfl .nil), ?_⟩
      exact ⟨rfl, H.shutR⟩
      -- ((*backstayref13.Store).Count: ret; chunks p,s; ptr 0=p,9=p,10=p,11=p)
    · obtain ⟨i, rfl⟩ : ∃ i : Nat, id = i := ⟨id.toNat, by omega⟩
      have hi : isN st (i : Int) = true := M.isN_iff.2 ⟨by omega, by omega⟩
      obtain ⟨g, rfl⟩ := H.slSome 1 rfl (by omega)
      have hk : st.nodes.length ≤ 1073741824 := by have := hw.room; have := hw.most; omega
      refine FnC_of Try.func36 rfl rfl rfl rfl ?_
      refine W_seq ?_
      refine W_region ?_
      refine ops_v (v_assign (v := _) rfl rfl) ?_
      refine ops_nil ?_
      refine W_seq ?_
      refine W_seq ?_
      refine W_region ?_
      refine ops_v (v_move (v := (.int _ _)) rfl rfl) ?_
      refine ops_v (v_lss false rfl rfl rfl (decide_eq_false (by first | omega | (simp only; omega) | rfl | decide))) ?_
      refine ops_v (v_move (v := (.bool _)) rfl rfl) ?_
      refine ops_v (v_move (v := (.int _ _)) rfl rfl) ?_
      refine ops_v (v_move (v := (.pointer _)) rfl rfl) ?_
      refine ops_v (v_nilCheck rfl rfl) ?_
      refine ops_v (v_fieldAddr rfl fo31_2 rfl rfl) ?_
      refine ops_load (v := (.slice _ _ _)) 0 H rfl tc29 rfl rfl rfl ?_
      refine ops_v (v_len rfl sl29 rfl) ?_
      refine ops_v (v_geq false rfl rfl rfl (decide_eq_false (by first | omega | (simp only; omega) | rfl | decide))) ?_
      refine ops_v (v_pick_f (v := (.bool _)) rfl rfl rfl) ?_
      refine ops_nil ?_
      refine W_if_f rfl ?_
      refine W_skip ?_
      refine W_seq ?_
      obtain ⟨cs, t1, t2, t3, t4, H⟩ := H.slToBlk 1 rfl
      refine W_region ?_
      refine ops_v (v_move (v := (.pointer _)) rfl rfl) ?_
      refine ops_v (v_move (v := (.int _ _)) rfl rfl) ?_
      refine ops_v (v_move (v := (.pointer _)) rfl rfl) ?_
      refine ops_v (v_nilCheck rfl rfl) ?_
      refine ops_v (v_fieldAddr rfl fo31_2 rfl rfl) ?_
      refine ops_load (v := (.slice _ _ _)) 0 H rfl tc29 rfl rfl rfl ?_
      refine ops_v (v_len rfl sl29 rfl) ?_
      refine ops_makeBools H hk rfl rfl rfl ?_
      clear H; intro b w H
      refine ops_call rfl c69 (reach_ok (gs := g) (cap := cap) (R := R) hw t1 (rank st i + 1) i _ _ (Nat.lt_succ_self _) hi (by simp) H) ?_
      clear H; rintro _ w ⟨l', c, rfl, hr, H⟩
      refine ops_v (v_assign (v := (.int _ _)) rfl rfl) ?_
      refine ops_nil ?_
      refine W_ret ?_
      refine ⟨_, (.tmp (v := (.int _ _)) rfl .nil), ?_⟩
      have H : Own _ (RefB p g cap st cs R) _ := H.tail
      have H := H.blkToSlAt 1 rfl t1 t2 t3 t4
      exact ⟨by rw [← hr.count hw hi]; rfl, H.shutR⟩
      -- ((*backstayref13.Store).Count: ret; chunks q,p,s; ptr 0=p,9=p,10=p,11=p,16=p,18=p,19=p,20=p)
end Go.Proofs.Ytchikjmhncojfaa.W
