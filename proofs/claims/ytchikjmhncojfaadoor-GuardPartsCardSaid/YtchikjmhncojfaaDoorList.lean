/- bits.List: a range over a function, by the kit's law for rounds; math/bits.TrailingZeros16 with its table. Door seat alone (numbers of functions and types are the door program's). Conditions: none. -/
import Derived.RangeFuncNested
import Derived.RangeFuncBound
import Derived.RangeFuncCalls
import Derived.RangeFuncLeaves
import Derived.RangeFuncBox
import Derived.Shelf.Abstract
import Derived.Shelf.RegionOpen
import Derived.WalkKit
import Derived.OwnWalkIn
import Derived.TacticsInMore
import Derived.LoopNIn
import Derived.LoopIn
import Derived.Maps.AppendAt
import Derived.Laws.BitsAllLaws
import Derived.Lib.TrailingZeros
import Derived.Test.YtchikjmhncojfaaDoorFacts
import Derived.Test.YtchikjmhncojfaaDoorNode4
namespace Go.Proofs.YtchikjmhncojfaaDoor.V
open Go Go.Proofs Go.RowKit Go.Shelf
attribute [local go_sem] Oper.semAt_some
/-- The table in its variable. -/
def TabAt (w : World) : Prop := ∀ j, j < 32 → w.cell? ⟨0, j, none⟩ = some (.int .u8 (Lib.deBruijn32tab.getD j 0))
theorem tz16_key (x a : Nat) (hx : x < 65536) (hx0 : x ≠ 0) (hlow : x &&& (65536 - x) = a) :
    bits BinOp.and IntKind.u16 (x : Int) (IntKind.u16.wrap (-(x : Int))) = (a : Int) := by
  have e1 : IntKind.u16.wrap (-(x : Int)) = ((65536 - x : Nat) : Int) := by rw [IntKind.wrap_u16]; omega
  rw [e1, u16_and_nat x _ hx (by omega), hlow]
set_option maxHeartbeats 1000000 in
theorem tz16_core (x a k idx : Nat) (w : World) (hx0 : ((x : Int) == 0) = false)
    (key : bits BinOp.and IntKind.u16 (x : Int) (IntKind.u16.wrap (-(x : Int))) = (a : Int))
    (key2 : (a : Int) % 4294967296 * 125613361 % 4294967296 / 134217728 = (idx : Int))
    (hi : idx < 32) (hk : k < 32) (hcell : w.cell? ⟨0, idx, none⟩ = some (.int .u8 k)) :
    Calls Tryd.prog 45 #[.int .u16 x] w fun e w' => e = .returned (.int .i64 k) ∧ w' = w := by
  go_enter Tryd.func45, Tryd.ntmps45
  go_wp2_with (simp only [key, key2])
  go_ret
  exact ⟨rfl, rfl⟩
theorem tz16 (x : Nat) (hx : x < 65536) (hx0 : x ≠ 0) (w : World) (hT : TabAt w) :
    Calls Tryd.prog 45 #[.int .u16 x] w fun e w' => e = .returned (.int .i64 (Lib.ctz 16 x)) ∧ w' = w := by
  obtain ⟨hlow, hk⟩ := Lib.lowest_bit 16 x hx0 hx
  have hp : 2 ^ Lib.ctz 16 x < 2 ^ 16 := Nat.pow_lt_pow_right (by decide) hk
  obtain ⟨hi, htab⟩ := Lib.deBruijn32_at (Lib.ctz 16 x) (by omega)
  have hcell := hT _ hi
  rw [htab] at hcell
  have hmul : ∀ A : Nat, A < 65536 → (A : Int) % 4294967296 * 125613361 % 4294967296 / 134217728 = ((A * 125613361 % 4294967296 / 134217728 : Nat) : Int) := fun A hA => by
    have e : (A : Int) % 4294967296 * 125613361 % 4294967296 / 134217728 = ((A % 4294967296 * 125613361 % 4294967296 / 134217728 : Nat) : Int) := by omega
    rw [e, Nat.mod_eq_of_lt (by omega : A < 4294967296)]
  exact tz16_core x _ _ _ w (by simp; omega) (tz16_key x _ hx hx0 hlow) (hmul _ hp) hi (by omega) hcell

def bitsL (F : Nat) : List Nat := (List.range 6).filter fun l => F.testBit l
theorem bitsL_step : ∀ x, x < 64 → x ≠ 0 → bitsL x = Lib.ctz 16 x :: bitsL (x &&& (x - 1)) ∧ x &&& (x - 1) < x := by decide +kernel
theorem bitsL_zero : bitsL 0 = [] := by decide
theorem and_key (x : Nat) (hx : x < 64) (h0 : x ≠ 0) : bits BinOp.and IntKind.u16 (x : Int) (IntKind.u16.wrap ((x : Int) - 1)) = ((x &&& (x - 1) : Nat) : Int) := by
  have e1 : IntKind.u16.wrap ((x : Int) - 1) = ((x - 1 : Nat) : Int) := by rw [IntKind.wrap_u16]; omega
  rw [e1, u16_and_nat x _ (by omega) (by omega)]
set_option maxRecDepth 100000 in
set_option maxHeartbeats 2000000 in
theorem all1_in (n : Nat) (hn : 1 ≤ n) (l Bn n₀ : Nat) (hn0 : 0 < n₀) (F : Nat) (hF : F < 64) (J Jx : List Nat → World → Prop)
    (hY : ∀ pre x W, J pre W → pre.length < (bitsL F).length → YieldAt Fence.wide (n - 1) Tryd.prog l #[.int .i64 ((x : Nat) : Int)] W fun e W' =>
      (e = .returned (.bool true) ∧ J (pre ++ [x]) W' ∧ Below n₀ W W') ∨ (e = .returned (.bool false) ∧ Jx (pre ++ [x]) W'))
    (W : World) (hBn : W.cell? ⟨Bn, 0, none⟩ = some (.int .i64 F)) (hT : TabAt W) (h0 : J [] W) :
    CallsIn Fence.wide n Tryd.prog 44 #[.func (.yield l) #[] #[], .pointer (some ⟨Bn, 0, none⟩)] W fun e W' => (∃ v, e = .returned v) ∧
      ((∃ ys, ys = bitsL F ∧ J ys W') ∨ (∃ pre, pre <+: bitsL F ∧ Jx pre W')) := by
  have hw0 : IntKind.u16.wrap (F : Int) = (F : Int) := by rw [IntKind.wrap_u16]; omega
  refine callsIn_of_wp Tryd.func44 rfl trivial ?_ rfl
  simp only [Tryd.ntmps44, List.size_toArray, List.length_cons, List.length_nil, Nat.reduceAdd, Nat.reduceSub, Array.replicate_succ, Array.replicate_zero, List.push_toArray, List.append_toArray, List.nil_append, List.cons_append]
  gi_wp2
  gi_loopw [3] (fun p wr => ∃ (pre : List Nat) (x : Nat), p = .int .u16 x ∧ x < 64 ∧ bitsL F = pre ++ bitsL x ∧ TabAt wr ∧ J pre wr)
    (fun p wr => (intOf p).toNat)
  case atStart =>
    exact ⟨[], F, by simp, hF, rfl, hT, h0⟩
  case round =>
    obtain ⟨pre, x, rfl, hx, hx', hTr, hJs⟩ := hrel
    by_cases hz : x = 0
    · subst hz
      gi_wp2
      go_end0
      exact ⟨⟨_, rfl⟩, .inl ⟨pre, by rw [hx', bitsL_zero]; simp, hJs⟩⟩
    · obtain ⟨hs, hlt⟩ := bitsL_step x hx hz
      have hne : ((x : Int) == 0) = false := by simp; omega
      have hak := and_key x hx hz
      have hak2 : bits BinOp.and IntKind.u16 (x : Int) ((x : Int) - 1) = ((x &&& (x - 1) : Nat) : Int) := by rw [← hak, IntKind.wrap_u16, Int.emod_eq_of_lt (by omega) (by omega)]
      obtain ⟨fn, tmps, assign, body, hy, hR⟩ := hY pre (Lib.ctz 16 x) wr hJs (by rw [hx', hs]; simp)
      gi_wp2_with (refine ⟨trivial, ?_⟩; gi_at_call 45; refine (callsIn_wide.2 (tz16 x (by omega) hz wr hTr)).mono ?_; rintro e w' ⟨rfl, rfl⟩)
      refine hR.mono ?_
      rintro e W3 (⟨rfl, hJ3, hk3⟩ | ⟨rfl, hJx3⟩)
      · gi_wp2
        go_roundw
        case rel => exact ⟨pre ++ [Lib.ctz 16 x], x &&& (x - 1), by simp, by omega, by rw [hx', hs]; simp, fun j hj => (hk3.cell (p := ⟨0, j, none⟩) hn0).trans (hTr j hj), hJ3⟩
        case measure => simp [intOf]; omega
      · gi_wp2
        refine bodyPost_ret (results_none rfl _ _ _) rfl ?_
        exact ⟨⟨_, rfl⟩, .inr ⟨pre ++ [Lib.ctz 16 x], ⟨bitsL (x &&& (x - 1)), by rw [hx', hs]; simp⟩, hJx3⟩⟩

set_option maxHeartbeats 1000000 in
theorem all_in (n : Nat) (F : Nat) (w : World) :
    CallsIn Fence.wide n Tryd.prog 39 #[.int .i64 F] w fun e w' => e = .returned (.func (.func 44) #[] #[.pointer (some ⟨w.heap.size, 0, none⟩)]) ∧ w' = w.alloc (.cells #[.int .i64 F] 3) := by
  refine callsIn_of_wp Tryd.func39 rfl trivial ?_ rfl
  simp only [Tryd.ntmps39, List.size_toArray, List.length_cons, List.length_nil, Nat.reduceAdd, Nat.reduceSub, Array.replicate_succ, Array.replicate_zero, List.push_toArray, List.append_toArray, List.nil_append, List.cons_append]
  gi_wp2
  go_ret
  exact ⟨rfl, rfl⟩
theorem all_stops (n : Nat) (hn : 1 ≤ n) (Bn n₀ : Nat) (h0 : 0 < n₀) (F : Nat) (hF : F < 64) (w : World) (hBn : Bn < w.heap.size) 
    (hc : w.cell? ⟨Bn, 0, none⟩ = some (.int .i64 F)) (hT : TabAt w) :
    SeqStopsK Fence.wide n Tryd.prog 44 #[.pointer (some ⟨Bn, 0, none⟩)] (fun x : Nat => #[Value.int .i64 x]) (Below n₀) (fun ys => ys = bitsL F) (fun pre => pre <+: bitsL F) (bitsL F).length w := fun l J Jx W hW _ _ hY h0' =>
  all1_in n hn l Bn n₀ h0 F hF J Jx hY W ((hW.cell (p := ⟨Bn, 0, none⟩) hBn).trans hc) (fun j hj => (hW.cell (p := ⟨0, j, none⟩) (by show 0 < w.heap.size; omega)).trans (hT j hj)) h0'
theorem info3 : (Tryd.prog.info? 3).map (fun i => (i.zero, i.size, i.bytes)) = some (some (.int .i64 0), 1, 8) := by kernel_rfl
theorem bitsL_len (F : Nat) : (bitsL F).length ≤ 6 := by
  have := List.length_filter_le (fun l => F.testBit l) (List.range 6)
  rw [List.length_range] at this
  exact this
set_option maxRecDepth 100000 in
set_option maxHeartbeats 2000000 in
theorem List_in (n : Nat) (hn : 3 ≤ n) (F : Nat) (hF : F < 64) (w : World) (hw0 : 0 < w.heap.size) (hT : TabAt w) :
    CallsIn Fence.wide n Tryd.prog 32 #[.int .i64 F] w fun e W' => ∃ v, e = .returned v ∧ W'.ownsRow w.heap.size 3 1 v (bitsL F).length ((bitsL F).map fun x : Nat => Value.int .i64 x) ∧ Below w.heap.size w W' := by
  have h1 : 1 ≤ n := by omega
  obtain ⟨i0, hi, hz0, hz1, hz2⟩ := info_parts info3
  have hlen := bitsL_len F
  refine callsIn_of_wp_marks Tryd.func32 rfl trivial ?_ rfl
  simp only [Tryd.ntmps32, List.size_toArray, List.length_cons, List.length_nil, Nat.reduceAdd, Nat.reduceSub, Array.replicate_succ, Array.replicate_zero, List.push_toArray, List.append_toArray, List.nil_append, List.cons_append]
  gi_wp2_with (refine ⟨trivial, ?_⟩; gi_at_call 39; refine (all_in (n - 1) F _).mono ?_; rintro e w' ⟨rfl, rfl⟩)
  have bO := Boxed.new w 26 (.slice none 0 0)
  have bN := Boxed.new (w.alloc (.cells #[.slice none 0 0] 26)) 3 (.int .i64 F)
  rw [World.size_alloc] at bN
  have hB0 : Below w.heap.size w ((w.alloc (.cells #[.slice none 0 0] 26)).alloc (.cells #[.int .i64 F] 3)) := ((Below.refl _ w).alloc (Nat.le_refl _) _).alloc (by simp) _
  refine wpIn_rangeFunc_ownG rfl h1 (gf := 44) (lb := #[.pointer (some ⟨w.heap.size + 1, 0, none⟩)]) rfl trivial (enters_of Tryd.func44 (by kernel_rfl) rfl)
    (all_stops (n - 1) (by omega) (w.heap.size + 1) w.heap.size hw0 F hF _ (by simp) bN.cell (fun j hj => (hB0.cell (p := ⟨0, j, none⟩) hw0).trans (hT j hj))) belowK_t (belowK_b (by simp; omega)) (Below.refl _ _) (fun _ => rfl)
    (fun pre W => (∃ v, Boxed W w.heap.size 26 v ∧ W.ownsRow w.heap.size 3 1 v pre.length (pre.map fun x : Nat => Value.int .i64 x) ∧ True) ∧ Below w.heap.size w W)
    (fun _ _ _ => False)
    (OwnFrom.and (Own.from (holdsRow_own w.heap.size w.heap.size 26 3 1 (fun pre : List Nat => pre.length) (fun pre => pre.map fun x : Nat => Value.int .i64 x) (fun _ _ => True)) _) (ownFrom_below (Nat.le_refl _) (by simp; omega)))
    (fun _ _ _ _ _ hs _ _ => hs)
    ⟨⟨_, bO.alloc _, World.ownsRow_nil _ _ _ _, trivial⟩, hB0⟩
    (fun x => { tmps := #[.int .i64 F, undef, .pointer (some ⟨w.heap.size, 0, none⟩), .int .i64 x, .int .i64 F, .func (.func 44) #[] #[.pointer (some ⟨w.heap.size + 1, 0, none⟩)], .int .i64 x, undef, undef, undef, undef], defers := [] }) ?assign ?body ?done ?stop
  case assign =>
    intro l x W K hK
    gi_wp2
    exact hK
  case body =>
    rintro l pre x W ⟨⟨v, hv, hrow, _⟩, hB⟩ hlt
    have hc := hv.cell
    gi_wp2_with (gi_at_builtin; refine wpListIn_append_own _ rfl _ _ 26 rfl w.heap.size 3 i0 (.int .i64 0) 1 8 Tryd.underlying26 hi hz0 hz1 hz2 rfl (by decide) _ _ _ rfl (hrow.alloc _) ⟨W.heap.size, 0, none⟩ 1 1 [.int .i64 x] rfl rfl (cell_one_new _ _ _) (by simp [Value.oneCell']) (by simp [maxLen]; omega) (by omega) (by have := hB.size; simp; omega) ?_; intro v' w1 hown' hgrow _; obtain ⟨g', cap', rfl⟩ := ownsRow_succ hown'; obtain ⟨hv1, hv2, hr2, hk2, hb2⟩ := hv.appended (by decide) hrow hB.size (Nat.le_refl _) hown' hgrow; have hc1 := hv1.cell; have hf1 := hv1.frozen)
    exact ⟨hk2.from _, hb2, ⟨_, hv2, by simpa using hr2, trivial⟩, hB.trans hb2⟩
  case done =>
    rintro D ys W hD rfl ⟨⟨v, hv, hrow, _⟩, hB⟩ hK
    have hc := hv.cell
    gi_wp2
    refine ⟨by simp, .inl ⟨_, _, rfl, run_takeDeferred hK, ?_⟩⟩
    have hWD : (W.putObj D (.deferred none)).heap[w.heap.size]? = some (.cells [v].toArray 26 (0, 0)) := by
      rw [World.putObj_heap_other (by simp at hD; omega)]; exact hv
    refine ⟨v, ?_, v, rfl, ownsRow_putObj hrow _ hK rfl, hB.trans (belowK_b (w := w) (Nat.le_refl _) W D _ _ (by simp at hD; omega) hK rfl rfl)⟩
    simp [results, asAddr, YtchikjmhncojfaaDoor.W.run_load1 (o := 0) (v := v) YtchikjmhncojfaaDoor.W.tc26 hWD rfl]
  case stop =>
    rintro D c pre W _ _ h _
    exact h.elim
end Go.Proofs.YtchikjmhncojfaaDoor.V
namespace Go.Proofs.YtchikjmhncojfaaDoor.W
open Go Go.Proofs Go.RowKit
/-- the table lies in the caller's world -/
def Tab (wb : World) : Prop := 0 < wb.heap.size ∧ V.TabAt wb
theorem Tab.at {wb w : World} (h : Tab wb) (hb : Base wb w) : V.TabAt w := fun j hj => (World.cell?_of_block (w := wb) (hb.keep 0 h.1)).trans (h.2 j hj)
def bitsI (F : Nat) : List Int := (V.bitsL F).map fun x : Nat => (x : Int)
theorem List_ok {wb w : World} {R : List Chunk} {F : Nat} (hF : F < 64) (hT : Tab wb) (H : Own wb R w) :
    FnC Tryd.prog 32 [.int .i64 (F : Int)] w (fun u w' => ∃ q cap, u = .slice q (bitsI F).length cap ∧ Own wb (SlC q (bitsI F).length cap 3 1 (ints (bitsI F)) :: R) w') := by
  have hb := H.base
  refine Calls.mono (callsIn_wide.1 (V.List_in 3 (by omega) F hF w (by have := hT.1; have := hb.size; omega) (hT.at hb))) ?_
  rintro e W' ⟨v, rfl, hr, hB⟩
  have hlen : (bitsI F).length = (V.bitsL F).length := by simp [bitsI]
  have hxs : ((V.bitsL F).map fun x : Nat => Value.int .i64 x) = ints (bitsI F) := by simp [ints, bitsI]
  rw [hxs, ← hlen] at hr
  have key : ∃ q cap, v = .slice q (bitsI F).length cap ∧ ∃ D, slOk W' D q (bitsI F).length cap 3 1 (ints (bitsI F)) ∧ D.Nodup ∧ ∀ b ∈ D, w.heap.size ≤ b ∧ b < W'.heap.size := by
    obtain ⟨hl, h | ⟨g, cap, cur, h1, h2, h3, h4, h5, h6, h7⟩⟩ := hr
    · obtain ⟨h0, hn⟩ := h
      refine ⟨none, 0, by rw [h0, hn], [], ⟨hl, .inl ⟨rfl, hn, rfl, rfl⟩⟩, List.nodup_nil, by simp⟩
    · exact ⟨some ⟨g, 0, none⟩, cap, h1, [g], ⟨hl, .inr ⟨g, cur, rfl, rfl, h3, h4, h5, h6, h7⟩⟩, by simp, fun b hb => by simp at hb; subst hb; exact ⟨h2, (Array.getElem?_eq_some_iff.1 h3).1⟩⟩
  obtain ⟨q, cap, rfl, D, hD, hn, hr'⟩ := key
  refine ⟨_, rfl, q, cap, rfl, ?_⟩
  exact (H.toPure trivial (p := True)).change fun D0 hD0 _ _ => ⟨⟨hB.os, hB.tape, hB.output, hB.size⟩, fun b hb _ => hB.block b hb, D, hD, hn, fun b hb => ⟨.inr (hr' b hb).1, (hr' b hb).2⟩⟩
end Go.Proofs.YtchikjmhncojfaaDoor.W
