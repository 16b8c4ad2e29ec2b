/- Helpers of the laws of layer 17: pick, With, awake; Fails, Gate and Fix where there is room. Conditions: none. Door seat alone. -/
import Derived.Test.YtchikjmhncojfaaDoorAsks2
import Derived.Test.YtchikjmhncojfaaDoorLaw13
import Derived.Test.YtchikjmhncojfaaDoorMade
import Derived.Test.YtchikjmhncojfaaDoorRef13c
set_option linter.unusedVariables false
namespace Go.Proofs.YtchikjmhncojfaaDoor.M
def failsF (k : Nat) (F : Nat) : Int := tr (F.testBit k)
theorem ask_tells {s : St} (w : Wf s) {id : Int} {l : Nat} {a b : Int} (hl : l < 16) (hg : get s id = some (askB l a b)) {ga gb : Nat → Int} (ta : Tells s a ga) (tb : Tells s b gb) :
    Tells s id (fun F => if F.testBit l then gb F else ga F) := by
  refine ⟨isN_some hg, fun F => ?_⟩
  rw [eval_ask w hg rfl]
  show eval s (if has F (l : Int) then b else a) F = _
  rw [has_nat, decide_eq_true hl, Bool.true_and]
  cases F.testBit l
  · exact ta.eval F
  · exact tb.eval F
theorem fails_room {s : St} {c k : Nat} (h : Room6 s c) (hc : c + 3 < 1000) (hk : k < s.links) :
    ∃ s1 a s2 b s3 i, leaf s 0 = (s1, a, 0) ∧ leaf s1 1 = (s2, b, 0) ∧ make s2 k a b = (s3, i, 0) ∧ Ext s s1 ∧ Ext s s2 ∧ Ext s s3 ∧ s1.most ≤ 1073741824 ∧ s2.most ≤ 1073741824 ∧ Room6 s3 (c + 3) ∧ Tells s3 i (failsF k) := by
  have h6 := h.six
  obtain ⟨s1, a, e1, x1, m1, ta⟩ := leaf_tells h (by omega) 0
  obtain ⟨s2, b, e2, x2, m2, tb⟩ := leaf_tells m1 (by omega) 1
  have ta2 := ta.ext m1.wf x2 m2.wf
  obtain ⟨s3, i, e, e3⟩ : ∃ s3 i e, make s2 k a b = (s3, i, e) := ⟨_, _, _, rfl⟩
  have hl2 : s2.links = s.links := by rw [x2.links, x1.links]
  have ga : get s1 a = some (leafB 0) := by
    rcases (leaf_case h.wf e1).2.2 with ⟨h60, _⟩ | ⟨_, hg⟩
    · omega
    · exact hg
  have gb : get s2 b = some (leafB 1) := by
    rcases (leaf_case m1.wf e2).2.2 with ⟨h60, _⟩ | ⟨_, hg⟩
    · omega
    · exact hg
  have la : lnk s2 a = 16 := by rw [x2.lnk ta.here]; exact lnk_leaf ga rfl
  have lb : lnk s2 b = 16 := lnk_leaf gb rfl
  have ok : makeOk s2 k a b = true := makeOk_iff.2 ⟨by omega, by omega, under_lnk ta2.here (by omega), under_lnk tb.here (by omega)⟩
  have hab : a ≠ b := by
    intro he
    have h1 := ta2.eval 0
    have h2 := tb.eval 0
    rw [he, h2] at h1
    simp at h1
  have hlen := m2.len
  have hmost := m2.most
  have hs := make_size e3
  have l2 := len_eq s2
  have l3 := len_eq s3
  obtain ⟨w3, x3, hc3⟩ := make_case m2.wf ok e3
  rcases hc3 with ⟨_, _, _, hf⟩ | ⟨rfl, ⟨he, _⟩ | ⟨_, hg⟩⟩
  · omega
  · exact (hab he).elim
  · refine ⟨s1, a, s2, b, s3, i, e1, e2, e3, x1, x1.trans x2, (x1.trans x2).trans x3, by rw [m1.most]; decide, by rw [m2.most]; decide, ⟨w3, by rw [x3.links]; omega, by rw [x3.most]; exact hmost, by omega⟩, ?_⟩
    refine (ask_tells w3 (by omega) hg (ta2.ext m2.wf x3 w3) (tb.ext m2.wf x3 w3)).to fun F => ?_
    unfold failsF tr
    rfl
end Go.Proofs.YtchikjmhncojfaaDoor.M
namespace Go.Proofs.YtchikjmhncojfaaDoor.W
open Go Go.Proofs Go.RowKit
open Go.Proofs.YtchikjmhncojfaaDoor.M (Br St get getZ isN idx has down Wf rank i64 leafB askB Lifts Ext opF Fx Tells Room6 turn tr gateF failsF)
variable {wb w : World} {R L : List Chunk} {o : Option Nat} {p : Nat} {st : St}
theorem pick17_ok (H : Own wb R w) (c n : Int) (hc : i64 c) (hn : 0 < n) : FnC Tryd.prog 8 [int c, int n] w (fun v w' => v = int (M.pick c n) ∧ Own wb R w') := by
  obtain ⟨h1, h2⟩ := hc
  by_cases h : c < 0
  · refine FnC_of Tryd.func8 rfl rfl rfl rfl ?_
    refine W_seq ?_
    refine W_region ?_
    refine ops_v (v_assign (v := _) rfl rfl) ?_
    refine ops_nil ?_
    refine W_seq ?_
    refine W_seq ?_
    refine W_region ?_
    refine ops_v (v_move (v := (.int _ _)) rfl rfl) ?_
    refine ops_v (v_lss true rfl rfl rfl (decide_eq_true (by first | omega | (simp only; omega) | rfl | decide))) ?_
    refine ops_nil ?_
    refine W_if_t rfl ?_
    refine W_region ?_
    refine ops_v (v_move (v := (.int _ _)) rfl rfl) ?_
    refine ops_v (v_add _ rfl rfl rfl (wrap_in (by omega) (by omega))) ?_
    refine ops_v (v_neg _ rfl rfl (wrap_in (by omega) (by omega))) ?_
    refine ops_v (v_assign (v := (.int _ _)) rfl rfl) ?_
    refine ops_nil ?_
    refine W_seq ?_
    refine W_region ?_
    refine ops_v (v_move (v := (.int _ _)) rfl rfl) ?_
    refine ops_v (v_move (v := (.int _ _)) rfl rfl) ?_
    refine ops_v (v_rem _ rfl rfl rfl (by omega) rfl) ?_
    refine ops_v (v_assign (v := (.int _ _)) rfl rfl) ?_
    refine ops_nil ?_
    refine W_ret ?_
    refine ⟨_, (.tmp (v := (.int _ _)) rfl .nil), ?_⟩
    exact ⟨by unfold M.pick; rw [if_pos h, ← tmod_pos (by omega), show -(c + 1) = 0 - (c + 1) by omega]; rfl, H⟩
    -- (backstaylaw17.pick: ret; chunks ; ptr )
  · refine FnC_of Tryd.func8 rfl rfl rfl rfl ?_
    refine W_seq ?_
    refine W_region ?_
    refine ops_v (v_assign (v := _) rfl rfl) ?_
    refine ops_nil ?_
    refine W_seq ?_
    refine W_seq ?_
    refine W_region ?_
    refine ops_v (v_move (v := (.int _ _)) rfl rfl) ?_
    refine ops_v (v_lss false rfl rfl rfl (decide_eq_false (by first | omega | (simp only; omega) | rfl | decide))) ?_
    refine ops_nil ?_
    refine W_if_f rfl ?_
    refine W_skip ?_
    refine W_seq ?_
    refine W_region ?_
    refine ops_v (v_move (v := (.int _ _)) rfl rfl) ?_
    refine ops_v (v_move (v := (.int _ _)) rfl rfl) ?_
    refine ops_v (v_rem _ rfl rfl rfl (by omega) rfl) ?_
    refine ops_v (v_assign (v := (.int _ _)) rfl rfl) ?_
    refine ops_nil ?_
    refine W_ret ?_
    refine ⟨_, (.tmp (v := (.int _ _)) rfl .nil), ?_⟩
    exact ⟨by unfold M.pick; rw [if_neg h, ← tmod_pos (by omega)]; rfl, H⟩
    -- (backstaylaw17.pick: ret; chunks ; ptr )
theorem turn_sub : ∀ F, F < 64 → ∀ k, k < 6 → (F.testBit k = true → turn F k false + 2 ^ k = F) ∧ (F.testBit k = false → turn F k false = F) ∧ turn F k true = turn F k false + 2 ^ k ∧ turn F k false < 64 ∧ turn F k true < 64 := by decide +kernel
theorem With_ok (F k : Nat) (v : Bool) (hF : F < 64) (hk : k < 6) (H : Own wb R w) : FnC Tryd.prog 15 [.int .i64 (F : Int), .int .i64 (k : Int), .bool v] w (fun u w' => u = .int .i64 (turn F k v : Nat) ∧ Own wb R w') := by
  obtain ⟨t1, t2, t3, t4, t5⟩ := turn_sub F hF k hk
  have hi : i64 (F : Int) := ⟨by omega, by omega⟩
  have hcl : clean (F : Int) = F := by unfold clean; omega
  have hsh : IntKind.i64.wrap (1 * 2 ^ min ((k : Int)).toNat IntKind.i64.bits) = ((2 ^ k : Nat) : Int) := by rw [Int.toNat_natCast, shl1 k (by omega)]; push_cast; rfl
  have hhas : has (F : Int) (k : Int) = F.testBit k := by rw [M.has_nat, decide_eq_true (by omega)]; rfl
  have hadd : IntKind.i64.wrap (((turn F k false : Nat) : Int) + ((2 ^ k : Nat) : Int)) = ((turn F k true : Nat) : Int) := by
    have e : ((turn F k false : Nat) : Int) + ((2 ^ k : Nat) : Int) = ((turn F k true : Nat) : Int) := by rw [t3, Int.natCast_add]
    rw [e]; exact wrap_in (by omega) (by omega)
  cases hb : F.testBit k with
  | true =>
    have hsub : IntKind.i64.wrap ((F : Int) - ((2 ^ k : Nat) : Int)) = ((turn F k false : Nat) : Int) := by
      have := t1 hb
      rw [show ((F : Int) - ((2 ^ k : Nat) : Int)) = ((turn F k false : Nat) : Int) by omega]
      exact wrap_in (by omega) (by omega)
    cases v with
    | true =>
      refine FnC_of Tryd.func15 rfl rfl rfl rfl ?_
      refine W_seq ?_
      refine W_region ?_
      refine ops_v (v_assign (v := _) rfl rfl) ?_
      refine ops_nil ?_
      refine W_seq ?_
      refine W_region ?_
      refine ops_v (v_move (v := (.int _ _)) rfl rfl) ?_
      refine ops_call rfl c29 (Clean_ok H F hi) ?_
      clear H; rintro _ w ⟨rfl, H⟩
      rw [hcl]
      refine ops_v (v_assign (v := (.int _ _)) rfl rfl) ?_
      refine ops_nil ?_
      refine W_seq ?_
      refine W_seq ?_
      refine W_region ?_
      refine ops_v (v_move (v := (.int _ _)) rfl rfl) ?_
      refine ops_v (v_move (v := (.int _ _)) rfl rfl) ?_
      refine ops_call rfl c30 (Has13_ok H F k hi true (hhas.trans hb)) ?_
      clear H; rintro _ w ⟨rfl, H⟩
      refine ops_nil ?_
      refine W_if_t rfl ?_
      refine W_region ?_
      refine ops_v (v_move (v := (.int _ _)) rfl rfl) ?_
      refine ops_v (v_move (v := (.int _ _)) rfl rfl) ?_
      refine ops_v (v_shl ((2 ^ k : Nat) : Int) rfl rfl rfl (by omega) hsh) ?_
      refine ops_v (v_sub ((turn F k false : Nat) : Int) rfl rfl rfl hsub) ?_
      refine ops_v (v_assign (v := (.int _ _)) rfl rfl) ?_
      refine ops_nil ?_
      refine W_seq ?_
      refine W_seq ?_
      refine W_region ?_
      refine ops_v (v_move (v := (.bool _)) rfl rfl) ?_
      refine ops_nil ?_
      refine W_if_t rfl ?_
      refine W_region ?_
      refine ops_v (v_move (v := (.int _ _)) rfl rfl) ?_
      refine ops_v (v_move (v := (.int _ _)) rfl rfl) ?_
      refine ops_v (v_shl ((2 ^ k : Nat) : Int) rfl rfl rfl (by omega) hsh) ?_
      refine ops_v (v_add ((turn F k true : Nat) : Int) rfl rfl rfl hadd) ?_
      refine ops_v (v_assign (v := (.int _ _)) rfl rfl) ?_
      refine ops_nil ?_
      refine W_seq ?_
      refine W_region ?_
      refine ops_v (v_move (v := (.int _ _)) rfl rfl) ?_
      refine ops_v (v_assign (v := (.int _ _)) rfl rfl) ?_
      refine ops_nil ?_
      refine W_ret ?_
      refine ⟨_, (.tmp (v := (.int _ _)) rfl .nil), ?_⟩
      exact ⟨rfl, H⟩
      -- (backstayref17.With: ret; chunks ; ptr )
    | false =>
      refine FnC_of Tryd.func15 rfl rfl rfl rfl ?_
      refine W_seq ?_
      refine W_region ?_
      refine ops_v (v_assign (v := _) rfl rfl) ?_
      refine ops_nil ?_
      refine W_seq ?_
      refine W_region ?_
      refine ops_v (v_move (v := (.int _ _)) rfl rfl) ?_
      refine ops_call rfl c29 (Clean_ok H F hi) ?_
      clear H; rintro _ w ⟨rfl, H⟩
      rw [hcl]
      refine ops_v (v_assign (v := (.int _ _)) rfl rfl) ?_
      refine ops_nil ?_
      refine W_seq ?_
      refine W_seq ?_
      refine W_region ?_
      refine ops_v (v_move (v := (.int _ _)) rfl rfl) ?_
      refine ops_v (v_move (v := (.int _ _)) rfl rfl) ?_
      refine ops_call rfl c30 (Has13_ok H F k hi true (hhas.trans hb)) ?_
      clear H; rintro _ w ⟨rfl, H⟩
      refine ops_nil ?_
      refine W_if_t rfl ?_
      refine W_region ?_
      refine ops_v (v_move (v := (.int _ _)) rfl rfl) ?_
      refine ops_v (v_move (v := (.int _ _)) rfl rfl) ?_
      refine ops_v (v_shl ((2 ^ k : Nat) : Int) rfl rfl rfl (by omega) hsh) ?_
      refine ops_v (v_sub ((turn F k false : Nat) : Int) rfl rfl rfl hsub) ?_
      refine ops_v (v_assign (v := (.int _ _)) rfl rfl) ?_
      refine ops_nil ?_
      refine W_seq ?_
      refine W_seq ?_
      refine W_region ?_
      refine ops_v (v_move (v := (.bool _)) rfl rfl) ?_
      refine ops_nil ?_
      refine W_if_f rfl ?_
      refine W_skip ?_
      refine W_seq ?_
      refine W_region ?_
      refine ops_v (v_move (v := (.int _ _)) rfl rfl) ?_
      refine ops_v (v_assign (v := (.int _ _)) rfl rfl) ?_
      refine ops_nil ?_
      refine W_ret ?_
      refine ⟨_, (.tmp (v := (.int _ _)) rfl .nil), ?_⟩
      exact ⟨rfl, H⟩
      -- (backstayref17.With: ret; chunks ; ptr )
  | false =>
    have h0 := t2 hb
    cases v with
    | true =>
      have hadd' : IntKind.i64.wrap ((F : Int) + ((2 ^ k : Nat) : Int)) = ((turn F k true : Nat) : Int) := by rw [← hadd, h0]
      refine FnC_of Tryd.func15 rfl rfl rfl rfl ?_
      refine W_seq ?_
      refine W_region ?_
      refine ops_v (v_assign (v := _) rfl rfl) ?_
      refine ops_nil ?_
      refine W_seq ?_
      refine W_region ?_
      refine ops_v (v_move (v := (.int _ _)) rfl rfl) ?_
      refine ops_call rfl c29 (Clean_ok H F hi) ?_
      clear H; rintro _ w ⟨rfl, H⟩
      rw [hcl]
      refine ops_v (v_assign (v := (.int _ _)) rfl rfl) ?_
      refine ops_nil ?_
      refine W_seq ?_
      refine W_seq ?_
      refine W_region ?_
      refine ops_v (v_move (v := (.int _ _)) rfl rfl) ?_
      refine ops_v (v_move (v := (.int _ _)) rfl rfl) ?_
      refine ops_call rfl c30 (Has13_ok H F k hi false (hhas.trans hb)) ?_
      clear H; rintro _ w ⟨rfl, H⟩
      refine ops_nil ?_
      refine W_if_f rfl ?_
      refine W_skip ?_
      refine W_seq ?_
      refine W_seq ?_
      refine W_region ?_
      refine ops_v (v_move (v := (.bool _)) rfl rfl) ?_
      refine ops_nil ?_
      refine W_if_t rfl ?_
      refine W_region ?_
      refine ops_v (v_move (v := (.int _ _)) rfl rfl) ?_
      refine ops_v (v_move (v := (.int _ _)) rfl rfl) ?_
      refine ops_v (v_shl ((2 ^ k : Nat) : Int) rfl rfl rfl (by omega) hsh) ?_
      refine ops_v (v_add ((turn F k true : Nat) : Int) rfl rfl rfl hadd') ?_
      refine ops_v (v_assign (v := (.int _ _)) rfl rfl) ?_
      refine ops_nil ?_
      refine W_seq ?_
      refine W_region ?_
      refine ops_v (v_move (v := (.int _ _)) rfl rfl) ?_
      refine ops_v (v_assign (v := (.int _ _)) rfl rfl) ?_
      refine ops_nil ?_
      refine W_ret ?_
      refine ⟨_, (.tmp (v := (.int _ _)) rfl .nil), ?_⟩
      exact ⟨rfl, H⟩
      -- (backstayref17.With: ret; chunks ; ptr )
    | false =>
      refine FnC_of Tryd.func15 rfl rfl rfl rfl ?_
      refine W_seq ?_
      refine W_region ?_
      refine ops_v (v_assign (v := _) rfl rfl) ?_
      refine ops_nil ?_
      refine W_seq ?_
      refine W_region ?_
      refine ops_v (v_move (v := (.int _ _)) rfl rfl) ?_
      refine ops_call rfl c29 (Clean_ok H F hi) ?_
      clear H; rintro _ w ⟨rfl, H⟩
      rw [hcl]
      refine ops_v (v_assign (v := (.int _ _)) rfl rfl) ?_
      refine ops_nil ?_
      refine W_seq ?_
      refine W_seq ?_
      refine W_region ?_
      refine ops_v (v_move (v := (.int _ _)) rfl rfl) ?_
      refine ops_v (v_move (v := (.int _ _)) rfl rfl) ?_
      refine ops_call rfl c30 (Has13_ok H F k hi false (hhas.trans hb)) ?_
      clear H; rintro _ w ⟨rfl, H⟩
      refine ops_nil ?_
      refine W_if_f rfl ?_
      refine W_skip ?_
      refine W_seq ?_
      refine W_seq ?_
      refine W_region ?_
      refine ops_v (v_move (v := (.bool _)) rfl rfl) ?_
      refine ops_nil ?_
      refine W_if_f rfl ?_
      refine W_skip ?_
      refine W_seq ?_
      refine W_region ?_
      refine ops_v (v_move (v := (.int _ _)) rfl rfl) ?_
      refine ops_v (v_assign (v := (.int _ _)) rfl rfl) ?_
      refine ops_nil ?_
      refine W_ret ?_
      refine ⟨_, (.tmp (v := (.int _ _)) rfl .nil), ?_⟩
      exact ⟨by rw [h0]; rfl, H⟩
      -- (backstayref17.With: ret; chunks ; ptr )
theorem Fails_room {c k : Nat} (h : Room6 st c) (hc : c + 3 < 1000) (hk : k < st.links) (H : Own wb (StoreC p st :: R) w) :
    FnC Tryd.prog 11 [ptr p, .int .i64 (k : Int)] w (fun u w' => ∃ s' i, u = pairV i 0 ∧ Ext st s' ∧ Room6 s' (c + 3) ∧ Tells s' i (failsF k) ∧ Own wb (StoreC p s' :: R) w') := by
  obtain ⟨s1, a, s2, b, s3, i, e1, e2, e3, x1, x2, x3, m1, m2, m3, t⟩ := M.fails_room h hc hk
  exact (Fails_ok (by omega) (by omega) h.wf.most e1 m1 e2 m2 e3 H).mono fun _ _ ⟨hv, H⟩ => ⟨s3, i, hv, x3, m3, t, H⟩
theorem Gate_room {c k : Nat} {id : Int} {g : Nat → Int} (h : Room6 st c) (hc : c + 130 < 1000) (hk : k < st.links) (tx : Tells st id g) (H : Own wb (StoreC p st :: CacheX opF o st :: R) w) :
    FnC Tryd.prog 12 [ptr p, xptr o, .int .i64 (k : Int), int id] w (fun u w' => ∃ s' i, u = pairV i 0 ∧ Ext st s' ∧ Room6 s' (c + 130) ∧ Tells s' i (fun F => gateF (failsF k F) (g F)) ∧ Own wb (StoreC p s' :: CacheX opF o s' :: R) w') := by
  obtain ⟨s1, a, s2, b, s3, f, e1, e2, e3, x1, x2, x3, m1, m2, m3, t⟩ := M.fails_room h (by omega) hk
  have tx3 := tx.ext h.wf x3 m3.wf
  obtain ⟨s4, i, L, x4, m4, t4⟩ := M.lift_room (opF (-2)) m3 (by omega) t tx3 tx3
  exact (Gate_ok h.wf tx.here (by omega) (by omega) e1 e2 e3 m3.wf x3 m1 m2 t.here L H).mono fun _ _ ⟨hv, H⟩ => ⟨s4, i, hv, x3.trans x4, m4, t4.to fun F => by rw [M.opF_gate], H⟩
theorem Gate_room0 {c k : Nat} {id : Int} {g : Nat → Int} (h : Room6 st c) (hc : c + 130 < 1000) (hk : k < st.links) (tx : Tells st id g) (H : Own wb (StoreC p st :: R) w) :
    FnC Tryd.prog 12 [ptr p, .pointer none, .int .i64 (k : Int), int id] w (fun u w' => ∃ s' i, u = pairV i 0 ∧ Ext st s' ∧ Room6 s' (c + 130) ∧ Tells s' i (fun F => gateF (failsF k F) (g F)) ∧ Own wb (StoreC p s' :: R) w') :=
  (Gate_room (o := none) h hc hk tx (H.toPure trivial (p := True)).swapL).mono fun _ _ ⟨s', i, hv, x, m, t, H⟩ => ⟨s', i, hv, x, m, t, H.swapL.tail⟩
theorem Fix_room {c k : Nat} {v : Bool} {id : Int} {g : Nat → Int} (h : Room6 st c) (hc : c + 64 < 1000) (hk : k < st.links) (tx : Tells st id g) (H : Own wb (StoreC p st :: R) w) :
    FnC Tryd.prog 13 [ptr p, xptr o, .int .i64 (k : Int), .bool v, int id] w (fun u w' => ∃ s' i, u = pairV i 0 ∧ Ext st s' ∧ Room6 s' (c + 64) ∧ Tells s' i (fun F => g (turn F k v)) ∧ Own wb (StoreC p s' :: R) w') := by
  have h6 := h.six
  obtain ⟨s', i, A, x, m, t⟩ := M.fix_room v h hc hk tx
  exact (Fix_ok (by omega) A h.wf (by omega) tx.here H).mono fun _ _ ⟨hv, H⟩ => ⟨s', i, hv, x, m, t, H⟩
namespace Awake17
def s0 : St := ⟨2, 20, []⟩
def s1 : St := ⟨2, 20, [leafB 5]⟩
def s2 : St := ⟨2, 20, [leafB 5, leafB 0]⟩
def s3 : St := ⟨2, 20, [leafB 5, leafB 0, leafB 1]⟩
def s4 : St := ⟨2, 20, [leafB 5, leafB 0, leafB 1, askB 0 1 2]⟩
def s5 : St := ⟨2, 20, [leafB 5, leafB 0, leafB 1, askB 0 1 2, askB 0 0 1]⟩
def s6 : St := ⟨2, 20, [leafB 5, leafB 0, leafB 1, askB 0 1 2, askB 0 0 1, askB 1 1 2]⟩
theorem w0 : Wf s0 := Wf.empty (by decide) (by decide)
theorem h1 : M.leaf s0 5 = (s1, 0, 0) := by decide +kernel
theorem w1 : Wf s1 := by have a := M.Wf.leaf w0 5; rw [h1] at a; exact a
theorem h2 : M.leaf s1 0 = (s2, 1, 0) := by decide +kernel
theorem w2 : Wf s2 := by have a := M.Wf.leaf w1 0; rw [h2] at a; exact a
theorem h3 : M.leaf s2 1 = (s3, 2, 0) := by decide +kernel
theorem w3 : Wf s3 := by have a := M.Wf.leaf w2 1; rw [h3] at a; exact a
theorem h4 : M.make s3 0 1 2 = (s4, 3, 0) := by decide +kernel
theorem w4 : Wf s4 := by have a := M.Wf.make w3 0 1 2; rw [h4] at a; exact a
theorem l5 : Lifts (opF (-2)) s4 3 0 0 s5 4 0 := M.liftN_eq w4 (by decide +kernel) (by decide +kernel) (by decide +kernel) (by decide +kernel)
theorem w5 : Wf s5 := (l5.good w4 (by decide +kernel) (by decide +kernel) (by decide +kernel)).wf
theorem h5a : M.leaf s5 0 = (s5, 1, 0) := by decide +kernel
theorem h5b : M.leaf s5 1 = (s5, 2, 0) := by decide +kernel
theorem h6 : M.make s5 1 1 2 = (s6, 5, 0) := by decide +kernel
theorem w6 : Wf s6 := by have a := M.Wf.make w5 1 1 2; rw [h6] at a; exact a
theorem x4 : Ext s1 s4 := ⟨rfl, rfl, [leafB 0, leafB 1, askB 0 1 2], rfl⟩
theorem f7 : Fx (0 : Nat) true s6 4 s6 1 0 := by
  have := M.fxN_eq (k := 0) (v := true) (by decide) (s := s6) (id := 4) (s' := s6) (i := 1) (e := 0) w6 (by decide +kernel) (by decide +kernel)
  exact this
theorem asks : asksL s6 5 = [1] := by decide +kernel
theorem wb1 : s1.most ≤ 1073741824 := by decide
end Awake17
open Awake17 in
theorem Asks_one (hT : Tab wb) (H : Own wb (StoreC p s6 :: R) w) : FnC Tryd.prog 16 [ptr p, int 5] w (fun u w' => ∃ q cap, u = .slice q 1 cap ∧ Own wb (SlC q 1 cap 3 1 (ints [1]) :: StoreC p s6 :: R) w') := by
  have := Asks_ok w6 (by decide) (id := 5) (by decide +kernel) hT H
  rw [asks] at this
  exact this
open Awake17 in
set_option maxRecDepth 4000 in
set_option maxHeartbeats 1000000 in
theorem awake17_ok (hT : Tab wb) (H : Own wb R w) : FnC Tryd.prog 7 [] w (fun v w' => v = .bool true ∧ Own wb R w') := by
  have hm : (20 : Nat) ≤ 1073741824 := by decide
  refine FnC_of Tryd.func7 rfl rfl rfl rfl ?_
  refine W_seq ?_
  refine W_region ?_
  refine ops_v (v_assign (v := _) rfl rfl) ?_
  refine ops_nil ?_
  refine W_seq ?_
  refine W_region ?_
  refine ops_call rfl c19 (New_ok H 2 20 (by decide) (by decide) (by decide) (by decide)) ?_
  clear H; rintro _ w ⟨p, rfl, H⟩
  refine ops_v (v_assign (v := (.pointer _)) rfl rfl) ?_
  refine ops_nil ?_
  refine W_seq ?_
  refine W_region ?_
  refine ops_v (v_move (v := (.pointer _)) rfl rfl) ?_
  refine ops_call rfl c17 (FnC.at 0 rfl H (fun _ H => Leaf_ok (st := s0) hm h1 H)) ?_
  clear H; rintro _ w ⟨rfl, H⟩
  refine ops_v (v_move (v := (.tuple _)) rfl rfl) ?_
  refine ops_v (v_extract (v := (.int _ _)) rfl rfl rfl) ?_
  refine ops_v (v_extract (v := (.int _ _)) rfl rfl rfl) ?_
  refine ops_v (v_assign (v := (.int _ _)) rfl rfl) ?_
  refine ops_v (v_assign (v := (.int _ _)) rfl rfl) ?_
  refine ops_nil ?_
  refine W_seq ?_
  refine W_region ?_
  refine ops_v (v_move (v := (.pointer _)) rfl rfl) ?_
  refine ops_call rfl c10 (CNew_ok opF s1 H) ?_
  clear H; rintro _ w ⟨c, rfl, H⟩
  have H := H.swapL
  refine ops_v (v_move (v := (.int _ _)) rfl rfl) ?_
  refine ops_call rfl c12 (Gate_ok w1 (by decide +kernel) (by decide) (by decide) h2 h3 h4 w4 x4 (by decide) (by decide) (by decide +kernel) l5 H) ?_
  clear H; rintro _ w ⟨rfl, H⟩
  refine ops_v (v_move (v := (.tuple _)) rfl rfl) ?_
  refine ops_v (v_extract (v := (.int _ _)) rfl rfl rfl) ?_
  refine ops_v (v_extract (v := (.int _ _)) rfl rfl rfl) ?_
  refine ops_v (v_assign (v := (.int _ _)) rfl rfl) ?_
  refine ops_v (v_assign (v := (.int _ _)) rfl rfl) ?_
  refine ops_nil ?_
  refine W_seq ?_
  refine W_region ?_
  refine ops_v (v_move (v := (.pointer _)) rfl rfl) ?_
  refine ops_call rfl c11 (Fails_ok (by decide) (by decide) (by decide) h5a (by decide) h5b (by decide) h6 H) ?_
  clear H; rintro _ w ⟨rfl, H⟩
  refine ops_v (v_move (v := (.tuple _)) rfl rfl) ?_
  refine ops_v (v_extract (v := (.int _ _)) rfl rfl rfl) ?_
  refine ops_v (v_extract (v := (.int _ _)) rfl rfl rfl) ?_
  refine ops_v (v_assign (v := (.int _ _)) rfl rfl) ?_
  refine ops_v (v_assign (v := (.int _ _)) rfl rfl) ?_
  refine ops_nil ?_
  refine W_seq ?_
  refine W_region ?_
  refine ops_v (v_move (v := (.pointer _)) rfl rfl) ?_
  refine ops_v (v_move (v := (.int _ _)) rfl rfl) ?_
  refine ops_call rfl c13 (Fix_ok (o := none) (by decide) f7 w6 (by decide) (by decide +kernel) H) ?_
  clear H; rintro _ w ⟨rfl, H⟩
  refine ops_v (v_move (v := (.tuple _)) rfl rfl) ?_
  refine ops_v (v_extract (v := (.int _ _)) rfl rfl rfl) ?_
  refine ops_v (v_extract (v := (.int _ _)) rfl rfl rfl) ?_
  refine ops_v (v_assign (v := (.int _ _)) rfl rfl) ?_
  refine ops_v (v_assign (v := (.int _ _)) rfl rfl) ?_
  refine ops_nil ?_
  refine W_seq ?_
  refine W_region ?_
  refine ops_v (v_move (v := (.pointer _)) rfl rfl) ?_
  refine ops_call rfl c11 (Fails_bad (.inr (by decide)) H) ?_
  clear H; rintro _ w ⟨rfl, H⟩
  refine ops_v (v_move (v := (.tuple _)) rfl rfl) ?_
  refine ops_v (v_extract (v := (.int _ _)) rfl rfl rfl) ?_
  refine ops_v (v_extract (v := (.int _ _)) rfl rfl rfl) ?_
  refine ops_v (v_assign (v := (.int _ _)) rfl rfl) ?_
  refine ops_v (v_assign (v := (.int _ _)) rfl rfl) ?_
  refine ops_nil ?_
  refine W_seq ?_
  refine W_region ?_
  refine ops_v (v_move (v := (.pointer _)) rfl rfl) ?_
  refine ops_call rfl c12 (Gate_bad (o := none) (by decide +kernel) H) ?_
  clear H; rintro _ w ⟨rfl, H⟩
  refine ops_v (v_move (v := (.tuple _)) rfl rfl) ?_
  refine ops_v (v_extract (v := (.int _ _)) rfl rfl rfl) ?_
  refine ops_v (v_extract (v := (.int _ _)) rfl rfl rfl) ?_
  refine ops_v (v_assign (v := (.int _ _)) rfl rfl) ?_
  refine ops_v (v_assign (v := (.int _ _)) rfl rfl) ?_
  refine ops_nil ?_
  refine W_seq ?_
  refine W_region ?_
  refine ops_v (v_move (v := (.pointer _)) rfl rfl) ?_
  refine ops_v (v_move (v := (.int _ _)) rfl rfl) ?_
  refine ops_call rfl c16 (Asks_one hT H) ?_
  clear H; rintro _ w ⟨q, cap, rfl, H⟩
  obtain ⟨g, rfl⟩ := H.slSome 0 rfl (by decide)
  refine ops_v (v_assign (v := (.slice _ _ _)) rfl rfl) ?_
  refine ops_nil ?_
  refine W_seq ?_
  refine W_region ?_
  refine ops_v (v_move (v := (.int _ _)) rfl rfl) ?_
  refine ops_v (v_eql true rfl rfl rfl (decide_eq_true (by first | omega | (simp only; omega) | rfl | decide))) ?_
  refine ops_v (v_move (v := (.bool _)) rfl rfl) ?_
  refine ops_v (v_move (v := (.pointer _)) rfl rfl) ?_
  refine ops_v (v_move (v := (.int _ _)) rfl rfl) ?_
  refine ops_call rfl c14 (FnC.ro 1 rfl H (fun _ => EvalV w6 4 0 5 (by decide +kernel))) ?_
  clear H; rintro _ w ⟨rfl, H⟩
  refine ops_v (v_eql true rfl rfl rfl (decide_eq_true (by first | omega | (simp only; omega) | rfl | decide))) ?_
  refine ops_v (v_pick_t (v := (.bool _)) rfl rfl rfl) ?_
  refine ops_v (v_move (v := (.bool _)) rfl rfl) ?_
  refine ops_v (v_move (v := (.pointer _)) rfl rfl) ?_
  refine ops_v (v_move (v := (.int _ _)) rfl rfl) ?_
  refine ops_call rfl c14 (FnC.ro 1 rfl H (fun _ => EvalV w6 4 1 0 (by decide +kernel))) ?_
  clear H; rintro _ w ⟨rfl, H⟩
  refine ops_v (v_eql true rfl rfl rfl (decide_eq_true (by first | omega | (simp only; omega) | rfl | decide))) ?_
  refine ops_v (v_pick_t (v := (.bool _)) rfl rfl rfl) ?_
  refine ops_v (v_move (v := (.bool _)) rfl rfl) ?_
  refine ops_v (v_move (v := (.int _ _)) rfl rfl) ?_
  refine ops_v (v_eql true rfl rfl rfl (decide_eq_true (by first | omega | (simp only; omega) | rfl | decide))) ?_
  refine ops_v (v_pick_t (v := (.bool _)) rfl rfl rfl) ?_
  refine ops_v (v_move (v := (.bool _)) rfl rfl) ?_
  refine ops_v (v_move (v := (.pointer _)) rfl rfl) ?_
  refine ops_v (v_move (v := (.int _ _)) rfl rfl) ?_
  refine ops_call rfl c14 (FnC.ro 1 rfl H (fun _ => EvalV w6 5 2 1 (by decide +kernel))) ?_
  clear H; rintro _ w ⟨rfl, H⟩
  refine ops_v (v_eql true rfl rfl rfl (decide_eq_true (by first | omega | (simp only; omega) | rfl | decide))) ?_
  refine ops_v (v_pick_t (v := (.bool _)) rfl rfl rfl) ?_
  refine ops_v (v_move (v := (.bool _)) rfl rfl) ?_
  refine ops_v (v_move (v := (.pointer _)) rfl rfl) ?_
  refine ops_v (v_move (v := (.int _ _)) rfl rfl) ?_
  refine ops_call rfl c14 (FnC.ro 1 rfl H (fun _ => EvalV w6 5 1 0 (by decide +kernel))) ?_
  clear H; rintro _ w ⟨rfl, H⟩
  refine ops_v (v_eql true rfl rfl rfl (decide_eq_true (by first | omega | (simp only; omega) | rfl | decide))) ?_
  refine ops_v (v_pick_t (v := (.bool _)) rfl rfl rfl) ?_
  refine ops_v (v_move (v := (.bool _)) rfl rfl) ?_
  refine ops_v (v_move (v := (.int _ _)) rfl rfl) ?_
  refine ops_v (v_eql true rfl rfl rfl (decide_eq_true (by first | omega | (simp only; omega) | rfl | decide))) ?_
  refine ops_v (v_pick_t (v := (.bool _)) rfl rfl rfl) ?_
  refine ops_v (v_move (v := (.bool _)) rfl rfl) ?_
  refine ops_v (v_move (v := (.pointer _)) rfl rfl) ?_
  refine ops_v (v_move (v := (.int _ _)) rfl rfl) ?_
  refine ops_call rfl c14 (FnC.ro 1 rfl H (fun _ => EvalV w6 1 0 0 (by decide +kernel))) ?_
  clear H; rintro _ w ⟨rfl, H⟩
  refine ops_v (v_eql true rfl rfl rfl (decide_eq_true (by first | omega | (simp only; omega) | rfl | decide))) ?_
  refine ops_v (v_pick_t (v := (.bool _)) rfl rfl rfl) ?_
  refine ops_v (v_move (v := (.bool _)) rfl rfl) ?_
  refine ops_v (v_move (v := (.int _ _)) rfl rfl) ?_
  refine ops_v (v_eql true rfl rfl rfl (decide_eq_true (by first | omega | (simp only; omega) | rfl | decide))) ?_
  refine ops_v (v_pick_t (v := (.bool _)) rfl rfl rfl) ?_
  refine ops_v (v_move (v := (.bool _)) rfl rfl) ?_
  refine ops_v (v_move (v := (.int _ _)) rfl rfl) ?_
  refine ops_v (v_eql true rfl rfl rfl (decide_eq_true (by first | omega | (simp only; omega) | rfl | decide))) ?_
  refine ops_v (v_pick_t (v := (.bool _)) rfl rfl rfl) ?_
  refine ops_v (v_move (v := (.bool _)) rfl rfl) ?_
  refine ops_v (v_move (v := (.slice _ _ _)) rfl rfl) ?_
  refine ops_v (v_len rfl sl26 rfl) ?_
  refine ops_v (v_eql true rfl rfl rfl (decide_eq_true (by first | omega | (simp only; omega) | rfl | decide))) ?_
  refine ops_v (v_pick_t (v := (.bool _)) rfl rfl rfl) ?_
  refine ops_v (v_move (v := (.bool _)) rfl rfl) ?_
  refine ops_v (v_move (v := (.slice _ _ _)) rfl rfl) ?_
  refine ops_v (v_indexAddr_sl rfl se26 rfl rfl (by omega) (by omega)) ?_
  refine ops_loadSl (v := .int .i64 1) 0 H rfl tc3 rfl rfl rfl ?_
  refine ops_v (v_eql true rfl rfl rfl (decide_eq_true (by first | omega | (simp only; omega) | rfl | decide))) ?_
  refine ops_v (v_pick_t (v := (.bool _)) rfl rfl rfl) ?_
  refine ops_v (v_assign (v := (.bool _)) rfl rfl) ?_
  refine ops_nil ?_
  refine W_ret ?_
  refine ⟨_, (.tmp (v := (.bool _)) rfl .nil), ?_⟩
  exact ⟨rfl, H.tail.tail.tail⟩
  -- (backstaylaw17.awake: ret; chunks l,S,C; ptr )
end Go.Proofs.YtchikjmhncojfaaDoor.W
