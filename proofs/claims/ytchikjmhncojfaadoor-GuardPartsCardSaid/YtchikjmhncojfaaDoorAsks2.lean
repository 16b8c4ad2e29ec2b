/- The walk of guard.Asks. Conditions: none. -/
import Derived.Test.YtchikjmhncojfaaDoorAsksM
set_option linter.unusedVariables false
namespace Go.Proofs.YtchikjmhncojfaaDoor.W
open Go Go.Proofs Go.RowKit
open Go.Proofs.YtchikjmhncojfaaDoor.M (Br St get getZ isN idx has down Wf rank i64 leafB askB lnk Sk)
/-- the links on which a node hangs, as guard.Asks lists them -/
def asksL (s : St) (id : Int) : List Int := bitsI (M.maskOf s (M.skN s 17 [] id))
theorem Asks_ok {wb w : World} {R : List Chunk} {p : Nat} {s : St} {id : Int} (hw : Wf s) (h6 : s.links ≤ 6) (hid : isN s id = true) (hT : Tab wb) (H : Own wb (StoreC p s :: R) w) :
    FnC Tryd.prog 16 [ptr p, int id] w (fun u w' => ∃ q cap, u = .slice q (asksL s id).length cap ∧ Own wb (SlC q (asksL s id).length cap 3 1 (ints (asksL s id)) :: StoreC p s :: R) w') := by
  have h : Sk s [] id (M.skN s 17 [] id) := M.skN_sk hw 17 hid (by have := M.lnk_range hw hid; omega)
  have hm := (M.asks_law hw h6 hid h).1
  unfold asksL
  generalize M.skN s 17 [] id = sn at h hm ⊢
  refine FnC_of Tryd.func16 rfl rfl rfl rfl ?_
  refine W_seq ?_
  refine W_region ?_
  refine ops_box (v := (.pointer _)) (cs := [_]) H rfl rfl rfl ?_
  clear H; intro bn0 w H
  refine ops_v (v_assign (v := _) rfl rfl) ?_
  refine ops_nil ?_
  refine W_seq ?_
  refine W_region ?_
  refine ops_alloc H rfl tz3 ?_
  clear H; intro bn1 w H
  refine ops_store (vs := [_]) (v := (.int _ _)) (cs' := [_]) 0 H rfl ts3 rfl rfl rfl rfl rfl rfl rfl rfl ?_
  clear H; intro w H
  refine ops_nil ?_
  refine W_seq ?_
  refine W_region ?_
  refine ops_makeMap H encI rfl ?_
  clear H; intro m w H
  refine ops_alloc H rfl tz62 ?_
  clear H; intro bn2 w H
  refine ops_store (vs := [_]) (v := (.map _)) (cs' := [_]) 0 H rfl ts62 rfl rfl rfl rfl rfl rfl rfl rfl ?_
  clear H; intro w H
  refine ops_nil ?_
  refine W_seq ?_
  refine W_region ?_
  refine ops_alloc H rfl tz63 ?_
  clear H; intro bn3 w H
  refine ops_nil ?_
  refine W_seq ?_
  refine W_region ?_
  refine ops_v (v_makeFunc rfl) ?_
  refine ops_store (vs := [_]) (v := _) (cs' := [_]) 0 H rfl ts63 rfl rfl rfl rfl rfl rfl rfl rfl ?_
  clear H; intro w H
  refine ops_nil ?_
  refine W_seq ?_
  have H := (((((H.front 2 rfl).front 5 rfl).front 2 rfl).front 4 rfl).front 4 rfl).front 5 rfl
  refine W_region ?_
  refine ops_load (v := _) 3 H rfl tc63 rfl rfl rfl ?_
  refine ops_v (v_move (v := (.int _ _)) rfl rfl) ?_
  refine ops_callV (first := []) rfl rfl c31 (ask1_ok hw h hid (by show (0 : Nat) < 2 ^ 16; decide) H) ?_
  clear H; rintro _ w ⟨⟨rfl, hF⟩, H⟩
  refine ops_nil ?_
  refine W_seq ?_
  refine W_region ?_
  refine ops_load (v := (.int _ _)) 2 H rfl tc3 rfl rfl rfl ?_
  refine ops_call rfl c32 (List_ok hm hT H) ?_
  clear H; rintro _ w ⟨q, cap, rfl, H⟩
  refine ops_v (v_assign (v := (.slice _ _ _)) rfl rfl) ?_
  refine ops_nil ?_
  refine W_ret ?_
  refine ⟨_, (.tmp (v := (.slice _ _ _)) rfl .nil), ?_⟩
  exact ⟨q, cap, rfl, ((((H.swapL.tail).swapL.tail).swapL.tail).swapL.tail.front 2 rfl).tail⟩
  -- (guard.Asks: ret; chunks c1,c2,c3,c4,S,m; ptr 2=n0,5=c3,6=n2,7=c4)
theorem asksL_eq {s : St} (hw : Wf s) (h6 : s.links ≤ 6) {id : Int} (hid : isN s id = true) (g : Nat → Bool) (hg : ∀ j, j < s.links → (g j = true ↔ M.Hang s id j)) :
    asksL s id = ((List.range s.links).filter g).map fun x : Nat => (x : Int) := by
  have h : Sk s [] id (M.skN s 17 [] id) := M.skN_sk hw 17 hid (by have := M.lnk_range hw hid; omega)
  have hm := (M.asks_law hw h6 hid h).2
  unfold asksL bitsI V.bitsL
  congr 1
  obtain ⟨d, hd⟩ : ∃ d, 6 = s.links + d := ⟨6 - s.links, by omega⟩
  rw [hd, List.range_add, List.filter_append]
  have e1 : ((List.range s.links).filter fun l => (M.maskOf s (M.skN s 17 [] id)).testBit l) = (List.range s.links).filter g := by
    refine List.filter_congr fun x hx => ?_
    have hx' := List.mem_range.1 hx
    have := hm x
    rw [Bool.eq_iff_iff, this, hg x hx']
    exact ⟨fun h => h.2, fun h => ⟨hx', h⟩⟩
  have e2 : (((List.range d).map (s.links + ·)).filter fun l => (M.maskOf s (M.skN s 17 [] id)).testBit l) = [] := by
    refine List.filter_eq_nil_iff.2 fun x hx => ?_
    obtain ⟨y, _, rfl⟩ := List.mem_map.1 hx
    intro hb
    have := ((hm _).1 hb).1
    omega
  rw [e1, e2, List.append_nil]
end Go.Proofs.YtchikjmhncojfaaDoor.W
