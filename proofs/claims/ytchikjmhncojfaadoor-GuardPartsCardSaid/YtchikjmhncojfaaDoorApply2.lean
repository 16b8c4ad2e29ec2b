/- The walks of package apply: sides, link, done. Conditions: none. -/
import Derived.Test.YtchikjmhncojfaaDoorApply
set_option linter.unusedVariables false
namespace Go.Proofs.YtchikjmhncojfaaDoor.W
open Go Go.Proofs Go.RowKit
open Go.Proofs.YtchikjmhncojfaaDoor.M (Br St get getZ isN idx has down Wf rank i64 leafB askB Lifts lnk val sideOf linkOf Ext)

section
variable {wb w : World} {R : List Chunk} {F : Int → Int → Int → Int → Int} {st : St} {o : Option Nat} {p : Nat} {t : Int} {fv : Value}
/-- a key's cells, of which so many are turned already -/
def kc (t a b c a' b' c' : Int) : Nat → List Value
  | 0 => [int t, int a, int b, int c]
  | 1 => [int t, int a', int b, int c]
  | 2 => [int t, int a', int b', int c]
  | _ => [int t, int a', int b', int c']
theorem sides_ok {tk a b c : Int} (ia : isN st a = true) (ib : isN st b = true) (ic : isN st c = true) {lk : Int} (h16 : lk < 16) (v : Bool) (H : Own wb (StoreC p st :: R) w) :
    FnC Tryd.prog 43 [lifterV p o t fv, encK4 ⟨tk, a, b, c⟩, int lk, .bool v] w (fun u w' => u = encK4 ⟨tk, sideOf st a lk v, sideOf st b lk v, sideOf st c lk v⟩ ∧ Own wb (StoreC p st :: R) w') := by
  refine FnC_of Tryd.func43 rfl rfl rfl rfl ?_
  refine W_seq ?_
  refine W_region ?_
  refine ops_box (v := (.agg _)) (cs := [_, _, _, _]) H rfl rfl rfl ?_
  clear H; intro bn0 w H
  refine ops_box (v := (.agg _)) (cs := [_, _, _, _]) H rfl rfl rfl ?_
  clear H; intro bn1 w H
  refine ops_alloc H rfl tz76 ?_
  clear H; intro bn2 w H
  refine ops_nil ?_
  refine W_seq ?_
  refine W_seq ?_
  refine W_region ?_
  refine ops_v (v_sliceArr (l := 1) rfl ae76 rfl rfl (by decide) rfl rfl) ?_
  refine ops_v (v_len rfl sl26 rfl) ?_
  refine ops_v (v_move (v := _) rfl rfl) ?_
  refine ops_nil ?_
  refine W_block ?_
  -- ((apply.lifter).sides: loop; chunks n2,n1,n0,S; ptr 4=n0,5=n1,8=n2)
  generalize bn0 = bx at *
  generalize bn1 = bk at *
  generalize bn2 = bz at *
  refine W_loopS (fun (i : Nat) => [(2, int lk), (3, .bool v), (4, ptr bx), (5, ptr bk), (8, ptr bz), (11, .slice (some ⟨bk, 1, none⟩) 3 3), (12, int 3), (13, .int .i64 i)])
    (fun i w => Own wb (Blk bz [int 0, int 0, int 0, int 0] 76 :: Blk bk (kc tk a b c (sideOf st a lk v) (sideOf st b lk v) (sideOf st c lk v) i) 76 :: Blk bx (lifterC p o t fv) 74 :: StoreC p st :: R) w ∧ i ≤ 3)
    (fun i => 3 - i) 0 ⟨rfl, rfl, rfl, rfl, rfl, rfl, rfl, rfl, trivial⟩ ⟨H, by decide⟩ ?_
  clear H
  rintro i e w ⟨H, hi⟩
  obtain rfl | rfl | rfl | rfl : i = 0 ∨ i = 1 ∨ i = 2 ∨ i = 3 := by omega
  · refine W_seq ?_
    refine W_region ?_
    refine ops_v (v_lss true rfl rfl rfl (decide_eq_true (by first | omega | (simp only; omega) | rfl | decide))) ?_
    refine ops_nil ?_
    refine W_seq ?_
    refine W_if_t rfl ?_
    refine W_skip ?_
    refine W_seq ?_
    refine W_block ?_
    refine W_seq ?_
    refine W_region ?_
    refine ops_v (v_move (v := (.int _ _)) rfl rfl) ?_
    refine ops_v (v_indexAddr_sl rfl se26 rfl rfl (by omega) (by omega)) ?_
    refine ops_load (v := (.int _ _)) 1 H rfl tc3 rfl rfl rfl ?_
    refine ops_v (v_assign (v := (.int _ _)) rfl rfl) ?_
    refine ops_v (v_assign (v := (.int _ _)) rfl rfl) ?_
    refine ops_nil ?_
    refine W_region ?_
    refine ops_v (v_move (v := (.int _ _)) rfl rfl) ?_
    refine ops_v (v_add _ rfl rfl rfl (wrap_in (by omega) (by omega))) ?_
    refine ops_loadA (vs := [_, _, _, _]) 2 H rfl ta74 rfl rfl rfl rfl ?_
    refine ops_v (v_move (v := (.int _ _)) rfl rfl) ?_
    refine ops_v (v_move (v := (.int _ _)) rfl rfl) ?_
    refine ops_v (v_move (v := (.bool _)) rfl rfl) ?_
    refine ops_call rfl c48 (FnC.ro 3 rfl H (fun _ H => side_ok ia h16 v H)) ?_
    clear H; rintro _ w ⟨rfl, H⟩
    refine ops_v (v_indexAddr_arr (m := 1) rfl ae76 rfl rfl (by decide) rfl) ?_
    refine ops_store (vs := [_]) (v := (.int _ _)) (cs' := [_, _, _, _]) 1 H rfl ts3 rfl rfl rfl rfl rfl rfl rfl rfl ?_
    clear H; intro w H
    refine ops_nil ?_
    refine W_region ?_
    refine ops_v (v_add _ rfl rfl rfl (wrap_in (by omega) (by omega))) ?_
    refine ops_v (v_move (v := (.int _ _)) rfl rfl) ?_
    refine ops_nil ?_
    exact ⟨1, by decide, ⟨rfl, rfl, rfl, rfl, rfl, rfl, rfl, rfl, trivial⟩, H, by decide⟩
    -- ((apply.lifter).sides: loopend; chunks z,k,x,S; ptr 4=x,5=k,8=z,11=k,16=k,25=k)
  · refine W_seq ?_
    refine W_region ?_
    refine ops_v (v_lss true rfl rfl rfl (decide_eq_true (by first | omega | (simp only; omega) | rfl | decide))) ?_
    refine ops_nil ?_
    refine W_seq ?_
    refine W_if_t rfl ?_
    refine W_skip ?_
    refine W_seq ?_
    refine W_block ?_
    refine W_seq ?_
    refine W_region ?_
    refine ops_v (v_move (v := (.int _ _)) rfl rfl) ?_
    refine ops_v (v_indexAddr_sl rfl se26 rfl rfl (by omega) (by omega)) ?_
    refine ops_load (v := (.int _ _)) 1 H rfl tc3 rfl rfl rfl ?_
    refine ops_v (v_assign (v := (.int _ _)) rfl rfl) ?_
    refine ops_v (v_assign (v := (.int _ _)) rfl rfl) ?_
    refine ops_nil ?_
    refine W_region ?_
    refine ops_v (v_move (v := (.int _ _)) rfl rfl) ?_
    refine ops_v (v_add _ rfl rfl rfl (wrap_in (by omega) (by omega))) ?_
    refine ops_loadA (vs := [_, _, _, _]) 2 H rfl ta74 rfl rfl rfl rfl ?_
    refine ops_v (v_move (v := (.int _ _)) rfl rfl) ?_
    refine ops_v (v_move (v := (.int _ _)) rfl rfl) ?_
    refine ops_v (v_move (v := (.bool _)) rfl rfl) ?_
    refine ops_call rfl c48 (FnC.ro 3 rfl H (fun _ H => side_ok ib h16 v H)) ?_
    clear H; rintro _ w ⟨rfl, H⟩
    refine ops_v (v_indexAddr_arr (m := 2) rfl ae76 rfl rfl (by decide) rfl) ?_
    refine ops_store (vs := [_]) (v := (.int _ _)) (cs' := [_, _, _, _]) 1 H rfl ts3 rfl rfl rfl rfl rfl rfl rfl rfl ?_
    clear H; intro w H
    refine ops_nil ?_
    refine W_region ?_
    refine ops_v (v_add _ rfl rfl rfl (wrap_in (by omega) (by omega))) ?_
    refine ops_v (v_move (v := (.int _ _)) rfl rfl) ?_
    refine ops_nil ?_
    exact ⟨2, by decide, ⟨rfl, rfl, rfl, rfl, rfl, rfl, rfl, rfl, trivial⟩, H, by decide⟩
    -- ((apply.lifter).sides: loopend; chunks z,k,x,S; ptr 4=x,5=k,8=z,11=k,16=k,25=k)
  · refine W_seq ?_
    refine W_region ?_
    refine ops_v (v_lss true rfl rfl rfl (decide_eq_true (by first | omega | (simp only; omega) | rfl | decide))) ?_
    refine ops_nil ?_
    refine W_seq ?_
    refine W_if_t rfl ?_
    refine W_skip ?_
    refine W_seq ?_
    refine W_block ?_
    refine W_seq ?_
    refine W_region ?_
    refine ops_v (v_move (v := (.int _ _)) rfl rfl) ?_
    refine ops_v (v_indexAddr_sl rfl se26 rfl rfl (by omega) (by omega)) ?_
    refine ops_load (v := (.int _ _)) 1 H rfl tc3 rfl rfl rfl ?_
    refine ops_v (v_assign (v := (.int _ _)) rfl rfl) ?_
    refine ops_v (v_assign (v := (.int _ _)) rfl rfl) ?_
    refine ops_nil ?_
    refine W_region ?_
    refine ops_v (v_move (v := (.int _ _)) rfl rfl) ?_
    refine ops_v (v_add _ rfl rfl rfl (wrap_in (by omega) (by omega))) ?_
    refine ops_loadA (vs := [_, _, _, _]) 2 H rfl ta74 rfl rfl rfl rfl ?_
    refine ops_v (v_move (v := (.int _ _)) rfl rfl) ?_
    refine ops_v (v_move (v := (.int _ _)) rfl rfl) ?_
    refine ops_v (v_move (v := (.bool _)) rfl rfl) ?_
    refine ops_call rfl c48 (FnC.ro 3 rfl H (fun _ H => side_ok ic h16 v H)) ?_
    clear H; rintro _ w ⟨rfl, H⟩
    refine ops_v (v_indexAddr_arr (m := 3) rfl ae76 rfl rfl (by decide) rfl) ?_
    refine ops_store (vs := [_]) (v := (.int _ _)) (cs' := [_, _, _, _]) 1 H rfl ts3 rfl rfl rfl rfl rfl rfl rfl rfl ?_
    clear H; intro w H
    refine ops_nil ?_
    refine W_region ?_
    refine ops_v (v_add _ rfl rfl rfl (wrap_in (by omega) (by omega))) ?_
    refine ops_v (v_move (v := (.int _ _)) rfl rfl) ?_
    refine ops_nil ?_
    exact ⟨3, by decide, ⟨rfl, rfl, rfl, rfl, rfl, rfl, rfl, rfl, trivial⟩, H, by decide⟩
    -- ((apply.lifter).sides: loopend; chunks z,k,x,S; ptr 4=x,5=k,8=z,11=k,16=k,25=k)
  · refine W_seq ?_
    refine W_region ?_
    refine ops_v (v_lss false rfl rfl rfl (decide_eq_false (by first | omega | (simp only; omega) | rfl | decide))) ?_
    refine ops_nil ?_
    refine W_seq ?_
    refine W_if_f rfl ?_
    refine W_exit ?_
    refine W_seq ?_
    refine W_region ?_
    refine ops_loadA (vs := [_, _, _, _]) 1 H rfl ta76 rfl rfl rfl rfl ?_
    refine ops_store (vs := [_, _, _, _]) (v := (.agg _)) (cs' := [_, _, _, _]) 0 H rfl ts76 rfl rfl rfl rfl rfl rfl rfl rfl ?_
    clear H; intro w H
    refine ops_nil ?_
    refine W_ret ?_
    refine ⟨_, (.cell rfl (run_loadA (vs := [_, _, _, _]) ta76 (H.blk 0 rfl) rfl rfl) .nil), ?_⟩
    exact ⟨rfl, H.tail.tail.tail⟩
    -- ((apply.lifter).sides: ret; chunks z,k,x,S; ptr 4=x,5=k,8=z,11=k)

def lkAt (st : St) (a b c : Int) : Nat → Int
  | 0 => 16
  | 1 => lnk st a
  | 2 => min (lnk st a) (lnk st b)
  | _ => linkOf st a b c
def lc (x y z : Int) : Nat → List Value
  | 0 => [int 0, int 0, int 0]
  | 1 => [int x, int 0, int 0]
  | 2 => [int x, int y, int 0]
  | _ => [int x, int y, int z]
theorem link_ok (hw : Wf st) {tk a b c : Int} (ia : isN st a = true) (ib : isN st b = true) (ic : isN st c = true) (H : Own wb (StoreC p st :: R) w) :
    FnC Tryd.prog 41 [lifterV p o t fv, encK4 ⟨tk, a, b, c⟩] w
      (fun u w' => u = .tuple [.int .i64 (linkOf st a b c), .agg [int (val st a), int (val st b), int (val st c)].toArray, .bool (decide (linkOf st a b c < 16))].toArray ∧ Own wb (StoreC p st :: R) w') := by
  obtain ⟨⟨lfa, va, bla, bsa, bfa⟩, hga⟩ := M.isN_get ia
  obtain ⟨⟨lfb, vb, blb, bsb, bfb⟩, hgb⟩ := M.isN_get ib
  obtain ⟨⟨lfc, vc, blc, bsc, bfc⟩, hgc⟩ := M.isN_get ic
  have hva : val st a = va := by unfold val; rw [M.getZ_eq hga]
  have hvb : val st b = vb := by unfold val; rw [M.getZ_eq hgb]
  have hvc : val st c = vc := by unfold val; rw [M.getZ_eq hgc]
  have hla : lnk st a = if lfa then 16 else bla := by unfold lnk; rw [M.getZ_eq hga]
  have hlb : lnk st b = if lfb then 16 else blb := by unfold lnk; rw [M.getZ_eq hgb]
  have hlc : lnk st c = if lfc then 16 else blc := by unfold lnk; rw [M.getZ_eq hgc]
  have ra := (M.lnk_range hw ia).2.1
  have rb := (M.lnk_range hw ib).2.1
  have rc := (M.lnk_range hw ic).2.1
  rw [hva, hvb, hvc]
  refine FnC_of Tryd.func41 rfl rfl rfl rfl ?_
  refine W_seq ?_
  refine W_region ?_
  refine ops_box (v := (.agg _)) (cs := [_, _, _, _]) H rfl rfl rfl ?_
  clear H; intro bn0 w H
  refine ops_box (v := (.agg _)) (cs := [_, _, _, _]) H rfl rfl rfl ?_
  clear H; intro bn1 w H
  refine ops_v (v_assign (v := _) rfl rfl) ?_
  refine ops_alloc H rfl tz53 ?_
  clear H; intro bn2 w H
  refine ops_v (v_assign (v := _) rfl rfl) ?_
  refine ops_nil ?_
  refine W_seq ?_
  refine W_region ?_
  refine ops_v (v_assign (v := _) rfl rfl) ?_
  refine ops_nil ?_
  refine W_seq ?_
  refine W_seq ?_
  refine W_region ?_
  refine ops_v (v_sliceArr (l := 1) rfl ae76 rfl rfl (by decide) rfl rfl) ?_
  refine ops_v (v_len rfl sl26 rfl) ?_
  refine ops_v (v_move (v := _) rfl rfl) ?_
  refine ops_nil ?_
  refine W_block ?_
  -- ((apply.lifter).link: loop; chunks n2,n1,n0,S; ptr 2=n0,3=n1,5=n2)
  generalize bn0 = bx at *
  generalize bn1 = bk at *
  generalize bn2 = bz at *
  refine W_loopS (fun (s : Nat × Int) => [(2, ptr bx), (3, ptr bk), (4, .int .i64 s.2), (5, ptr bz), (6, .bool false), (11, .slice (some ⟨bk, 1, none⟩) 3 3), (12, int 3), (13, .int .i64 s.1)])
    (fun s w => Own wb (Blk bz (lc va vb vc s.1) 53 :: Blk bk (cellsK4 ⟨tk, a, b, c⟩) 76 :: Blk bx (lifterC p o t fv) 74 :: StoreC p st :: R) w ∧ s.1 ≤ 3 ∧ s.2 = lkAt st a b c s.1)
    (fun s => 3 - s.1) (0, 16) ⟨rfl, rfl, rfl, rfl, rfl, rfl, rfl, rfl, trivial⟩ ⟨H, by decide, rfl⟩ ?_
  clear H
  rintro ⟨i, l⟩ e w ⟨H, hi, hl⟩
  simp only at H hi hl ⊢
  obtain rfl | rfl | rfl | rfl : i = 0 ∨ i = 1 ∨ i = 2 ∨ i = 3 := by omega
  · cases lfa with
    | true =>
      have hV : nodeV ⟨true, va, bla, bsa, bfa⟩ true = .tuple [.agg [.bool true, .int .i64 va, .int .i64 bla, .int .i64 bsa, .int .i64 bfa].toArray, .bool true].toArray := rfl
      refine W_seq ?_
      refine W_region ?_
      refine ops_v (v_lss true rfl rfl rfl (decide_eq_true (by first | omega | (simp only; omega) | rfl | decide))) ?_
      refine ops_nil ?_
      refine W_seq ?_
      refine W_if_t rfl ?_
      refine W_skip ?_
      refine W_seq ?_
      refine W_block ?_
      refine W_seq ?_
      refine W_region ?_
      refine ops_v (v_move (v := (.int _ _)) rfl rfl) ?_
      refine ops_v (v_indexAddr_sl rfl se26 rfl rfl (by omega) (by omega)) ?_
      refine ops_load (v := (.int _ _)) 1 H rfl tc3 rfl rfl rfl ?_
      refine ops_v (v_assign (v := (.int _ _)) rfl rfl) ?_
      refine ops_v (v_assign (v := (.int _ _)) rfl rfl) ?_
      refine ops_nil ?_
      refine W_seq ?_
      refine W_region ?_
      refine ops_v (v_fieldAddr rfl fo74_0 rfl rfl) ?_
      refine ops_load (v := (.pointer _)) 2 H rfl tc25 rfl rfl rfl ?_
      refine ops_v (v_move (v := (.int _ _)) rfl rfl) ?_
      refine ops_call rfl c27 (FnC.ro 3 rfl H (fun _ H' => (by have := Node_ok hga H'; rw [hV] at this; exact this))) ?_
      clear H; rintro _ w ⟨rfl, H⟩
      refine ops_v (v_move (v := (.tuple _)) rfl rfl) ?_
      refine ops_v (v_extract (v := (.agg _)) rfl rfl rfl) ?_
      refine ops_v (v_extract (v := (.bool _)) rfl rfl rfl) ?_
      refine ops_alloc H rfl tz56 ?_
      clear H; intro bn0 w H
      refine ops_store (vs := [_, _, _, _, _]) (v := (.agg _)) (cs' := [_, _, _, _, _]) 0 H rfl ts56 rfl rfl rfl rfl rfl rfl rfl rfl ?_
      clear H; intro w H
      refine ops_v (v_assign (v := (.bool _)) rfl rfl) ?_
      refine ops_nil ?_
      refine W_seq ?_
      refine W_region ?_
      refine ops_v (v_move (v := (.int _ _)) rfl rfl) ?_
      refine ops_v (v_fieldAddr rfl fo56_1 rfl rfl) ?_
      refine ops_load (v := (.int _ _)) 0 H rfl tc3 rfl rfl rfl ?_
      refine ops_v (v_indexAddr_arr (m := 0) rfl ae53 rfl rfl (by decide) rfl) ?_
      refine ops_store (vs := [_]) (v := (.int _ _)) (cs' := [_, _, _]) 1 H rfl ts3 rfl rfl rfl rfl rfl rfl rfl rfl ?_
      clear H; intro w H
      refine ops_nil ?_
      refine W_seq ?_
      refine W_region ?_
      refine ops_v (v_fieldAddr rfl fo56_0 rfl rfl) ?_
      refine ops_load (v := (.bool _)) 0 H rfl tc4 rfl rfl rfl ?_
      refine ops_v (v_not rfl rfl _ rfl) ?_
      refine ops_nil ?_
      refine W_if_f rfl ?_
      refine W_skip ?_
      refine W_region ?_
      refine ops_v (v_add _ rfl rfl rfl (wrap_in (by omega) (by omega))) ?_
      refine ops_v (v_move (v := (.int _ _)) rfl rfl) ?_
      refine ops_nil ?_
      exact ⟨(1, l), Nat.le_of_ble_eq_true rfl, ⟨rfl, rfl, rfl, rfl, rfl, rfl, rfl, rfl, trivial⟩, H.tail, Nat.le_of_ble_eq_true rfl, (by simp only [lkAt] at hl ⊢; simp at hla; omega)⟩
      -- ((apply.lifter).link: loopend; chunks n0,z,k,x,S; ptr 2=x,3=k,5=z,11=k,16=k,19=x,9=n0,26=n0,28=z,29=n0)
    | false =>
      have hV : nodeV ⟨false, va, bla, bsa, bfa⟩ true = .tuple [.agg [.bool false, .int .i64 va, .int .i64 bla, .int .i64 bsa, .int .i64 bfa].toArray, .bool true].toArray := rfl
      refine W_seq ?_
      refine W_region ?_
      refine ops_v (v_lss true rfl rfl rfl (decide_eq_true (by first | omega | (simp only; omega) | rfl | decide))) ?_
      refine ops_nil ?_
      refine W_seq ?_
      refine W_if_t rfl ?_
      refine W_skip ?_
      refine W_seq ?_
      refine W_block ?_
      refine W_seq ?_
      refine W_region ?_
      refine ops_v (v_move (v := (.int _ _)) rfl rfl) ?_
      refine ops_v (v_indexAddr_sl rfl se26 rfl rfl (by omega) (by omega)) ?_
      refine ops_load (v := (.int _ _)) 1 H rfl tc3 rfl rfl rfl ?_
      refine ops_v (v_assign (v := (.int _ _)) rfl rfl) ?_
      refine ops_v (v_assign (v := (.int _ _)) rfl rfl) ?_
      refine ops_nil ?_
      refine W_seq ?_
      refine W_region ?_
      refine ops_v (v_fieldAddr rfl fo74_0 rfl rfl) ?_
      refine ops_load (v := (.pointer _)) 2 H rfl tc25 rfl rfl rfl ?_
      refine ops_v (v_move (v := (.int _ _)) rfl rfl) ?_
      refine ops_call rfl c27 (FnC.ro 3 rfl H (fun _ H' => (by have := Node_ok hga H'; rw [hV] at this; exact this))) ?_
      clear H; rintro _ w ⟨rfl, H⟩
      refine ops_v (v_move (v := (.tuple _)) rfl rfl) ?_
      refine ops_v (v_extract (v := (.agg _)) rfl rfl rfl) ?_
      refine ops_v (v_extract (v := (.bool _)) rfl rfl rfl) ?_
      refine ops_alloc H rfl tz56 ?_
      clear H; intro bn0 w H
      refine ops_store (vs := [_, _, _, _, _]) (v := (.agg _)) (cs' := [_, _, _, _, _]) 0 H rfl ts56 rfl rfl rfl rfl rfl rfl rfl rfl ?_
      clear H; intro w H
      refine ops_v (v_assign (v := (.bool _)) rfl rfl) ?_
      refine ops_nil ?_
      refine W_seq ?_
      refine W_region ?_
      refine ops_v (v_move (v := (.int _ _)) rfl rfl) ?_
      refine ops_v (v_fieldAddr rfl fo56_1 rfl rfl) ?_
      refine ops_load (v := (.int _ _)) 0 H rfl tc3 rfl rfl rfl ?_
      refine ops_v (v_indexAddr_arr (m := 0) rfl ae53 rfl rfl (by decide) rfl) ?_
      refine ops_store (vs := [_]) (v := (.int _ _)) (cs' := [_, _, _]) 1 H rfl ts3 rfl rfl rfl rfl rfl rfl rfl rfl ?_
      clear H; intro w H
      refine ops_nil ?_
      refine W_seq ?_
      refine W_region ?_
      refine ops_v (v_fieldAddr rfl fo56_0 rfl rfl) ?_
      refine ops_load (v := (.bool _)) 0 H rfl tc4 rfl rfl rfl ?_
      refine ops_v (v_not rfl rfl _ rfl) ?_
      refine ops_nil ?_
      refine W_if_t rfl ?_
      refine W_region ?_
      refine ops_v (v_move (v := (.int _ _)) rfl rfl) ?_
      refine ops_v (v_fieldAddr rfl fo56_2 rfl rfl) ?_
      refine ops_load (v := (.int _ _)) 0 H rfl tc3 rfl rfl rfl ?_
      refine ops_v (v_min rfl rfl rfl rfl) ?_
      refine ops_v (v_assign (v := (.int _ _)) rfl rfl) ?_
      refine ops_nil ?_
      refine W_region ?_
      refine ops_v (v_add _ rfl rfl rfl (wrap_in (by omega) (by omega))) ?_
      refine ops_v (v_move (v := (.int _ _)) rfl rfl) ?_
      refine ops_nil ?_
      exact ⟨(1, if bla < l then bla else l), Nat.le_of_ble_eq_true rfl, ⟨rfl, rfl, rfl, rfl, rfl, rfl, rfl, rfl, trivial⟩, H.tail, Nat.le_of_ble_eq_true rfl, (by simp only [lkAt] at hl ⊢; simp at hla; split <;> omega)⟩
      -- ((apply.lifter).link: loopend; chunks n0,z,k,x,S; ptr 2=x,3=k,5=z,11=k,16=k,19=x,9=n0,26=n0,28=z,29=n0,33=n0)
  · cases lfb with
    | true =>
      have hV : nodeV ⟨true, vb, blb, bsb, bfb⟩ true = .tuple [.agg [.bool true, .int .i64 vb, .int .i64 blb, .int .i64 bsb, .int .i64 bfb].toArray, .bool true].toArray := rfl
      refine W_seq ?_
      refine W_region ?_
      refine ops_v (v_lss true rfl rfl rfl (decide_eq_true (by first | omega | (simp only; omega) | rfl | decide))) ?_
      refine ops_nil ?_
      refine W_seq ?_
      refine W_if_t rfl ?_
      refine W_skip ?_
      refine W_seq ?_
      refine W_block ?_
      refine W_seq ?_
      refine W_region ?_
      refine ops_v (v_move (v := (.int _ _)) rfl rfl) ?_
      refine ops_v (v_indexAddr_sl rfl se26 rfl rfl (by omega) (by omega)) ?_
      refine ops_load (v := (.int _ _)) 1 H rfl tc3 rfl rfl rfl ?_
      refine ops_v (v_assign (v := (.int _ _)) rfl rfl) ?_
      refine ops_v (v_assign (v := (.int _ _)) rfl rfl) ?_
      refine ops_nil ?_
      refine W_seq ?_
      refine W_region ?_
      refine ops_v (v_fieldAddr rfl fo74_0 rfl rfl) ?_
      refine ops_load (v := (.pointer _)) 2 H rfl tc25 rfl rfl rfl ?_
      refine ops_v (v_move (v := (.int _ _)) rfl rfl) ?_
      refine ops_call rfl c27 (FnC.ro 3 rfl H (fun _ H' => (by have := Node_ok hgb H'; rw [hV] at this; exact this))) ?_
      clear H; rintro _ w ⟨rfl, H⟩
      refine ops_v (v_move (v := (.tuple _)) rfl rfl) ?_
      refine ops_v (v_extract (v := (.agg _)) rfl rfl rfl) ?_
      refine ops_v (v_extract (v := (.bool _)) rfl rfl rfl) ?_
      refine ops_alloc H rfl tz56 ?_
      clear H; intro bn0 w H
      refine ops_store (vs := [_, _, _, _, _]) (v := (.agg _)) (cs' := [_, _, _, _, _]) 0 H rfl ts56 rfl rfl rfl rfl rfl rfl rfl rfl ?_
      clear H; intro w H
      refine ops_v (v_assign (v := (.bool _)) rfl rfl) ?_
      refine ops_nil ?_
      refine W_seq ?_
      refine W_region ?_
      refine ops_v (v_move (v := (.int _ _)) rfl rfl) ?_
      refine ops_v (v_fieldAddr rfl fo56_1 rfl rfl) ?_
      refine ops_load (v := (.int _ _)) 0 H rfl tc3 rfl rfl rfl ?_
      refine ops_v (v_indexAddr_arr (m := 1) rfl ae53 rfl rfl (by decide) rfl) ?_
      refine ops_store (vs := [_]) (v := (.int _ _)) (cs' := [_, _, _]) 1 H rfl ts3 rfl rfl rfl rfl rfl rfl rfl rfl ?_
      clear H; intro w H
      refine ops_nil ?_
      refine W_seq ?_
      refine W_region ?_
      refine ops_v (v_fieldAddr rfl fo56_0 rfl rfl) ?_
      refine ops_load (v := (.bool _)) 0 H rfl tc4 rfl rfl rfl ?_
      refine ops_v (v_not rfl rfl _ rfl) ?_
      refine ops_nil ?_
      refine W_if_f rfl ?_
      refine W_skip ?_
      refine W_region ?_
      refine ops_v (v_add _ rfl rfl rfl (wrap_in (by omega) (by omega))) ?_
      refine ops_v (v_move (v := (.int _ _)) rfl rfl) ?_
      refine ops_nil ?_
      exact ⟨(2, l), Nat.le_of_ble_eq_true rfl, ⟨rfl, rfl, rfl, rfl, rfl, rfl, rfl, rfl, trivial⟩, H.tail, Nat.le_of_ble_eq_true rfl, (by simp only [lkAt] at hl ⊢; simp at hlb; omega)⟩
      -- ((apply.lifter).link: loopend; chunks n0,z,k,x,S; ptr 2=x,3=k,5=z,11=k,16=k,19=x,9=n0,26=n0,28=z,29=n0)
    | false =>
      have hV : nodeV ⟨false, vb, blb, bsb, bfb⟩ true = .tuple [.agg [.bool false, .int .i64 vb, .int .i64 blb, .int .i64 bsb, .int .i64 bfb].toArray, .bool true].toArray := rfl
      refine W_seq ?_
      refine W_region ?_
      refine ops_v (v_lss true rfl rfl rfl (decide_eq_true (by first | omega | (simp only; omega) | rfl | decide))) ?_
      refine ops_nil ?_
      refine W_seq ?_
      refine W_if_t rfl ?_
      refine W_skip ?_
      refine W_seq ?_
      refine W_block ?_
      refine W_seq ?_
      refine W_region ?_
      refine ops_v (v_move (v := (.int _ _)) rfl rfl) ?_
      refine ops_v (v_indexAddr_sl rfl se26 rfl rfl (by omega) (by omega)) ?_
      refine ops_load (v := (.int _ _)) 1 H rfl tc3 rfl rfl rfl ?_
      refine ops_v (v_assign (v := (.int _ _)) rfl rfl) ?_
      refine ops_v (v_assign (v := (.int _ _)) rfl rfl) ?_
      refine ops_nil ?_
      refine W_seq ?_
      refine W_region ?_
      refine ops_v (v_fieldAddr rfl fo74_0 rfl rfl) ?_
      refine ops_load (v := (.pointer _)) 2 H rfl tc25 rfl rfl rfl ?_
      refine ops_v (v_move (v := (.int _ _)) rfl rfl) ?_
      refine ops_call rfl c27 (FnC.ro 3 rfl H (fun _ H' => (by have := Node_ok hgb H'; rw [hV] at this; exact this))) ?_
      clear H; rintro _ w ⟨rfl, H⟩
      refine ops_v (v_move (v := (.tuple _)) rfl rfl) ?_
      refine ops_v (v_extract (v := (.agg _)) rfl rfl rfl) ?_
      refine ops_v (v_extract (v := (.bool _)) rfl rfl rfl) ?_
      refine ops_alloc H rfl tz56 ?_
      clear H; intro bn0 w H
      refine ops_store (vs := [_, _, _, _, _]) (v := (.agg _)) (cs' := [_, _, _, _, _]) 0 H rfl ts56 rfl rfl rfl rfl rfl rfl rfl rfl ?_
      clear H; intro w H
      refine ops_v (v_assign (v := (.bool _)) rfl rfl) ?_
      refine ops_nil ?_
      refine W_seq ?_
      refine W_region ?_
      refine ops_v (v_move (v := (.int _ _)) rfl rfl) ?_
      refine ops_v (v_fieldAddr rfl fo56_1 rfl rfl) ?_
      refine ops_load (v := (.int _ _)) 0 H rfl tc3 rfl rfl rfl ?_
      refine ops_v (v_indexAddr_arr (m := 1) rfl ae53 rfl rfl (by decide) rfl) ?_
      refine ops_store (vs := [_]) (v := (.int _ _)) (cs' := [_, _, _]) 1 H rfl ts3 rfl rfl rfl rfl rfl rfl rfl rfl ?_
      clear H; intro w H
      refine ops_nil ?_
      refine W_seq ?_
      refine W_region ?_
      refine ops_v (v_fieldAddr rfl fo56_0 rfl rfl) ?_
      refine ops_load (v := (.bool _)) 0 H rfl tc4 rfl rfl rfl ?_
      refine ops_v (v_not rfl rfl _ rfl) ?_
      refine ops_nil ?_
      refine W_if_t rfl ?_
      refine W_region ?_
      refine ops_v (v_move (v := (.int _ _)) rfl rfl) ?_
      refine ops_v (v_fieldAddr rfl fo56_2 rfl rfl) ?_
      refine ops_load (v := (.int _ _)) 0 H rfl tc3 rfl rfl rfl ?_
      refine ops_v (v_min rfl rfl rfl rfl) ?_
      refine ops_v (v_assign (v := (.int _ _)) rfl rfl) ?_
      refine ops_nil ?_
      refine W_region ?_
      refine ops_v (v_add _ rfl rfl rfl (wrap_in (by omega) (by omega))) ?_
      refine ops_v (v_move (v := (.int _ _)) rfl rfl) ?_
      refine ops_nil ?_
      exact ⟨(2, if blb < l then blb else l), Nat.le_of_ble_eq_true rfl, ⟨rfl, rfl, rfl, rfl, rfl, rfl, rfl, rfl, trivial⟩, H.tail, Nat.le_of_ble_eq_true rfl, (by simp only [lkAt] at hl ⊢; simp at hlb; split <;> omega)⟩
      -- ((apply.lifter).link: loopend; chunks n0,z,k,x,S; ptr 2=x,3=k,5=z,11=k,16=k,19=x,9=n0,26=n0,28=z,29=n0,33=n0)
  · cases lfc with
    | true =>
      have hV : nodeV ⟨true, vc, blc, bsc, bfc⟩ true = .tuple [.agg [.bool true, .int .i64 vc, .int .i64 blc, .int .i64 bsc, .int .i64 bfc].toArray, .bool true].toArray := rfl
      refine W_seq ?_
      refine W_region ?_
      refine ops_v (v_lss true rfl rfl rfl (decide_eq_true (by first | omega | (simp only; omega) | rfl | decide))) ?_
      refine ops_nil ?_
      refine W_seq ?_
      refine W_if_t rfl ?_
      refine W_skip ?_
      refine W_seq ?_
      refine W_block ?_
      refine W_seq ?_
      refine W_region ?_
      refine ops_v (v_move (v := (.int _ _)) rfl rfl) ?_
      refine ops_v (v_indexAddr_sl rfl se26 rfl rfl (by omega) (by omega)) ?_
      refine ops_load (v := (.int _ _)) 1 H rfl tc3 rfl rfl rfl ?_
      refine ops_v (v_assign (v := (.int _ _)) rfl rfl) ?_
      refine ops_v (v_assign (v := (.int _ _)) rfl rfl) ?_
      refine ops_nil ?_
      refine W_seq ?_
      refine W_region ?_
      refine ops_v (v_fieldAddr rfl fo74_0 rfl rfl) ?_
      refine ops_load (v := (.pointer _)) 2 H rfl tc25 rfl rfl rfl ?_
      refine ops_v (v_move (v := (.int _ _)) rfl rfl) ?_
      refine ops_call rfl c27 (FnC.ro 3 rfl H (fun _ H' => (by have := Node_ok hgc H'; rw [hV] at this; exact this))) ?_
      clear H; rintro _ w ⟨rfl, H⟩
      refine ops_v (v_move (v := (.tuple _)) rfl rfl) ?_
      refine ops_v (v_extract (v := (.agg _)) rfl rfl rfl) ?_
      refine ops_v (v_extract (v := (.bool _)) rfl rfl rfl) ?_
      refine ops_alloc H rfl tz56 ?_
      clear H; intro bn0 w H
      refine ops_store (vs := [_, _, _, _, _]) (v := (.agg _)) (cs' := [_, _, _, _, _]) 0 H rfl ts56 rfl rfl rfl rfl rfl rfl rfl rfl ?_
      clear H; intro w H
      refine ops_v (v_assign (v := (.bool _)) rfl rfl) ?_
      refine ops_nil ?_
      refine W_seq ?_
      refine W_region ?_
      refine ops_v (v_move (v := (.int _ _)) rfl rfl) ?_
      refine ops_v (v_fieldAddr rfl fo56_1 rfl rfl) ?_
      refine ops_load (v := (.int _ _)) 0 H rfl tc3 rfl rfl rfl ?_
      refine ops_v (v_indexAddr_arr (m := 2) rfl ae53 rfl rfl (by decide) rfl) ?_
      refine ops_store (vs := [_]) (v := (.int _ _)) (cs' := [_, _, _]) 1 H rfl ts3 rfl rfl rfl rfl rfl rfl rfl rfl ?_
      clear H; intro w H
      refine ops_nil ?_
      refine W_seq ?_
      refine W_region ?_
      refine ops_v (v_fieldAddr rfl fo56_0 rfl rfl) ?_
      refine ops_load (v := (.bool _)) 0 H rfl tc4 rfl rfl rfl ?_
      refine ops_v (v_not rfl rfl _ rfl) ?_
      refine ops_nil ?_
      refine W_if_f rfl ?_
      refine W_skip ?_
      refine W_region ?_
      refine ops_v (v_add _ rfl rfl rfl (wrap_in (by omega) (by omega))) ?_
      refine ops_v (v_move (v := (.int _ _)) rfl rfl) ?_
      refine ops_nil ?_
      exact ⟨(3, l), Nat.le_of_ble_eq_true rfl, ⟨rfl, rfl, rfl, rfl, rfl, rfl, rfl, rfl, trivial⟩, H.tail, Nat.le_of_ble_eq_true rfl, (by simp only [lkAt, linkOf] at hl ⊢; simp at hlc; omega)⟩
      -- ((apply.lifter).link: loopend; chunks n0,z,k,x,S; ptr 2=x,3=k,5=z,11=k,16=k,19=x,9=n0,26=n0,28=z,29=n0)
    | false =>
      have hV : nodeV ⟨false, vc, blc, bsc, bfc⟩ true = .tuple [.agg [.bool false, .int .i64 vc, .int .i64 blc, .int .i64 bsc, .int .i64 bfc].toArray, .bool true].toArray := rfl
      refine W_seq ?_
      refine W_region ?_
      refine ops_v (v_lss true rfl rfl rfl (decide_eq_true (by first | omega | (simp only; omega) | rfl | decide))) ?_
      refine ops_nil ?_
      refine W_seq ?_
      refine W_if_t rfl ?_
      refine W_skip ?_
      refine W_seq ?_
      refine W_block ?_
      refine W_seq ?_
      refine W_region ?_
      refine ops_v (v_move (v := (.int _ _)) rfl rfl) ?_
      refine ops_v (v_indexAddr_sl rfl se26 rfl rfl (by omega) (by omega)) ?_
      refine ops_load (v := (.int _ _)) 1 H rfl tc3 rfl rfl rfl ?_
      refine ops_v (v_assign (v := (.int _ _)) rfl rfl) ?_
      refine ops_v (v_assign (v := (.int _ _)) rfl rfl) ?_
      refine ops_nil ?_
      refine W_seq ?_
      refine W_region ?_
      refine ops_v (v_fieldAddr rfl fo74_0 rfl rfl) ?_
      refine ops_load (v := (.pointer _)) 2 H rfl tc25 rfl rfl rfl ?_
      refine ops_v (v_move (v := (.int _ _)) rfl rfl) ?_
      refine ops_call rfl c27 (FnC.ro 3 rfl H (fun _ H' => (by have := Node_ok hgc H'; rw [hV] at this; exact this))) ?_
      clear H; rintro _ w ⟨rfl, H⟩
      refine ops_v (v_move (v := (.tuple _)) rfl rfl) ?_
      refine ops_v (v_extract (v := (.agg _)) rfl rfl rfl) ?_
      refine ops_v (v_extract (v := (.bool _)) rfl rfl rfl) ?_
      refine ops_alloc H rfl tz56 ?_
      clear H; intro bn0 w H
      refine ops_store (vs := [_, _, _, _, _]) (v := (.agg _)) (cs' := [_, _, _, _, _]) 0 H rfl ts56 rfl rfl rfl rfl rfl rfl rfl rfl ?_
      clear H; intro w H
      refine ops_v (v_assign (v := (.bool _)) rfl rfl) ?_
      refine ops_nil ?_
      refine W_seq ?_
      refine W_region ?_
      refine ops_v (v_move (v := (.int _ _)) rfl rfl) ?_
      refine ops_v (v_fieldAddr rfl fo56_1 rfl rfl) ?_
      refine ops_load (v := (.int _ _)) 0 H rfl tc3 rfl rfl rfl ?_
      refine ops_v (v_indexAddr_arr (m := 2) rfl ae53 rfl rfl (by decide) rfl) ?_
      refine ops_store (vs := [_]) (v := (.int _ _)) (cs' := [_, _, _]) 1 H rfl ts3 rfl rfl rfl rfl rfl rfl rfl rfl ?_
      clear H; intro w H
      refine ops_nil ?_
      refine W_seq ?_
      refine W_region ?_
      refine ops_v (v_fieldAddr rfl fo56_0 rfl rfl) ?_
      refine ops_load (v := (.bool _)) 0 H rfl tc4 rfl rfl rfl ?_
      refine ops_v (v_not rfl rfl _ rfl) ?_
      refine ops_nil ?_
      refine W_if_t rfl ?_
      refine W_region ?_
      refine ops_v (v_move (v := (.int _ _)) rfl rfl) ?_
      refine ops_v (v_fieldAddr rfl fo56_2 rfl rfl) ?_
      refine ops_load (v := (.int _ _)) 0 H rfl tc3 rfl rfl rfl ?_
      refine ops_v (v_min rfl rfl rfl rfl) ?_
      refine ops_v (v_assign (v := (.int _ _)) rfl rfl) ?_
      refine ops_nil ?_
      refine W_region ?_
      refine ops_v (v_add _ rfl rfl rfl (wrap_in (by omega) (by omega))) ?_
      refine ops_v (v_move (v := (.int _ _)) rfl rfl) ?_
      refine ops_nil ?_
      exact ⟨(3, if blc < l then blc else l), Nat.le_of_ble_eq_true rfl, ⟨rfl, rfl, rfl, rfl, rfl, rfl, rfl, rfl, trivial⟩, H.tail, Nat.le_of_ble_eq_true rfl, (by simp only [lkAt, linkOf] at hl ⊢; simp at hlc; split <;> omega)⟩
      -- ((apply.lifter).link: loopend; chunks n0,z,k,x,S; ptr 2=x,3=k,5=z,11=k,16=k,19=x,9=n0,26=n0,28=z,29=n0,33=n0)
  · simp only [lkAt] at hl
    subst hl
    refine W_seq ?_
    refine W_region ?_
    refine ops_v (v_lss false rfl rfl rfl (decide_eq_false (by first | omega | (simp only; omega) | rfl | decide))) ?_
    refine ops_nil ?_
    refine W_seq ?_
    refine W_if_f rfl ?_
    refine W_exit ?_
    refine W_seq ?_
    refine W_draw (is := [0]) mixed H ?_
    clear H; intro w H
    refine any_take 0 rfl (by kernel_rfl) (by kernel_rfl) (by kernel_rfl) (v_move (v := (.int _ _)) rfl rfl) ?_
    refine any_take 1 rfl (by kernel_rfl) (by kernel_rfl) (by kernel_rfl) (v_loadA (vs := [_, _, _]) rfl ta53 (fun _ hS => hS.1 _ _ _ rfl) rfl rfl rfl) ?_
    refine any_take 2 rfl (by kernel_rfl) (by kernel_rfl) (by kernel_rfl) (v_move (v := (.int _ _)) rfl rfl) ?_
    refine any_take 3 rfl (by kernel_rfl) (by kernel_rfl) (by kernel_rfl) (v_lss _ rfl rfl rfl rfl) ?_
    refine any_take 4 rfl (by kernel_rfl) (by kernel_rfl) (by kernel_rfl) (v_assign (v := (.int _ _)) rfl rfl) ?_
    refine any_one 5 rfl (by kernel_rfl) ?_
    refine ops_store (vs := [_, _, _]) (v := (.agg _)) (cs' := [_, _, _]) 0 H rfl ts53 rfl rfl rfl rfl rfl rfl rfl rfl ?_
    clear H; intro w H
    refine ops_nil ⟨H.stab [(0, 0)] ⟨rfl, trivial⟩, ?_⟩
    refine any_take 6 rfl (by kernel_rfl) (by kernel_rfl) (by kernel_rfl) (v_assign (v := (.bool _)) rfl rfl) ?_
    refine any_done (by kernel_rfl) ?_
    refine W_ret ?_
    refine ⟨_, (.tmp (v := (.int _ _)) rfl (.cell rfl (run_loadA (vs := [_, _, _]) ta53 (H.blk 0 rfl) rfl rfl) (.tmp (v := (.bool _)) rfl .nil))), ?_⟩
    exact ⟨rfl, H.tail.tail.tail⟩
    -- ((apply.lifter).link: ret; chunks z,k,x,S; ptr 2=x,3=k,5=z,11=k)

theorem done1_ok {k : K4} {n e : Int} {bx bk : Nat} (hh : e = 0 → Hit F st k n) (H : Own wb (CacheX F o st :: Blk bk (cellsK4 k) 76 :: Blk bx (lifterC p o t fv) 74 :: R) w) :
    FnC Tryd.prog 46 [int n, int e, ptr bx, ptr bk] w (fun u w' => u = pairV n e ∧ Own wb (CacheX F o st :: Blk bk (cellsK4 k) 76 :: Blk bx (lifterC p o t fv) 74 :: R) w') := by
  by_cases he : e = 0
  · refine FnC_of Tryd.func46 rfl rfl rfl rfl ?_
    refine W_seq ?_
    refine W_region ?_
    refine ops_v (v_assign (v := _) rfl rfl) ?_
    refine ops_v (v_assign (v := _) rfl rfl) ?_
    refine ops_nil ?_
    refine W_seq ?_
    refine W_seq ?_
    refine W_region ?_
    refine ops_v (v_move (v := (.int _ _)) rfl rfl) ?_
    refine ops_v (v_eql true rfl rfl rfl (decide_eq_true (by first | omega | (simp only; omega) | rfl | decide))) ?_
    refine ops_nil ?_
    refine W_if_t rfl ?_
    refine W_region ?_
    refine ops_v (v_fieldAddr rfl fo74_1 rfl rfl) ?_
    refine ops_load (v := (.pointer _)) 2 H rfl tc29 rfl rfl rfl ?_
    refine ops_loadA (vs := [_, _, _, _]) 1 H rfl ta76 rfl rfl rfl rfl ?_
    refine ops_v (v_move (v := (.int _ _)) rfl rfl) ?_
    refine ops_call rfl c47 (FnC.ro 0 rfl H (fun _ H => keep_ok k n (hh he) H)) ?_
    clear H; rintro _ w ⟨rfl, H⟩
    refine ops_nil ?_
    refine W_seq ?_
    refine W_region ?_
    refine ops_v (v_move (v := (.int _ _)) rfl rfl) ?_
    refine ops_v (v_move (v := (.int _ _)) rfl rfl) ?_
    refine ops_v (v_assign (v := (.int _ _)) rfl rfl) ?_
    refine ops_v (v_assign (v := (.int _ _)) rfl rfl) ?_
    refine ops_nil ?_
    refine W_ret ?_
    refine ⟨_, (.tmp (v := (.int _ _)) rfl (.tmp (v := (.int _ _)) rfl .nil)), ?_⟩
    exact ⟨rfl, H⟩
    -- ((apply.lifter).done$1: ret; chunks C,k,x; ptr 2=x,3=k,10=x)
  · refine FnC_of Tryd.func46 rfl rfl rfl rfl ?_
    refine W_seq ?_
    refine W_region ?_
    refine ops_v (v_assign (v := _) rfl rfl) ?_
    refine ops_v (v_assign (v := _) rfl rfl) ?_
    refine ops_nil ?_
    refine W_seq ?_
    refine W_seq ?_
    refine W_region ?_
    refine ops_v (v_move (v := (.int _ _)) rfl rfl) ?_
    refine ops_v (v_eql false rfl rfl rfl (decide_eq_false (by first | omega | (simp only; omega) | rfl | decide))) ?_
    refine ops_nil ?_
    refine W_if_f rfl ?_
    refine W_skip ?_
    refine W_seq ?_
    refine W_region ?_
    refine ops_v (v_move (v := (.int _ _)) rfl rfl) ?_
    refine ops_v (v_move (v := (.int _ _)) rfl rfl) ?_
    refine ops_v (v_assign (v := (.int _ _)) rfl rfl) ?_
    refine ops_v (v_assign (v := (.int _ _)) rfl rfl) ?_
    refine ops_nil ?_
    refine W_ret ?_
    refine ⟨_, (.tmp (v := (.int _ _)) rfl (.tmp (v := (.int _ _)) rfl .nil)), ?_⟩
    exact ⟨rfl, H⟩
    -- ((apply.lifter).done$1: ret; chunks C,k,x; ptr 2=x,3=k)
theorem done_ok {k : K4} (H : Own wb R w) :
    FnC Tryd.prog 42 [lifterV p o t fv, encK4 k] w (fun u w' => ∃ bx bk, u = .func (.func 46) ([] : List Value).toArray [ptr bx, ptr bk].toArray ∧ Own wb (Blk bk (cellsK4 k) 76 :: Blk bx (lifterC p o t fv) 74 :: R) w') := by
  refine FnC_of Tryd.func42 rfl rfl rfl rfl ?_
  refine W_seq ?_
  refine W_region ?_
  refine ops_box (v := (.agg _)) (cs := [_, _, _, _]) H rfl rfl rfl ?_
  clear H; intro bn0 w H
  refine ops_box (v := (.agg _)) (cs := [_, _, _, _]) H rfl rfl rfl ?_
  clear H; intro bn1 w H
  refine ops_v (v_assign (v := _) rfl rfl) ?_
  refine ops_nil ?_
  refine W_seq ?_
  refine W_region ?_
  refine ops_v (v_makeFunc rfl) ?_
  refine ops_v (v_assign (v := _) rfl rfl) ?_
  refine ops_nil ?_
  refine W_ret ?_
  refine ⟨_, (.tmp (v := _) rfl .nil), ?_⟩
  exact ⟨_, _, rfl, H⟩
  -- ((apply.lifter).done: ret; chunks n1,n0; ptr 2=n0,3=n1)
end
end Go.Proofs.YtchikjmhncojfaaDoor.W
