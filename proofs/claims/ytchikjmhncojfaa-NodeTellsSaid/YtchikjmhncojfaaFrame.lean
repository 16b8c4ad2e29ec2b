/- What a law's row hands to its walk, and what it wants back. Conditions: none. -/
import Derived.Test.YtchikjmhncojfaaFacts
import Derived.ProofKit
import Derived.OpenShut
import Derived.ChangeOld
import Derived.Below
import Derived.Deep.Slices
namespace Go.Proofs.Ytchikjmhncojfaa.M
structure R4 where
  a : Int
  b : Int
  c : Int
  d : Int
def i64 (n : Int) : Prop := -9223372036854775808 ≤ n ∧ n ≤ 9223372036854775807
def R4.ok (r : R4) : Prop := i64 r.a ∧ i64 r.b ∧ i64 r.c ∧ i64 r.d
end Go.Proofs.Ytchikjmhncojfaa.M
namespace Go.Proofs.Ytchikjmhncojfaa.W
open Go Go.Proofs Go.RowKit Go.ChangeShapes Go.WideShapes Go.ChangeAt
open Go.Proofs.Ytchikjmhncojfaa.M (R4 i64)

theorem Base.below {w w' : World} (h : Base w w') : Below w.heap.size w w' := ⟨h.os, h.tape, h.output, h.size, h.keep⟩
theorem Base.cell {wb w : World} (h : Base wb w) {a : Addr} {v : Value} (hc : wb.cell? a = some v) : w.cell? a = some v := by
  rw [World.cell?_of_block (h.keep a.block (World.block_lt_of_cell? wb a hc))]; exact hc

def cells4 (r : R4) : List Value := [.int .i64 r.a, .int .i64 r.b, .int .i64 r.c, .int .i64 r.d]
/-- a [][4]int that came in -/
def RawIs (w : World) (v : Value) (l : List R4) : Prop :=
  ∃ p cap, v = .slice p l.length cap ∧ l.length ≤ maxLen ∧ ∀ (i : Nat) (r : R4), l[i]? = some r → (∃ b o, p = some ⟨b, o, none⟩ ∧ ∀ (j : Nat) (u : Value), (cells4 r)[j]? = some u → w.cell? ⟨b, o + (i * 4 + j), none⟩ = some u) ∧ r.ok
/-- a []int that came in -/
def IntsAre (w : World) (v : Value) (l : List Int) : Prop :=
  ∃ p cap, v = .slice p l.length cap ∧ l.length ≤ maxLen ∧ ∀ (i : Nat) (n : Int), l[i]? = some n → (∃ b o, p = some ⟨b, o, none⟩ ∧ w.cell? ⟨b, o + i, none⟩ = some (.int .i64 n)) ∧ i64 n
theorem RawIs.base {wb w : World} {v : Value} {l : List R4} (h : RawIs wb v l) (hb : Base wb w) : RawIs w v l := by
  obtain ⟨p, cap, hv, hm, hl⟩ := h
  refine ⟨p, cap, hv, hm, fun i r hi => ?_⟩
  obtain ⟨⟨b, o, hp, hc⟩, hr⟩ := hl i r hi
  exact ⟨⟨b, o, hp, fun j u hu => hb.cell (hc j u hu)⟩, hr⟩
theorem IntsAre.base {wb w : World} {v : Value} {l : List Int} (h : IntsAre wb v l) (hb : Base wb w) : IntsAre w v l := by
  obtain ⟨p, cap, hv, hm, hl⟩ := h
  refine ⟨p, cap, hv, hm, fun i r hi => ?_⟩
  obtain ⟨⟨b, o, hp, hc⟩, hr⟩ := hl i r hi
  exact ⟨⟨b, o, hp, hb.cell hc⟩, hr⟩

variable {H : Type} {enc : TypeId × Value → H} {w : World} {spare : Nat → Bool} {held : Bool}
theorem int_of_trod {fuel : Nat} {cs : List Value} {x : DataW H × List MemPlace} (h : DataW.trod enc Try.prog w 0 spare held fuel 3 cs = some x) : ∃ n, cs = [.int .i64 n] ∧ i64 n := by
  obtain ⟨n, hc, _, hw⟩ := DataW.trod_int Try.underlying3 h
  exact ⟨n, hc, bounds_i64 hw⟩
theorem cells?_each {w : World} {base : Nat} {a : Addr} {n : Nat} {cs : List Value} (h : w.cells? base a n = some cs) : cs.length = n ∧ ∀ (j : Nat) (u : Value), cs[j]? = some u → w.cell? (a.add j) = some u := by
  have := World.cells?_some h
  unfold World.cells? at h
  split at h
  · have hl := mapM_some_length h
    refine ⟨by simpa using hl, fun j u hu => ?_⟩
    have hlt : j < n := by
      have := (List.getElem?_eq_some_iff.1 hu).1
      simp at hl; omega
    have := mapM_some_get h j j (by simp [hlt])
    rw [this, hu]
  · cases h
theorem len4 {α : Type} {l : List α} (h : l.length = 4) : ∃ a b c d, l = [a, b, c, d] := by
  match l, h with
  | [a, b, c, d], _ => exact ⟨a, b, c, d, rfl⟩
theorem arr4_of_trod {fuel : Nat} {cs : List Value} {x : DataW H × List MemPlace} (h : DataW.trod enc Try.prog w 0 spare held fuel 39 cs = some x) : ∃ r : R4, cs = cells4 r ∧ r.ok := by
  obtain ⟨xs, m, _, _, hl, _, hel⟩ := DataW.trod_array Try.underlying39 h
  have hc1 : Try.prog.cellsOf 3 = 1 := by kernel_rfl
  have hc4 : Try.prog.cellsOf 39 = 4 := by kernel_rfl
  rw [hc4] at hl
  have one : ∀ i, i < 4 → ∃ n, (cs.drop i).take 1 = [.int .i64 n] ∧ i64 n := by
    intro i hi
    have := hel i hi
    rw [hc1, Nat.mul_one] at this
    have hx : i < xs.length := by omega
    rw [List.getElem?_eq_getElem hx] at this
    exact int_of_trod this
  obtain ⟨n0, e0, w0⟩ := one 0 (by decide)
  obtain ⟨n1, e1, w1⟩ := one 1 (by decide)
  obtain ⟨n2, e2, w2⟩ := one 2 (by decide)
  obtain ⟨n3, e3, w3⟩ := one 3 (by decide)
  clear hel one
  obtain ⟨c0, c1, c2, c3, rfl⟩ := len4 hl
  simp at e0 e1 e2 e3
  exact ⟨⟨n0, n1, n2, n3⟩, by simp [cells4, e0, e1, e2, e3], w0, w1, w2, w3⟩

theorem spot_none {w : World} {a : Addr} {v : Value} (h : w.cell? a = some v) : a.spot = none := World.cell?_spot h
theorem raw_of_trod {v : Value} {d : DataW H} {ps : List MemPlace} (h : DataW.Trod enc Try.prog w 0 spare held 22 v d ps) (hv : ∃ a len cap, v = .slice a len cap) : ∃ l, RawIs w v l := by
  obtain ⟨a, len, cap, rfl⟩ := hv
  obtain ⟨fuel, hf⟩ := h
  have hc4 : Try.prog.cellsOf 39 = 4 := by kernel_rfl
  rcases Deep.open_slice Try.underlying22 hf with ⟨hcs, _⟩ | ⟨x, l, c, m, n, D, Pl, hcs, _, hl, hm, hmm, _, hel⟩
  · simp [Value.cells] at hcs
    obtain ⟨rfl, rfl, rfl⟩ := hcs
    exact ⟨[], none, 0, rfl, by simp, by simp⟩
  · simp [Value.cells] at hcs
    obtain ⟨rfl, rfl, rfl⟩ := hcs
    have hlm : len ≤ m := by rw [hmm]; split <;> omega
    rw [hc4] at hel
    have each : ∀ i, i < len → ∃ r : R4, r.ok ∧ ∀ (j : Nat) (u : Value), (cells4 r)[j]? = some u → w.cell? ((x.add (i * 4)).add j) = some u := by
      intro i hi
      obtain ⟨cs', h1, h2⟩ := hel i (by omega)
      obtain ⟨r, hr, hok⟩ := arr4_of_trod h2
      refine ⟨r, hok, fun j u hu => ?_⟩
      rw [← hr] at hu
      exact (cells?_each h1).2 j u hu
    have inst : Inhabited R4 := ⟨⟨0, 0, 0, 0⟩⟩
    obtain ⟨f, hfm⟩ := Deep.choose_lt each
    refine ⟨(List.range len).map f, some x, cap, by simp, by simp; omega, fun i r hi => ?_⟩
    have hlt : i < len := by have := (List.getElem?_eq_some_iff.1 hi).1; simpa using this
    simp [hlt] at hi
    subst hi
    obtain ⟨hok, hc⟩ := hfm i hlt
    refine ⟨?_, hok⟩
    obtain ⟨b, o, sp⟩ := x
    have h0 := hc 0 (.int .i64 (f i).a) rfl
    have hsp : sp = none := by
      have hfirst := (hfm 0 (by omega)).2 0 (.int .i64 (f 0).a) rfl
      simpa [Addr.add] using spot_none hfirst
    subst hsp
    refine ⟨b, o, rfl, fun j u hu => ?_⟩
    have := hc j u hu
    rw [addr_add, addr_add] at this
    rw [← Nat.add_assoc]
    exact this
theorem ints_of_trod {v : Value} {d : DataW H} {ps : List MemPlace} (h : DataW.Trod enc Try.prog w 0 spare held 40 v d ps) (hv : ∃ a len cap, v = .slice a len cap) : ∃ l, IntsAre w v l := by
  obtain ⟨a, len, cap, rfl⟩ := hv
  obtain ⟨fuel, hf⟩ := h
  have hc1 : Try.prog.cellsOf 3 = 1 := by kernel_rfl
  rcases Deep.open_slice Try.underlying40 hf with ⟨hcs, _⟩ | ⟨x, l, c, m, n, D, Pl, hcs, _, hl, hm, hmm, _, hel⟩
  · simp [Value.cells] at hcs
    obtain ⟨rfl, rfl, rfl⟩ := hcs
    exact ⟨[], none, 0, rfl, by simp, by simp⟩
  · simp [Value.cells] at hcs
    obtain ⟨rfl, rfl, rfl⟩ := hcs
    have hlm : len ≤ m := by rw [hmm]; split <;> omega
    rw [hc1] at hel
    have each : ∀ i, i < len → ∃ n : Int, i64 n ∧ w.cell? (x.add i) = some (.int .i64 n) := by
      intro i hi
      obtain ⟨cs', h1, h2⟩ := hel i (by omega)
      obtain ⟨n, hr, hok⟩ := int_of_trod h2
      refine ⟨n, hok, ?_⟩
      have := (cells?_each h1).2 0 (.int .i64 n) (by rw [hr]; rfl)
      rw [Nat.mul_one] at this
      simpa [Addr.add] using this
    obtain ⟨f, hfm⟩ := Deep.choose_lt each
    refine ⟨(List.range len).map f, some x, cap, by simp, by simp; omega, fun i r hi => ?_⟩
    have hlt : i < len := by have := (List.getElem?_eq_some_iff.1 hi).1; simpa using this
    simp [hlt] at hi
    subst hi
    obtain ⟨hok, hc⟩ := hfm i hlt
    refine ⟨?_, hok⟩
    obtain ⟨b, o, sp⟩ := x
    have hsp : sp = none := by
      have hfirst := (hfm 0 (by omega)).2
      simpa [Addr.add] using spot_none hfirst
    subst hsp
    refine ⟨b, o, rfl, ?_⟩
    rw [addr_add] at hc
    exact hc
set_option maxRecDepth 100000 in
theorem arrv_of_trod {v : Value} {d : DataW H} {ps : List MemPlace} {base : Nat} (h : DataW.Trod enc Try.prog w 0 spare held 39 v d ps) (hv : Value.okWide Try.prog w .any base 39 v) : ∃ r : R4, v = .agg (cells4 r).toArray ∧ r.ok := by
  unfold Value.okWide at hv
  simp only [Try.underlying39] at hv
  obtain ⟨cs, rfl, _, _⟩ := hv
  obtain ⟨fuel, hf⟩ := h
  obtain ⟨r, hr, hok⟩ := arr4_of_trod hf
  refine ⟨r, ?_, hok⟩
  simp only [Value.cells] at hr
  rw [← hr]
theorem laidOut : laidOutB Try.prog = true := by kernel_rfl
theorem knob : ownKnob Try.prog.godebug = none := by kernel_rfl
end Go.Proofs.Ytchikjmhncojfaa.W
