/- Memory for the walking library: separate chunks; the operations that read and write them; code, loops, calls and returns. Conditions: none; over whatever program. -/
import Derived.Test.YtchikjmhncojfaaDoorLib
import Derived.Below
namespace Go.Proofs.YtchikjmhncojfaaDoor.W
open Go Go.RowKit

/-! ### Chunks -/
structure Chunk where
  holds : List Nat → World → Prop
  loc : ∀ {D : List Nat} {w w' : World}, (∀ b ∈ D, w'.heap[b]? = w.heap[b]?) → holds D w → holds D w'

def Blk (b : Nat) (cs : List Value) (t : TypeId) : Chunk where
  holds D w := D = [b] ∧ w.heap[b]? = some (.cells cs.toArray t (0, 0))
  loc h := fun ⟨hD, hb⟩ => ⟨hD, by subst hD; rw [h b (by simp)]; exact hb⟩

def ObjC (b : Nat) (o : Obj) : Chunk where
  holds D w := D = [b] ∧ w.heap[b]? = some o
  loc h := fun ⟨hD, hb⟩ => ⟨hD, by subst hD; rw [h b (by simp)]; exact hb⟩

/-- Some chunk of a family. -/
def ExC {α : Type} (f : α → Chunk) : Chunk where
  holds D w := ∃ x, (f x).holds D w
  loc h := fun ⟨x, hx⟩ => ⟨x, (f x).loc h hx⟩
/-- A fact that names no world. -/
def PureC (p : Prop) : Chunk where
  holds D _ := D = [] ∧ p
  loc _ := fun h => h
def Sep (A B : Chunk) : Chunk where
  holds D w := ∃ D1 D2, D = D1 ++ D2 ∧ A.holds D1 w ∧ B.holds D2 w
  loc h := fun ⟨D1, D2, hD, hA, hB⟩ => ⟨D1, D2, hD, A.loc (fun b hb => h b (by subst hD; simp [hb])) hA, B.loc (fun b hb => h b (by subst hD; simp [hb])) hB⟩

def Sat : List Chunk → List Nat → World → Prop
  | [], D, _ => D = []
  | C :: L, D, w => ∃ D1 D2, D = D1 ++ D2 ∧ C.holds D1 w ∧ Sat L D2 w

structure Base (wb w : World) : Prop where
  os : w.os = wb.os
  tape : w.tape = wb.tape
  output : w.output = wb.output
  size : wb.heap.size ≤ w.heap.size
  keep : ∀ b, b < wb.heap.size → w.heap[b]? = wb.heap[b]?
theorem Base.refl (w : World) : Base w w := ⟨rfl, rfl, rfl, Nat.le_refl _, fun _ _ => rfl⟩

def Own (wb : World) (L : List Chunk) (w : World) : Prop :=
  Base wb w ∧ ∃ D : List Nat, D.Nodup ∧ (∀ b ∈ D, wb.heap.size ≤ b ∧ b < w.heap.size) ∧ Sat L D w

theorem Sat.loc {w w' : World} : ∀ {L : List Chunk} {D : List Nat}, (∀ b ∈ D, w'.heap[b]? = w.heap[b]?) → Sat L D w → Sat L D w'
  | [], _, _, h => h
  | C :: L, D, h, ⟨D1, D2, hD, hC, hL⟩ => ⟨D1, D2, hD, C.loc (fun b hb => h b (by subst hD; simp [hb])) hC, Sat.loc (fun b hb => h b (by subst hD; simp [hb])) hL⟩

theorem Sat.perm {w : World} {L L' : List Chunk} (hp : L.Perm L') : ∀ {D : List Nat}, Sat L D w → ∃ D', D.Perm D' ∧ Sat L' D' w := by
  induction hp with
  | nil => exact fun {D} h => ⟨D, .refl _, h⟩
  | cons C _ ih =>
    rintro D ⟨D1, D2, rfl, hC, hL⟩
    obtain ⟨D', hp, hL'⟩ := ih hL
    exact ⟨D1 ++ D', hp.append_left D1, D1, D', rfl, hC, hL'⟩
  | swap A B L =>
    rintro D ⟨D1, D2, rfl, hB, D3, D4, rfl, hA, hL⟩
    refine ⟨D3 ++ (D1 ++ D4), ?_, D3, D1 ++ D4, rfl, hA, D1, D4, rfl, hB, hL⟩
    rw [← List.append_assoc, ← List.append_assoc]
    exact List.perm_append_comm.append_right D4
  | trans _ _ ih1 ih2 =>
    intro D h
    obtain ⟨D1, p1, h1⟩ := ih1 h
    obtain ⟨D2, p2, h2⟩ := ih2 h1
    exact ⟨D2, p1.trans p2, h2⟩

theorem Own.perm {wb w : World} {L L' : List Chunk} (h : Own wb L w) (hp : L.Perm L') : Own wb L' w := by
  obtain ⟨hb, D, hn, hr, hs⟩ := h
  obtain ⟨D', p, hs'⟩ := hs.perm hp
  exact ⟨hb, D', p.nodup_iff.1 hn, fun b hbm => hr b (p.mem_iff.2 hbm), hs'⟩

theorem Own.base {wb w : World} {L : List Chunk} (h : Own wb L w) : Base wb w := h.1
theorem Own.nil {wb w : World} (h : Base wb w) : Own wb [] w := ⟨h, [], List.nodup_nil, by simp, rfl⟩
theorem Own.start (w : World) : Own w [] w := Own.nil (Base.refl w)
theorem Own.tail {wb w : World} {C : Chunk} {L : List Chunk} (h : Own wb (C :: L) w) : Own wb L w := by
  obtain ⟨hb, D, hn, hr, D1, D2, rfl, _, hs⟩ := h
  exact ⟨hb, D2, (List.nodup_append.1 hn).2.1, fun b h => hr b (by simp [h]), hs⟩

/-- THE ONE LAW OF CHANGE: what is done to the first chunk alone, and to new blocks. -/
theorem Own.change {wb w w' : World} {C C' : Chunk} {L : List Chunk} (h : Own wb (C :: L) w)
    (hch : ∀ D, C.holds D w → (∀ b ∈ D, b < w.heap.size) → D.Nodup →
      (w'.os = w.os ∧ w'.tape = w.tape ∧ w'.output = w.output ∧ w.heap.size ≤ w'.heap.size) ∧
      (∀ b, b < w.heap.size → b ∉ D → w'.heap[b]? = w.heap[b]?) ∧
      ∃ D', C'.holds D' w' ∧ D'.Nodup ∧ ∀ b ∈ D', (b ∈ D ∨ w.heap.size ≤ b) ∧ b < w'.heap.size) :
    Own wb (C' :: L) w' := by
  obtain ⟨hb, D, hn, hr, D1, D2, rfl, hC, hs⟩ := h
  obtain ⟨n1, n2, n3⟩ := List.nodup_append.1 hn
  obtain ⟨⟨o1, o2, o3, o4⟩, hk, D', hC', hn', hr'⟩ := hch D1 hC (fun b h => (hr b (by simp [h])).2) n1
  have old2 : ∀ b ∈ D2, w'.heap[b]? = w.heap[b]? := fun b h => hk b (hr b (by simp [h])).2 (fun h1 => n3 b h1 b h rfl)
  refine ⟨⟨o1.trans hb.os, o2.trans hb.tape, o3.trans hb.output, Nat.le_trans hb.size o4, fun b h => ?_⟩, D' ++ D2, ?_, ?_, D', D2, rfl, hC', hs.loc old2⟩
  · rw [hk b (Nat.lt_of_lt_of_le h hb.size) (fun h1 => by have := (hr b (by simp [h1])).1; omega)]
    exact hb.keep b h
  · refine List.nodup_append.2 ⟨hn', n2, ?_⟩
    rintro a ha b hb' rfl
    rcases (hr' a ha).1 with h1 | h1
    · exact n3 a h1 a hb' rfl
    · have := (hr a (by simp [hb'])).2; omega
  · intro b h
    rcases List.mem_append.1 h with h | h
    · rcases (hr' b h).1 with h1 | h1
      · exact ⟨(hr b (by simp [h1])).1, (hr' b h).2⟩
      · exact ⟨by have := hb.size; omega, (hr' b h).2⟩
    · exact ⟨(hr b (by simp [h])).1, Nat.lt_of_lt_of_le (hr b (by simp [h])).2 o4⟩

/-- A chunk as another chunk over the same blocks. -/
theorem Own.imp {wb w : World} {C C' : Chunk} {L : List Chunk} (h : Own wb (C :: L) w) (hi : ∀ D, C.holds D w → C'.holds D w) : Own wb (C' :: L) w :=
  h.change fun D hC hlt hn => ⟨⟨rfl, rfl, rfl, Nat.le_refl _⟩, fun _ _ _ => rfl, D, hi D hC, hn, fun b hb => ⟨.inl hb, hlt b hb⟩⟩
theorem Own.ex {α : Type} {wb w : World} {f : α → Chunk} {L : List Chunk} (h : Own wb (ExC f :: L) w) : ∃ x, Own wb (f x :: L) w := by
  obtain ⟨hb, D, hn, hr, D1, D2, hD, ⟨x, hx⟩, hs⟩ := h
  exact ⟨x, hb, D, hn, hr, D1, D2, hD, hx, hs⟩
theorem Own.toEx {α : Type} {wb w : World} {f : α → Chunk} {L : List Chunk} (x : α) (h : Own wb (f x :: L) w) : Own wb (ExC f :: L) w := h.imp fun _ hx => ⟨x, hx⟩
theorem Own.sep {wb w : World} {A B : Chunk} {L : List Chunk} (h : Own wb (Sep A B :: L) w) : Own wb (A :: B :: L) w := by
  obtain ⟨hb, D, hn, hr, D1, D2, rfl, ⟨E1, E2, rfl, hA, hB⟩, hs⟩ := h
  exact ⟨hb, _, hn, hr, E1, E2 ++ D2, by simp, hA, E2, D2, rfl, hB, hs⟩
theorem Own.toSep {wb w : World} {A B : Chunk} {L : List Chunk} (h : Own wb (A :: B :: L) w) : Own wb (Sep A B :: L) w := by
  obtain ⟨hb, D, hn, hr, D1, D2, rfl, hA, E1, E2, rfl, hB, hs⟩ := h
  exact ⟨hb, _, hn, hr, D1 ++ E1, E2, by simp, ⟨D1, E1, rfl, hA, hB⟩, hs⟩
theorem Own.pure {wb w : World} {p : Prop} {L : List Chunk} (h : Own wb (PureC p :: L) w) : p ∧ Own wb L w := by
  have ht := h.tail
  obtain ⟨hb, D, hn, hr, D1, D2, hD, ⟨_, hp⟩, hs⟩ := h
  exact ⟨hp, ht⟩
theorem Own.toPure {wb w : World} {p : Prop} {L : List Chunk} (hp : p) (h : Own wb L w) : Own wb (PureC p :: L) w := by
  obtain ⟨hb, D, hn, hr, hs⟩ := h
  exact ⟨hb, D, hn, hr, [], D, rfl, ⟨rfl, hp⟩, hs⟩

theorem erase_perm {α : Type} : ∀ (L : List α) (i : Nat) (x : α), L[i]? = some x → (x :: L.eraseIdx i).Perm L
  | [], i, x, h => by simp at h
  | y :: L, 0, x, h => by simp at h; subst h; simp
  | y :: L, i + 1, x, h => by
    simp only [List.getElem?_cons_succ] at h
    simp only [List.eraseIdx_cons_succ]
    exact (List.Perm.swap y x _).trans ((erase_perm L i x h).cons y)
/-- To the front. -/
theorem Own.front {wb w : World} {L : List Chunk} {C : Chunk} (h : Own wb L w) (i : Nat) (hi : L[i]? = some C) : Own wb (C :: L.eraseIdx i) w := by
  exact h.perm (erase_perm L i C hi).symm
theorem Own.back {wb w : World} {L : List Chunk} {C C' : Chunk} (i : Nat) (hi : L[i]? = some C) (h : Own wb (C' :: L.eraseIdx i) w) : Own wb (L.set i C') w := by
  have hlt := (List.getElem?_eq_some_iff.1 hi).1
  have := erase_perm (L.set i C') i C' (by simp [hlt])
  rw [List.eraseIdx_set_eq] at this
  exact h.perm this
theorem Own.drop {wb w : World} {L : List Chunk} (h : Own wb L w) (i : Nat) : Own wb (L.eraseIdx i) w := by
  cases hi : L[i]? with
  | none => rw [List.eraseIdx_of_length_le (by simpa using hi)]; exact h
  | some C => exact (h.front i hi).tail
theorem Own.blkHead {wb w : World} {b : Nat} {cs : List Value} {t : TypeId} {L : List Chunk} (h : Own wb (Blk b cs t :: L) w) : w.heap[b]? = some (.cells cs.toArray t (0, 0)) := by
  obtain ⟨_, D, _, _, D1, D2, _, ⟨_, hb⟩, _⟩ := h
  exact hb
theorem Own.objHead {wb w : World} {b : Nat} {o : Obj} {L : List Chunk} (h : Own wb (ObjC b o :: L) w) : w.heap[b]? = some o := by
  obtain ⟨_, D, _, _, D1, D2, _, ⟨_, hb⟩, _⟩ := h
  exact hb
theorem Own.blk {wb w : World} {L : List Chunk} (h : Own wb L w) (i : Nat) {b : Nat} {cs : List Value} {t : TypeId} (hi : L[i]? = some (Blk b cs t)) : w.heap[b]? = some (.cells cs.toArray t (0, 0)) := (h.front i hi).blkHead
theorem Own.obj {wb w : World} {L : List Chunk} (h : Own wb L w) (i : Nat) {b : Nat} {o : Obj} (hi : L[i]? = some (ObjC b o)) : w.heap[b]? = some o := (h.front i hi).objHead

theorem Own.drew {wb w : World} {L : List Chunk} (h : Own wb L w) : Own wb L w.drew := by
  obtain ⟨hb, D, hn, hr, hs⟩ := h
  exact ⟨⟨hb.os, hb.tape, hb.output, hb.size, hb.keep⟩, D, hn, hr, Sat.loc (w := w) (fun _ _ => rfl) hs⟩

theorem Own.consNew {wb w : World} {L : List Chunk} (h : Own wb L w) (o : Obj) : Own wb (ObjC w.heap.size o :: L) (w.alloc o) := by
  have h0 : Own wb (PureC True :: L) w := h.toPure trivial
  refine h0.change fun D hC hlt hn => ⟨⟨rfl, rfl, rfl, by simp⟩, fun b hb _ => Below.heap_alloc w o b hb, [w.heap.size], ⟨rfl, heap_alloc_new w o⟩, by simp, ?_⟩
  intro b hb
  simp at hb
  subst hb
  exact ⟨.inr (Nat.le_refl _), by simp⟩
theorem Own.newBlk {wb w : World} {L : List Chunk} (h : Own wb L w) (cs : List Value) (t : TypeId) : Own wb (Blk w.heap.size cs t :: L) (w.alloc (.cells cs.toArray t)) :=
  (h.consNew (.cells cs.toArray t)).imp (C' := Blk w.heap.size cs t) (fun _ hx => hx)

/-- A block known whole is set anew. -/
theorem Own.setBlkHead {wb w : World} {b : Nat} {cs cs' : List Value} {t : TypeId} {L : List Chunk} (h : Own wb (Blk b cs t :: L) w) : Own wb (Blk b cs' t :: L) (w.setRow b cs'.toArray) := by
  refine h.change fun D hC hlt hn => ?_
  obtain ⟨rfl, hb⟩ := hC
  refine ⟨⟨rfl, rfl, rfl, by simp [World.setRow]⟩, fun b' _ hne => setRow_other w b b' _ (fun e => hne (by simp [e])), [b], ⟨rfl, setRow_heap w b _ _ t _ hb⟩, by simp, fun x hx => ?_⟩
  simp at hx
  subst hx
  have := hlt x (by simp)
  exact ⟨.inl (by simp), by simpa [World.setRow] using this⟩
theorem Own.setBlk {wb w : World} {L : List Chunk} (h : Own wb L w) (i : Nat) {b : Nat} {cs cs' : List Value} {t : TypeId} (hi : L[i]? = some (Blk b cs t)) : Own wb (L.set i (Blk b cs' t)) (w.setRow b cs'.toArray) :=
  Own.back i hi (h.front i hi).setBlkHead
def setObjW (w : World) (b : Nat) (o : Obj) : World := { w with heap := w.heap.setIfInBounds b o }
theorem Own.setObjHead {wb w : World} {b : Nat} {o o' : Obj} {L : List Chunk} (h : Own wb (ObjC b o :: L) w) : Own wb (ObjC b o' :: L) (setObjW w b o') := by
  refine h.change fun D hC hlt hn => ?_
  obtain ⟨rfl, hb⟩ := hC
  have hlb := hlt b (by simp)
  refine ⟨⟨rfl, rfl, rfl, by simp [setObjW]⟩, fun b' _ hne => ?_, [b], ⟨rfl, by simp [setObjW, hlb]⟩, by simp, fun x hx => ?_⟩
  · have : b ≠ b' := fun e => hne (by simp [e])
    simp [setObjW, Array.getElem?_setIfInBounds_ne this]
  · simp at hx
    subst hx
    exact ⟨.inl (by simp), by simpa [setObjW] using hlb⟩

/-! ### Reading and writing -/
def aggSize (P : Program) (t : TypeId) : Option Nat :=
  match P.underlying t with
  | some (.struct _) | some (.array _ _) => match P.info? t with | some i => some i.size | none => none
  | _ => none
def isCell (P : Program) (t : TypeId) : Bool :=
  match P.underlying t with
  | some (.struct _) | some (.array _ _) => false
  | some _ => match P.info? t with | some i => i.size == 1 | none => false
  | none => false
def sizeT (P : Program) (t : TypeId) : Option Nat := match P.info? t with | some i => some i.size | none => none
def zeroT (P : Program) (t : TypeId) : Option (List Value) := match P.info? t with | some i => (match i.zero with | some z => some z.cells.toList | none => none) | none => none

theorem cell_of {w : World} {b o : Nat} {cs : List Value} {t : TypeId} {v : Value} (h : w.heap[b]? = some (.cells cs.toArray t (0, 0))) (hv : cs[o]? = some v) : w.cell? ⟨b, o, none⟩ = some v := by
  simp [World.cell?, h, hv]

theorem run_isAgg_false {P : Program} {t : TypeId} (h : isCell P t = true) (w : World) : (isAgg t).run P w = .ok false w := by
  unfold isCell at h
  cases hu : P.underlying t with
  | none => simp [hu] at h
  | some d => cases d <;> simp [hu] at h <;> simp [isAgg, run_underlying hu]
theorem run_isAgg_true {P : Program} {t : TypeId} {m : Nat} (h : aggSize P t = some m) (w : World) : (isAgg t).run P w = .ok true w := by
  unfold aggSize at h
  cases hu : P.underlying t with
  | none => simp [hu] at h
  | some d => cases d <;> simp [hu] at h <;> simp [isAgg, run_underlying hu]
theorem run_sizeOf {P : Program} {t : TypeId} {m : Nat} (h : sizeT P t = some m) (w : World) : (sizeOf t).run P w = .ok m w := by
  unfold sizeT at h
  cases hu : P.info? t with
  | none => simp [hu] at h
  | some i => simp [hu] at h; subst h; simp [sizeOf, typeInfo, hu]
theorem sizeT_of_agg {P : Program} {t : TypeId} {m : Nat} (h : aggSize P t = some m) : sizeT P t = some m := by
  unfold aggSize at h
  cases hu : P.underlying t with
  | none => simp [hu] at h
  | some d =>
    cases d <;> simp [hu] at h <;> (cases hi : P.info? t with
      | none => simp [hi] at h
      | some i => simp [hi] at h; simp [sizeT, hi, h])
theorem run_zeroValue {P : Program} {t : TypeId} {cs : List Value} (h : zeroT P t = some cs) (w : World) : ∃ z, (zeroValue t).run P w = .ok z w ∧ z.cells.toList = cs := by
  unfold zeroT at h
  cases hu : P.info? t with
  | none => simp [hu] at h
  | some i =>
    simp only [hu] at h
    cases hz : i.zero with
    | none => simp [hz] at h
    | some z => simp [hz] at h; exact ⟨z, by simp [zeroValue, typeInfo, hu, hz], h⟩

theorem run_load1 {P : Program} {t tt : TypeId} {w : World} {b o : Nat} {cs : List Value} {v : Value} (ht : isCell P t = true) (h : w.heap[b]? = some (.cells cs.toArray tt (0, 0))) (hv : cs[o]? = some v) :
    (loadVar t ⟨b, o, none⟩).run P w = .ok v w := by
  simp [loadVar, run_isAgg_false ht, cell_of h hv]
theorem run_loadA {P : Program} {t tt : TypeId} {w : World} {b o m : Nat} {cs vs : List Value} (ht : aggSize P t = some m) (h : w.heap[b]? = some (.cells cs.toArray tt (0, 0))) (hv : (cs.drop o).take m = vs) (hl : vs.length = m) :
    (loadVar t ⟨b, o, none⟩).run P w = .ok (.agg vs.toArray) w := by
  have hc : ∀ j v, vs[j]? = some v → w.cell? ((⟨b, o, none⟩ : Addr).add j) = some v := fun j v hj => by
    rw [addr_add]
    refine cell_of h ?_
    rw [← hv, List.getElem?_take] at hj
    split at hj
    · simpa [List.getElem?_drop] using hj
    · cases hj
  have := run_loadCells_list (P := P) w ⟨b, o, none⟩ vs hc
  rw [hl] at this
  simp [loadVar, run_isAgg_true ht, run_sizeOf (sizeT_of_agg ht), this]

theorem run_newVar {P : Program} (t : TypeId) (v : Value) (w : World) : (newVar t v).run P w = .ok ⟨w.heap.size, 0, none⟩ (w.alloc (.cells v.cells t)) := rfl
section
variable {P : Program} {n : Nat} {ops : List Oper} {K : Env → World → Prop} {rest : List Oper} {e : Env} {w wb : World} {L : List Chunk}
variable {S : World → Prop} {d : Nat} {ty : TypeId} {g : Option (Nat × Bool)} {x y : Operand} {ps : String} {af : Array Edge}

theorem v_load {t tt : TypeId} {b o : Nat} {cs : List Value} {v : Value} (hp : pre n d ops e g = true) (ht : isCell P t = true) (hS : ∀ w, S w → w.heap[b]? = some (.cells cs.toArray tt (0, 0)))
    (hx : ev e x = .pointer (some ⟨b, o, none⟩)) (hv : cs[o]? = some v) : OpVal P n ops S e d (.load t x) ty g v :=
  ⟨hp, fun _ _ a ha w hs => by simp [execOp, ha.eval, hx, Instr.loadAt, Instr.sureAddr, run_load1 ht (hS w hs) hv]⟩
theorem v_loadA {t tt : TypeId} {b o m : Nat} {cs vs : List Value} (hp : pre n d ops e g = true) (ht : aggSize P t = some m) (hS : ∀ w, S w → w.heap[b]? = some (.cells cs.toArray tt (0, 0)))
    (hx : ev e x = .pointer (some ⟨b, o, none⟩)) (hv : (cs.drop o).take m = vs) (hl : vs.length = m) : OpVal P n ops S e d (.load t x) ty g (.agg vs.toArray) :=
  ⟨hp, fun _ _ a ha w hs => by simp [execOp, ha.eval, hx, Instr.loadAt, Instr.sureAddr, run_loadA ht (hS w hs) hv hl]⟩

/-- a load of one cell out of an owned block -/
theorem ops_load {t tt : TypeId} {b o : Nat} {cs : List Value} {v : Value} (i : Nat) (H : Own wb L w) (hp : pre n d ops e g = true) (ht : isCell P t = true)
    (hx : ev e x = .pointer (some ⟨b, o, none⟩)) (hi : L[i]? = some (Blk b cs tt)) (hv : cs[o]? = some v) (h : opsW P n ops K rest (upd e d v) w) :
    opsW P n ops K (⟨some d, .load t x, ty, ps, af, g⟩ :: rest) e w :=
  ops_v (v_load hp ht (fun w' hw' => by rw [hw']; exact H.blk i hi) hx hv) h
theorem ops_loadA {t tt : TypeId} {b o m : Nat} {cs vs : List Value} (i : Nat) (H : Own wb L w) (hp : pre n d ops e g = true) (ht : aggSize P t = some m)
    (hx : ev e x = .pointer (some ⟨b, o, none⟩)) (hi : L[i]? = some (Blk b cs tt)) (hv : (cs.drop o).take m = vs) (hl : vs.length = m) (h : opsW P n ops K rest (upd e d (.agg vs.toArray)) w) :
    opsW P n ops K (⟨some d, .load t x, ty, ps, af, g⟩ :: rest) e w :=
  ops_v (v_loadA hp ht (fun w' hw' => by rw [hw']; exact H.blk i hi) hx hv hl) h

/-- a new variable -/
theorem ops_alloc {t : TypeId} {cs : List Value} (H : Own wb L w) (hp : pre n d ops e g = true) (hz : zeroT P t = some cs)
    (h : ∀ b w', Own wb (Blk b cs t :: L) w' → opsW P n ops K rest (upd e d (.pointer (some ⟨b, 0, none⟩))) w') :
    opsW P n ops K (⟨some d, .alloc t, ty, ps, af, g⟩ :: rest) e w := by
  obtain ⟨z, hz1, hz2⟩ := run_zeroValue hz w
  refine ops_run (w' := w.alloc (.cells cs.toArray t)) (v := .pointer (some ⟨w.heap.size, 0, none⟩)) hp (fun a ha => ?_) (h _ _ (H.newBlk cs t))
  subst hz2
  simp [execOp, Instr.alloc, hz1, run_newVar]
/-- a new variable that holds a value -/
theorem ops_box {t : TypeId} {v : Value} {cs : List Value} (H : Own wb L w) (hp : pre n d ops e g = true) (hx : ev e x = v) (hc : v.cells = cs.toArray)
    (h : ∀ b w', Own wb (Blk b cs t :: L) w' → opsW P n ops K rest (upd e d (.pointer (some ⟨b, 0, none⟩))) w') :
    opsW P n ops K (⟨some d, .box t x, ty, ps, af, g⟩ :: rest) e w := by
  refine ops_run (w' := w.alloc (.cells cs.toArray t)) (v := .pointer (some ⟨w.heap.size, 0, none⟩)) hp (fun a ha => ?_) (h _ _ (H.newBlk cs t))
  rw [← hc]
  simp [execOp, Instr.box, ha.eval, hx, run_newVar]

def oneCells (l : List Value) : Bool := l.all (·.oneCell')
theorem run_store {t tt : TypeId} {b o m : Nat} {cs vs : List Value} {v : Value} (hs : sizeT P t = some m) (hc : v.cells = vs.toArray) (hl : vs.length = m) (h1 : oneCells vs = true) (hb : w.heap[b]? = some (.cells cs.toArray tt (0, 0))) (hle : o + m ≤ cs.length) :
    (storeVar t ⟨b, o, none⟩ v).run P w = .ok () (w.setRow b (cs.take o ++ vs ++ cs.drop (o + m)).toArray) := by
  have := run_storeCells_at P b o tt vs 0 cs.toArray w hb (by simp; omega) (fun u hu => by simpa [oneCells, List.all_eq_true] using (List.all_eq_true.1 h1 u hu))
  simp only [Nat.add_zero, hl] at this
  simp only [storeVar, Sem.run_bind, run_sizeOf hs, Result.andThen_ok, hc]
  simp only [List.size_toArray, hl, ne_eq, not_true_eq_false, if_false]
  simpa using this
/-- a store into an owned block -/
theorem ops_store {t tt : TypeId} {b o m : Nat} {cs vs cs' : List Value} {v : Value} (i : Nat) (H : Own wb L w) (hg : gd ops e g = true) (hs : sizeT P t = some m)
    (hx : ev e x = .pointer (some ⟨b, o, none⟩)) (hy : ev e y = v) (hi : L[i]? = some (Blk b cs tt)) (hc : v.cells = vs.toArray) (hl : vs.length = m) (h1 : oneCells vs = true) (hle : Nat.ble (o + m) cs.length = true)
    (hcs : cs.take o ++ vs ++ cs.drop (o + m) = cs')
    (h : ∀ w', Own wb (L.set i (Blk b cs' tt)) w' → opsW P n ops K rest e w') :
    opsW P n ops K (⟨none, .store t x y, ty, ps, af, g⟩ :: rest) e w := by
  subst hcs
  refine ops_do hg (fun a ha => ?_) (h _ (H.setBlk i hi))
  simp [execOp, ha.eval, hx, hy, Instr.storeAt, Instr.sureAddr, run_store hs hc hl h1 (H.blk i hi) (Nat.le_of_ble_eq_true hle)]
end

/-! ### Code -/
def W (P : Program) (n : Nat) (c : Code) (Q : Exit → Env → World → Prop) (e : Env) (w : World) : Prop :=
  ∀ a, Rep n e a → c.wp P (fun x a' w' => ∃ e', Rep n e' a' ∧ Q x e' w') a w

section
variable {P : Program} {n : Nat} {Q : Exit → Env → World → Prop} {e : Env} {w : World}
@[reducible] def ThenE (K : Env → World → Prop) (Q : Exit → Env → World → Prop) : Exit → Env → World → Prop
  | .normal, e, w => K e w
  | x, e, w => Q x e w
theorem W_mono {c : Code} {Q' : Exit → Env → World → Prop} (h : W P n c Q e w) (hq : ∀ x e w, Q x e w → Q' x e w) : W P n c Q' e w :=
  fun a ha => wp_mono (h a ha) fun _ _ _ ⟨e', he', hq'⟩ => ⟨e', he', hq _ _ _ hq'⟩
theorem W_seq {c1 c2 : Code} (h : W P n c1 (ThenE (fun e w => W P n c2 Q e w) Q) e w) : W P n (c1.seq c2) Q e w := by
  intro a ha
  refine wp_seq (wp_mono (h a ha) ?_)
  rintro x a' w' ⟨e', he', hq⟩
  cases x with
  | normal => exact hq a' he'
  | _ => exact ⟨e', he', hq⟩
theorem W_skip (h : Q .normal e w) : W P n .skip Q e w := fun _ ha => wp_skip ⟨e, ha, h⟩
theorem W_exit {id : Nat} (h : Q (.exit id) e w) : W P n (.exit id) Q e w := fun _ ha => wp_exit ⟨e, ha, h⟩
theorem W_ret (h : Q .ret e w) : W P n .ret Q e w := fun _ ha => wp_ret ⟨e, ha, h⟩
theorem W_if_t {c : Operand} {x y : Code} (hc : ev e c = .bool true) (h : W P n x Q e w) : W P n (.cond c x y) Q e w :=
  fun a ha => wp_cond_true ((ha.eval c).trans hc) (h a ha)
theorem W_if_f {c : Operand} {x y : Code} (hc : ev e c = .bool false) (h : W P n y Q e w) : W P n (.cond c x y) Q e w :=
  fun a ha => wp_cond_false ((ha.eval c).trans hc) (h a ha)
theorem W_if {c : Operand} {x y : Code} {b : Bool} (hc : ev e c = .bool b) (ht : b = true → W P n x Q e w) (hf : b = false → W P n y Q e w) : W P n (.cond c x y) Q e w :=
  fun a ha => wp_cond_split ((ha.eval c).trans hc) (fun hb => ht hb a ha) (fun hb => hf hb a ha)
@[reducible] def BlockE (id : Nat) (Q : Exit → Env → World → Prop) : Exit → Env → World → Prop
  | .exit id', e, w => bif Nat.beq id' id then Q .normal e w else Q (.exit id') e w
  | x, e, w => Q x e w
theorem W_block {id : Nat} {c : Code} (h : W P n c (BlockE id Q) e w) : W P n (.block id c) Q e w := by
  intro a ha
  refine wp_block (wp_mono (h a ha) ?_)
  rintro x a' w' ⟨e', he', hq⟩
  cases x with
  | exit id' =>
    simp only [BlockE] at hq
    simp only [Exit.inBlock]
    split
    · rename_i hid; subst hid; rw [show Nat.beq id' id' = true from Nat.beq_refl id'] at hq; exact ⟨e', he', hq⟩
    · rename_i hid
      have hb : Nat.beq id' id = false := by
        cases hb : Nat.beq id' id with
        | false => rfl
        | true => exact absurd (Nat.eq_of_beq_eq_true hb) hid
      rw [hb] at hq; exact ⟨e', he', hq⟩
  | _ => exact ⟨e', he', hq⟩

theorem W_region {id : Nat} {l : List Oper} (h : opsW P n l (fun e w => Q .normal e w) l e w) : W P n (.region id l.toArray false) Q e w := by
  intro a ha
  refine wp_mono (wp_region_lit (h a ha)) ?_
  rintro x a' w' hq
  cases x with
  | normal => obtain ⟨e', he', hk⟩ := hq; exact ⟨e', he', hk⟩
  | _ => exact hq.elim

/-! A region that draws its order -/
def Stab (L : List Chunk) (w : World) : List Nat → Prop
  | [] => True
  | i :: is => (∀ b cs t, L[i]? = some (Blk b cs t) → w.heap[b]? = some (.cells cs.toArray t (0, 0))) ∧ Stab L w is
def SameAt (L' L : List Chunk) : List (Nat × Nat) → Prop
  | [] => True
  | (i', i) :: is => L'[i']? = L[i]? ∧ SameAt L' L is
theorem Own.stab {wb : World} {L L' : List Chunk} (H : Own wb L' w) : ∀ (is : List (Nat × Nat)), SameAt L' L is → Stab L w (is.map (·.2))
  | [], _ => trivial
  | (i', i) :: is, ⟨h, hs⟩ => ⟨fun _ _ _ hi => H.blk i' (h.trans hi), H.stab is hs⟩
theorem Own.stab0 {wb : World} {L : List Chunk} (H : Own wb L w) : ∀ (is : List Nat), Stab L w is
  | [] => trivial
  | _ :: is => ⟨fun _ _ _ hi => H.blk _ hi, H.stab0 is⟩
def anyW (P : Program) (n : Nat) (ops : List Oper) (S : World → Prop) (K : Env → World → Prop) (fuel : Nat) (listed : Array Bool) (e : Env) (w : World) : Prop :=
  ∀ a, Rep n e a → S w → wpAnyH P .any ops.toArray (QN n K) S fuel listed a w
section
variable {ops : List Oper} {S : World → Prop} {K : Env → World → Prop} {fuel : Nat} {listed : Array Bool}
theorem any_take {d : Nat} {op : Op} {ty : TypeId} {ps : String} {af : Array Edge} {g : Option (Nat × Bool)} {v : Value} (i : Nat) (hi : ops[i]? = some ⟨some d, op, ty, ps, af, g⟩)
    (hs : Region.noSelect ops.toArray = true) (hf : Region.free .any ops.toArray listed i = true) (hr : (Region.ready .any ops.toArray listed).contains i = true)
    (hv : OpVal P n ops S e d op ty g v) (h : anyW P n ops S K fuel (listed.setIfInBounds i true) (upd e d v) w) : anyW P n ops S K (fuel + 1) listed e w := by
  intro a ha hS
  have hp := hv.pre
  simp only [pre, Bool.and_eq_true] at hp
  refine wpAnyH_take (i := i) (oi := ⟨some d, op, ty, ps, af, g⟩) (v := v) (by simpa using hi) hs hf hr (fun _ _ _ h => h.elim) (.inl ⟨?_, fun w' hw' => hv.run ps af a ha w' hw'⟩) hS (h _ (ha.put hp.1 v) hS)
  rw [ha.wanted ops]; exact hp.2
theorem any_skip {d : Nat} {op : Op} {ty : TypeId} {ps : String} {af : Array Edge} {g : Option (Nat × Bool)} (i : Nat) (hi : ops[i]? = some ⟨some d, op, ty, ps, af, g⟩)
    (hs : Region.noSelect ops.toArray = true) (hf : Region.free .any ops.toArray listed i = true) (hr : (Region.ready .any ops.toArray listed).contains i = true)
    (hd : Nat.blt d n = true) (hg : gd ops e g = false) (h : anyW P n ops S K fuel (listed.setIfInBounds i true) (upd e d undef) w) : anyW P n ops S K (fuel + 1) listed e w := by
  intro a ha hS
  refine wpAnyH_take (i := i) (oi := ⟨some d, op, ty, ps, af, g⟩) (v := undef) (by simpa using hi) hs hf hr (fun _ _ _ h => h.elim) (.inr ⟨?_, rfl⟩) hS (h _ (ha.put hd undef) hS)
  rw [ha.wanted ops]; exact hg
theorem any_step {o : Oper} {i : Nat} (hi : ops[i]? = some o)
    (h : opsW P n ops (fun e' w' => S w' ∧ anyW P n ops S K fuel (listed.setIfInBounds i true) e' w') [o] e w) (a : Act) (ha : Rep n e a) :
    wpOp P ops.toArray (QN n K) i (fun a' w' => S w' ∧ wpAnyH P .any ops.toArray (QN n K) S fuel (listed.setIfInBounds i true) a' w') a w := by
  have h1 := h a ha
  have hi' : ops.toArray[i]? = some o := by simpa using hi
  unfold wpOp
  rw [hi']
  unfold wpList at h1
  simp only
  have conv : ∀ (a' : Act) (w' : World), wpList P ops.toArray (QN n fun e' w' => S w' ∧ anyW P n ops S K fuel (listed.setIfInBounds i true) e' w') [] a' w' →
      S w' ∧ wpAnyH P .any ops.toArray (QN n K) S fuel (listed.setIfInBounds i true) a' w' := by
    rintro a' w' ⟨e', he', hS', hk⟩
    exact ⟨hS', hk a' he' hS'⟩
  split
  · rename_i hw
    rw [if_pos hw] at h1
    rcases h1 with h1 | ⟨_, a0, w0, h0⟩
    · left
      have h2 := Oper.wp_mono conv h1
      unfold Oper.wp at h2 ⊢
      generalize (execOp a.eval o).run P w = r at *
      cases r with
      | ok m w' =>
        cases m <;> simp only [Oper.upon] at h2 ⊢ <;> first
          | exact h2
          | exact Calls.mono h2 (fun x w'' he => by cases x <;> first | exact he | exact he.elim | (obtain ⟨_, _, he⟩ := he; exact he.elim))
      | halt x w' => cases x <;> simp only [Oper.upon] at h2 ⊢ <;> first | exact h2 | exact h2.elim
    · exact h0.elim
  · rename_i hw
    rw [if_neg hw] at h1
    exact conv _ _ h1
theorem any_one {o : Oper} (i : Nat) (hi : ops[i]? = some o) (hr : Region.ready .any ops.toArray listed = [i])
    (h : opsW P n ops (fun e' w' => S w' ∧ anyW P n ops S K fuel (listed.setIfInBounds i true) e' w') [o] e w) : anyW P n ops S K (fuel + 1) listed e w := by
  intro a ha _
  refine wpAnyH_all hr (by simp) ?_
  intro j hj
  simp at hj
  subst hj
  exact any_step hi h a ha
theorem any_two {o1 o2 : Oper} (i j : Nat) (hi : ops[i]? = some o1) (hj : ops[j]? = some o2) (hr : Region.ready .any ops.toArray listed = [i, j])
    (h1 : opsW P n ops (fun e' w' => S w' ∧ anyW P n ops S K fuel (listed.setIfInBounds i true) e' w') [o1] e w)
    (h2 : opsW P n ops (fun e' w' => S w' ∧ anyW P n ops S K fuel (listed.setIfInBounds j true) e' w') [o2] e w) : anyW P n ops S K (fuel + 1) listed e w := by
  intro a ha _
  refine wpAnyH_all hr (by simp) ?_
  intro q hq
  simp at hq
  rcases hq with rfl | rfl
  · exact any_step hi h1 a ha
  · exact any_step hj h2 a ha
theorem any_done (hr : Region.ready .any ops.toArray listed = []) (h : K e w) : anyW P n ops S K fuel listed e w :=
  fun _ ha _ => wpAnyH_done hr ⟨e, ha, h⟩ _
theorem W_draw {wb : World} {L : List Chunk} {id : Nat} {l : List Oper} (is : List Nat) (hm : P.follows .mixedOrders = true) (H : Own wb L w)
    (h : ∀ w', Own wb L w' → anyW P n l (fun x => Stab L x is) (fun e w => Q .normal e w) l.length (Array.replicate l.length false) e w') : W P n (.region id l.toArray true) Q e w := by
  intro a ha
  have H' := H.drew
  have := h w.drew H' a ha (H'.stab0 is)
  refine wp_mono (Q := QN n fun e w => Q .normal e w) (wp_region_held (S := fun x => Stab L x is) hm (by simpa using this)) ?_
  rintro x a' w' hq
  cases x with
  | normal => obtain ⟨e', he', hk⟩ := hq; exact ⟨e', he', hk⟩
  | _ => exact hq.elim
/-- the same, and the base world is told to stand -/
theorem W_drawB {wb : World} {L : List Chunk} {id : Nat} {l : List Oper} (is : List Nat) (hm : P.follows .mixedOrders = true) (H : Own wb L w)
    (h : ∀ w', Own wb L w' → anyW P n l (fun x => Base wb x ∧ Stab L x is) (fun e w => Q .normal e w) l.length (Array.replicate l.length false) e w') : W P n (.region id l.toArray true) Q e w := by
  intro a ha
  have H' := H.drew
  have := h w.drew H' a ha ⟨H'.base, H'.stab0 is⟩
  refine wp_mono (Q := QN n fun e w => Q .normal e w) (wp_region_held (S := fun x => Base wb x ∧ Stab L x is) hm (by simpa using this)) ?_
  rintro x a' w' hq
  cases x with
  | normal => obtain ⟨e', he', hk⟩ := hq; exact ⟨e', he', hk⟩
  | _ => exact hq.elim
end

/-- A loop by an invariant and a number that each round lowers. -/
theorem W_loop {c : Code} (I : Nat → Env → World → Prop) (k0 : Nat) (h0 : I k0 e w)
    (round : ∀ k e w, I k e w → W P n c (ThenE (fun e' w' => ∃ k', k' < k ∧ I k' e' w') Q) e w) : W P n (.loop c) Q e w := by
  intro a ha b k cs
  have key : ∀ m e a w, Rep n e a → I m e w →
      ∃ ex a' w', (∃ e', Rep n e' a' ∧ Q ex e' w') ∧ Arrives P (lone (b.at a (.code c :: .inLoop c :: k)) cs w) b k cs ex a' w' := by
    intro m
    induction m using Nat.strongRecOn with
    | _ m ih =>
      intro e a w ha hI
      obtain ⟨ex, a₁, w₁, ⟨e1, he1, hq⟩, harr⟩ := round m e w hI a ha b (.inLoop c :: k) cs
      cases ex with
      | normal =>
        obtain ⟨m', hlt, hI'⟩ := hq
        obtain ⟨ex₂, a₂, w₂, hq₂, harr₂⟩ := ih m' hlt e1 a₁ w₁ he1 hI'
        exact ⟨ex₂, a₂, w₂, hq₂, .of_steps (Steps.trans harr (.one step_inLoop)) harr₂⟩
      | exit id => exact ⟨_, a₁, w₁, ⟨e1, he1, hq⟩, .pass (x := .inLoop c) rfl (fun _ _ => .inl (by simp)) harr⟩
      | goto l => exact ⟨_, a₁, w₁, ⟨e1, he1, hq⟩, .pass (x := .inLoop c) rfl (fun _ _ => .inl (by simp)) harr⟩
      | ret => exact ⟨_, a₁, w₁, ⟨e1, he1, hq⟩, .pass (x := .inLoop c) rfl (fun _ _ => .inl (by simp)) harr⟩
      | panic ch => exact ⟨_, a₁, w₁, ⟨e1, he1, hq⟩, .pass (x := .inLoop c) rfl (fun _ _ => .inl (by simp)) harr⟩
      | outgrown => exact ⟨_, a₁, w₁, ⟨e1, he1, hq⟩, .pass (x := .inLoop c) rfl (fun _ _ => .inl (by simp)) harr⟩
  obtain ⟨ex, a', w', hq, harr⟩ := key k0 e a w ha h0
  exact ⟨ex, a', w', hq, .of_steps (.one step_loop) harr⟩

/-- What some slots hold. -/
def Slots (e : Env) : List (Nat × Value) → Prop
  | [] => True
  | (d, v) :: l => e d = v ∧ Slots e l
def updL (e : Env) : List (Nat × Value) → Env
  | [] => e
  | (d, v) :: l => upd (updL e l) d v
theorem upd_self {e : Env} {d : Nat} {v : Value} (h : e d = v) : upd e d v = e := by
  funext t
  unfold upd
  cases hb : Nat.beq t d with
  | false => rfl
  | true => simp only [cond_true]; rw [Nat.eq_of_beq_eq_true hb]; exact h.symm
theorem Slots.env {e : Env} : ∀ {l : List (Nat × Value)}, Slots e l → updL e l = e
  | [], _ => rfl
  | (d, v) :: l, ⟨h, hl⟩ => by simp only [updL, hl.env]; exact upd_self h

/-- A loop by what some slots hold. -/
theorem W_loopS {c : Code} {σ : Type} (f : σ → List (Nat × Value)) (R : σ → World → Prop) (μ : σ → Nat) (s0 : σ) (hs : Slots e (f s0)) (h0 : R s0 w)
    (round : ∀ s e w, R s w → W P n c (ThenE (fun e' w' => ∃ s', μ s' < μ s ∧ Slots e' (f s') ∧ R s' w') Q) (updL e (f s)) w) : W P n (.loop c) Q e w := by
  refine W_loop (fun k e w => ∃ s, μ s = k ∧ Slots e (f s) ∧ R s w) (μ s0) ⟨s0, rfl, hs, h0⟩ ?_
  rintro k e w ⟨s, rfl, hS, hR⟩
  have := round s e w hR
  rw [hS.env] at this
  refine W_mono this fun x e' w' hq => ?_
  cases x with
  | normal => obtain ⟨s', h1, h2, h3⟩ := hq; exact ⟨_, h1, s', rfl, h2, h3⟩
  | _ => exact hq

/-! ### Functions -/
def argE (args : List Value) : Env := fun t => args.getD t undef
inductive ResOk (P : Program) (e : Env) (w : World) : List ResultVar → List Value → Prop
  | nil : ResOk P e w [] []
  | tmp {t : Tmp} {v : Value} {rs : List ResultVar} {vs : List Value} (h : e t = v) (hr : ResOk P e w rs vs) : ResOk P e w (.tmp t :: rs) (v :: vs)
  | cell {t : Tmp} {ty : TypeId} {v : Value} {a : Addr} {rs : List ResultVar} {vs : List Value} (h : e t = .pointer (some a)) (hl : (loadVar ty a).run P w = .ok v w) (hr : ResOk P e w rs vs) : ResOk P e w (.cell t ty :: rs) (v :: vs)
theorem FnC.at {f : FuncId} {args : List Value} {wb w : World} {L : List Chunk} {C C' : Chunk} {q : Value → Prop} (i : Nat) (hi : L[i]? = some C) (H : Own wb L w)
    (h : ∀ R, Own wb (C :: R) w → FnC P f args w (fun v w' => q v ∧ Own wb (C' :: R) w')) : FnC P f args w (fun v w' => q v ∧ Own wb (L.set i C') w') :=
  (h _ (H.front i hi)).mono fun _ _ ⟨hq, H'⟩ => ⟨hq, Own.back i hi H'⟩
theorem FnC.ro {f : FuncId} {args : List Value} {wb w : World} {L : List Chunk} {C : Chunk} {q : Value → Prop} (i : Nat) (hi : L[i]? = some C) (H : Own wb L w)
    (h : ∀ R, Own wb (C :: R) w → FnC P f args w (fun v w' => q v ∧ Own wb (C :: R) w')) : FnC P f args w (fun v w' => q v ∧ Own wb L w') := by
  have := FnC.at i hi H h
  have hs : L.set i C = L := by
    have hlt := (List.getElem?_eq_some_iff.1 hi).1
    have he := (List.getElem?_eq_some_iff.1 hi).2
    rw [← he]; exact List.set_getElem_self hlt
  rw [hs] at this
  exact this
def packV : List Value → Value
  | [v] => v
  | vs => .tuple vs.toArray
@[reducible] def retQ (P : Program) (rs : List ResultVar) (R : Value → World → Prop) : Exit → Env → World → Prop
  | .ret, e, w => ∃ vs, ResOk P e w rs vs ∧ R (packV vs) w
  | .normal, e, w => ∃ vs, ResOk P e w rs vs ∧ R (packV vs) w
  | _, _, _ => False
def resOne (tmps : Array Value) : ResultVar → Sem Value
  | .tmp t => Pure.pure (tmps.getD t undef)
  | .cell b t => do loadVar t (← asAddr (tmps.getD b undef))
theorem results_eq (fn : Func) (tmps : Array Value) : results fn tmps = (do let vs ← fn.results.mapM (resOne tmps); Pure.pure (if h : vs.size = 1 then vs[0] else .tuple vs)) := by
  unfold results resOne
  congr
theorem run_results {e : Env} {w : World} {a : Act} (ha : Rep n e a) {fn : Func} {rs : List ResultVar} {vs : List Value} (hrs : fn.results = rs.toArray) (h : ResOk P e w rs vs) : (results fn a.tmps).run P w = .ok (packV vs) w := by
  have key : ∀ (rs : List ResultVar) (vs : List Value), ResOk P e w rs vs →
      (rs.mapM (resOne a.tmps)).run P w = Result.ok vs w := by
    intro rs vs h
    induction h with
    | nil => simp
    | tmp h hr ih => simp only [List.mapM_cons, resOne, Sem.run_bind, Sem.run_pure, Result.andThen_ok, ih, ha.get, h]
    | cell h hl hr ih => simp only [List.mapM_cons, resOne, Sem.run_bind, Sem.run_pure, Result.andThen_ok, ih, ha.get, h, asAddr, hl]
  have hk := key rs vs h
  rw [results_eq, hrs]
  rw [List.mapM_toArray]
  simp only [Sem.run_bind, Sem.run_map, hk, Result.andThen_ok, Sem.run_pure]
  cases vs with
  | nil => rfl
  | cons v vs => cases vs <;> rfl

theorem FnC_of {f : FuncId} {fn : Func} {c : Code} {args : List Value} {rs : List ResultVar} {R : Value → World → Prop} (hf : P.funcs[f]? = some fn) (hb : fn.body = some c) (hn : fn.ntmps = n) (hrs : fn.results = rs.toArray)
    (hl : Nat.ble args.length n = true) (h : W P n c (retQ P rs R) (argE args) w) : FnC P f args w R := by
  refine calls_of_wp hf hb ?_
  have hl' := Nat.le_of_ble_eq_true hl
  have hrep : Rep n (argE args) { tmps := args.toArray ++ Array.replicate (fn.ntmps - args.toArray.size) undef, defers := [] } := by
    refine ⟨by simp [hn]; omega, fun t => ?_, rfl⟩
    simp only [argE, Array.getD_eq_getD_getElem?, List.getD_eq_getElem?_getD, Array.getElem?_append, List.size_toArray, List.getElem?_toArray]
    split
    · rfl
    · rename_i ht
      rw [List.getElem?_eq_none (by omega)]
      simp only [Array.getElem?_replicate]
      split <;> rfl
  refine wp_mono (h _ hrep) ?_
  rintro x a' w' ⟨e', he', hq⟩
  cases x with
  | normal => obtain ⟨vs, hv, hR⟩ := hq; exact ⟨he'.defers, _, run_results he' hrs hv, _, rfl, hR⟩
  | ret => obtain ⟨vs, hv, hR⟩ := hq; exact ⟨he'.defers, _, run_results he' hrs hv, _, rfl, hR⟩
  | _ => exact hq.elim
end
end Go.Proofs.YtchikjmhncojfaaDoor.W
