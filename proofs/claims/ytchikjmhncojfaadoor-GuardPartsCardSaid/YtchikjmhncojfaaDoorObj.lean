/- Slices, built values and maps for the walking library. Conditions: none; over whatever program. -/
import Derived.Test.YtchikjmhncojfaaDoorMem
import Derived.Maps.AppendAt
import Derived.IntWalk
namespace Go.Proofs.YtchikjmhncojfaaDoor.W
open Go Go.RowKit

/-! ### Slices of the call's own -/
def slOk (w : World) (D : List Nat) (p : Option Addr) (n cap el sz : Nat) (xs : List Value) : Prop :=
  xs.length = n * sz ∧ ((p = none ∧ n = 0 ∧ cap = 0 ∧ D = []) ∨
    ∃ g cur, p = some ⟨g, 0, none⟩ ∧ D = [g] ∧ w.heap[g]? = some (.cells cur el (0, 0)) ∧ n ≤ cap ∧ cap ≤ maxLen ∧ cur.size = cap * sz ∧ cur.toList.take (n * sz) = xs)
def SlC (p : Option Addr) (n cap el sz : Nat) (xs : List Value) : Chunk where
  holds D w := slOk w D p n cap el sz xs
  loc h := fun ⟨hl, ho⟩ => ⟨hl, by
    rcases ho with ho | ⟨g, cur, h1, h2, h3, h4⟩
    · exact .inl ho
    · exact .inr ⟨g, cur, h1, h2, by rw [h g (by simp [h2])]; exact h3, h4⟩⟩
theorem slOk.owns {w : World} {D : List Nat} {p : Option Addr} {n cap el sz : Nat} {xs : List Value} (h : slOk w D p n cap el sz xs) : w.ownsRow 0 el sz (.slice p n cap) n xs := by
  obtain ⟨hl, ho⟩ := h
  refine ⟨hl, ?_⟩
  rcases ho with ⟨rfl, rfl, rfl, _⟩ | ⟨g, cur, rfl, _, h3, h4, h5, h6, h7⟩
  · exact .inl ⟨rfl, rfl⟩
  · exact .inr ⟨g, cap, cur, rfl, Nat.zero_le _, h3, h4, h5, h6, h7⟩

theorem sl_nil {wb w : World} {L : List Chunk} (el sz : Nat) (h : Own wb L w) : Own wb (SlC none 0 0 el sz [] :: L) w :=
  (h.toPure trivial (p := True)).imp fun D hD => ⟨by simp, .inl ⟨rfl, rfl, rfl, hD.1⟩⟩

/-- What an owned slice gives: its place if it is not empty. -/
theorem slOk.some {w : World} {D : List Nat} {p : Option Addr} {n cap el sz : Nat} {xs : List Value} (h : slOk w D p n cap el sz xs) (hn : 0 < n) : ∃ g, p = some ⟨g, 0, none⟩ := by
  rcases h.2 with ⟨_, h0, _⟩ | ⟨g, cur, h1, _⟩
  · omega
  · exact ⟨g, h1⟩
theorem Own.head {wb w : World} {C : Chunk} {L : List Chunk} (h : Own wb (C :: L) w) : ∃ D, C.holds D w := by
  obtain ⟨_, D, _, _, D1, D2, _, hC, _⟩ := h
  exact ⟨D1, hC⟩
theorem Own.at {wb w : World} {C : Chunk} {L : List Chunk} (h : Own wb L w) (i : Nat) (hi : L[i]? = some C) : ∃ D, C.holds D w := (h.front i hi).head

theorem Own.slLen {wb w : World} {L : List Chunk} {p : Option Addr} {n cap el sz : Nat} {xs : List Value} (h : Own wb L w) (i : Nat) (hi : L[i]? = some (SlC p n cap el sz xs)) : xs.length = n * sz := by
  obtain ⟨D, hD⟩ := h.at i hi
  exact hD.1
theorem Own.slSome {wb w : World} {L : List Chunk} {p : Option Addr} {n cap el sz : Nat} {xs : List Value} (h : Own wb L w) (i : Nat) (hi : L[i]? = some (SlC p n cap el sz xs)) (hn : 0 < n) : ∃ g, p = some ⟨g, 0, none⟩ := by
  obtain ⟨D, hD⟩ := h.at i hi
  exact hD.some hn
theorem Own.slCell {wb w : World} {L : List Chunk} {g n cap el sz : Nat} {xs : List Value} (h : Own wb L w) (i : Nat) (hi : L[i]? = some (SlC (some ⟨g, 0, none⟩) n cap el sz xs)) :
    ∃ cs, w.heap[g]? = some (.cells (List.toArray cs) el (0, 0)) ∧ cs.take (n * sz) = xs := by
  obtain ⟨D, hD⟩ := h.at i hi
  rcases hD.2 with ⟨h0, _⟩ | ⟨g', cur, h1, _, h3, _, _, _, h7⟩
  · cases h0
  · cases h1
    exact ⟨cur.toList, by simpa using h3, h7⟩

section
variable {P : Program} {n : Nat} {ops : List Oper} {K : Env → World → Prop} {rest : List Oper} {e : Env} {w wb : World} {L : List Chunk}
variable {d : Nat} {ty : TypeId} {gd' : Option (Nat × Bool)} {x : Operand} {ps : String} {af : Array Edge}
/-- a load out of a slice of the call's own -/
theorem ops_loadSlA {t g len cap el sz m o : Nat} {xs vs : List Value} (i : Nat) (H : Own wb L w) (hp : pre n d ops e gd' = true) (ht : aggSize P t = some m)
    (hx : ev e x = .pointer (some ⟨g, o, none⟩)) (hi : L[i]? = some (SlC (some ⟨g, 0, none⟩) len cap el sz xs)) (hv : (xs.drop o).take m = vs) (hl : vs.length = m) (h : opsW P n ops K rest (upd e d (.agg vs.toArray)) w) :
    opsW P n ops K (⟨some d, .load t x, ty, ps, af, gd'⟩ :: rest) e w := by
  obtain ⟨cs, hb, hx'⟩ := H.slCell i hi
  refine ops_v (v_loadA hp ht (fun w' hw' => by rw [hw']; exact hb) hx ?_ hl) h
  by_cases hm : m = 0
  · subst hm
    have : vs = [] := List.eq_nil_of_length_eq_zero hl
    subst this
    simp
  · have hle : o + m ≤ xs.length := by
      have h1 := congrArg List.length hv
      rw [hl] at h1
      simp only [List.length_take, List.length_drop] at h1
      omega
    rw [← hv, ← hx']
    have hlen : o + m ≤ len * sz := by
      have := congrArg List.length hx'
      simp only [List.length_take] at this
      omega
    rw [List.drop_take, List.take_take, Nat.min_eq_left (by omega)]
theorem ops_loadSl {t g len cap el sz o : Nat} {xs : List Value} {v : Value} (i : Nat) (H : Own wb L w) (hp : pre n d ops e gd' = true) (ht : isCell P t = true)
    (hx : ev e x = .pointer (some ⟨g, o, none⟩)) (hi : L[i]? = some (SlC (some ⟨g, 0, none⟩) len cap el sz xs)) (hv : xs[o]? = some v) (h : opsW P n ops K rest (upd e d v) w) :
    opsW P n ops K (⟨some d, .load t x, ty, ps, af, gd'⟩ :: rest) e w := by
  obtain ⟨cs, hb, hx'⟩ := H.slCell i hi
  refine ops_v (v_load hp ht (fun w' hw' => by rw [hw']; exact hb) hx ?_) h
  rw [← hx', List.getElem?_take] at hv
  split at hv
  · exact hv
  · cases hv
end
/-- fewer elements -/
theorem Own.slTake {wb w : World} {p : Option Addr} {n cap el sz : Nat} {xs : List Value} {L : List Chunk} (h : Own wb (SlC p n cap el sz xs :: L) w) (m : Nat) (hm : m ≤ n) : Own wb (SlC p m cap el sz (xs.take (m * sz)) :: L) w := by
  refine h.imp fun D hD => ?_
  obtain ⟨hl, ho⟩ := hD
  have hmn : m * sz ≤ n * sz := Nat.mul_le_mul_right sz hm
  refine ⟨by simp [hl, Nat.min_eq_left hmn], ?_⟩
  rcases ho with ⟨h1, h2, h3, h4⟩ | ⟨g, cur, h1, h2, h3, h4, h5, h6, h7⟩
  · exact .inl ⟨h1, by omega, h3, h4⟩
  · exact .inr ⟨g, cur, h1, h2, h3, by omega, h5, h6, by rw [← h7, List.take_take, Nat.min_eq_left hmn]⟩

theorem set_self {α : Type} {L : List α} {i : Nat} {C : α} (hi : L[i]? = some C) : L.set i C = L := by
  have hlt := (List.getElem?_eq_some_iff.1 hi).1
  have he := (List.getElem?_eq_some_iff.1 hi).2
  rw [← he]; exact List.set_getElem_self hlt

/-- the law of change at a place -/
theorem Own.changeAt {wb w w' : World} {C C' : Chunk} {L : List Chunk} (h : Own wb L w) (i : Nat) (hi : L[i]? = some C)
    (hch : ∀ D, C.holds D w → (∀ b ∈ D, b < w.heap.size) → D.Nodup →
      (w'.os = w.os ∧ w'.tape = w.tape ∧ w'.output = w.output ∧ w.heap.size ≤ w'.heap.size) ∧
      (∀ b, b < w.heap.size → b ∉ D → w'.heap[b]? = w.heap[b]?) ∧
      ∃ D', C'.holds D' w' ∧ D'.Nodup ∧ ∀ b ∈ D', (b ∈ D ∨ w.heap.size ≤ b) ∧ b < w'.heap.size) : Own wb (L.set i C') w' :=
  Own.back i hi ((h.front i hi).change hch)
theorem Own.impAt {wb w : World} {C C' : Chunk} {L : List Chunk} (h : Own wb L w) (i : Nat) (hi : L[i]? = some C) (hc : ∀ D, C.holds D w → C'.holds D w) : Own wb (L.set i C') w :=
  Own.back i hi ((h.front i hi).imp hc)

/-! ### Built values -/
def fillL (places : List (Nat × Nat)) : List Value → List (Nat × Value) → Option (List Value)
  | cells, [] => some cells
  | cells, (i, v) :: rest =>
    match places[i]? with
    | none => none
    | some (off, size) =>
      let vs := v.cells.toList
      if vs.length ≠ size || off + vs.length > cells.length then none
      else fillL places (cells.take off ++ vs ++ cells.drop (off + vs.length)) rest

theorem foldl_set (off : Nat) : ∀ (vs : List Value) (j : Nat) (cs : Array Value), off + j + vs.length ≤ cs.size →
    ((vs.zipIdx j).foldl (fun cs (c, j) => cs.setIfInBounds (off + j) c) cs) = (cs.toList.take (off + j) ++ vs ++ cs.toList.drop (off + j + vs.length)).toArray
  | [], j, cs, _ => by simp
  | v :: vs, j, cs, h => by
    simp only [List.zipIdx_cons, List.foldl_cons, List.length_cons] at h ⊢
    rw [foldl_set off vs (j + 1) _ (by simp; omega)]
    congr 1
    have hlt : off + j < cs.toList.length := by simp; omega
    simp only [Array.toList_setIfInBounds]
    rw [show off + (j + 1) = (off + j) + 1 from by omega, List.take_succ_eq_append_getElem (by simpa using hlt)]
    rw [List.take_set_of_le (Nat.le_refl _), List.getElem_set_self, List.drop_set_of_lt (by omega)]
    simp only [List.append_assoc, List.cons_append, List.nil_append]
    rw [show off + j + 1 + vs.length = off + j + (vs.length + 1) from by omega]

theorem fill_list (places : List (Nat × Nat)) : ∀ (parts : List (Nat × Value)) (cells r : List Value), fillL places cells parts = some r →
    Instr.fill (fun i => places[i]?) cells.toArray parts = some r.toArray
  | [], cells, r, h => by simp [fillL] at h; simp [Instr.fill, h]
  | (i, v) :: rest, cells, r, h => by
    unfold fillL at h
    unfold Instr.fill
    cases hp : places[i]? with
    | none => simp [hp] at h
    | some q =>
      obtain ⟨off, size⟩ := q
      simp only [hp] at h ⊢
      have hs : v.cells.size = v.cells.toList.length := by simp
      split at h
      · cases h
      · rename_i hc
        have hc' : ¬ ((decide (v.cells.size ≠ size) || decide (off + v.cells.size > (List.toArray cells).size)) = true) := by
          simpa using hc
        rw [if_neg hc']
        simp only [ne_eq, gt_iff_lt, Bool.or_eq_true, decide_eq_true_eq, not_or, Decidable.not_not, Nat.not_lt] at hc
        have := foldl_set off v.cells.toList 0 cells.toArray (by simpa using hc.2)
        rw [← Array.foldl_toList, Array.toList_zipIdx]
        rw [this]
        have := fill_list places rest _ r h
        simpa using this

/-- a struct's or an array's zero cells and the places of its parts -/
def buildT (P : Program) (t : TypeId) : Option (List Value × List (Nat × Nat)) :=
  match zeroT P t with
  | none => none
  | some zs => match P.underlying t with
    | some (.struct fs) => match fs.toList.mapM (fun f => (sizeT P f.type).map fun n => (f.offset, n)) with
      | some ps => some (zs, ps)
      | none => none
    | some (.array len el) => match sizeT P el with
      | some n => some (zs, (List.range len).map fun i => (i * n, n))
      | none => none
    | _ => none

theorem mapM_places {P : Program} (w : World) : ∀ (fs : List Field) (ps : List (Nat × Nat)), fs.mapM (fun f => (sizeT P f.type).map fun n => (f.offset, n)) = some ps →
    (fs.mapM fun f => (do pure (f.offset, ← sizeOf f.type) : Sem (Nat × Nat))).run P w = .ok ps w
  | [], ps, h => by simp at h; subst h; simp
  | f :: fs, ps, h => by
    simp only [List.mapM_cons] at h
    cases hs : sizeT P f.type with
    | none => simp [hs] at h
    | some n =>
      cases hr : fs.mapM (fun f => (sizeT P f.type).map fun n => (f.offset, n)) with
      | none => simp [hs, hr] at h
      | some qs =>
        simp [hs, hr] at h
        subst h
        simp only [List.mapM_cons, Sem.run_bind, run_sizeOf hs, Result.andThen_ok, Sem.run_pure, mapM_places w fs qs hr]

section
variable {P : Program} {n : Nat} {ops : List Oper} {K : Env → World → Prop} {rest : List Oper} {e : Env} {w wb : World} {L : List Chunk}
variable {S : World → Prop} {d : Nat} {ty : TypeId} {g : Option (Nat × Bool)} {x y : Operand} {ps : String} {af : Array Edge}

theorem fill_congr (f g : Nat → Option (Nat × Nat)) : ∀ (parts : List (Nat × Value)) (cells : Array Value), (∀ p ∈ parts, f p.1 = g p.1) → Instr.fill f cells parts = Instr.fill g cells parts
  | [], _, _ => rfl
  | (i, v) :: rest, cells, h => by
    unfold Instr.fill
    rw [h (i, v) (by simp)]
    cases g i with
    | none => rfl
    | some q =>
      obtain ⟨off, size⟩ := q
      simp only
      split
      · rfl
      · exact fill_congr f g rest _ (fun p hp => h p (by simp [hp]))

theorem fillL_mem (places : List (Nat × Nat)) : ∀ (parts : List (Nat × Value)) (cells r : List Value), fillL places cells parts = some r → ∀ p ∈ parts, p.1 < places.length
  | [], _, _, _ => by simp
  | (i, v) :: rest, cells, r, h => by
    unfold fillL at h
    cases hp : places[i]? with
    | none => simp [hp] at h
    | some q =>
      obtain ⟨off, size⟩ := q
      simp only [hp] at h
      split at h
      · cases h
      · intro p hm
        rcases List.mem_cons.1 hm with rfl | hm
        · exact (List.getElem?_eq_some_iff.1 hp).1
        · exact fillL_mem places rest _ r h p hm

theorem run_build {t : TypeId} {zs : List Value} {pl : List (Nat × Nat)} {parts : List (Nat × Value)} {cs : List Value} (hb : buildT P t = some (zs, pl)) (hf : fillL pl zs parts = some cs) (w : World) :
    (Instr.build t parts.toArray).run P w = .ok (.agg cs.toArray) w := by
  unfold buildT at hb
  cases hz : zeroT P t with
  | none => simp [hz] at hb
  | some zs0 =>
    obtain ⟨z, hz1, hz2⟩ := run_zeroValue hz w
    simp only [hz] at hb
    cases hu : P.underlying t with
    | none => simp [hu] at hb
    | some ds =>
      simp only [hu] at hb
      cases ds <;> simp only [reduceCtorEq] at hb
      case struct fs =>
        cases hm : fs.toList.mapM (fun f => (sizeT P f.type).map fun n => (f.offset, n)) with
        | none => rw [hm] at hb; cases hb
        | some qs =>
          rw [hm] at hb
          simp at hb
          obtain ⟨rfl, rfl⟩ := hb
          have hmm := mapM_places w fs.toList qs hm
          have hmm' : (fs.mapM fun f => (do pure (f.offset, ← sizeOf f.type) : Sem (Nat × Nat))).run P w = .ok qs.toArray w := by
            rw [← Array.toArray_toList (xs := fs), List.mapM_toArray, Sem.run_map, hmm]; rfl
          have hfl := fill_list qs parts zs0 cs hf
          have hcells : z.cells = zs0.toArray := by rw [← hz2]
          unfold Instr.build
          simp only [Sem.run_bind, hz1, Result.andThen_ok, run_underlying hu, hmm', hcells, List.getElem?_toArray]
          rw [hfl]
          rfl
      case array len el =>
        cases hs : sizeT P el with
        | none => rw [hs] at hb; cases hb
        | some sz =>
          rw [hs] at hb
          simp at hb
          obtain ⟨rfl, rfl⟩ := hb
          have hmem := fillL_mem _ parts zs0 cs hf
          have hfl := fill_list _ parts zs0 cs hf
          have hcells : z.cells = zs0.toArray := by rw [← hz2]
          have hcg := fill_congr (fun i => ((List.range len).map fun i => (i * sz, sz))[i]?) (fun i => some (i * sz, sz)) parts zs0.toArray (fun p hp => by
            have hlt := hmem p hp
            simp at hlt
            simp [List.getElem?_range hlt])
          rw [hcg] at hfl
          unfold Instr.build
          simp only [Sem.run_bind, hz1, Result.andThen_ok, run_underlying hu, run_sizeOf hs, hcells]
          rw [hfl]
          rfl

def evP (e : Env) (parts : List (Nat × Operand)) : List (Nat × Value) := parts.map fun p => (p.1, ev e p.2)
theorem v_build {t : TypeId} {zs cs : List Value} {pl : List (Nat × Nat)} {parts : List (Nat × Operand)} (hp : pre n d ops e g = true) (hb : buildT P t = some (zs, pl)) (hf : fillL pl zs (evP e parts) = some cs) :
    OpVal P n ops S e d (.build t parts.toArray) ty g (.agg cs.toArray) :=
  ⟨hp, fun _ _ a ha w _ => by
    have hev : a.eval = ev e := funext ha.eval
    have := run_build hb hf w
    simp only [execOp, hev, List.map_toArray, Sem.run_bind]
    show ((Instr.build t (evP e parts).toArray).run P w).andThen _ = _
    rw [this]; rfl⟩

/-- a slice literal -/
def sliceLit (P : Program) (t : TypeId) (len : Nat) : Option (TypeId × Nat × List Value) :=
  match P.underlying t with
  | some (.slice el) => match sizeT P el, zeroT P el with
    | some sz, some z => if len * sz > 2 ^ 24 then none else some (el, sz, (List.replicate len z).flatten)
    | _, _ => none
  | _ => none
theorem ops_buildSlice {t el sz len : Nat} {z cs : List Value} {parts : List (Nat × Operand)} (H : Own wb L w) (hp : pre n d ops e g = true)
    (hz : P.underlying t = some (.slice el) ∧ sizeT P el = some sz ∧ zeroT P el = some z ∧ z.length = sz ∧ 0 < sz ∧ 0 < len ∧ len * sz ≤ 2 ^ 24)
    (hf : fillL ((List.range len).map fun i => (i * sz, sz)) ((List.range (len * sz)).map fun i => z.getD (i % sz) undef) (evP e parts) = some cs)
    (h : ∀ b w', Own wb (Blk b cs el :: L) w' → opsW P n ops K rest (upd e d (.slice (some ⟨b, 0, none⟩) len len)) w') :
    opsW P n ops K (⟨some d, .buildSlice t len parts.toArray, ty, ps, af, g⟩ :: rest) e w := by
  obtain ⟨hu, hs, hz0, hzl, hsz, hlen, hle⟩ := hz
  refine ops_run (w' := w.alloc (.cells cs.toArray el)) (v := .slice (some ⟨w.heap.size, 0, none⟩) len len) hp (fun a ha => ?_) (h _ _ (H.newBlk cs el))
  have hev : a.eval = ev e := funext ha.eval
  obtain ⟨zv, hz1, hz2⟩ := run_zeroValue hz0 w
  have hne : len * sz ≠ 0 := Nat.ne_of_gt (Nat.mul_pos hlen hsz)
  have hmem := fillL_mem _ (evP e parts) _ cs hf
  have hfl := fill_list _ (evP e parts) _ cs hf
  have hcg := fill_congr (fun i => ((List.range len).map fun i => (i * sz, sz))[i]?) (fun i => some (i * sz, sz)) (evP e parts) ((List.range (len * sz)).map fun i => z.getD (i % sz) undef).toArray (fun p hp => by
    have hlt := hmem p hp
    simp at hlt
    simp [List.getElem?_range hlt])
  rw [hcg] at hfl
  have hzc : zv.cells = z.toArray := by rw [← hz2]
  have harr : (Array.range (len * sz)).map (fun i => z.toArray[i % z.toArray.size]!) = ((List.range (len * sz)).map fun i => z.getD (i % sz) undef).toArray := by
    rw [← List.toArray_range, List.map_toArray]
    congr 1
    refine List.map_congr_left fun i _ => ?_
    have hlt : i % sz < z.length := by rw [hzl]; exact Nat.mod_lt _ hsz
    simp only [hzl, List.getElem!_toArray, List.getElem!_eq_getElem?_getD, List.getD_eq_getElem?_getD, List.size_toArray, List.getElem?_eq_getElem hlt, Option.getD_some]
  simp only [execOp, hev, List.map_toArray, Sem.run_bind]
  show ((Instr.buildSlice t len (evP e parts).toArray).run P w).andThen _ = _
  unfold Instr.buildSlice
  simp only [Sem.run_bind, run_underlying hu, Result.andThen_ok, run_sizeOf hs]
  rw [if_neg (by omega)]
  simp only [if_neg hne, Sem.run_bind, hz1, Result.andThen_ok, Sem.run_pure, hzc, harr, hfl]
  rfl

/-- append of what a block of the call's own holds -/
def appT (P : Program) (t : TypeId) : Option (TypeId × Nat × Nat) :=
  match P.underlying t with
  | some (.slice el) => match P.info? el with
    | some i => match i.zero with
      | some z => if z.cells.size = i.size ∧ 0 < i.size then some (el, i.size, i.bytes) else none
      | none => none
    | none => none
  | _ => none
theorem run_append {t el sz by' : Nat} (hT : appT P t = some (el, sz, by')) {p : Option Addr} {m cap : Nat} {xs : List Value} {D : List Nat} (hs : slOk w D p m cap el sz xs)
    {b c k tt : Nat} {news : List Value} (hb : w.heap[b]? = some (.cells news.toArray tt (0, 0))) (hl : news.length = k * sz) (h1 : oneCells news = true) (h63 : m + k ≤ maxLen) (hby : (m + k) * by' ≤ 140737488355328) (ty : TypeId) :
    ∃ p' cap' w', (Builtin.append_ #[t, t] ty #[.slice p m cap, .slice (some ⟨b, 0, none⟩) k c]).run P w = .ok (.slice p' (m + k) cap') w' ∧
      (w'.os = w.os ∧ w'.tape = w.tape ∧ w'.output = w.output ∧ w.heap.size ≤ w'.heap.size) ∧
      (∀ b, b < w.heap.size → b ∉ D → w'.heap[b]? = w.heap[b]?) ∧
      ∃ D', slOk w' D' p' (m + k) cap' el sz (xs ++ news) ∧ D'.Nodup ∧ ∀ b ∈ D', (b ∈ D ∨ w.heap.size ≤ b) ∧ b < w'.heap.size := by
  unfold appT at hT
  cases hu : P.underlying t with
  | none => simp [hu] at hT
  | some ds =>
    cases ds <;> simp [hu] at hT
    rename_i el0
    cases hi : P.info? el0 with
    | none => simp [hi] at hT
    | some inf =>
      simp only [hi] at hT
      cases hz : inf.zero with
      | none => simp [hz] at hT
      | some z =>
        simp only [hz] at hT
        split at hT
        case isFalse => cases hT
        rename_i hc
        simp at hT
        obtain ⟨rfl, rfl, rfl⟩ := hT
        have hcell : ∀ j u, news[j]? = some u → w.cell? ((⟨b, 0, none⟩ : Addr).add j) = some u := fun j u hj => by
          rw [addr_add]; exact cell_of hb (by simpa using hj)
        obtain ⟨v', w', hr, hown, hgr, _, hloc⟩ := run_append_own_at (P := P) w 0 t ty el0 inf z inf.size inf.bytes hu hi hz rfl rfl hc.1 hc.2 (.slice p m cap) m xs hs.owns ⟨b, 0, none⟩ k c news hl hcell
          (fun u hu' => by simpa [oneCells] using List.all_eq_true.1 h1 u hu') h63 hby (Nat.zero_le _)
        have hob : ∀ g, (Value.slice p m cap).ownBlock = some g → g ∈ D := by
          intro g hg
          rcases hs.2 with ⟨h0, _⟩ | ⟨g', cur, h0, hDg, _⟩
          · subst h0; simp [Value.ownBlock] at hg
          · subst h0; simp [Value.ownBlock] at hg; subst hg; simp [hDg]
        have hkeep : ∀ b, b < w.heap.size → b ∉ D → w'.heap[b]? = w.heap[b]? := fun b hb hn => hgr.block b hb (fun e => hn (hob b e.symm))
        rcases hown.2 with ⟨rfl, hm0⟩ | ⟨g, cap', cur, rfl, _, h3, h4, h5, h6, h7⟩
        · refine ⟨none, 0, w', by rw [hr, hm0], ⟨hgr.os, hgr.tape, hgr.output, hgr.size⟩, hkeep, [], ⟨hown.1, .inl ⟨rfl, hm0, rfl, rfl⟩⟩, by simp, by simp⟩
        · refine ⟨some ⟨g, 0, none⟩, cap', w', hr, ⟨hgr.os, hgr.tape, hgr.output, hgr.size⟩, hkeep, [g], ⟨hown.1, .inr ⟨g, cur, rfl, rfl, h3, h4, h5, h6, h7⟩⟩, by simp, fun x hx => ?_⟩
          simp at hx
          subst hx
          refine ⟨?_, (Array.getElem?_eq_some_iff.1 h3).1⟩
          rcases hloc with h | h
          · exact .inl (hob _ h.symm)
          · simp [Value.ownBlock] at h; exact .inr (by omega)
theorem ops_append {t el sz by' : Nat} {p : Option Addr} {m cap : Nat} {xs : List Value} {b c k tt : Nat} {news : List Value} (i j : Nat) (H : Own wb L w) (hp : pre n d ops e g = true) (hT : appT P t = some (el, sz, by'))
    (hx : ev e x = .slice p m cap) (hi : L[i]? = some (SlC p m cap el sz xs)) (hy : ev e y = .slice (some ⟨b, 0, none⟩) k c) (hj : L[j]? = some (Blk b news tt)) (hl : news.length = k * sz) (h1 : oneCells news = true) (h63 : m + k ≤ maxLen) (hby : (m + k) * by' ≤ 140737488355328)
    (h : ∀ p' cap' w', Own wb (L.set i (SlC p' (m + k) cap' el sz (xs ++ news))) w' → opsW P n ops K rest (upd e d (.slice p' (m + k) cap')) w') :
    opsW P n ops K (⟨some d, .call ⟨.builtin .append, #[x, y], #[t, t]⟩, ty, ps, af, g⟩ :: rest) e w := by
  have hb := H.blk j hj
  obtain ⟨hbase, D, hn, hr, D1, D2, rfl, hC, hs⟩ := H.front i hi
  obtain ⟨p', cap', w', hrun, ho, hk, hD'⟩ := run_append (c := c) hT hC hb hl h1 h63 hby ty
  have Hnew : Own wb (SlC p' (m + k) cap' el sz (xs ++ news) :: L.eraseIdx i) w' := by
    have H0 : Own wb (PureC True :: L.eraseIdx i) w := (H.front i hi).tail.toPure trivial
    obtain ⟨n1, n2, n3⟩ := List.nodup_append.1 hn
    obtain ⟨D', hC', hnd, hmem⟩ := hD'
    have old2 : ∀ b ∈ D2, w'.heap[b]? = w.heap[b]? := fun b hb => hk b (hr b (by simp [hb])).2 (fun h1 => n3 b h1 b hb rfl)
    refine ⟨⟨ho.1.trans hbase.os, ho.2.1.trans hbase.tape, ho.2.2.1.trans hbase.output, Nat.le_trans hbase.size ho.2.2.2, fun b hb => ?_⟩, D' ++ D2, ?_, ?_, D', D2, rfl, hC', hs.loc old2⟩
    · rw [hk b (Nat.lt_of_lt_of_le hb hbase.size) (fun h1 => by have := (hr b (by simp [h1])).1; omega)]
      exact hbase.keep b hb
    · refine List.nodup_append.2 ⟨hnd, n2, ?_⟩
      rintro a ha b hb' rfl
      rcases (hmem a ha).1 with h1 | h1
      · exact n3 a h1 a hb' rfl
      · have := (hr a (by simp [hb'])).2; omega
    · intro b hb
      rcases List.mem_append.1 hb with hb | hb
      · rcases (hmem b hb).1 with h1 | h1
        · exact ⟨(hr b (by simp [h1])).1, (hmem b hb).2⟩
        · exact ⟨by have := hbase.size; omega, (hmem b hb).2⟩
      · exact ⟨(hr b (by simp [hb])).1, Nat.lt_of_lt_of_le (hr b (by simp [hb])).2 ho.2.2.2⟩
  refine ops_run (w' := w') (v := .slice p' (m + k) cap') hp (fun a ha => ?_) (h _ _ _ (Own.back i hi Hnew))
  simp [execOp, resolve, ha.eval, hx, hy, invoke, builtin, hrun]

/-- x[:k] of a slice -/
theorem v_sliceHi {t sz : Nat} {p : Option Addr} {m cap : Nat} {k : Nat} {hi : Operand} {ik : IntKind} (hp : pre n d ops e g = true) (ht : sliceElem P t = some sz) (hx : ev e x = .slice p m cap) (hh : ev e hi = .int ik (k : Int)) (hk : k ≤ cap) :
    OpVal P n ops S e d (.slice t x none (some hi) none) ty g (.slice p k cap) :=
  ⟨hp, fun _ _ a ha w _ => by
    unfold sliceElem at ht
    cases hu : P.underlying t with
    | none => simp [hu] at ht
    | some ds =>
      cases ds <;> simp [hu] at ht
      rename_i el
      cases hi' : P.info? el with
      | none => simp [hi'] at ht
      | some inf =>
        have h0 : (0 : Int) ≤ (k : Int) ∧ (k : Int) ≤ (cap : Int) := ⟨by omega, by omega⟩
        have hcap : ¬ cap < k := by omega
        have hadd : (p.map fun a => a.add 0) = p := by cases p <;> simp [Addr.add]
        simp [execOp, ha.eval, hx, hh, Instr.sliceAt, run_underlying hu, Instr.slice, Instr.sliceBounds, Instr.sliceBound, asIntOf, sizeOf, typeInfo, hi', hk, hadd]⟩

/-- an element of an array's value -/
theorem v_index {t len : Nat} {cs : List Value} {v : Value} {k : IntKind} {m : Nat} (hp : pre n d ops e g = true) (ht : arrElem P t = some (len, 1) ∧ (∃ el, P.underlying t = some (.array len el) ∧ isCell P el = true)) (hx : ev e x = .agg cs.toArray) (hy : ev e y = .int k (m : Int)) (hv : cs[m]? = some v) (hm : m < len) :
    OpVal P n ops S e d (.index t x y) ty g v :=
  ⟨hp, fun _ _ a ha w _ => by
    obtain ⟨ha', el, hu, hc⟩ := ht
    have hsz : sizeT P el = some 1 := by
      unfold arrElem at ha'
      simp only [hu] at ha'
      cases hi : P.info? el with
      | none => simp [hi] at ha'
      | some inf => simp [hi] at ha'; simp [sizeT, hi, ha']
    simp [execOp, ha.eval, hx, hy, Instr.index, asIntOf, run_underlying hu, hm, run_sizeOf hsz, part, run_isAgg_false hc, hv]⟩
end

theorem wrap_in {z : Int} (h1 : -9223372036854775808 ≤ z) (h2 : z ≤ 9223372036854775807) : IntKind.i64.wrap z = z := by
  rw [IntKind.wrap_i64]; omega
end Go.Proofs.YtchikjmhncojfaaDoor.W
