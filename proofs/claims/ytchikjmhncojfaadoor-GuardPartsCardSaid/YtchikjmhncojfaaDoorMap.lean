/- Maps for the walking library: keys that are ints, arrays of ints, structs of ints and bools. Conditions: none; over whatever program. -/
import Derived.Test.YtchikjmhncojfaaDoorObj
import Derived.Laws.StructEq
namespace Go.Proofs.YtchikjmhncojfaaDoor.W
open Go Go.RowKit

def findIx {κ : Type} [DecidableEq κ] (k : κ) : List (κ × Value) → Nat → Option (Nat × Value)
  | [], _ => none
  | (k', v) :: l, i => if k = k' then some (i, v) else findIx k l (i + 1)

structure KeyLaw (P : Program) (kt : TypeId) {κ : Type} [DecidableEq κ] (enc : κ → Value) : Prop where
  check : ∀ b k w, (Instr.checkKey b 10000 kt (enc k)).run P w = .ok () w
  find : ∀ k (ks : List (κ × Value)) (es : List MapEntry) w, es.map (fun e => (e.key, e.val)) = ks.map (fun p => (enc p.1, p.2)) → (Instr.findKey kt (enc k) es).run P w = .ok (findIx k ks 0) w
  bits : ∀ k, Instr.sameBits 10000 (enc k) (enc k) = true

theorem findAsking_run {P : Program} {kt : TypeId} {κ : Type} [DecidableEq κ] {enc : κ → Value} (heq : ∀ k k' w, (Op.equal kt (enc k) (enc k')).run P w = .ok (decide (k = k')) w) (k : κ) :
    ∀ (ks : List (κ × Value)) (es : List MapEntry) (i : Nat) (w : World), es.map (fun e => (e.key, e.val)) = ks.map (fun p => (enc p.1, p.2)) → (Instr.findAsking kt (enc k) es i).run P w = .ok (findIx k ks i) w
  | [], es, i, w, h => by
    have : es = [] := by simpa using h
    subst this
    rfl
  | (k', v) :: ks, es, i, w, h => by
    cases es with
    | nil => simp at h
    | cons e es =>
      simp only [List.map_cons, List.cons.injEq, Prod.mk.injEq] at h
      obtain ⟨⟨h1, h2⟩, h3⟩ := h
      simp only [Instr.findAsking, Sem.run_bind, h1, heq, Result.andThen_ok, findIx]
      by_cases hk : k = k'
      · simp [hk, h2]
      · simp only [hk, decide_false, Bool.false_eq_true, if_false]
        exact findAsking_run heq k ks es (i + 1) w h3

/-- a kind of key that is asked by '==' alone -/
theorem KeyLaw.of_eq {P : Program} {kt : TypeId} {κ : Type} [DecidableEq κ] {enc : κ → Value} {ds : TypeDesc} (hu : P.underlying kt = some ds)
    (hnow : ∀ k k', Instr.sameNow ds (enc k) (enc k') = none) (hcheck : ∀ b k w, (Instr.checkKey b 10000 kt (enc k)).run P w = .ok () w)
    (heq : ∀ k k' w, (Op.equal kt (enc k) (enc k')).run P w = .ok (decide (k = k')) w) (hbits : ∀ k, Instr.sameBits 10000 (enc k) (enc k) = true) : KeyLaw P kt enc where
  check := hcheck
  bits := hbits
  find := fun k ks es w h => by
    unfold Instr.findKey
    simp only [Sem.run_bind, run_underlying hu, Result.andThen_ok]
    cases ks with
    | nil =>
      have : es = [] := by simpa using h
      subst this
      rfl
    | cons p ks =>
      obtain ⟨k', v⟩ := p
      cases es with
      | nil => simp at h
      | cons e es =>
        have h1 : e.key = enc k' := by simp at h; exact h.1.1
        simp only [Instr.findNow, h1, hnow]
        exact findAsking_run heq k ((k', v) :: ks) (e :: es) 0 w h

/-- ints -/
def encI (n : Int) : Value := .int .i64 n
theorem keyLaw_int {P : Program} {kt : TypeId} (hu : P.underlying kt = some (.int .i64)) : KeyLaw P kt encI where
  check := fun b k w => by
    have key : ∀ d, (Instr.checkKey b (d + 1) kt (encI k)).run P w = .ok () w := fun d => by simp [Instr.checkKey, run_underlying hu, encI]
    exact key 9999
  bits := fun k => by
    have key : ∀ d, Instr.sameBits (d + 1) (encI k) (encI k) = true := fun d => by simp [Instr.sameBits, encI]
    exact key 9999
  find := fun k ks es w h => by
    unfold Instr.findKey
    simp only [Sem.run_bind, run_underlying hu, Result.andThen_ok]
    have key : ∀ (ks : List (Int × Value)) (es : List MapEntry) (i : Nat), es.map (fun e => (e.key, e.val)) = ks.map (fun p => (encI p.1, p.2)) → Instr.findNow (.int .i64) (encI k) es i = some (findIx k ks i) := by
      intro ks
      induction ks with
      | nil =>
        intro es i h
        have : es = [] := by simpa using h
        subst this
        rfl
      | cons p ks ih =>
        intro es i h
        obtain ⟨k', v⟩ := p
        cases es with
        | nil => simp at h
        | cons e es =>
          simp only [List.map_cons, List.cons.injEq, Prod.mk.injEq] at h
          obtain ⟨⟨h1, h2⟩, h3⟩ := h
          simp only [Instr.findNow, h1, encI, Instr.sameNow, if_true, findIx]
          by_cases hk : k = k'
          · simp [hk, h2]
          · simp only [hk, if_false]
            have hb : (k == k') = false := by simpa using hk
            rw [hb]
            exact ih es (i + 1) h3
    rw [key ks es 0 h]
    rfl

/-! ### Maps of the call's own -/
def MapC {κ : Type} (enc : κ → Value) (r : Nat) (l : List (κ × Value)) : Chunk where
  holds D w := D = [r] ∧ ∃ es clock, w.heap[r]? = some (.map es clock) ∧ es.toList.map (fun e => (e.key, e.val)) = l.map (fun p => (enc p.1, p.2))
  loc h := fun ⟨hD, es, c, hb, hl⟩ => ⟨hD, es, c, by subst hD; rw [h r (by simp)]; exact hb, hl⟩

section
variable {κ : Type} {enc : κ → Value} {P : Program} {n : Nat} {ops : List Oper} {K : Env → World → Prop} {rest : List Oper} {e : Env} {w wb : World} {L : List Chunk}
variable {S : World → Prop} {d : Nat} {ty : TypeId} {g : Option (Nat × Bool)} {x : Operand} {ps : String} {af : Array Edge}
theorem Own.map {r : Nat} {l : List (κ × Value)} (h : Own wb L w) (i : Nat) (hi : L[i]? = some (MapC enc r l)) : ∃ es c, w.heap[r]? = some (.map es c) ∧ es.toList.map (fun e => (e.key, e.val)) = l.map (fun p => (enc p.1, p.2)) := by
  obtain ⟨D, _, es, c, hb, hes⟩ := h.at i hi
  exact ⟨es, c, hb, hes⟩
theorem modify_entry (es : Array MapEntry) (i : Nat) (kv v : Value) (l : List (κ × Value)) (k : κ) (hk : kv = enc k) (hes : es.toList.map (fun e => (e.key, e.val)) = l.map (fun p => (enc p.1, p.2))) :
    (es.modify i fun e => { e with key := kv, val := v }).toList.map (fun e => (e.key, e.val)) = (l.set i (k, v)).map (fun p => (enc p.1, p.2)) := by
  apply List.ext_getElem?
  intro j
  have hj := congrArg (·[j]?) hes
  simp only [List.getElem?_map, Array.getElem?_toList] at hj ⊢
  rw [Array.getElem?_modify, List.getElem?_set]
  by_cases hij : i = j
  · subst hij
    simp only [if_true]
    have hlen : es.size = l.length := by have := congrArg List.length hes; simpa using this
    by_cases hlt : i < l.length
    · have hlt' : i < es.size := by omega
      simp [hlt, hlt', hk]
    · have hlt' : ¬ i < es.size := by omega
      simp [hlt, Array.getElem?_eq_none (Nat.le_of_not_lt hlt')]
  · simp only [hij, if_false]
    simpa using hj

theorem ops_makeMap {t : TypeId} (H : Own wb L w) (enc : κ → Value) (hp : pre n d ops e g = true)
    (h : ∀ r w', Own wb (MapC enc r [] :: L) w' → opsW P n ops K rest (upd e d (.map (some r))) w') : opsW P n ops K (⟨some d, .makeMap t none, ty, ps, af, g⟩ :: rest) e w := by
  refine ops_run (w' := w.alloc (.map #[] 0)) (v := .map (some w.heap.size)) hp (fun a _ => ?_) (h _ _ ?_)
  · simp only [execOp, Instr.makeMap]
    rfl
  · exact (H.consNew (.map #[] 0)).imp fun D hD => ⟨hD.1, #[], 0, hD.2, rfl⟩
theorem v_lenMap {kt el t : TypeId} {r : Nat} {l : List (κ × Value)} (hu : P.underlying t = some (.map kt el)) (hp : pre n d ops e g = true) (hx : ev e x = .map (some r))
    (hS : ∀ w, S w → ∃ es c, w.heap[r]? = some (.map es c) ∧ es.toList.map (fun e => (e.key, e.val)) = l.map (fun p => (enc p.1, p.2))) :
    OpVal P n ops S e d (.call ⟨.builtin .len, #[x], #[t]⟩) ty g (.int .i64 l.length) :=
  ⟨hp, fun _ _ a ha w hs => by
    obtain ⟨es, c, hb, hes⟩ := hS w hs
    have hgo : (getObj r).run P w = .ok (.map es c) w := by simp [getObj, Sem.run, hb]
    have hlen : es.size = l.length := by have := congrArg List.length hes; simpa using this
    simp [execOp, resolve, ha.eval, hx, invoke, builtin, Builtin.len_, run_underlying hu, goInt, hgo, hlen]⟩
theorem ops_clearMap {kt el t : TypeId} {r : Nat} {l : List (κ × Value)} (i : Nat) (H : Own wb L w) (hu : P.underlying t = some (.map kt el)) (hp : pre n d ops e g = true) (hx : ev e x = .map (some r)) (hi : L[i]? = some (MapC enc r l))
    (h : ∀ w', Own wb (L.set i (MapC enc r [])) w' → opsW P n ops K rest (upd e d (.tuple #[])) w') : opsW P n ops K (⟨some d, .call ⟨.builtin .clear, #[x], #[t]⟩, ty, ps, af, g⟩ :: rest) e w := by
  obtain ⟨es, c, hb, hes⟩ := H.map i hi
  have hgo : (getObj r).run P w = .ok (.map es c) w := by simp [getObj, Sem.run, hb]
  have hset : ∀ o, (setObj r o).run P w = .ok () (setObjW w r o) := fun o => by simp [setObj, Sem.run, hb, setObjW]
  refine ops_run (w' := setObjW w r (.map #[] c)) (v := .tuple #[]) hp (fun a ha => ?_) (h _ ?_)
  · simp [execOp, resolve, ha.eval, hx, invoke, builtin, Builtin.clear_, run_underlying hu, hgo, hset]
  · refine H.changeAt i hi fun D hC hlt hn => ?_
    obtain ⟨rfl, _⟩ := hC
    have hlb := hlt r (by simp)
    refine ⟨⟨rfl, rfl, rfl, by simp [setObjW]⟩, fun b' _ hne => ?_, [r], ⟨rfl, #[], c, by simp [setObjW, hlb], rfl⟩, by simp, fun x hx => ?_⟩
    · have : r ≠ b' := fun e => hne (by simp [e])
      simp [setObjW, Array.getElem?_setIfInBounds_ne this]
    · simp at hx
      subst hx
      exact ⟨.inl (by simp), by simpa [setObjW] using hlb⟩
end
section
variable {κ : Type} [DecidableEq κ] {enc : κ → Value}
def look (l : List (κ × Value)) (k : κ) : Option Value := (findIx k l 0).map (·.2)
def putL (l : List (κ × Value)) (k : κ) (v : Value) : List (κ × Value) :=
  match findIx k l 0 with
  | some (i, _) => l.set i (k, v)
  | none => l ++ [(k, v)]

theorem findIx_shift (k : κ) : ∀ (l : List (κ × Value)) (i : Nat), findIx k l i = (findIx k l 0).map fun p => (p.1 + i, p.2)
  | [], _ => rfl
  | (k', v) :: l, i => by
    unfold findIx
    split
    · simp
    · rw [findIx_shift k l (i + 1), findIx_shift k l (0 + 1)]
      cases findIx k l 0 <;> simp; omega
theorem look_cons (k k' : κ) (v : Value) (l : List (κ × Value)) : look ((k', v) :: l) k = if k = k' then some v else look l k := by
  unfold look
  rw [findIx]
  split
  · rfl
  · rw [findIx_shift]; cases findIx k l 0 <;> rfl
theorem look_nil (k : κ) : look ([] : List (κ × Value)) k = none := rfl
theorem findIx_lt (k : κ) : ∀ (l : List (κ × Value)) (i : Nat) (v : Value), findIx k l 0 = some (i, v) → l[i]? = some (k, v)
  | [], i, v, h => by simp [findIx] at h
  | (k', u) :: l, i, v, h => by
    unfold findIx at h
    split at h
    · rename_i hk; simp at h; obtain ⟨rfl, rfl⟩ := h; simp [hk]
    · rw [findIx_shift] at h
      cases hf : findIx k l 0 with
      | none => rw [hf] at h; simp at h
      | some p =>
        obtain ⟨j, u'⟩ := p
        rw [hf] at h
        simp at h
        obtain ⟨rfl, rfl⟩ := h
        simpa using findIx_lt k l j u' hf
theorem look_append (l : List (κ × Value)) (k k' : κ) (v : Value) : look (l ++ [(k', v)]) k = match look l k with | some u => some u | none => if k = k' then some v else none := by
  induction l with
  | nil => simp [look_cons, look_nil]
  | cons p l ih =>
    obtain ⟨k1, u⟩ := p
    simp only [List.cons_append, look_cons]
    split
    · rfl
    · exact ih
theorem look_set (l : List (κ × Value)) (k k' : κ) (v u : Value) (i : Nat) (hi : findIx k' l 0 = some (i, u)) : look (l.set i (k', v)) k = if k = k' then some v else look l k := by
  induction l generalizing i with
  | nil => simp [findIx] at hi
  | cons p l ih =>
    obtain ⟨k1, u1⟩ := p
    rw [findIx] at hi
    split at hi
    · rename_i h1
      simp at hi
      obtain ⟨rfl, rfl⟩ := hi
      subst h1
      simp only [List.set_cons_zero, look_cons]
      split <;> rfl
    · rename_i h1
      rw [findIx_shift] at hi
      cases hf : findIx k' l 0 with
      | none => rw [hf] at hi; simp at hi
      | some q =>
        obtain ⟨j, u'⟩ := q
        rw [hf] at hi
        simp at hi
        obtain ⟨rfl, rfl⟩ := hi
        simp only [List.set_cons_succ, look_cons]
        rw [ih j hf]
        by_cases h2 : k = k1
        · subst h2
          rw [if_pos rfl, if_pos rfl, if_neg (fun e => h1 e.symm)]
        · rw [if_neg h2, if_neg h2]
theorem look_putL (l : List (κ × Value)) (k k' : κ) (v : Value) : look (putL l k' v) k = if k = k' then some v else look l k := by
  unfold putL
  cases hf : findIx k' l 0 with
  | none =>
    simp only [look_append]
    by_cases hk : k = k'
    · subst hk
      have : look l k = none := by simp [look, hf]
      simp [this]
    · rw [if_neg hk]; cases look l k <;> simp [hk]
  | some p =>
    obtain ⟨i, u⟩ := p
    exact look_set l k k' v u i hf
theorem look_none_find {l : List (κ × Value)} {k : κ} (h : look l k = none) : findIx k l 0 = none := by
  unfold look at h
  cases hf : findIx k l 0 with
  | none => rfl
  | some p => rw [hf] at h; cases h
theorem putL_none {l : List (κ × Value)} {k : κ} {v : Value} (h : look l k = none) : putL l k v = l ++ [(k, v)] := by
  unfold putL
  rw [look_none_find h]

variable {P : Program} {n : Nat} {ops : List Oper} {K : Env → World → Prop} {rest : List Oper} {e : Env} {w wb : World} {L : List Chunk}
variable {S : World → Prop} {d : Nat} {ty : TypeId} {g : Option (Nat × Bool)} {x y z : Operand} {ps : String} {af : Array Edge}

theorem run_lookup {kt el t : TypeId} (hl : KeyLaw P kt enc) (hu : P.underlying t = some (.map kt el)) {zv : Value} (hz : ∀ w, (zeroValue el).run P w = .ok zv w) {r : Nat} {es : Array MapEntry} {c : Nat} {l : List (κ × Value)}
    (hb : w.heap[r]? = some (.map es c)) (hes : es.toList.map (fun e => (e.key, e.val)) = l.map (fun p => (enc p.1, p.2))) (k : κ) :
    (Instr.lookup t (.map (some r)) (enc k) true).run P w = .ok (.tuple #[(look l k).getD zv, .bool (look l k).isSome]) w := by
  unfold Instr.lookup
  have hg : (getObj r).run P w = .ok (.map es c) w := by simp [getObj, Sem.run, hb]
  simp only [Sem.run_bind, run_underlying hu, Result.andThen_ok, hg, Sem.run_pure, hl.check, hl.find k l es.toList w hes]
  unfold look
  cases findIx k l 0 with
  | none => simp [hz]
  | some p => simp

/-- A look-up, with ok. -/
theorem v_lookup {kt el t : TypeId} (hl : KeyLaw P kt enc) (hu : P.underlying t = some (.map kt el)) {zv : Value} (hz : ∀ w, (zeroValue el).run P w = .ok zv w) {r : Nat} {l : List (κ × Value)} {k : κ}
    (hp : pre n d ops e g = true) (hx : ev e x = .map (some r)) (hy : ev e y = enc k) {q : Option Value} (hq : look l k = q)
    (hS : ∀ w, S w → ∃ es c, w.heap[r]? = some (.map es c) ∧ es.toList.map (fun e => (e.key, e.val)) = l.map (fun p => (enc p.1, p.2))) :
    OpVal P n ops S e d (.lookup t x y true) ty g (.tuple [q.getD zv, .bool q.isSome].toArray) :=
  ⟨hp, fun _ _ a ha w hs => by
    subst hq
    obtain ⟨es, c, hb, hes⟩ := hS w hs
    have := run_lookup hl hu hz hb hes k
    simp [execOp, ha.eval, hx, hy, this]⟩
theorem ops_lookup {kt el t : TypeId} {zv : Value} {r : Nat} {l : List (κ × Value)} {k : κ} (i : Nat) (H : Own wb L w) (hl : KeyLaw P kt enc) (hu : P.underlying t = some (.map kt el)) (hz : ∀ w, (zeroValue el).run P w = .ok zv w)
    (hp : pre n d ops e g = true) (hx : ev e x = .map (some r)) (hy : ev e y = enc k) (hi : L[i]? = some (MapC enc r l)) {q : Option Value} (hq : look l k = q)
    (h : opsW P n ops K rest (upd e d (.tuple [q.getD zv, .bool q.isSome].toArray)) w) : opsW P n ops K (⟨some d, .lookup t x y true, ty, ps, af, g⟩ :: rest) e w :=
  ops_v (v_lookup hl hu hz hp hx hy hq (fun w' hw' => by rw [hw']; exact H.map i hi)) h

/-- A store into a map. -/
theorem ops_mapUpdate {kt el t : TypeId} {r : Nat} {l : List (κ × Value)} {k : κ} {v : Value} (i : Nat) (H : Own wb L w) (hl : KeyLaw P kt enc) (hu : P.underlying t = some (.map kt el))
    (hg : gd ops e g = true) (hx : ev e x = .map (some r)) (hy : ev e y = enc k) (hv : ev e z = v) (hi : L[i]? = some (MapC enc r l))
    (h : ∀ w', Own wb (L.set i (MapC enc r (putL l k v))) w' → opsW P n ops K rest e w') : opsW P n ops K (⟨none, .mapUpdate t x y z, ty, ps, af, g⟩ :: rest) e w := by
  obtain ⟨es, c, hb, hes⟩ := H.map i hi
  have hgo : (getObj r).run P w = .ok (.map es c) w := by simp [getObj, Sem.run, hb]
  have hset : ∀ o, (setObj r o).run P w = .ok () (setObjW w r o) := fun o => by simp [setObj, Sem.run, hb, setObjW]
  have hcheck := hl.check false k w
  have hfind := hl.find k l es.toList w hes
  have fin : ∀ (es' : Array MapEntry) (c' : Nat), es'.toList.map (fun e => (e.key, e.val)) = (putL l k v).map (fun p => (enc p.1, p.2)) → Own wb (L.set i (MapC enc r (putL l k v))) (setObjW w r (.map es' c')) := by
    intro es' c' hes'
    refine H.changeAt i hi fun D hC hlt hn => ?_
    obtain ⟨rfl, _⟩ := hC
    have hlb := hlt r (by simp)
    refine ⟨⟨rfl, rfl, rfl, by simp [setObjW]⟩, fun b' _ hne => ?_, [r], ⟨rfl, es', c', by simp [setObjW, hlb], hes'⟩, by simp, fun x hx => ?_⟩
    · have : r ≠ b' := fun e => hne (by simp [e])
      simp [setObjW, Array.getElem?_setIfInBounds_ne this]
    · simp at hx
      subst hx
      exact ⟨.inl (by simp), by simpa [setObjW] using hlb⟩
  cases hf : findIx k l 0 with
  | none =>
    refine ops_do hg (w' := setObjW w r (.map (es.push { key := enc k, val := v, born := c }) (c + 1))) (fun a ha => ?_) (h _ (fin _ _ ?_))
    · unfold execOp
      simp only [ha.eval, hx, hy, hv, Sem.run_bind]
      unfold Instr.mapUpdate
      simp only [Sem.run_bind, run_underlying hu, Result.andThen_ok, hgo, hcheck, hfind, hf, hset, Sem.run_pure]
    · unfold putL
      rw [hf]
      simp [hes]
  | some p =>
    obtain ⟨j, u⟩ := p
    have hlk := findIx_lt k l j u hf
    have hkey : ((es[j]?).map (·.key)).getD (enc k) = enc k := by
      have hj := congrArg (·[j]?) hes
      simp only [List.getElem?_map, Array.getElem?_toList, hlk, Option.map_some] at hj
      cases he : es[j]? with
      | none => simp
      | some m => rw [he] at hj; simp at hj; simp [hj.1]
    have hstay : (Instr.keyThatStays (enc k) (enc k)).run P w = .ok (enc k) w := by
      unfold Instr.keyThatStays
      rw [if_pos (hl.bits k)]; rfl
    refine ops_do hg (w' := setObjW w r (.map (es.modify j fun e => { e with key := enc k, val := v }) c)) (fun a ha => ?_) (h _ (fin _ _ ?_))
    · unfold execOp
      simp only [ha.eval, hx, hy, hv, Sem.run_bind]
      unfold Instr.mapUpdate
      simp only [Sem.run_bind, run_underlying hu, Result.andThen_ok, hgo, hcheck, hfind, hf, hkey, hstay, hset, Sem.run_pure]
    · unfold putL
      rw [hf]
      exact modify_entry es j (enc k) v l k rfl hes

end
end Go.Proofs.YtchikjmhncojfaaDoor.W
