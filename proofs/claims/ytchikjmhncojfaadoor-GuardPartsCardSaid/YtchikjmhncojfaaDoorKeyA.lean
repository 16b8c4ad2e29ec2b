/- Arrays of ints as keys of maps; slices of arrays; functions against nil. Conditions: none; over whatever program. -/
import Derived.Test.YtchikjmhncojfaaDoorMap
namespace Go.Proofs.YtchikjmhncojfaaDoor.W
open Go Go.RowKit

structure K4 where
  t : Int
  a : Int
  b : Int
  c : Int
  deriving DecidableEq
structure K2 where
  a : Int
  b : Int
  deriving DecidableEq
def cellsK4 (k : K4) : List Value := [.int .i64 k.t, .int .i64 k.a, .int .i64 k.b, .int .i64 k.c]
def encK4 (k : K4) : Value := .agg (cellsK4 k).toArray
def encK2 (k : K2) : Value := .agg [.int .i64 k.a, .int .i64 k.b].toArray

theorem run_part1 {P : Program} {el : TypeId} (hc : isCell P el = true) (cs : List Value) (i : Nat) (v : Value) (hv : cs[i]? = some v) (w : World) : (part el cs.toArray i).run P w = .ok v w := by
  simp [part, run_isAgg_false hc, hv]
/-- arrays of ints, one against the other -/
theorem run_equalIn_arr {P : Program} {d t el n : Nat} (hu : P.underlying t = some (.array n el)) (hs : sizeT P el = some 1) (hc : isCell P el = true)
    (hin : ∀ w a b, (Op.equalIn d el (.int .i64 a) (.int .i64 b)).run P w = .ok (a == b) w) (xs ys : List Int) (hx : xs.length = n) (hy : ys.length = n) (w : World) :
    (Op.equalIn (d + 1) t (.agg (xs.map (Value.int .i64)).toArray) (.agg (ys.map (Value.int .i64)).toArray)).run P w = .ok (decide (xs = ys)) w := by
  simp only [Op.equalIn, Sem.run_bind, run_underlying hu, Result.andThen_ok, run_sizeOf hs, Nat.mul_one, Std.Legacy.Range.forIn_eq_forIn_range', Std.Legacy.Range.size, Nat.sub_zero, Nat.add_one_sub_one, Nat.div_one]
  have key : ∀ (m j : Nat), j + m = n → (xs.take j = ys.take j) →
      ((forIn (List.range' j m) ((none : Option Bool), ()) (fun i (_ : Option Bool × Unit) => (do
        if (!(← Op.equalIn d el (← part el (xs.map (Value.int .i64)).toArray i) (← part el (ys.map (Value.int .i64)).toArray i))) = true then pure (ForInStep.done (some false, ())) else pure (ForInStep.yield (none, ())) : Sem (ForInStep (Option Bool × Unit)))) : Sem (Option Bool × Unit))).run P w
      = Result.ok (if xs = ys then none else some false, ()) w := by
    intro m
    induction m with
    | zero =>
      intro j hj ht
      have : xs = ys := by rw [← List.take_of_length_le (l := xs) (i := j) (by omega), ← List.take_of_length_le (l := ys) (i := j) (by omega), ht]
      simp [this]
    | succ m ih =>
      intro j hj ht
      have hxj : xs[j]? = some (xs[j]'(by omega)) := List.getElem?_eq_getElem _
      have hyj : ys[j]? = some (ys[j]'(by omega)) := List.getElem?_eq_getElem _
      generalize (xs[j]'(by omega)) = a at hxj
      generalize (ys[j]'(by omega)) = b at hyj
      have hpx := run_part1 hc (xs.map (Value.int .i64)) j (.int .i64 a) (by simp [hxj])
      have hpy := run_part1 hc (ys.map (Value.int .i64)) j (.int .i64 b) (by simp [hyj])
      rw [List.range'_succ]
      simp only [List.forIn_cons, Sem.run_bind, hpx, hpy, Result.andThen_ok, hin]
      by_cases hab : a = b
      · subst hab
        simp only [beq_self_eq_true, Bool.not_true, Bool.false_eq_true, if_false, Sem.run_pure, Result.andThen_ok]
        refine ih (j + 1) (by omega) ?_
        rw [List.take_add_one, List.take_add_one, ht, hxj, hyj]
      · have hne : xs ≠ ys := fun e => hab (by subst e; rw [hxj] at hyj; cases hyj; rfl)
        have hb : (a == b) = false := by simpa using hab
        simp only [hb, Bool.not_false, if_true, Sem.run_pure, Result.andThen_ok, if_neg hne]
  rw [key n 0 (by omega) (by simp)]
  by_cases hxy : xs = ys
  · simp [hxy]
  · simp [hxy]
theorem run_checkKey_arr {P : Program} {d t el n : Nat} (bb : Bool) (hu : P.underlying t = some (.array n el)) (he : P.underlying el = some (.int .i64)) (hs : sizeT P el = some 1) (hc : isCell P el = true) (xs : List Int) (hx : xs.length = n) (w : World) :
    (Instr.checkKey bb (d + 2) t (.agg (xs.map (Value.int .i64)).toArray)).run P w = .ok () w := by
  have h1 : ∀ w a, (Instr.checkKey bb (d + 1) el (.int .i64 a)).run P w = .ok () w := fun w a => by simp [Instr.checkKey, run_underlying he]
  rw [show d + 2 = (d + 1) + 1 from rfl, Instr.checkKey]
  simp only [Sem.run_bind, run_underlying hu, Result.andThen_ok, Nat.mul_one, Std.Legacy.Range.forIn_eq_forIn_range', Std.Legacy.Range.size, Nat.sub_zero, Nat.add_one_sub_one, Nat.div_one]
  have key : ∀ (m j : Nat), j + m = n →
      ((forIn (List.range' j m) () (fun i (_ : Unit) => (do
        Instr.checkKey bb (d + 1) el (← part el (xs.map (Value.int .i64)).toArray (i * (← sizeOf el)))
        pure (ForInStep.yield ()) : Sem (ForInStep Unit))) : Sem Unit)).run P w = Result.ok () w := by
    intro m
    induction m with
    | zero => intro j hj; simp
    | succ m ih =>
      intro j hj
      have hxj : xs[j]? = some (xs[j]'(by omega)) := List.getElem?_eq_getElem _
      generalize (xs[j]'(by omega)) = a at hxj
      have hpx := run_part1 hc (xs.map (Value.int .i64)) j (.int .i64 a) (by simp [hxj])
      rw [List.range'_succ]
      simp only [List.forIn_cons, Sem.run_bind, run_sizeOf hs, Nat.mul_one, hpx, Result.andThen_ok, h1, Sem.run_pure]
      exact ih (j + 1) (by omega)
  have hk := key n 0 (by omega)
  simp only [show (PUnit.unit : PUnit) = () from rfl] at hk ⊢
  rw [hk]
  rfl
/-- arrays of ints as keys -/
theorem keyLaw_arr {P : Program} {kt el n : Nat} (hu : P.underlying kt = some (.array n el)) (he : P.underlying el = some (.int .i64)) (hs : sizeT P el = some 1) (hc : isCell P el = true)
    {κ : Type} [DecidableEq κ] (f : κ → List Int) (hlen : ∀ k, (f k).length = n) (hinj : ∀ k k', f k = f k' → k = k') : KeyLaw P kt (fun k => .agg ((f k).map (Value.int .i64)).toArray) := by
  refine KeyLaw.of_eq hu (fun _ _ => rfl) ?_ ?_ ?_
  · intro b k w
    exact run_checkKey_arr (d := 9998) b hu he hs hc (f k) (hlen k) w
  · intro k k' w
    have := run_equalIn_arr (d := 9999) hu hs hc (fun w a b => run_equalIn_int w 9998 _ .i64 .i64 a b he) (f k) (f k') (hlen k) (hlen k') w
    rw [show decide (k = k') = decide (f k = f k') from decide_eq_decide.2 ⟨fun h => by rw [h], hinj k k'⟩]
    exact this
  · intro k
    have key : ∀ d, Instr.sameBits (d + 2) (.agg ((f k).map (Value.int .i64)).toArray) (.agg ((f k).map (Value.int .i64)).toArray) = true := fun d => by
      have h1 : ∀ l : List Int, ∀ p ∈ (l.map (Value.int .i64)).zip (l.map (Value.int .i64)), Instr.sameBits (d + 1) p.1 p.2 = true := by
        intro l
        induction l with
        | nil => simp
        | cons x l ih =>
          intro p hp
          simp only [List.map_cons, List.zip_cons_cons, List.mem_cons] at hp
          rcases hp with rfl | hp
          · simp [Instr.sameBits]
          · exact ih p hp
      rw [show d + 2 = (d + 1) + 1 from rfl, Instr.sameBits]
      simp
      exact fun a b h => h1 _ (a, b) h
    exact key 9998
theorem keyLaw_arr4 {P : Program} {kt el : TypeId} (hu : P.underlying kt = some (.array 4 el)) (he : P.underlying el = some (.int .i64)) (hs : sizeT P el = some 1) (hc : isCell P el = true) : KeyLaw P kt encK4 :=
  keyLaw_arr hu he hs hc (fun k : K4 => [k.t, k.a, k.b, k.c]) (fun _ => rfl) (fun k k' h => by cases k; cases k'; simp at h; simp [h])
theorem keyLaw_arr2 {P : Program} {kt el : TypeId} (hu : P.underlying kt = some (.array 2 el)) (he : P.underlying el = some (.int .i64)) (hs : sizeT P el = some 1) (hc : isCell P el = true) : KeyLaw P kt encK2 :=
  keyLaw_arr hu he hs hc (fun k : K2 => [k.a, k.b]) (fun _ => rfl) (fun k k' h => by cases k; cases k'; simp at h; simp [h])

section
variable {P : Program} {n : Nat} {ops : List Oper} {K : Env → World → Prop} {rest : List Oper} {e : Env} {w wb : World} {L : List Chunk}
variable {S : World → Prop} {d : Nat} {ty : TypeId} {g : Option (Nat × Bool)} {x y : Operand} {ps : String} {af : Array Edge}
/-- x[l:] of an array behind a pointer -/
theorem v_sliceArr {t len sz b o l : Nat} {lo : Operand} {ik : IntKind} (hp : pre n d ops e g = true) (ht : arrElem P t = some (len, sz)) (hx : ev e x = .pointer (some ⟨b, o, none⟩)) (hh : ev e lo = .int ik (l : Int)) (hl : l < len) {m o' : Nat} (hm : len - l = m) (ho : o + l * sz = o') :
    OpVal P n ops S e d (.slice t x (some lo) none none) ty g (.slice (some ⟨b, o', none⟩) m m) :=
  ⟨hp, fun _ _ a ha w _ => by
    subst hm ho
    unfold arrElem at ht
    cases hu : P.underlying t with
    | none => simp [hu] at ht
    | some ds =>
      cases ds <;> simp [hu] at ht
      rename_i ln el
      cases hi : P.info? el with
      | none => simp [hi] at ht
      | some inf =>
        simp only [hi] at ht
        simp at ht
        obtain ⟨rfl, rfl⟩ := ht
        have h0 : (0 : Int) ≤ (l : Int) ∧ (l : Int) ≤ (ln : Int) := ⟨by omega, by omega⟩
        have hne : ¬ ln = l := by omega
        have hcap : ¬ ln < l := by omega
        simp [execOp, ha.eval, hx, hh, Instr.sliceAt, run_underlying hu, Instr.sureAddr, Instr.sliceBounds, Instr.sliceBound, asIntOf, sizeOf, typeInfo, hi, addr_add, hne, hcap]⟩
/-- a function against nil -/
def isFunc (P : Program) (t : TypeId) : Bool := match P.underlying t with | some (.func _ _ _) => true | _ => false
theorem v_eql_nofunc {xt yt : TypeId} (hp : pre n d ops e g = true) (ht : isFunc P xt = true) (hx : ev e x = .nilFunc) (hy : ev e y = .nilFunc) : OpVal P n ops S e d (.binOp .eql xt x y yt) ty g (.bool true) :=
  ⟨hp, fun _ _ a ha w _ => by
    have he : (eqGuard .eql xt x y .nilFunc .nilFunc).run P w = .ok () w := rfl
    unfold isFunc at ht
    cases hu : P.underlying xt with
    | none => simp [hu] at ht
    | some ds =>
      cases ds <;> simp [hu] at ht
      have key : ∀ d, (Op.equalIn (d + 1) xt .nilFunc .nilFunc).run P w = .ok true w := fun d => by simp [Op.equalIn, run_underlying hu]
      have key' : (Op.equal xt .nilFunc .nilFunc).run P w = .ok true w := key 9999
      simp only [execOp, ha.eval, hx, hy, Sem.run_bind, he, Result.andThen_ok, binOp, key']; rfl⟩
theorem v_eql_func {xt yt : TypeId} {fn : Fn} {fi ca : Array Value} (hp : pre n d ops e g = true) (ht : isFunc P xt = true) (hx : ev e x = .func fn fi ca) (hy : ev e y = .nilFunc) : OpVal P n ops S e d (.binOp .eql xt x y yt) ty g (.bool false) :=
  ⟨hp, fun _ _ a ha w _ => by
    have he : (eqGuard .eql xt x y (.func fn fi ca) .nilFunc).run P w = .ok () w := rfl
    unfold isFunc at ht
    cases hu : P.underlying xt with
    | none => simp [hu] at ht
    | some ds =>
      cases ds <;> simp [hu] at ht
      have key : ∀ d, (Op.equalIn (d + 1) xt (.func fn fi ca) .nilFunc).run P w = .ok false w := fun d => by simp [Op.equalIn, run_underlying hu]
      have key' : (Op.equal xt (.func fn fi ca) .nilFunc).run P w = .ok false w := key 9999
      simp only [execOp, ha.eval, hx, hy, Sem.run_bind, he, Result.andThen_ok, binOp, key']; rfl⟩
/-- clear, without a result -/
theorem ops_clearMap0 {κ : Type} {enc : κ → Value} {kt el t : TypeId} {r : Nat} {l : List (κ × Value)} (i : Nat) (H : Own wb L w) (hu : P.underlying t = some (.map kt el)) (hg : gd ops e g = true) (hx : ev e x = .map (some r)) (hi : L[i]? = some (MapC enc r l))
    (h : ∀ w', Own wb (L.set i (MapC enc r [])) w' → opsW P n ops K rest e w') : opsW P n ops K (⟨none, .call ⟨.builtin .clear, #[x], #[t]⟩, ty, ps, af, g⟩ :: rest) e w := by
  obtain ⟨es, c, hb, hes⟩ := H.map i hi
  have hgo : (getObj r).run P w = .ok (.map es c) w := by simp [getObj, Sem.run, hb]
  have hset : ∀ o, (setObj r o).run P w = .ok () (setObjW w r o) := fun o => by simp [setObj, Sem.run, hb, setObjW]
  have H' : Own wb (L.set i (MapC enc r [])) (setObjW w r (.map #[] c)) := by
    refine H.changeAt i hi fun D hC hlt hn => ?_
    obtain ⟨rfl, _⟩ := hC
    have hlb := hlt r (by simp)
    refine ⟨⟨rfl, rfl, rfl, by simp [setObjW]⟩, fun b' _ hne => ?_, [r], ⟨rfl, #[], c, by simp [setObjW, hlb], rfl⟩, by simp, fun x hx => ?_⟩
    · have : r ≠ b' := fun e => hne (by simp [e])
      simp [setObjW, Array.getElem?_setIfInBounds_ne this]
    · simp at hx
      subst hx
      exact ⟨.inl (by simp), by simpa [setObjW] using hlb⟩
  intro a ha
  unfold wpList
  rw [ha.wanted ops, if_pos hg]
  refine .inl ?_
  have hrun : (execOp a.eval ⟨none, .call ⟨.builtin .clear, #[x], #[t]⟩, ty, ps, af, g⟩).run P w = .ok (.value (.tuple #[])) (setObjW w r (.map #[] c)) := by
    simp [execOp, resolve, ha.eval, hx, invoke, builtin, Builtin.clear_, run_underlying hu, hgo, hset]
  simp only [Oper.wp, hrun, Oper.upon]
  exact h _ H' _ ha
/-- A call without a result's place. -/
theorem ops_callV0 {cf : Operand} {as : List Operand} {ats : Array TypeId} {f : FuncId} {first captured : List Value} {Q : Value → World → Prop}
    (hg : gd ops e g = true) (hcf : ev e cf = .func (.func f) first.toArray captured.toArray) (hf : callable P f = true)
    (hc : FnC P f (first ++ (as.map (ev e) ++ captured)) w Q) (h : ∀ v w', Q v w' → opsW P n ops K rest e w') :
    opsW P n ops K (⟨none, .call ⟨.value cf, as.toArray, ats⟩, ty, ps, af, g⟩ :: rest) e w := by
  intro a ha
  unfold wpList
  rw [ha.wanted ops, if_pos hg]
  refine .inl ?_
  have hev : a.eval = ev e := funext ha.eval
  have hrun : (execOp a.eval ⟨none, .call ⟨.value cf, as.toArray, ats⟩, ty, ps, af, g⟩).run P w = .ok (.enter f (first ++ (as.map (ev e) ++ captured)).toArray) w := by
    simp only [execOp, resolve, hev, hcf, Deferred.ofValue, Sem.run_bind, Sem.run_pure, Result.andThen_ok, invoke]
    rw [run_callFunc hf]
    simp
  simp only [Oper.wp, hrun, Oper.upon]
  refine Calls.mono hc ?_
  rintro x w' ⟨v, rfl, hR⟩
  exact h v w' hR _ ha
theorem ops_call0 {f : FuncId} {as : List Operand} {ats : Array TypeId} {Q : Value → World → Prop}
    (hg : gd ops e g = true) (hf : callable P f = true) (hc : FnC P f (as.map (ev e)) w Q) (h : ∀ v w', Q v w' → opsW P n ops K rest e w') :
    opsW P n ops K (⟨none, .call ⟨.value (.func f), as.toArray, ats⟩, ty, ps, af, g⟩ :: rest) e w :=
  ops_callV0 (first := []) (captured := []) hg rfl hf (by simpa using hc) h
end
end Go.Proofs.YtchikjmhncojfaaDoor.W
