/- The walking library of this seat's proofs: environments, operations by law, separate chunks of memory. Conditions: none; every law is over whatever program. -/
import Derived.WalkKit
import Derived.OrdersHeld
import Derived.Laws.AppendOwn
import Derived.Laws.CopyRow
import Derived.Laws.Rows
import Derived.KernelRfl
import Derived.IntWalk
namespace Go.Proofs.YtchikjmhncojfaaDoor.W
open Go

/-! ### Environments -/
abbrev Env := Nat → Value
def upd (e : Env) (d : Nat) (v : Value) : Env := fun t => bif Nat.beq t d then v else e t
def ev (e : Env) : Operand → Value
  | .tmp t => e t
  | .const v => v
  | .global g => .pointer (some ⟨g, 0, none⟩)
  | .func f => .func (.func f) #[] #[]

structure Rep (n : Nat) (e : Env) (a : Act) : Prop where
  size : a.tmps.size = n
  get : ∀ t, a.tmps.getD t undef = e t
  defers : a.defers = []

theorem Rep.eval {n : Nat} {e : Env} {a : Act} (h : Rep n e a) (x : Operand) : a.eval x = ev e x := by
  cases x with
  | tmp t => exact h.get t
  | _ => rfl

theorem getD_set (xs : Array Value) (d t : Nat) (v : Value) (hd : d < xs.size) :
    (xs.setIfInBounds d v).getD t undef = bif Nat.beq t d then v else xs.getD t undef := by
  by_cases h : t = d
  · subst h; simp [hd]
  · have hb : Nat.beq t d = false := by
      cases hb : Nat.beq t d with
      | false => rfl
      | true => exact absurd (Nat.eq_of_beq_eq_true hb) h
    have hne : d ≠ t := fun e => h e.symm
    simp [hb, Array.getD_eq_getD_getElem?, Array.getElem?_setIfInBounds_ne hne]

theorem Rep.put {n : Nat} {e : Env} {a : Act} (h : Rep n e a) {d : Nat} (hd : Nat.blt d n = true) (v : Value) : Rep n (upd e d v) (a.put (some d) v) := by
  have hd' : d < n := Nat.le_of_ble_eq_true hd
  refine ⟨by simp [Act.put, h.size], fun t => ?_, h.defers⟩
  show (a.tmps.setIfInBounds d v).getD t undef = _
  rw [getD_set _ _ _ _ (by rw [h.size]; exact hd'), h.get]
  rfl

def yieldedL (ops : List Oper) (e : Env) (j : Nat) : Option Bool :=
  match (ops[j]?).bind (·.dst) with
  | some d => match e d with | .bool b => some b | _ => none
  | none => none
def gd (ops : List Oper) (e : Env) (g : Option (Nat × Bool)) : Bool :=
  match g with
  | none => true
  | some (j, want) => match yieldedL ops e j with | some b => b == want | none => false

theorem Rep.yielded {n : Nat} {e : Env} {a : Act} (h : Rep n e a) (ops : List Oper) (j : Nat) : Go.yielded ops.toArray a.tmps j = yieldedL ops e j := by
  unfold Go.yielded yieldedL
  simp only [List.getElem?_toArray]
  cases hj : (ops[j]?).bind (·.dst) with
  | none => rfl
  | some d =>
    simp only [Option.bind_some]
    have hg := h.get d
    rw [Array.getD_eq_getD_getElem?] at hg
    cases hx : a.tmps[d]? with
    | none => rw [hx] at hg; simp at hg; rw [← hg]; rfl
    | some v => rw [hx] at hg; simp at hg; rw [← hg]; cases v <;> rfl

theorem Rep.wanted {n : Nat} {e : Env} {a : Act} (h : Rep n e a) (ops : List Oper) (o : Oper) : Region.wanted o (Go.yielded ops.toArray a.tmps) = gd ops e o.guard := by
  unfold Region.wanted gd
  cases o.guard with
  | none => rfl
  | some p =>
    obtain ⟨j, want⟩ := p
    simp only [h.yielded ops j]
    cases yieldedL ops e j <;> simp

/-- What follows an operation list: normal alone. -/
def QN (n : Nat) (K : Env → World → Prop) : Exit → Act → World → Prop
  | .normal, a, w => ∃ e, Rep n e a ∧ K e w
  | _, _, _ => False

def opsW (P : Program) (n : Nat) (ops : List Oper) (K : Env → World → Prop) (l : List Oper) (e : Env) (w : World) : Prop :=
  ∀ a, Rep n e a → wpList P ops.toArray (QN n K) l a w

def pre (n d : Nat) (ops : List Oper) (e : Env) (g : Option (Nat × Bool)) : Bool := Nat.blt d n && gd ops e g

structure OpVal (P : Program) (n : Nat) (ops : List Oper) (S : World → Prop) (e : Env) (d : Nat) (op : Op) (ty : TypeId) (g : Option (Nat × Bool)) (v : Value) : Prop where
  pre : pre n d ops e g = true
  run : ∀ (ps : String) (af : Array Edge) (a : Act) (_ : Rep n e a), ∀ w, S w → (execOp a.eval ⟨some d, op, ty, ps, af, g⟩).run P w = .ok (.value v) w

section
variable {P : Program} {n : Nat} {ops : List Oper} {K : Env → World → Prop} {rest : List Oper} {e : Env} {w : World}

theorem ops_nil (h : K e w) : opsW P n ops K [] e w := fun _ ha => ⟨e, ha, h⟩

/-- An operation that runs to a value, whatever it does to the world. -/
theorem ops_run {d : Nat} {op : Op} {ty : TypeId} {ps : String} {af : Array Edge} {g : Option (Nat × Bool)} {v : Value} {w' : World}
    (hp : pre n d ops e g = true) (hr : ∀ a, Rep n e a → (execOp a.eval ⟨some d, op, ty, ps, af, g⟩).run P w = .ok (.value v) w')
    (h : opsW P n ops K rest (upd e d v) w') : opsW P n ops K (⟨some d, op, ty, ps, af, g⟩ :: rest) e w := by
  intro a ha
  simp only [pre, Bool.and_eq_true] at hp
  unfold wpList
  rw [ha.wanted ops, if_pos hp.2]
  refine .inl ?_
  simp only [Oper.wp, hr a ha, Oper.upon]
  exact h _ (ha.put hp.1 v)

theorem ops_v {d : Nat} {op : Op} {ty : TypeId} {ps : String} {af : Array Edge} {g : Option (Nat × Bool)} {v : Value}
    (hv : OpVal P n ops (fun x => x = w) e d op ty g v) (h : opsW P n ops K rest (upd e d v) w) :
    opsW P n ops K (⟨some d, op, ty, ps, af, g⟩ :: rest) e w :=
  ops_run hv.pre (fun a ha => hv.run ps af a ha w rfl) h

/-- An operation that is passed over. -/
theorem ops_skip {d : Nat} {op : Op} {ty : TypeId} {ps : String} {af : Array Edge} {g : Option (Nat × Bool)}
    (hd : Nat.blt d n = true) (hg : gd ops e g = false) (h : opsW P n ops K rest (upd e d undef) w) :
    opsW P n ops K (⟨some d, op, ty, ps, af, g⟩ :: rest) e w := by
  intro a ha
  unfold wpList
  rw [ha.wanted ops, hg]
  exact h _ (ha.put hd undef)
theorem ops_skip0 {op : Op} {ty : TypeId} {ps : String} {af : Array Edge} {g : Option (Nat × Bool)}
    (hg : gd ops e g = false) (h : opsW P n ops K rest e w) : opsW P n ops K (⟨none, op, ty, ps, af, g⟩ :: rest) e w := by
  intro a ha
  unfold wpList
  rw [ha.wanted ops, hg]
  exact h _ ha

/-- An operation without a result. -/
theorem ops_do {op : Op} {ty : TypeId} {ps : String} {af : Array Edge} {g : Option (Nat × Bool)} {w' : World}
    (hg : gd ops e g = true) (hr : ∀ a, Rep n e a → (execOp a.eval ⟨none, op, ty, ps, af, g⟩).run P w = .ok .skip w')
    (h : opsW P n ops K rest e w') : opsW P n ops K (⟨none, op, ty, ps, af, g⟩ :: rest) e w := by
  intro a ha
  unfold wpList
  rw [ha.wanted ops, hg, if_pos rfl]
  refine .inl ?_
  simp only [Oper.wp, hr a ha, Oper.upon]
  exact h _ ha

/-- A function returns, and R holds of what it returns. -/
def Ret (R : Value → World → Prop) : Ending → World → Prop := fun x w => ∃ v, x = .returned v ∧ R v w
def FnC (P : Program) (f : FuncId) (args : List Value) (w : World) (R : Value → World → Prop) : Prop := Calls P f args.toArray w (Ret R)

theorem FnC.mono {f : FuncId} {args : List Value} {w : World} {R R' : Value → World → Prop} (h : FnC P f args w R) (hr : ∀ v w', R v w' → R' v w') : FnC P f args w R' :=
  Calls.mono h fun _ w' ⟨v, hv, hR⟩ => ⟨v, hv, hr v w' hR⟩

def callable (P : Program) (f : FuncId) : Bool :=
  match P.funcs[f]? with
  | some fn => !(fn.name == "runtime.NumGoroutine") && fn.body.isSome
  | none => false

theorem run_callFunc {f : FuncId} (hf : callable P f = true) (args : Array Value) (w : World) : (callFunc f args).run P w = .ok (.enter f args) w := by
  unfold callable at hf
  cases hfn : P.funcs[f]? with
  | none => simp [hfn] at hf
  | some fn =>
    simp only [hfn, Bool.and_eq_true, Bool.not_eq_true'] at hf
    have hn : fn.name ≠ "runtime.NumGoroutine" := by simpa using hf.1
    have hb : fn.body ≠ none := by intro h; simp [h] at hf
    simp [callFunc, program, Sem.run, hfn, hn, hb]

theorem ops_callV {d : Nat} {cf : Operand} {as : List Operand} {ats : Array TypeId} {ty : TypeId} {ps : String} {af : Array Edge} {g : Option (Nat × Bool)} {f : FuncId} {first captured : List Value} {R : Value → World → Prop}
    (hp : pre n d ops e g = true) (hcf : ev e cf = .func (.func f) first.toArray captured.toArray) (hf : callable P f = true)
    (hc : FnC P f (first ++ (as.map (ev e) ++ captured)) w R) (h : ∀ v w', R v w' → opsW P n ops K rest (upd e d v) w') :
    opsW P n ops K (⟨some d, .call ⟨.value cf, as.toArray, ats⟩, ty, ps, af, g⟩ :: rest) e w := by
  intro a ha
  simp only [pre, Bool.and_eq_true] at hp
  unfold wpList
  rw [ha.wanted ops, if_pos hp.2]
  refine .inl ?_
  have hev : a.eval = ev e := funext ha.eval
  have hrun : (execOp a.eval ⟨some d, .call ⟨.value cf, as.toArray, ats⟩, ty, ps, af, g⟩).run P w = .ok (.enter f (first ++ (as.map (ev e) ++ captured)).toArray) w := by
    simp only [execOp, resolve, hev, hcf, Deferred.ofValue, Sem.run_bind, Sem.run_pure, Result.andThen_ok, invoke]
    rw [run_callFunc hf]
    simp
  simp only [Oper.wp, hrun, Oper.upon]
  refine Calls.mono hc ?_
  rintro x w' ⟨v, rfl, hR⟩
  exact h v w' hR _ (ha.put hp.1 v)

/-- A call of a function by its number. -/
theorem ops_call {d : Nat} {f : FuncId} {as : List Operand} {ats : Array TypeId} {ty : TypeId} {ps : String} {af : Array Edge} {g : Option (Nat × Bool)} {R : Value → World → Prop}
    (hp : pre n d ops e g = true) (hf : callable P f = true)
    (hc : FnC P f (as.map (ev e)) w R) (h : ∀ v w', R v w' → opsW P n ops K rest (upd e d v) w') :
    opsW P n ops K (⟨some d, .call ⟨.value (.func f), as.toArray, ats⟩, ty, ps, af, g⟩ :: rest) e w :=
  ops_callV (first := []) (captured := []) hp rfl hf (by simpa using hc) h

/-! ### Operations that only compute -/
variable {S : World → Prop} {d : Nat} {ty : TypeId} {g : Option (Nat × Bool)} {x y : Operand} {k : IntKind} {i j : Int}

theorem v_move {v : Value} (hp : pre n d ops e g = true) (hx : ev e x = v) : OpVal P n ops S e d (.move x) ty g v :=
  ⟨hp, fun _ _ a ha w _ => by simp only [execOp, ha.eval, hx]; rfl⟩
theorem v_assign {v : Value} (hp : pre n d ops e g = true) (hx : ev e x = v) : OpVal P n ops S e d (.assign x) ty g v :=
  ⟨hp, fun _ _ a ha w _ => by simp only [execOp, ha.eval, hx]; rfl⟩
theorem v_pick_t {v : Value} {c : Operand} (hp : pre n d ops e g = true) (hc : ev e c = .bool true) (hx : ev e x = v) : OpVal P n ops S e d (.pick c x y) ty g v :=
  ⟨hp, fun _ _ a ha w _ => by simp only [execOp, ha.eval, hc, hx, asBool]; rfl⟩
theorem v_pick_f {v : Value} {c : Operand} (hp : pre n d ops e g = true) (hc : ev e c = .bool false) (hy : ev e y = v) : OpVal P n ops S e d (.pick c x y) ty g v :=
  ⟨hp, fun _ _ a ha w _ => by simp only [execOp, ha.eval, hc, hy, asBool]; rfl⟩
theorem v_not {b : Bool} (hp : pre n d ops e g = true) (hx : ev e x = .bool b) (c : Bool) (hc : (!b) = c) : OpVal P n ops S e d (.unOp .not ty x) ty g (.bool c) :=
  ⟨hp, fun _ _ a ha w _ => by simp only [execOp, ha.eval, hx, Op.unary, hc]; rfl⟩

theorem run_eqGuard_int (op : BinOp) (t : TypeId) (x y : Operand) (k k' : IntKind) (a b : Int) (w : World) : (eqGuard op t x y (.int k a) (.int k' b)).run P w = .ok () w := by
  unfold eqGuard
  cases op <;> rfl

theorem v_bin {op : BinOp} {xt yt : TypeId} {v : Value} (hp : pre n d ops e g = true) (hx : ev e x = .int k i) (hy : ev e y = .int k j)
    (hr : ∀ w, (binOp op xt (.int k i) (.int k j)).run P w = .ok v w) : OpVal P n ops S e d (.binOp op xt x y yt) ty g v :=
  ⟨hp, fun _ _ a ha w _ => by
    simp only [execOp, ha.eval, hx, hy, Sem.run_bind, run_eqGuard_int, Result.andThen_ok, hr]; rfl⟩

variable {xt yt : TypeId}
theorem v_lss (c : Bool) (hp : pre n d ops e g = true) (hx : ev e x = .int k i) (hy : ev e y = .int k j) (hc : decide (i < j) = c) : OpVal P n ops S e d (.binOp .lss xt x y yt) ty g (.bool c) :=
  v_bin hp hx hy fun w => by subst hc; simp [binOp, Op.intCmp]
theorem v_leq (c : Bool) (hp : pre n d ops e g = true) (hx : ev e x = .int k i) (hy : ev e y = .int k j) (hc : decide (i ≤ j) = c) : OpVal P n ops S e d (.binOp .leq xt x y yt) ty g (.bool c) :=
  v_bin hp hx hy fun w => by subst hc; simp [binOp, Op.intCmp]
theorem v_gtr (c : Bool) (hp : pre n d ops e g = true) (hx : ev e x = .int k i) (hy : ev e y = .int k j) (hc : decide (j < i) = c) : OpVal P n ops S e d (.binOp .gtr xt x y yt) ty g (.bool c) :=
  v_bin hp hx hy fun w => by subst hc; simp [binOp, Op.intCmp]
theorem v_geq (c : Bool) (hp : pre n d ops e g = true) (hx : ev e x = .int k i) (hy : ev e y = .int k j) (hc : decide (j ≤ i) = c) : OpVal P n ops S e d (.binOp .geq xt x y yt) ty g (.bool c) :=
  v_bin hp hx hy fun w => by subst hc; simp [binOp, Op.intCmp]
theorem v_eql (c : Bool) (hp : pre n d ops e g = true) (hx : ev e x = .int k i) (hy : ev e y = .int k j) (hc : decide (i = j) = c) : OpVal P n ops S e d (.binOp .eql xt x y yt) ty g (.bool c) :=
  v_bin hp hx hy fun w => by subst hc; by_cases h : i = j <;> simp [binOp, Op.intCmp, h]
theorem v_neq (c : Bool) (hp : pre n d ops e g = true) (hx : ev e x = .int k i) (hy : ev e y = .int k j) (hc : decide (i ≠ j) = c) : OpVal P n ops S e d (.binOp .neq xt x y yt) ty g (.bool c) :=
  v_bin hp hx hy fun w => by subst hc; by_cases h : i = j <;> simp [binOp, Op.intCmp, h]
theorem v_add (c : Int) (hp : pre n d ops e g = true) (hx : ev e x = .int k i) (hy : ev e y = .int k j) (hc : k.wrap (i + j) = c) : OpVal P n ops S e d (.binOp .add xt x y yt) ty g (.int k c) :=
  v_bin hp hx hy fun w => by subst hc; simp [binOp, Op.intArith]
theorem v_sub (c : Int) (hp : pre n d ops e g = true) (hx : ev e x = .int k i) (hy : ev e y = .int k j) (hc : k.wrap (i - j) = c) : OpVal P n ops S e d (.binOp .sub xt x y yt) ty g (.int k c) :=
  v_bin hp hx hy fun w => by subst hc; simp [binOp, Op.intArith]
theorem v_mul (c : Int) (hp : pre n d ops e g = true) (hx : ev e x = .int k i) (hy : ev e y = .int k j) (hc : k.wrap (i * j) = c) : OpVal P n ops S e d (.binOp .mul xt x y yt) ty g (.int k c) :=
  v_bin hp hx hy fun w => by subst hc; simp [binOp, Op.intArith]
theorem v_rem (c : Int) (hp : pre n d ops e g = true) (hx : ev e x = .int k i) (hy : ev e y = .int k j) (h0 : j ≠ 0) (hc : i.tmod j = c) : OpVal P n ops S e d (.binOp .rem xt x y yt) ty g (.int k c) :=
  v_bin hp hx hy fun w => by subst hc; simp [binOp, Op.intDiv, h0]
theorem v_quo (c : Int) (hp : pre n d ops e g = true) (hx : ev e x = .int k i) (hy : ev e y = .int k j) (h0 : j ≠ 0) (hc : k.wrap (i.tdiv j) = c) : OpVal P n ops S e d (.binOp .quo xt x y yt) ty g (.int k c) :=
  v_bin hp hx hy fun w => by subst hc; simp [binOp, Op.intDiv, h0]

theorem v_shr (c : Int) {k' : IntKind} (hp : pre n d ops e g = true) (hx : ev e x = .int k i) (hy : ev e y = .int k' j) (h0 : 0 ≤ j) (hc : i.fdiv (2 ^ min j.toNat k.bits) = c) : OpVal P n ops S e d (.binOp .shr xt x y yt) ty g (.int k c) :=
  ⟨hp, fun _ _ a ha w _ => by
    have hn : ¬ j < 0 := by omega
    simp only [execOp, ha.eval, hx, hy, Sem.run_bind, run_eqGuard_int, Result.andThen_ok, binOp, Op.shift, if_neg hn, hc]; rfl⟩
theorem v_shl (c : Int) {k' : IntKind} (hp : pre n d ops e g = true) (hx : ev e x = .int k i) (hy : ev e y = .int k' j) (h0 : 0 ≤ j) (hc : k.wrap (i * 2 ^ min j.toNat k.bits) = c) : OpVal P n ops S e d (.binOp .shl xt x y yt) ty g (.int k c) :=
  ⟨hp, fun _ _ a ha w _ => by
    have hn : ¬ j < 0 := by omega
    simp only [execOp, ha.eval, hx, hy, Sem.run_bind, run_eqGuard_int, Result.andThen_ok, binOp, Op.shift, if_neg hn, hc]; rfl⟩
theorem v_and (c : Int) (hp : pre n d ops e g = true) (hx : ev e x = .int k i) (hy : ev e y = .int k j) (hc : k.wrap (BitVec.ofInt k.bits i &&& BitVec.ofInt k.bits j).toNat = c) : OpVal P n ops S e d (.binOp .and xt x y yt) ty g (.int k c) :=
  v_bin hp hx hy fun w => by subst hc; simp [binOp, Op.intBits]
theorem v_or (c : Int) (hp : pre n d ops e g = true) (hx : ev e x = .int k i) (hy : ev e y = .int k j) (hc : k.wrap (BitVec.ofInt k.bits i ||| BitVec.ofInt k.bits j).toNat = c) : OpVal P n ops S e d (.binOp .or xt x y yt) ty g (.int k c) :=
  v_bin hp hx hy fun w => by subst hc; simp [binOp, Op.intBits]
theorem v_xor (c : Int) (hp : pre n d ops e g = true) (hx : ev e x = .int k i) (hy : ev e y = .int k j) (hc : k.wrap (BitVec.ofInt k.bits i ^^^ BitVec.ofInt k.bits j).toNat = c) : OpVal P n ops S e d (.binOp .xor xt x y yt) ty g (.int k c) :=
  v_bin hp hx hy fun w => by subst hc; simp [binOp, Op.intBits]
theorem and1_eq (i : Int) : IntKind.i64.wrap (BitVec.ofInt IntKind.i64.bits i &&& BitVec.ofInt IntKind.i64.bits 1).toNat = i % 2 := by
  have h : (BitVec.ofInt IntKind.i64.bits i &&& BitVec.ofInt IntKind.i64.bits 1).toNat = (i % 2).toNat := by
    show (BitVec.ofInt 64 i &&& BitVec.ofInt 64 1).toNat = _
    rw [BitVec.toNat_and, BitVec.toNat_ofInt, BitVec.toNat_ofInt]
    rw [show (((1 : Int) % ((2 ^ 64 : Nat) : Int)).toNat) = 1 from by decide, Nat.and_one_is_mod]
    omega
  rw [h, IntKind.wrap_i64]
  omega
theorem v_and1 (c : Int) (hp : pre n d ops e g = true) (hx : ev e x = .int .i64 i) (hy : ev e y = .int .i64 1) (hc : i % 2 = c) : OpVal P n ops S e d (.binOp .and xt x y yt) ty g (.int .i64 c) :=
  v_and c hp hx hy ((and1_eq i).trans hc)
theorem v_neg (c : Int) (hp : pre n d ops e g = true) (hx : ev e x = .int k i) (hc : k.wrap (0 - i) = c) : OpVal P n ops S e d (.unOp .neg ty x) ty g (.int k c) :=
  ⟨hp, fun _ _ a ha w _ => by simp only [execOp, ha.eval, hx, Op.unary, Op.intArith, hc]; rfl⟩

/-- a pointer against nil -/
def isPtr (P : Program) (t : TypeId) : Bool := match P.underlying t with | some (.pointer _) => true | _ => false
theorem run_eq_ptr {t : TypeId} (ht : isPtr P t = true) (p : Option Addr) (w : World) : (Op.equal t (.pointer p) (.pointer none)).run P w = .ok p.isNone w := by
  unfold isPtr at ht
  cases hu : P.underlying t with
  | none => simp [hu] at ht
  | some d =>
    cases d <;> simp [hu] at ht
    have key : ∀ d, (Op.equalIn (d + 1) t (.pointer p) (.pointer none)).run P w = .ok p.isNone w := fun d => by
      cases p <;> simp [Op.equalIn, run_underlying hu]
    exact key 9999
theorem v_eql_nil {p : Option Addr} (c : Bool) (hp : pre n d ops e g = true) (ht : isPtr P xt = true) (hx : ev e x = .pointer p) (hy : ev e y = .pointer none) (hc : p.isNone = c) : OpVal P n ops S e d (.binOp .eql xt x y yt) ty g (.bool c) :=
  ⟨hp, fun _ _ a ha w _ => by
    subst hc
    have he : (eqGuard .eql xt x y (.pointer p) (.pointer none)).run P w = .ok () w := rfl
    simp only [execOp, ha.eval, hx, hy, Sem.run_bind, he, Result.andThen_ok, binOp, run_eq_ptr ht]; rfl⟩
theorem v_neq_nil {p : Option Addr} (c : Bool) (hp : pre n d ops e g = true) (ht : isPtr P xt = true) (hx : ev e x = .pointer p) (hy : ev e y = .pointer none) (hc : p.isSome = c) : OpVal P n ops S e d (.binOp .neq xt x y yt) ty g (.bool c) :=
  ⟨hp, fun _ _ a ha w _ => by
    subst hc
    have he : (eqGuard .neq xt x y (.pointer p) (.pointer none)).run P w = .ok () w := rfl
    simp only [execOp, ha.eval, hx, hy, Sem.run_bind, he, Result.andThen_ok, binOp, run_eq_ptr ht]; cases p <;> rfl⟩
/-- bools -/
def isBool (P : Program) (t : TypeId) : Bool := match P.underlying t with | some .bool => true | _ => false
theorem run_eq_bool {t : TypeId} (ht : isBool P t = true) (a b : Bool) (w : World) : (Op.equal t (.bool a) (.bool b)).run P w = .ok (a == b) w := by
  unfold isBool at ht
  cases hu : P.underlying t with
  | none => simp [hu] at ht
  | some d =>
    cases d <;> simp [hu] at ht
    have key : ∀ d, (Op.equalIn (d + 1) t (.bool a) (.bool b)).run P w = .ok (a == b) w := fun d => by
      simp [Op.equalIn, run_underlying hu]
    exact key 9999
theorem v_eql_bool {p q : Bool} (c : Bool) (hp : pre n d ops e g = true) (ht : isBool P xt = true) (hx : ev e x = .bool p) (hy : ev e y = .bool q) (hc : (p == q) = c) : OpVal P n ops S e d (.binOp .eql xt x y yt) ty g (.bool c) :=
  ⟨hp, fun _ _ a ha w _ => by
    subst hc
    have he : (eqGuard .eql xt x y (.bool p) (.bool q)).run P w = .ok () w := rfl
    simp only [execOp, ha.eval, hx, hy, Sem.run_bind, he, Result.andThen_ok, binOp, run_eq_bool ht]; rfl⟩
theorem v_neq_bool {p q : Bool} (c : Bool) (hp : pre n d ops e g = true) (ht : isBool P xt = true) (hx : ev e x = .bool p) (hy : ev e y = .bool q) (hc : (!(p == q)) = c) : OpVal P n ops S e d (.binOp .neq xt x y yt) ty g (.bool c) :=
  ⟨hp, fun _ _ a ha w _ => by
    subst hc
    have he : (eqGuard .neq xt x y (.bool p) (.bool q)).run P w = .ok () w := rfl
    simp only [execOp, ha.eval, hx, hy, Sem.run_bind, he, Result.andThen_ok, binOp, run_eq_bool ht]; rfl⟩

theorem v_nilCheck {p : Addr} (hp : pre n d ops e g = true) (hx : ev e x = .pointer (some p)) : OpVal P n ops S e d (.nilCheck x) ty g (.pointer (some p)) :=
  ⟨hp, fun _ _ a ha w _ => by simp only [execOp, ha.eval, hx]; rfl⟩
theorem v_extract {ix : Nat} {vs : List Value} {v : Value} (hp : pre n d ops e g = true) (hx : ev e x = .tuple vs.toArray) (hi : vs[ix]? = some v) : OpVal P n ops S e d (.extract x ix) ty g v :=
  ⟨hp, fun _ _ a ha w _ => by simp [execOp, ha.eval, hx, Instr.extract, hi]⟩

theorem addr_add (b o m : Nat) : (⟨b, o, none⟩ : Addr).add m = ⟨b, o + m, none⟩ := by unfold Addr.add; split <;> simp_all

def fieldOff (P : Program) (t : TypeId) (f : Nat) : Option Nat :=
  match P.underlying t with
  | some (.struct fs) => match fs[f]? with
    | some fd => match P.info? fd.type with
      | some i => if i.size = 0 then none else some fd.offset
      | none => none
    | none => none
  | _ => none
theorem v_fieldAddr {t : TypeId} {f b o o' fo : Nat} (hp : pre n d ops e g = true) (hf : fieldOff P t f = some fo) (hx : ev e x = .pointer (some ⟨b, o, none⟩)) (ho : o + fo = o') : OpVal P n ops S e d (.fieldAddr t x f) ty g (.pointer (some ⟨b, o', none⟩)) :=
  ⟨hp, fun _ _ a ha w _ => by
    subst ho
    unfold fieldOff at hf
    cases hu : P.underlying t with
    | none => simp [hu] at hf
    | some ds =>
      cases ds <;> simp [hu] at hf
      rename_i fs
      cases hfd : fs[f]? with
      | none => simp [hfd] at hf
      | some fd =>
        simp only [hfd] at hf
        cases hi : P.info? fd.type with
        | none => simp [hi] at hf
        | some inf =>
          simp only [hi] at hf
          split at hf
          · cases hf
          · rename_i hz
            cases hf
            simp [execOp, ha.eval, hx, Instr.fieldAt, run_underlying hu, hfd, Instr.sureAddr, fieldPlace, sizeOf, typeInfo, hi, hz, addr_add]⟩

/-- the address of an element of an array behind a pointer -/
def arrElem (P : Program) (t : TypeId) : Option (Nat × Nat) :=
  match P.underlying t with
  | some (.array len el) => match P.info? el with | some i => some (len, i.size) | none => none
  | _ => none
theorem v_indexAddr_arr {t : TypeId} {len sz b o o' : Nat} {m : Nat} (hp : pre n d ops e g = true) (ht : arrElem P t = some (len, sz)) (hx : ev e x = .pointer (some ⟨b, o, none⟩)) (hy : ev e y = .int k (m : Int)) (hm : m < len) (ho : o + m * sz = o') : OpVal P n ops S e d (.indexAddr t x y) ty g (.pointer (some ⟨b, o', none⟩)) :=
  ⟨hp, fun _ _ a ha w _ => by
    subst ho
    unfold arrElem at ht
    cases hu : P.underlying t with
    | none => simp [hu] at ht
    | some ds =>
      cases ds <;> simp [hu] at ht
      rename_i ln el
      cases hi : P.info? el with
      | none => simp [hi] at ht
      | some inf =>
        simp only [hi] at ht
        simp at ht
        obtain ⟨rfl, rfl⟩ := ht
        have hln : ¬ ln ≤ m := by omega
        simp [execOp, ha.eval, hx, hy, Instr.indexAt, asIntOf, run_underlying hu, Instr.sureAddr, sizeOf, typeInfo, hi, addr_add, hm]⟩
/-- the address of an element of a slice -/
def sliceElem (P : Program) (t : TypeId) : Option Nat :=
  match P.underlying t with
  | some (.slice el) => match P.info? el with | some i => some i.size | none => none
  | _ => none
theorem v_indexAddr_sl {t : TypeId} {len cap sz b o : Nat} {m : Int} (hp : pre n d ops e g = true) (ht : sliceElem P t = some sz) (hx : ev e x = .slice (some ⟨b, o, none⟩) len cap) (hy : ev e y = .int k m) (h0 : 0 ≤ m) (hm : m < len) : OpVal P n ops S e d (.indexAddr t x y) ty g (.pointer (some ⟨b, o + m.toNat * sz, none⟩)) :=
  ⟨hp, fun _ _ a ha w _ => by
    unfold sliceElem at ht
    cases hu : P.underlying t with
    | none => simp [hu] at ht
    | some ds =>
      cases ds <;> simp [hu] at ht
      rename_i el
      cases hi : P.info? el with
      | none => simp [hi] at ht
      | some inf =>
        simp [hi] at ht
        subst ht
        simp [execOp, ha.eval, hx, hy, Instr.indexAt, asIntOf, run_underlying hu, sizeOf, typeInfo, hi, addr_add, h0, hm]⟩

/-- len of a slice -/
def isSlice (P : Program) (t : TypeId) : Bool := match P.underlying t with | some (.slice _) => true | _ => false
theorem v_len {t : TypeId} {p : Option Addr} {len cap : Nat} (hp : pre n d ops e g = true) (ht : isSlice P t = true) (hx : ev e x = .slice p len cap) : OpVal P n ops S e d (.call ⟨.builtin .len, #[x], #[t]⟩) ty g (.int .i64 len) :=
  ⟨hp, fun _ _ a ha w _ => by
    unfold isSlice at ht
    cases hu : P.underlying t with
    | none => simp [hu] at ht
    | some ds =>
      cases ds <;> simp [hu] at ht
      simp [execOp, resolve, ha.eval, hx, invoke, builtin, Builtin.len_, run_underlying hu, goInt]⟩
theorem v_max {ts : Array TypeId} {c : Int} (hp : pre n d ops e g = true) (hx : ev e x = .int k i) (hy : ev e y = .int k j) (hc : (if i < j then j else i) = c) : OpVal P n ops S e d (.call ⟨.builtin .max, #[x, y], ts⟩) ty g (.int k c) :=
  ⟨hp, fun _ _ a ha w _ => by
    subst hc
    simp [execOp, resolve, ha.eval, hx, hy, invoke, builtin, Builtin.max_, Builtin.max2]⟩
theorem v_min {ts : Array TypeId} {c : Int} (hp : pre n d ops e g = true) (hx : ev e x = .int k i) (hy : ev e y = .int k j) (hc : (if j < i then j else i) = c) : OpVal P n ops S e d (.call ⟨.builtin .min, #[x, y], ts⟩) ty g (.int k c) :=
  ⟨hp, fun _ _ a ha w _ => by
    subst hc
    simp [execOp, resolve, ha.eval, hx, hy, invoke, builtin, Builtin.min_, Builtin.min2]⟩
theorem v_makeFunc {fn : Fn} {first captured : List Operand} (hp : pre n d ops e g = true) : OpVal P n ops S e d (.makeFunc fn first.toArray captured.toArray) ty g (.func fn (first.map (ev e)).toArray (captured.map (ev e)).toArray) :=
  ⟨hp, fun _ _ a ha w _ => by
    have hev : a.eval = ev e := funext ha.eval
    simp [execOp, hev, Instr.makeFunc]⟩
end
end Go.Proofs.YtchikjmhncojfaaDoor.W
