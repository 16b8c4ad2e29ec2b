/- The plain model of a store of nodes (chapter 13): no program in sight. Conditions: none. -/
import Derived.Below
namespace Go.Proofs.YtchikjmhncojfaaDoor.M

structure Br where
  leaf : Bool
  value : Int
  link : Int
  stands : Int
  fails : Int
  deriving DecidableEq
def Br.zero : Br := ⟨false, 0, 0, 0, 0⟩
structure St where
  links : Nat
  most : Nat
  nodes : List Br
  deriving DecidableEq

/-- is a link in a set? -/
def has (f l : Int) : Bool := decide (0 ≤ l) && decide (l < 16) && decide (f / 2 ^ l.toNat % 2 = 1)

def get (s : St) (id : Int) : Option Br := if id < 0 then none else s.nodes[id.toNat]?
def getZ (s : St) (id : Int) : Br := (get s id).getD Br.zero
def isN (s : St) (id : Int) : Bool := (get s id).isSome
def under (s : St) (link id : Int) : Bool :=
  match get s id with
  | some b => b.leaf || decide (link < b.link)
  | none => false

def idx (l : List Br) (b : Br) : Option Nat := l.findIdx? (fun x => decide (x = b))
def put (s : St) (b : Br) : St × Int × Int :=
  match idx s.nodes b with
  | some i => (s, i, 0)
  | none => if s.most ≤ s.nodes.length then (s, 0, 60) else ({ s with nodes := s.nodes ++ [b] }, s.nodes.length, 0)
def leafB (v : Int) : Br := ⟨true, v, 0, 0, 0⟩
def askB (k a b : Int) : Br := ⟨false, 0, k, a, b⟩
def leaf (s : St) (v : Int) : St × Int × Int := put s (leafB v)
def makeOk (s : St) (k a b : Int) : Bool := decide (0 ≤ k) && decide (k < s.links) && under s k a && under s k b
def make (s : St) (k a b : Int) : St × Int × Int :=
  if makeOk s k a b then (if a = b then (s, a, 0) else put s (askB k a b)) else (s, 0, 1)

/-- one step down -/
def down (b : Br) (f : Int) : Int := if has f b.link then b.fails else b.stands
def evalN : Nat → St → Int → Int → Int
  | 0, s, id, _ => (getZ s id).value
  | n + 1, s, id, f =>
    match get s id with
    | none => 0
    | some b => if b.leaf then b.value else evalN n s (down b f) f
def eval (s : St) (id f : Int) : Int := evalN 20 s id f

theorem get_some {s : St} {id : Int} {b : Br} (h : get s id = some b) : 0 ≤ id ∧ id.toNat < s.nodes.length ∧ s.nodes[id.toNat]? = some b := by
  unfold get at h
  split at h
  · cases h
  · exact ⟨by omega, (List.getElem?_eq_some_iff.1 h).1, h⟩
theorem get_nat {s : St} {i : Nat} : get s i = s.nodes[i]? := by unfold get; rw [if_neg (by omega)]; simp
theorem get_none_lt {s : St} {id : Int} (h : id < 0) : get s id = none := by unfold get; rw [if_pos h]
theorem get_none_ge {s : St} {id : Int} (h : (s.nodes.length : Int) ≤ id) : get s id = none := by
  unfold get; rw [if_neg (by omega)]; exact List.getElem?_eq_none (by omega)
theorem get_in {s : St} {id : Int} (h0 : 0 ≤ id) (h1 : id < s.nodes.length) : ∃ b, get s id = some b ∧ s.nodes[id.toNat]? = some b := by
  have hlt : id.toNat < s.nodes.length := by omega
  refine ⟨s.nodes[id.toNat], ?_, List.getElem?_eq_getElem hlt⟩
  unfold get; rw [if_neg (by omega)]; exact List.getElem?_eq_getElem hlt
theorem isN_iff {s : St} {id : Int} : isN s id = true ↔ 0 ≤ id ∧ id < s.nodes.length := by
  constructor
  · intro h
    obtain ⟨b, hb⟩ := Option.isSome_iff_exists.1 h
    have := get_some hb
    exact ⟨this.1, by omega⟩
  · rintro ⟨h0, h1⟩
    obtain ⟨b, hb, _⟩ := get_in h0 h1
    simp [isN, hb]
theorem under_eq {s : St} {k id : Int} {b : Br} (h : get s id = some b) : under s k id = (b.leaf || decide (k < b.link)) := by simp [under, h]
theorem under_none {s : St} {k id : Int} (h : get s id = none) : under s k id = false := by simp [under, h]
theorem under_isN {s : St} {k id : Int} (h : under s k id = true) : isN s id = true := by
  unfold under at h
  cases hg : get s id with
  | none => simp [hg] at h
  | some b => simp [isN, hg]

/-! ### What stores are -/
structure Wf (s : St) : Prop where
  links : s.links ≤ 16
  most : s.most ≤ 1073741824
  room : s.nodes.length ≤ s.most
  nodup : s.nodes.Nodup
  leafs : ∀ (i : Nat) (b : Br), s.nodes[i]? = some b → b.leaf = true → b = leafB b.value
  asks : ∀ (i : Nat) (b : Br), s.nodes[i]? = some b → b.leaf = false →
    b = askB b.link b.stands b.fails ∧ 0 ≤ b.link ∧ b.link < s.links ∧ b.stands ≠ b.fails ∧ under s b.link b.stands = true ∧ under s b.link b.fails = true ∧ b.stands < i ∧ b.fails < i

/-- how many steps down there may be -/
def rank (s : St) (id : Int) : Nat :=
  match get s id with
  | none => 0
  | some b => if b.leaf then 0 else (17 - b.link).toNat

theorem rank_none {s : St} {id : Int} (h : get s id = none) : rank s id = 0 := by simp [rank, h]
theorem rank_leaf {s : St} {id : Int} {b : Br} (h : get s id = some b) (hl : b.leaf = true) : rank s id = 0 := by simp [rank, h, hl]
theorem rank_ask {s : St} {id : Int} {b : Br} (h : get s id = some b) (hl : b.leaf = false) : rank s id = (17 - b.link).toNat := by simp [rank, h, hl]
theorem Wf.ask {s : St} (w : Wf s) {id : Int} {b : Br} (h : get s id = some b) (hl : b.leaf = false) :
    b = askB b.link b.stands b.fails ∧ 0 ≤ b.link ∧ b.link < s.links ∧ b.stands ≠ b.fails ∧ under s b.link b.stands = true ∧ under s b.link b.fails = true ∧ b.stands < id ∧ b.fails < id := by
  obtain ⟨h0, _, hn⟩ := get_some h
  have := w.asks _ _ hn hl
  obtain ⟨a1, a2, a3, a4, a5, a6, a7, a8⟩ := this
  exact ⟨a1, a2, a3, a4, a5, a6, by omega, by omega⟩
theorem rank_under {s : St} {k id : Int} (hk : k ≤ 16) (h : under s k id = true) : rank s id < (17 - k).toNat := by
  unfold under at h
  cases hg : get s id with
  | none => simp [hg] at h
  | some b =>
    simp only [hg, Bool.or_eq_true, decide_eq_true_eq] at h
    cases hl : b.leaf with
    | true => rw [rank_leaf hg hl]; omega
    | false => rw [rank_ask hg hl]; simp [hl] at h; omega
theorem Wf.down_under {s : St} (w : Wf s) {id f : Int} {b : Br} (h : get s id = some b) (hl : b.leaf = false) : under s b.link (down b f) = true := by
  obtain ⟨_, _, _, _, a5, a6, _⟩ := w.ask h hl
  unfold down; split <;> assumption
theorem Wf.rank_down {s : St} (w : Wf s) {id f : Int} {b : Br} (h : get s id = some b) (hl : b.leaf = false) : rank s (down b f) < rank s id := by
  have ha := w.ask h hl
  have hlk := w.links
  rw [rank_ask h hl]
  exact rank_under (by omega) (w.down_under h hl)
theorem Wf.rank_le {s : St} (w : Wf s) (id : Int) : rank s id ≤ 17 := by
  unfold rank
  cases hg : get s id with
  | none => simp
  | some b =>
    cases hl : b.leaf with
    | true => simp [hl]
    | false => have := w.ask hg hl; simp [hl]; omega
theorem evalN_zero {s : St} {id f : Int} (h : rank s id = 0) (w : Wf s) : ∀ n, evalN n s id f = (getZ s id).value
  | 0 => rfl
  | n + 1 => by
    unfold evalN getZ
    cases hg : get s id with
    | none => rfl
    | some b =>
      cases hl : b.leaf with
      | true => simp [hl]
      | false =>
        rw [rank_ask hg hl] at h
        have := w.ask hg hl
        have := w.links
        omega
theorem evalN_eq {s : St} (w : Wf s) (f : Int) : ∀ (n m : Nat) (id : Int), rank s id ≤ n → rank s id ≤ m → evalN n s id f = evalN m s id f
  | 0, m, id, h, _ => (evalN_zero (by omega) w 0).trans (evalN_zero (by omega) w m).symm
  | n + 1, 0, id, _, h => (evalN_zero (by omega) w (n + 1)).trans (evalN_zero (by omega) w 0).symm
  | n + 1, m + 1, id, h1, h2 => by
    simp only [evalN]
    cases hg : get s id with
    | none => rfl
    | some b =>
      cases hl : b.leaf with
      | true => simp [hl]
      | false =>
        have hd := w.rank_down (f := f) hg hl
        simp only [hl, Bool.false_eq_true, if_false]
        exact evalN_eq w f n m (down b f) (by omega) (by omega)
theorem eval_none {s : St} {id f : Int} (h : get s id = none) : eval s id f = 0 := by simp [eval, evalN, h]
theorem eval_leaf {s : St} {id f : Int} {b : Br} (h : get s id = some b) (hl : b.leaf = true) : eval s id f = b.value := by simp [eval, evalN, h, hl]
theorem eval_ask {s : St} (w : Wf s) {id f : Int} {b : Br} (h : get s id = some b) (hl : b.leaf = false) : eval s id f = eval s (down b f) f := by
  have h1 : eval s id f = evalN 19 s (down b f) f := by simp [eval, evalN, h, hl]
  have hd := w.rank_down (f := f) h hl
  have hr := w.rank_le id
  rw [h1]
  exact evalN_eq w f 19 20 _ (by omega) (by omega)
end Go.Proofs.YtchikjmhncojfaaDoor.M
