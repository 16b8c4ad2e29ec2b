/- What guard.Asks comes to: the links on which a node hangs. Conditions: none. -/
import Derived.Test.YtchikjmhncojfaaDoorAsks
import Derived.Test.YtchikjmhncojfaaDoorList
set_option linter.unusedVariables false
namespace Go.Proofs.YtchikjmhncojfaaDoor.M
inductive Rch (s : St) : Int → Int → Prop
  | here (x) : Rch s x x
  | stands {id x} (h : lnk s id < 16) (r : Rch s (getZ s id).stands x) : Rch s id x
  | fails {id x} (h : lnk s id < 16) (r : Rch s (getZ s id).fails x) : Rch s id x
structure SkOk (s : St) (sn : List Int) (id : Int) (sn' : List Int) : Prop where
  sub : ∀ x ∈ sn, x ∈ sn'
  top : id ∈ sn' ∨ lnk s id = 16
  new : ∀ x ∈ sn', x ∈ sn ∨ (Rch s id x ∧ isN s x = true ∧ lnk s x < 16)
  closed : ∀ x ∈ sn', x ∈ sn ∨ (((getZ s x).stands ∈ sn' ∨ lnk s (getZ s x).stands = 16) ∧ ((getZ s x).fails ∈ sn' ∨ lnk s (getZ s x).fails = 16))
theorem parts6 {s : St} (w : Wf s) (h6 : s.links ≤ 6) {id : Int} (hid : isN s id = true) (hl : lnk s id < 16) :
    isN s (getZ s id).stands = true ∧ isN s (getZ s id).fails = true ∧ lnk s id < lnk s (getZ s id).stands ∧ lnk s id < lnk s (getZ s id).fails ∧ 0 ≤ lnk s id ∧ lnk s id < s.links ∧
      ∀ F : Nat, eval s id F = if has (F : Int) (lnk s id) = true then eval s (getZ s id).fails F else eval s (getZ s id).stands F :=
  ask_parts w (k := 15) hid (by have := (lnk_range w hid).2.2 hl; omega) (by omega)
theorem Sk.okk {s : St} (w : Wf s) (h6 : s.links ≤ 6) {sn : List Int} {id : Int} {sn' : List Int} (h : Sk s sn id sn') : isN s id = true → SkOk s sn id sn' := by
  induction h with
  | stop h => exact fun _ => ⟨fun _ hx => hx, h, fun _ hx => .inl hx, fun _ hx => .inl hx⟩
  | @go sn id s1 s2 h hl h1 h2 ih1 ih2 =>
    intro hid
    obtain ⟨p1, p2, _⟩ := parts6 w h6 hid hl
    have a := ih1 p1
    have b := ih2 p2
    have hin : id ∈ s1 := a.sub _ (by simp)
    refine ⟨fun x hx => b.sub _ (a.sub _ (by simp [hx])), .inl (b.sub _ hin), fun x hx => ?_, fun x hx => ?_⟩
    · rcases b.new x hx with hx | ⟨r, hn, hk⟩
      · rcases a.new x hx with hx | ⟨r, hn, hk⟩
        · rcases List.mem_append.1 hx with hx | hx
          · exact .inl hx
          · simp at hx; subst hx; exact .inr ⟨.here _, hid, hl⟩
        · exact .inr ⟨.stands hl r, hn, hk⟩
      · exact .inr ⟨.fails hl r, hn, hk⟩
    · have up : ∀ {y : Int}, (y ∈ s1 ∨ lnk s y = 16) → (y ∈ s2 ∨ lnk s y = 16) := fun h => h.imp (b.sub _) (fun h => h)
      rcases b.closed x hx with hx | hx
      · rcases a.closed x hx with hx | hx
        · rcases List.mem_append.1 hx with hx | hx
          · exact .inl hx
          · simp at hx; subst hx
            exact .inr ⟨up a.top, b.top⟩
        · exact .inr ⟨up hx.1, up hx.2⟩
      · exact .inr hx
def Hang (s : St) (id : Int) (l : Nat) : Prop := ∃ F, F < 2 ^ s.links ∧ ∃ v, eval s id (turn F l v : Nat) ≠ eval s id F
theorem Hang.up {s : St} (w : Wf s) (h6 : s.links ≤ 6) {id : Int} (hid : isN s id = true) (hl : lnk s id < 16) {l : Nat} {v0 : Bool} (hlt : lnk s id < l) (hls : l < s.links)
    (h : Hang s (if v0 then (getZ s id).fails else (getZ s id).stands) l) : Hang s id l := by
  obtain ⟨p1, p2, p3, p4, p5, p6, p7⟩ := parts6 w h6 hid hl
  obtain ⟨k, hk⟩ : ∃ k : Nat, lnk s id = k := ⟨(lnk s id).toNat, by omega⟩
  obtain ⟨F, hF, v, hne⟩ := h
  generalize hx : (if v0 then (getZ s id).fails else (getZ s id).stands) = x at hne
  have hxN : isN s x = true := by rw [← hx]; split <;> assumption
  have hxl : lnk s id < lnk s x := by rw [← hx]; split <;> assumption
  have ev : ∀ G : Nat, has (G : Int) k = v0 → eval s id G = eval s x G := by
    intro G hG
    rw [p7, hk, hG, ← hx]
    cases v0 <;> simp
  refine ⟨turn F k v0, turn_lt v0 hF (by omega), v, ?_⟩
  rw [ev _ (by rw [has_turn_other _ _ _ _ (by omega)]; exact has_turn _ _ _ (by omega)), ev _ (has_turn _ _ _ (by omega))]
  have agree : ∀ (G G' : Nat), (∀ m : Int, (k : Int) < m → has (G : Int) m = has (G' : Int) m) → eval s x G = eval s x G' := fun G G' hG =>
    eval_agree w x k (under_lnk hxN (by omega)) hG
  rw [agree (turn (turn F k v0) l v) (turn F l v) fun m hm => ?_, agree (turn F k v0) F fun m hm => has_turn_other _ _ _ _ (by omega)]
  · exact hne
  · by_cases hml : m = l
    · subst hml; rw [has_turn _ _ _ (by omega), has_turn _ _ _ (by omega)]
    · rw [has_turn_other _ _ _ _ hml, has_turn_other _ _ _ _ hml, has_turn_other _ _ _ _ (by omega)]
theorem Rch.lnk {s : St} (w : Wf s) (h6 : s.links ≤ 6) {id x : Int} (h : Rch s id x) : isN s id = true → isN s x = true ∧ (x = id ∨ M.lnk s id < M.lnk s x) := by
  induction h with
  | here x => exact fun hx => ⟨hx, .inl rfl⟩
  | stands hl r ih =>
    intro hid
    obtain ⟨p1, p2, p3, p4, _⟩ := parts6 w h6 hid hl
    obtain ⟨a, b⟩ := ih p1
    exact ⟨a, .inr (by rcases b with rfl | b <;> omega)⟩
  | fails hl r ih =>
    intro hid
    obtain ⟨p1, p2, p3, p4, _⟩ := parts6 w h6 hid hl
    obtain ⟨a, b⟩ := ih p2
    exact ⟨a, .inr (by rcases b with rfl | b <;> omega)⟩
theorem Rch.hang {s : St} (w : Wf s) (h6 : s.links ≤ 6) {id x : Int} (h : Rch s id x) : isN s id = true → ∀ l : Nat, M.lnk s x = l → l < 16 → Hang s id l := by
  induction h with
  | here x =>
    intro hx l hl hl16
    refine Classical.byContradiction fun hno => indep w hx hl hl16 fun F hF v => ?_
    exact Classical.byContradiction fun hne => hno ⟨F, hF, v, hne⟩
  | @stands id x hl r ih =>
    intro hid l hx hl16
    obtain ⟨p1, p2, p3, p4, _⟩ := parts6 w h6 hid hl
    obtain ⟨a, b⟩ := r.lnk w h6 p1
    have hlt : M.lnk s id < l := by rcases b with rfl | b <;> omega
    exact Hang.up w h6 hid hl (v0 := false) hlt (by have := (lnk_range w a).2.2 (by omega); omega) (by simpa using ih p1 l hx hl16)
  | @fails id x hl r ih =>
    intro hid l hx hl16
    obtain ⟨p1, p2, p3, p4, _⟩ := parts6 w h6 hid hl
    obtain ⟨a, b⟩ := r.lnk w h6 p2
    have hlt : M.lnk s id < l := by rcases b with rfl | b <;> omega
    exact Hang.up w h6 hid hl (v0 := true) hlt (by have := (lnk_range w a).2.2 (by omega); omega) (by simpa using ih p2 l hx hl16)
theorem closed_eval {s : St} (w : Wf s) (h6 : s.links ≤ 6) {sn : List Int} {l : Nat} (hc : ∀ x ∈ sn, isN s x = true ∧ ((getZ s x).stands ∈ sn ∨ lnk s (getZ s x).stands = 16) ∧ ((getZ s x).fails ∈ sn ∨ lnk s (getZ s x).fails = 16)) (hl : ∀ x ∈ sn, lnk s x ≠ l) :
    ∀ (n : Nat) (x : Int), isN s x = true → (x ∈ sn ∨ lnk s x = 16) → (16 - lnk s x).toNat ≤ n → ∀ (F : Nat) (v : Bool), eval s x (turn F l v : Nat) = eval s x F := by
  have leafs : ∀ x, isN s x = true → lnk s x = 16 → ∀ (F : Nat) (v : Bool), eval s x (turn F l v : Nat) = eval s x F := by
    intro x hx h16 F v
    obtain ⟨b, hb⟩ := isN_get hx
    have hlf := lnk_16 w hb h16
    rw [eval_leaf hb hlf, eval_leaf hb hlf]
  intro n
  induction n with
  | zero =>
    intro x hx hin hn
    have := lnk_range w hx
    exact leafs x hx (by omega)
  | succ n ih =>
    intro x hx hin hn
    by_cases h16 : lnk s x = 16
    · exact leafs x hx h16
    · have hr := lnk_range w hx
      have hm : x ∈ sn := hin.resolve_right h16
      obtain ⟨_, c1, c2⟩ := hc x hm
      obtain ⟨p1, p2, p3, p4, p5, p6, p7⟩ := parts6 w h6 hx (by omega)
      intro F v
      rw [p7, p7, has_turn_other _ _ _ _ (hl x hm), ih _ p1 c1 (by omega), ih _ p2 c2 (by omega)]
theorem foldl_bit (s : St) (j : Nat) : ∀ (sn : List Int) (m : Nat), (sn.foldl (fun F x => F ||| 2 ^ (lnk s x).toNat) m).testBit j = true ↔ (m.testBit j = true ∨ ∃ x ∈ sn, (lnk s x).toNat = j)
  | [], m => by simp
  | y :: sn, m => by
    rw [List.foldl_cons, foldl_bit s j sn, Nat.testBit_or, Nat.testBit_two_pow]
    simp only [Bool.or_eq_true, decide_eq_true_eq, List.mem_cons, exists_eq_or_imp]
    constructor
    · rintro ((h | h) | h)
      · exact .inl h
      · exact .inr (.inl h)
      · exact .inr (.inr h)
    · rintro (h | h | h)
      · exact .inl (.inl h)
      · exact .inl (.inr h)
      · exact .inr h
theorem mask_bit (s : St) (sn : List Int) (j : Nat) : (maskOf s sn).testBit j = true ↔ ∃ x ∈ sn, (lnk s x).toNat = j := by
  unfold maskOf; rw [foldl_bit]; simp
theorem asks_law {s : St} (w : Wf s) (h6 : s.links ≤ 6) {id : Int} {sn : List Int} (hid : isN s id = true) (h : Sk s [] id sn) :
    maskOf s sn < 64 ∧ ∀ j : Nat, ((maskOf s sn).testBit j = true ↔ (j < s.links ∧ Hang s id j)) := by
  have k := h.okk w h6 hid
  have mem : ∀ x ∈ sn, Rch s id x ∧ isN s x = true ∧ lnk s x < 16 := fun x hx => (k.new x hx).resolve_left (by simp)
  have clo := fun x hx => (k.closed x hx).resolve_left (by simp)
  have main : ∀ j : Nat, ((maskOf s sn).testBit j = true ↔ (j < s.links ∧ Hang s id j)) := by
    intro j
    rw [mask_bit]
    constructor
    · rintro ⟨x, hx, hj⟩
      obtain ⟨r, hn, hl⟩ := mem x hx
      have hr := lnk_range w hn
      exact ⟨by have := hr.2.2 hl; omega, r.hang w h6 hid j (by omega) (by have := hr.2.2 hl; omega)⟩
    · rintro ⟨hj, F, hF, v, hne⟩
      refine Classical.byContradiction fun hno => hne ?_
      refine closed_eval w h6 (sn := sn) (fun x hx => ⟨(mem x hx).2.1, clo x hx⟩) (fun x hx he => hno ⟨x, hx, by omega⟩) _ id hid k.top (Nat.le_refl _) F v
  refine ⟨?_, main⟩
  refine Nat.lt_pow_two_of_testBit (n := 6) _ fun j hj => ?_
  cases hb : (maskOf s sn).testBit j with
  | false => rfl
  | true => have := ((main j).1 hb).1; omega
end Go.Proofs.YtchikjmhncojfaaDoor.M
