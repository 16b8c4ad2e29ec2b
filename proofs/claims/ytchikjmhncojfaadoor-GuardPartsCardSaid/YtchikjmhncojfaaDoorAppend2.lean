/- append of one slice of the call's own to another. Conditions: none; over whatever program. -/
import Derived.Test.YtchikjmhncojfaaDoorObj
set_option linter.unusedVariables false
namespace Go.Proofs.YtchikjmhncojfaaDoor.W
open Go Go.RowKit
section
variable {P : Program} {n : Nat} {ops : List Oper} {K : Env → World → Prop} {rest : List Oper} {e : Env} {w wb : World} {L : List Chunk}
variable {d : Nat} {ty : TypeId} {g : Option (Nat × Bool)} {x y : Operand} {ps : String} {af : Array Edge}
theorem run_appendC {t el sz by' : Nat} (hT : appT P t = some (el, sz, by')) {p : Option Addr} {m cap : Nat} {xs : List Value} {D : List Nat} (hs : slOk w D p m cap el sz xs)
    {b c k : Nat} {news : List Value} (hcell : ∀ j u, news[j]? = some u → w.cell? ((⟨b, 0, none⟩ : Addr).add j) = some u) (hl : news.length = k * sz) (h1 : oneCells news = true) (h63 : m + k ≤ maxLen) (hby : (m + k) * by' ≤ 140737488355328) (ty : TypeId) :
    ∃ p' cap' w', (Builtin.append_ #[t, t] ty #[.slice p m cap, .slice (some ⟨b, 0, none⟩) k c]).run P w = .ok (.slice p' (m + k) cap') w' ∧
      (w'.os = w.os ∧ w'.tape = w.tape ∧ w'.output = w.output ∧ w.heap.size ≤ w'.heap.size) ∧
      (∀ b, b < w.heap.size → b ∉ D → w'.heap[b]? = w.heap[b]?) ∧
      ∃ D', slOk w' D' p' (m + k) cap' el sz (xs ++ news) ∧ D'.Nodup ∧ ∀ b ∈ D', (b ∈ D ∨ w.heap.size ≤ b) ∧ b < w'.heap.size := by
  unfold appT at hT
  cases hu : P.underlying t with
  | none => simp [hu] at hT
  | some ds =>
    cases ds <;> simp [hu] at hT
    rename_i el0
    cases hi : P.info? el0 with
    | none => simp [hi] at hT
    | some inf =>
      simp only [hi] at hT
      cases hz : inf.zero with
      | none => simp [hz] at hT
      | some z =>
        simp only [hz] at hT
        split at hT
        case isFalse => cases hT
        rename_i hc
        simp at hT
        obtain ⟨rfl, rfl, rfl⟩ := hT
        obtain ⟨v', w', hr, hown, hgr, _, hloc⟩ := run_append_own_at (P := P) w 0 t ty el0 inf z inf.size inf.bytes hu hi hz rfl rfl hc.1 hc.2 (.slice p m cap) m xs hs.owns ⟨b, 0, none⟩ k c news hl hcell
          (fun u hu' => by simpa [oneCells] using List.all_eq_true.1 h1 u hu') h63 hby (Nat.zero_le _)
        have hob : ∀ g, (Value.slice p m cap).ownBlock = some g → g ∈ D := by
          intro g hg
          rcases hs.2 with ⟨h0, _⟩ | ⟨g', cur, h0, hDg, _⟩
          · subst h0; simp [Value.ownBlock] at hg
          · subst h0; simp [Value.ownBlock] at hg; subst hg; simp [hDg]
        have hkeep : ∀ b, b < w.heap.size → b ∉ D → w'.heap[b]? = w.heap[b]? := fun b hb hn => hgr.block b hb (fun e => hn (hob b e.symm))
        rcases hown.2 with ⟨rfl, hm0⟩ | ⟨g, cap', cur, rfl, _, h3, h4, h5, h6, h7⟩
        · refine ⟨none, 0, w', by rw [hr, hm0], ⟨hgr.os, hgr.tape, hgr.output, hgr.size⟩, hkeep, [], ⟨hown.1, .inl ⟨rfl, hm0, rfl, rfl⟩⟩, by simp, by simp⟩
        · refine ⟨some ⟨g, 0, none⟩, cap', w', hr, ⟨hgr.os, hgr.tape, hgr.output, hgr.size⟩, hkeep, [g], ⟨hown.1, .inr ⟨g, cur, rfl, rfl, h3, h4, h5, h6, h7⟩⟩, by simp, fun x hx => ?_⟩
          simp at hx
          subst hx
          refine ⟨?_, (Array.getElem?_eq_some_iff.1 h3).1⟩
          rcases hloc with h | h
          · exact .inl (hob _ h.symm)
          · simp [Value.ownBlock] at h; exact .inr (by omega)
theorem run_append_none {t el sz by' : Nat} (hT : appT P t = some (el, sz, by')) {p : Option Addr} {m cap : Nat} {xs : List Value} {D : List Nat} (hs : slOk w D p m cap el sz xs) (ty : TypeId) :
    (Builtin.append_ #[t, t] ty #[.slice p m cap, .slice none 0 0]).run P w = .ok (.slice p m cap) w := by
  unfold appT at hT
  have hmc : m ≤ cap := by
    rcases hs.2 with ⟨_, h1, h2, _⟩ | ⟨g, cur, _, _, _, h4, _⟩ <;> omega
  cases hu : P.underlying t with
  | none => simp [hu] at hT
  | some ds =>
    cases ds <;> simp [hu] at hT
    rename_i el0
    cases hi : P.info? el0 with
    | none => simp [hi] at hT
    | some inf =>
      cases p <;> simp [Builtin.append_, run_underlying hu, sizeOf, typeInfo, hi, Builtin.lenOf, hmc, Builtin.firstCells, storeCells]
theorem ops_append2 {t el sz by' : Nat} {p q : Option Addr} {m cap : Nat} {xs : List Value} {c k : Nat} {news : List Value} (i j : Nat) (H : Own wb L w) (hp : pre n d ops e g = true) (hT : appT P t = some (el, sz, by'))
    (hx : ev e x = .slice p m cap) (hi : L[i]? = some (SlC p m cap el sz xs)) (hy : ev e y = .slice q k c) (hj : L[j]? = some (SlC q k c el sz news)) (h1 : oneCells news = true) (h63 : m + k ≤ maxLen) (hby : (m + k) * by' ≤ 140737488355328)
    (h : ∀ p' cap' w', Own wb (L.set i (SlC p' (m + k) cap' el sz (xs ++ news))) w' → opsW P n ops K rest (upd e d (.slice p' (m + k) cap')) w') :
    opsW P n ops K (⟨some d, .call ⟨.builtin .append, #[x, y], #[t, t]⟩, ty, ps, af, g⟩ :: rest) e w := by
  obtain ⟨Dj, hDj⟩ := H.at j hj
  obtain ⟨hl, hDj⟩ := hDj
  rcases hDj with ⟨rfl, rfl, rfl, _⟩ | ⟨b, cur, rfl, _, hbc, hkc, _, hsz, htk⟩
  · obtain ⟨Di, hDi⟩ := H.at i hi
    have hrun := run_append_none hT hDi ty
    have hn0 : news = [] := List.eq_nil_of_length_eq_zero (by omega)
    subst hn0
    have hset : L.set i (SlC p m cap el sz xs) = L := by
      have hlt := (List.getElem?_eq_some_iff.1 hi).1
      refine List.ext_getElem? fun z => ?_
      rw [List.getElem?_set]
      split
      · rename_i he; subst he; simp [hlt]; exact (List.getElem?_eq_some_iff.1 hi).2.symm
      · rfl
    refine ops_run (w' := w) (v := .slice p m cap) hp (fun a ha => ?_) (by have := h p cap w; simp only [Nat.add_zero, List.append_nil, hset] at this; exact this H)
    simp [execOp, resolve, ha.eval, hx, hy, invoke, builtin, hrun]
  have hcell : ∀ j u, news[j]? = some u → w.cell? ((⟨b, 0, none⟩ : Addr).add j) = some u := fun j u hj' => by
    rw [addr_add]
    refine cell_of (cs := cur.toList) (by simpa using hbc) ?_
    rw [← htk, List.getElem?_take] at hj'
    split at hj'
    · simpa using hj'
    · cases hj'
  obtain ⟨hbase, D, hn, hr, D1, D2, rfl, hC, hs⟩ := H.front i hi
  obtain ⟨p', cap', w', hrun, ho, hk, hD'⟩ := run_appendC (c := c) hT hC hcell hl h1 h63 hby ty
  have Hnew : Own wb (SlC p' (m + k) cap' el sz (xs ++ news) :: L.eraseIdx i) w' := by
    have H0 : Own wb (PureC True :: L.eraseIdx i) w := (H.front i hi).tail.toPure trivial
    obtain ⟨n1, n2, n3⟩ := List.nodup_append.1 hn
    obtain ⟨D', hC', hnd, hmem⟩ := hD'
    have old2 : ∀ b ∈ D2, w'.heap[b]? = w.heap[b]? := fun b hb => hk b (hr b (by simp [hb])).2 (fun h1 => n3 b h1 b hb rfl)
    refine ⟨⟨ho.1.trans hbase.os, ho.2.1.trans hbase.tape, ho.2.2.1.trans hbase.output, Nat.le_trans hbase.size ho.2.2.2, fun b hb => ?_⟩, D' ++ D2, ?_, ?_, D', D2, rfl, hC', hs.loc old2⟩
    · rw [hk b (Nat.lt_of_lt_of_le hb hbase.size) (fun h1 => by have := (hr b (by simp [h1])).1; omega)]
      exact hbase.keep b hb
    · refine List.nodup_append.2 ⟨hnd, n2, ?_⟩
      rintro a ha b hb' rfl
      rcases (hmem a ha).1 with h1 | h1
      · exact n3 a h1 a hb' rfl
      · have := (hr a (by simp [hb'])).2; omega
    · intro b hb
      rcases List.mem_append.1 hb with hb | hb
      · rcases (hmem b hb).1 with h1 | h1
        · exact ⟨(hr b (by simp [h1])).1, (hmem b hb).2⟩
        · exact ⟨by have := hbase.size; omega, (hmem b hb).2⟩
      · exact ⟨(hr b (by simp [hb])).1, Nat.lt_of_lt_of_le (hr b (by simp [hb])).2 ho.2.2.2⟩
  refine ops_run (w' := w') (v := .slice p' (m + k) cap') hp (fun a ha => ?_) (h _ _ _ (Own.back i hi Hnew))
  simp [execOp, resolve, ha.eval, hx, hy, invoke, builtin, hrun]

end
end Go.Proofs.YtchikjmhncojfaaDoor.W
