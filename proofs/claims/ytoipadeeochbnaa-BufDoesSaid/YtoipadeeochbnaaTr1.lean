import Derived.Test.YtoipadeeochbnaaRec1
namespace Go.Proofs.Ytoipadeeochbnaa
open Go.RowKit Mix
set_option linter.unusedVariables false
/-! A recorder of small events: at most two parts -/
theorem heads_set {qs : List Nat} {ps : List (List Int)} {q : Nat} (hq : qs[ps.length]? = some q) (p p' : List Int) :
    heads qs (ps ++ [p']) = (heads qs (ps ++ [p])).set ps.length (.slice (some ⟨q, 0, none⟩) p'.length (capN ps.length)) := by
  apply List.ext_getElem?
  intro j
  by_cases hj : j < ps.length
  · rw [List.getElem?_set_ne (by omega)]
    simp [heads, hj, List.getElem?_append, Nat.lt_succ_of_lt hj]
  · by_cases e : j = ps.length
    · subst e
      rw [List.getElem?_set_self (by simp [heads])]
      simp [heads, List.getD_eq_getElem?_getD, hq]
    · rw [List.getElem?_eq_none (by simp [heads]; omega), List.getElem?_eq_none (by simp [heads]; omega)]
/-- The last part grows, in place. -/
theorem RecAt.grow {w w' : World} {r : Nat} {ps : List (List Int)} {p p' : List Int} {qs : List Nat} {g cp q : Nat} (h : RecAt w r (ps ++ [p]) (.slice (some ⟨g, 0, none⟩) (ps.length + 1) cp) qs)
    (hq : qs[ps.length]? = some q) (hrow : w'.ownsRow 0 147 1 (.slice (some ⟨g, 0, none⟩) (ps.length + 1) cp) (ps.length + 1) ((heads qs (ps ++ [p])).set ps.length (.slice (some ⟨q, 0, none⟩) p'.length (capN ps.length))))
    (hqrow : w'.ownsRow 0 150 1 (.slice (some ⟨q, 0, none⟩) p'.length (capN ps.length)) p'.length (p'.map (Value.int .u32))) (hT : Turn [g, q] w w') :
    RecAt w' r (ps ++ [p']) (.slice (some ⟨g, 0, none⟩) (ps.length + 1) cp) qs := by
  have ha := h.apart
  simp only [Value.ownBlock, Option.toList_some, List.singleton_append, List.nodup_cons, List.mem_cons, not_or] at ha
  obtain ⟨⟨hrg, hrq⟩, hgq, hnd⟩ := ha
  have hqm : q ∈ qs := List.mem_of_getElem? hq
  refine ⟨?_, ?_, by rw [h.len]; simp, ?_, h.apart⟩
  · rw [hT.block r (blk_lt h.cell) (by simp; exact ⟨hrg, fun e => hrq (e ▸ hqm)⟩)]
    exact h.cell
  · rw [heads_set hq p p', List.length_append, List.length_singleton]
    exact hrow
  · intro j p2 q2 hp hq2
    by_cases hj : j < ps.length
    · have hp2 : (ps ++ [p])[j]? = some p2 := by
        rw [List.getElem?_append_left hj] at hp ⊢
        exact hp
      refine ownsRow_turn (h.part j p2 q2 hp2 hq2) hT (fun b e hb => ?_)
      simp only [Value.ownBlock, Option.some.injEq] at e
      subst e
      simp only [List.mem_cons, List.not_mem_nil, or_false] at hb
      rcases hb with e | e
      · exact hgq (e ▸ List.mem_of_getElem? hq2)
      · subst e
        obtain ⟨h1, e1⟩ := List.getElem?_eq_some_iff.1 hq
        obtain ⟨h2, e2⟩ := List.getElem?_eq_some_iff.1 hq2
        have := (List.getElem_inj hnd (h₀ := h1) (h₁ := h2)).1 (e1.trans e2.symm)
        omega
    · have hj2 := (List.getElem?_eq_some_iff.1 hp).1
      simp only [List.length_append, List.length_singleton] at hj2
      have ej : j = ps.length := by omega
      subst ej
      simp only [List.getElem?_concat_length, Option.some.injEq] at hp
      subst hp
      rw [hq] at hq2
      cases hq2
      exact hqrow
theorem ownsRow_blk {w w' : World} {base : Nat} {e : TypeId} {size : Nat} {g n cp : Nat} {xs : List Value} (h : w.ownsRow base e size (.slice (some ⟨g, 0, none⟩) n cp) n xs) (hb : w'.heap[g]? = w.heap[g]?) : w'.ownsRow base e size (.slice (some ⟨g, 0, none⟩) n cp) n xs := by
  obtain ⟨r1, r2⟩ := h
  refine ⟨r1, ?_⟩
  rcases r2 with ⟨r2, _⟩ | ⟨g', cap', cur', e', hb', hc', rest⟩
  · cases r2
  · cases e'
    exact .inr ⟨g, cp, cur', rfl, hb', hb.trans hc', rest⟩
theorem turn_set {g o : Nat} {w : World} {v : Value} {F : List Nat} (hg : g ∈ F) : Turn F w (w.setCell ⟨g, o, none⟩ v) :=
  ⟨rfl, rfl, rfl, by simp, fun k hk hkF => Below.heap_setCell _ _ _ _ (fun e => hkF (e ▸ hg))⟩
theorem turn_grown {g : Nat} {w w' : World} {F : List Nat} (h : w.grownBy w' (some g)) (hg : g ∈ F) : Turn F w w' :=
  ⟨h.os, h.tape, h.output, h.size, fun k hk hkF => h.block k hk (fun e => hkF (by cases e; exact hg))⟩
theorem Turn.seq {F : List Nat} {a b c : World} (h : Turn F a b) (k : Turn F b c) : Turn F a c := h.trans k fun x hx => .inl hx
theorem RecAt.ne {w : World} {r g n cp q : Nat} {ps : List (List Int)} {qs : List Nat} (h : RecAt w r ps (.slice (some ⟨g, 0, none⟩) n cp) qs) (hq : q ∈ qs) : q ≠ g ∧ q ≠ r ∧ g ≠ r := by
  have hap := h.apart
  simp only [Value.ownBlock, Option.toList_some, List.singleton_append, List.nodup_cons, List.mem_cons, not_or] at hap
  obtain ⟨⟨hrg, hrq⟩, hgq, hnd⟩ := hap
  exact ⟨fun e => hgq (e ▸ hq), fun e => hrq (e ▸ hq), fun e => hrg e.symm⟩
/-- Behind the store of the longer part. -/
theorem grow_end {w2 w6 w7 w8 : World} {r : Nat} {ps : List (List Int)} {p p' : List Int} {qs : List Nat} {g cp q : Nat} (h : RecAt w2 r (ps ++ [p]) (.slice (some ⟨g, 0, none⟩) (ps.length + 1) cp) qs)
    (hq : qs[ps.length]? = some q) (hrow6 : w6.ownsRow 0 150 1 (.slice (some ⟨q, 0, none⟩) p'.length (capN ps.length)) p'.length (p'.map (Value.int .u32))) (T26 : Turn [g, q] w2 w6) (h6g : w6.heap[g]? = w2.heap[g]?)
    (hE7 : Ext w6 w7) (hE8 : Ext (w7.setCell ⟨g, ps.length, none⟩ (.slice (some ⟨q, 0, none⟩) p'.length (capN ps.length))) w8) :
    RecAt w8 r (ps ++ [p']) (.slice (some ⟨g, 0, none⟩) (ps.length + 1) cp) qs ∧ Turn [g, q] w2 w8 := by
  have hap := h.apart
  have hqm : q ∈ qs := List.mem_of_getElem? hq
  simp only [Value.ownBlock, Option.toList_some, List.singleton_append, List.nodup_cons, List.mem_cons, not_or] at hap
  obtain ⟨⟨hrg, hrq⟩, hgq, hnd⟩ := hap
  have hqg : q ≠ g := fun e => hgq (e ▸ hqm)
  have T78 : Turn [g, q] w7 w8 := (turn_set (by simp)).seq (Turn.of_ext hE8)
  have T28 : Turn [g, q] w2 w8 := (T26.seq (Turn.of_ext hE7)).seq T78
  refine ⟨h.grow hq ?_ ?_ T28, T28⟩
  · have hl : (ps ++ [p]).length = ps.length + 1 := by simp
    have hr := h.row
    rw [hl] at hr
    have h7 : w7.ownsRow 0 147 1 (.slice (some ⟨g, 0, none⟩) (ps.length + 1) cp) (ps.length + 1) (heads qs (ps ++ [p])) := by
      have hgl : g < w6.heap.size := Nat.lt_of_lt_of_le (hr.lt g rfl).2 T26.size
      exact ownsRow_blk hr ((hE7.block g hgl).trans h6g)
    exact ownsRow_turn (h7.stored ps.length _).1 (Turn.of_ext (F := []) hE8) (by simp)
  · have h7 := ownsRow_turn hrow6 (Turn.of_ext (F := []) hE7) (by simp)
    exact ownsRow_turn h7 ((turn_set (F := [g]) (by simp)).seq (Turn.of_ext hE8)) (fun b e => by
      simp only [Value.ownBlock, Option.some.injEq] at e
      subst e
      simpa using hqg)
/-- A recorder's parts, by its words. -/
def partsOf (ws : List Int) : List (List Int) := if ws.length = 0 then [] else if ws.length ≤ 62 then [ws] else [ws.take 62, ws.drop 62]
theorem partsOf_nil : partsOf [] = [] := rfl
theorem partsOf_one {ws : List Int} (h0 : 0 < ws.length) (h : ws.length ≤ 62) : partsOf ws = [ws] := by
  unfold partsOf; rw [if_neg (by omega), if_pos h]
theorem partsOf_two {ws : List Int} (h : 62 < ws.length) : partsOf ws = [ws.take 62, ws.drop 62] := by
  unfold partsOf; rw [if_neg (by omega), if_neg (by omega)]
theorem partsOf_first (x : Int) : partsOf [x] = [[x]] := rfl
theorem partsOf_same {ws : List Int} (x : Int) (h0 : 0 < ws.length) (h : ws.length < 62) : partsOf (ws ++ [x]) = [ws ++ [x]] := partsOf_one (by simp) (by simp; omega)
theorem partsOf_next {ws : List Int} (x : Int) (h : ws.length = 62) : partsOf (ws ++ [x]) = [ws, [x]] := by
  rw [partsOf_two (by simp; omega), List.take_append_of_le_length (by omega), List.drop_append_of_le_length (by omega), List.take_of_length_le (by omega), List.drop_eq_nil_of_le (by omega)]
  rfl
theorem partsOf_more {ws : List Int} (x : Int) (h : 62 < ws.length) : partsOf (ws ++ [x]) = [ws.take 62, ws.drop 62 ++ [x]] := by
  rw [partsOf_two (by simp; omega), List.take_append_of_le_length (by omega), List.drop_append_of_le_length (by omega)]
end Go.Proofs.Ytoipadeeochbnaa
