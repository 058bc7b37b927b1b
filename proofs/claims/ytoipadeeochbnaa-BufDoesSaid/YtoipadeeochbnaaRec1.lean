import Derived.Test.YtoipadeeochbnaaRec
namespace Go.Proofs.Ytoipadeeochbnaa
open Go.RowKit Mix
set_option linter.unusedVariables false
theorem heads_snoc {qs : List Nat} {ps : List (List Int)} (hl : qs.length = ps.length) (q : Nat) (p : List Int) :
    heads (qs ++ [q]) (ps ++ [p]) = heads qs ps ++ [.slice (some ⟨q, 0, none⟩) p.length (capN ps.length)] := by
  unfold heads
  rw [List.length_append, List.length_singleton, List.range_succ, List.map_append]
  congr 1
  · refine List.map_congr_left fun j hj => ?_
    have hj' : j < ps.length := by simpa using hj
    simp [List.getElem?_append, hj', hl]
  · simp [List.getElem?_append, hl]
/-- One more part, an empty one. -/
theorem RecAt.push {w w' : World} {r : Nat} {ps : List (List Int)} {v : Value} {qs : List Nat} {g cp q : Nat} (h : RecAt w r ps v qs)
    (hr : w'.heap[r]? = some (.cells #[.slice (some ⟨g, 0, none⟩) (ps.length + 1) cp] 140 (0, 0)))
    (hrow : w'.ownsRow 0 147 1 (.slice (some ⟨g, 0, none⟩) (ps.length + 1) cp) (ps.length + 1) (heads qs ps ++ [.slice (some ⟨q, 0, none⟩) 0 (capN ps.length)]))
    (hq : w'.ownsRow 0 150 1 (.slice (some ⟨q, 0, none⟩) 0 (capN ps.length)) 0 []) {F : List Nat} (hT : Turn F w w') (hF : ∀ x ∈ qs, x ∉ F)
    (hg : v.ownBlock = some g ∨ w.heap.size ≤ g) (hqn : w.heap.size ≤ q) (hgq : g ≠ q) :
    RecAt w' r (ps ++ [[]]) (.slice (some ⟨g, 0, none⟩) (ps.length + 1) cp) (qs ++ [q]) where
  cell := hr
  row := by rw [heads_snoc h.len, List.length_append]; exact hrow
  len := by simp [h.len]
  part j p q' hp hq' := by
    by_cases hj : j < ps.length
    · rw [List.getElem?_append_left hj] at hp
      rw [List.getElem?_append_left (by rw [h.len]; exact hj)] at hq'
      exact ownsRow_turn (h.part j p q' hp hq') hT (fun b e => by
        simp only [Value.ownBlock, Option.some.injEq] at e
        subst e
        exact hF _ (List.mem_of_getElem? hq'))
    · have hj2 := (List.getElem?_eq_some_iff.1 hp).1
      simp only [List.length_append, List.length_singleton] at hj2
      have ej : j = ps.length := by omega
      subst ej
      simp only [List.getElem?_concat_length, Option.some.injEq] at hp
      rw [← h.len] at hq'
      simp only [List.getElem?_concat_length, Option.some.injEq] at hq'
      subst hp hq'
      exact hq
  apart := by
    have ha := h.apart
    have hlt := h.lt
    have hgr : g ≠ r := by
      rcases hg with hg | hg
      · simp only [hg, Option.toList_some, List.nodup_cons, List.mem_append, List.mem_singleton] at ha
        exact fun e => ha.1 (.inl e.symm)
      · have := hlt r (by simp [foot]); omega
    have hqr : q ≠ r := by have := hlt r (by simp [foot]); omega
    have hgqs : g ∉ qs := by
      rcases hg with hg | hg
      · simp only [hg, Option.toList_some, List.singleton_append, List.nodup_cons] at ha
        exact ha.2.1
      · exact fun hm => by have := hlt g (by simp [foot, hm]); omega
    have hqqs : q ∉ qs := fun hm => by have := hlt q (by simp [foot, hm]); omega
    have hrq : r ∉ qs := fun hm => by
      simp only [List.nodup_cons, List.mem_append] at ha
      exact ha.1 (.inr hm)
    have hnd : qs.Nodup := by
      simp only [List.nodup_cons, List.nodup_append] at ha
      exact ha.2.2.1
    simp only [Value.ownBlock, Option.toList_some, List.singleton_append, List.nodup_cons, List.mem_cons, List.mem_append, List.nodup_append, List.not_mem_nil]
    simp
    refine ⟨⟨fun e => hgr e.symm, hrq, fun e => hqr e.symm⟩, ⟨hgqs, hgq⟩, hnd, fun x hx e => hqqs (e ▸ hx)⟩
end Go.Proofs.Ytoipadeeochbnaa
