import Derived.Test.YtoipadeeochbnaaFrame2
import Derived.Test.YtoipadeeochbnaaMix
namespace Go.Proofs.Ytoipadeeochbnaa
open Go.Joins Go.ChangeShapes Go.WideShapes Go.RowKit Go.Deep Mix
set_option linter.unusedVariables false
/-- An argument's cells: numbers. -/
def ArgInts (w : World) (k : IntKind) (ao : Option Addr) (zs : List Int) : Prop := ∀ (i : Nat) (x : Int), zs[i]? = some x → ∃ a, ao = some a ∧ w.cell? (a.add i) = some (.int k x)
theorem ArgInts.ext {w w' : World} {k : IntKind} {ao : Option Addr} {zs : List Int} (h : ArgInts w k ao zs) (hE : Ext w w') : ArgInts w' k ao zs := fun i x hx =>
  let ⟨a, e, hc⟩ := h i x hx
  ⟨a, e, hE.cell hc⟩
section
variable {H : Type} {enc : TypeId × Value → H} {P : Program}
theorem open_argInts {w : World} {base : Nat} {spare : Nat → Bool} {held : Bool} {t e : TypeId} {k : IntKind} (ht : P.underlying t = some (.slice e)) (he : P.underlying e = some (.int k)) (hc : P.cellsOf e = 1)
    {v : Value} {d : DataW H} {p : List MemPlace} {r : Reach} {b0 : Nat} (hv0 : Value.okWide P w r b0 t v) (h : DataW.Trod enc P w base spare held t v d p) :
    ∃ ao c zs, v = .slice ao zs.length c ∧ ArgInts w k ao zs ∧ (∀ x ∈ zs, (Lit.int k x).wf = true) ∧ zs.length ≤ maxLen ∧ (ao = none → c = 0) := by
  obtain ⟨fuel, hf⟩ := h
  obtain ⟨a0, l0, c0, rfl⟩ := okWide_slice ht hv0
  rcases open_ints ht he hc hf with ⟨hv, _⟩ | ⟨a, len, cap, zs, hv, _, hl, hm, hlen, _, hcell, hwf⟩
  · obtain ⟨rfl, rfl, rfl⟩ : a0 = none ∧ l0 = 0 ∧ c0 = 0 := by simpa [Value.cells] using hv
    exact ⟨none, 0, [], by simp, fun i x hx => by simp at hx, by simp, Nat.zero_le _, fun _ => rfl⟩
  · obtain ⟨rfl, rfl, rfl⟩ : a0 = some a ∧ l0 = len ∧ c0 = cap := by simpa [Value.cells] using hv
    have hz : l0 ≤ zs.length := by
      rw [hlen]
      split <;> omega
    have e1 : (zs.take l0).length = l0 := by simp; omega
    refine ⟨some a, c0, zs.take l0, by rw [e1], fun i x hx => ⟨a, rfl, ?_⟩, fun x hx => hwf x (List.mem_of_mem_take hx), by omega, fun h => by cases h⟩
    have hi : i < l0 := by
      have := (List.getElem?_eq_some_iff.1 hx).1
      omega
    rw [List.getElem?_take, if_pos hi] at hx
    rw [hcell i (by omega), List.getD_eq_getElem?_getD, hx]
    rfl
end
end Go.Proofs.Ytoipadeeochbnaa
