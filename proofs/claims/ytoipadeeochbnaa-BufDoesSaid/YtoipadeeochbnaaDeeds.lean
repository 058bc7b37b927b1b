import Derived.Test.YtoipadeeochbnaaFrame2
import Derived.Test.YtoipadeeochbnaaArgs
namespace Go.Proofs.Ytoipadeeochbnaa
open Go.Joins Go.ChangeShapes Go.WideShapes Go.RowKit Go.Deep Mix
set_option linter.unusedVariables false
/-- A list of deeds, as an argument. -/
def ArgDeeds (w : World) (ao : Option Addr) (n : Nat) : Prop := ∀ i, i < n → ∃ (a : Addr) (s : Bool) (x y : Int), ao = some a ∧ (Lit.int .i64 x).wf = true ∧ (Lit.int .i64 y).wf = true ∧
  w.cell? ((a.add (i * 3)).add 0) = some (.bool s) ∧ w.cell? ((a.add (i * 3)).add 1) = some (.int .i64 x) ∧ w.cell? ((a.add (i * 3)).add 2) = some (.int .i64 y)
section
variable {H : Type} {enc : TypeId × Value → H} {P : Program}
theorem open_argDeeds {w : World} {base : Nat} {spare : Nat → Bool} {held : Bool} {t e : TypeId} {f0 f1 f2 : Field} (ht : P.underlying t = some (.slice e)) (he : P.underlying e = some (.struct #[f0, f1, f2])) (hc : P.cellsOf e = 3)
    (hone : oneCellFields P #[f0, f1, f2] = true) (t0 : P.underlying f0.type = some .bool) (t1 : P.underlying f1.type = some (.int .i64)) (t2 : P.underlying f2.type = some (.int .i64))
    {v : Value} {d : DataW H} {p : List MemPlace} {r : Reach} {b0 : Nat} (hv0 : Value.okWide P w r b0 t v) (h : DataW.Trod enc P w base spare held t v d p) :
    ∃ ao n c, v = .slice ao n c ∧ ArgDeeds w ao n ∧ n ≤ maxLen := by
  obtain ⟨fuel, hf⟩ := h
  obtain ⟨a0, l0, c0, rfl⟩ := okWide_slice ht hv0
  rcases DataW.trod_slice ht hf with ⟨hv, _⟩ | ⟨a, len, cap, elems, rest, n, _, hv, _, _, hl, hm, hlen, hel, _, _⟩
  · obtain ⟨rfl, rfl, rfl⟩ : a0 = none ∧ l0 = 0 ∧ c0 = 0 := by simpa [Value.cells] using hv
    exact ⟨none, 0, 0, rfl, fun i hi => by omega, Nat.zero_le _⟩
  · obtain ⟨rfl, rfl, rfl⟩ : a0 = some a ∧ l0 = len ∧ c0 = cap := by simpa [Value.cells] using hv
    refine ⟨some a, l0, c0, rfl, fun i hi => ?_, by omega⟩
    have h1 := hel i hi
    rw [List.getElem?_eq_getElem (by omega), Option.bind_eq_some_iff, hc] at h1
    obtain ⟨cs, hcs, hx⟩ := h1
    obtain ⟨_, hcl, hcc⟩ := World.cells?_some hcs
    obtain ⟨xs, m, _, _, _, hxl, hg⟩ := DataW.trod_struct he hx
    obtain ⟨o0, k0⟩ := hone_of hone 0 f0 rfl
    obtain ⟨o1, k1⟩ := hone_of hone 1 f1 rfl
    obtain ⟨o2, k2⟩ := hone_of hone 2 f2 rfl
    match cs, hcl, xs, hxl with
    | [u0, u1, u2], _, [y0, y1, y2], _ =>
      have g0 : DataW.trod enc P w base spare held m f0.type [u0] = some y0 := by simpa [o0, k0] using hg 0 f0 rfl
      have g1 : DataW.trod enc P w base spare held m f1.type [u1] = some y1 := by simpa [o1, k1] using hg 1 f1 rfl
      have g2 : DataW.trod enc P w base spare held m f2.type [u2] = some y2 := by simpa [o2, k2] using hg 2 f2 rfl
      obtain ⟨s, hs, _⟩ := DataW.trod_bool t0 g0
      obtain ⟨x, rfl, hx1⟩ := one_int t1 g1
      obtain ⟨y, rfl, hy1⟩ := one_int t2 g2
      obtain rfl : u0 = .bool s := by simpa using hs
      exact ⟨a, s, x, y, rfl, hx1, hy1, hcc 0 (by omega), hcc 1 (by omega), hcc 2 (by omega)⟩
end
end Go.Proofs.Ytoipadeeochbnaa
