import Derived.Test.YtoipadeeochbnaaBuf2
import Derived.Test.YtoipadeeochbnaaLawEdges
namespace Go.Proofs.Ytoipadeeochbnaa
open Go.RowKit Mix
set_option linter.unusedVariables false
/-! Get and Set at any place -/
instance (i : Int) (n : Nat) : Decidable (isPlace i n) := inferInstanceAs (Decidable (0 ≤ i ∧ i < n))
def seenV (n : Nat) (i : Int) : List (Int × Int) := if isPlace i n then [(1, i)] else []
def setV (xs : List Int) (i x : Int) : List Int := if isPlace i xs.length then xs.set i.toNat x else xs
def getV (xs : List Int) (i : Int) : Int := if isPlace i xs.length then xs.getD i.toNat 0 else 0
theorem seenV_len (n : Nat) (i : Int) : (seenV n i).length ≤ 1 := by unfold seenV; split <;> simp
theorem setV_len (xs : List Int) (i x : Int) : (setV xs i x).length = xs.length := by unfold setV; split <;> simp
theorem seenV_count (n : Nat) (i : Int) : countE (seenV n i) 3 = 0 := by unfold seenV countE; split <;> simp
theorem Bf.told {b : Nat} {p : Option Nat} {xs : List Int} {es : List (Int × Int)} {F : List Nat} {w w' : World} {v : Value} (h : Bf w b p xs es F) (hE : Ext w w') : BTold v b p xs es F w (.returned v) w' :=
  ⟨rfl, F, h.ext hE, Turn.of_ext hE, fun x hx => .inl hx⟩
theorem Set_any (b : Nat) (p : Option Nat) (xs : List Int) (es : List (Int × Int)) (F : List Nat) (i x : Int) (w : World) (h : Bf w b p xs es F) (hx : xs.length ≤ 1048576) (hl : p = none ∨ es.length < 316) :
    Calls Try.prog 34 #[.pointer (some ⟨b, 0, none⟩), .int .i64 i, .agg #[.int .i64 x]] w (BTold (.tuple #[]) b p (setV xs i x) (es ++ seenV xs.length i) F w) := by
  by_cases hi : isPlace i xs.length
  · have h2 := hi
    obtain ⟨h0, h1⟩ := hi
    obtain ⟨k, rfl⟩ := Int.eq_ofNat_of_zero_le h0
    have := Set_in b p xs es F k x w h (by omega) hx hl
    unfold setV seenV
    rw [if_pos h2, if_pos h2]
    exact this
  · unfold setV seenV
    rw [if_neg hi, if_neg hi, List.append_nil]
    obtain ⟨v, Fr, hB, rfl⟩ := h
    exact (Set_out b p xs es v Fr i x w hB hi).mono fun e w' ⟨he, hE⟩ => by subst he; exact Bf.told ⟨v, Fr, hB, rfl⟩ hE
theorem Get_any (b : Nat) (p : Option Nat) (xs : List Int) (es : List (Int × Int)) (F : List Nat) (i : Int) (w : World) (h : Bf w b p xs es F) (hx : xs.length ≤ 1048576) (hl : p = none ∨ es.length < 316) :
    Calls Try.prog 35 #[.pointer (some ⟨b, 0, none⟩), .int .i64 i] w (BTold (.agg #[.int .i64 (getV xs i)]) b p xs (es ++ seenV xs.length i) F w) := by
  by_cases hi : isPlace i xs.length
  · have h2 := hi
    obtain ⟨h0, h1⟩ := hi
    obtain ⟨k, rfl⟩ := Int.eq_ofNat_of_zero_le h0
    have hk : xs[k]? = some (xs.getD k 0) := by
      rw [List.getD_eq_getElem?_getD, List.getElem?_eq_getElem (by omega)]
      rfl
    have := Get_in b p xs es F k _ w h hk hx hl
    unfold getV seenV
    rw [if_pos h2, if_pos h2]
    exact this
  · unfold getV seenV
    rw [if_neg hi, if_neg hi, List.append_nil]
    obtain ⟨v, Fr, hB, rfl⟩ := h
    exact (Get_out b p xs es v Fr i w hB hi).mono fun e w' ⟨he, hE⟩ => by subst he; exact Bf.told ⟨v, Fr, hB, rfl⟩ hE
theorem countE_append (a b : List (Int × Int)) (k : Int) : countE (a ++ b) k = countE a k + countE b k := by simp [countE]
end Go.Proofs.Ytoipadeeochbnaa
