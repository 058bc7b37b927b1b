import Derived.Test.YtoipadeeochbnaaScan5
import Derived.Test.YtoipadeeochbnaaBuf4
namespace Go.Proofs.Ytoipadeeochbnaa
open Go.RowKit Mix
set_option linter.unusedVariables false
/-! What Load and Store come to, in plain lists -/
theorem loadN (a lo : Int) (val : Nat → Int) (n : Nat) : loadF a ((List.range n).map fun (k : Nat) => (lo + (k : Int), val k)) = if lo ≤ a ∧ a < lo + n then val (a - lo).toNat else 0 := by
  induction n with
  | zero => rw [if_neg (by omega)]; rfl
  | succ n ih =>
    rw [List.range_succ, List.map_append, List.map_singleton, loadF_snoc, ih]
    by_cases h : a = lo + (n : Int)
    · have e : decide (a = lo + (n : Int)) = true := by simpa using h
      rw [e, if_pos (show lo ≤ a ∧ a < lo + ((n + 1 : Nat) : Int) by omega)]
      have : (a - lo).toNat = n := by omega
      rw [this]
      rfl
    · have e : decide (a = lo + (n : Int)) = false := by simpa using h
      rw [e]
      simp only [sel]
      by_cases h2 : lo ≤ a ∧ a < lo + n
      · rw [if_pos h2, if_pos (by omega)]
      · rw [if_neg h2, if_neg (by omega)]
theorem loadV_eq (xs : List Int) (a lo hi : Int) : loadV xs a lo hi = if lo ≤ a ∧ a < hi then getV xs a else 0 := by
  refine (loadN a lo (fun k => getV xs (lo + (k : Int))) (winN lo hi)).trans ?_
  unfold winN
  by_cases h : lo ≤ a ∧ a < hi
  · rw [if_pos h, if_pos (by omega)]
    congr 1
    omega
  · rw [if_neg h, if_neg (by omega)]
theorem layN (f : Int → Int → Int) (xs : List Int) (lo : Int) (val : Nat → Int) (n : Nat) (h0 : 0 ≤ lo) (h1 : lo + n ≤ xs.length) (j : Int) :
    getV (layF f xs ((List.range n).map fun (k : Nat) => (lo + (k : Int), val k))) j = if lo ≤ j ∧ j < lo + n then f j (val (j - lo).toNat) else getV xs j := by
  induction n with
  | zero => rw [if_neg (by omega)]; rfl
  | succ n ih =>
    rw [List.range_succ, List.map_append, List.map_singleton, layF_snoc, getV_set, ih (by omega), layF_len]
    by_cases h : lo + (n : Int) = j
    · have hp : isPlace (lo + (n : Int)) xs.length := ⟨by omega, by omega⟩
      rw [if_pos ⟨h, hp⟩, if_pos (by omega)]
      subst h
      have : (lo + (n : Int) - lo).toNat = n := by omega
      rw [this]
    · rw [if_neg (fun k => h k.1)]
      by_cases h2 : lo ≤ j ∧ j < lo + n
      · rw [if_pos h2, if_pos (by omega)]
      · rw [if_neg h2, if_neg (by omega)]
theorem layV_eq (f : Int → Int → Int) (xs : List Int) (lo hi : Int) (h0 : 0 ≤ lo) (h1 : hi ≤ xs.length) (h2 : lo ≤ xs.length) (j : Int) : getV (layV f xs lo hi) j = if lo ≤ j ∧ j < hi then f j (getV xs j) else getV xs j := by
  refine (layN f xs lo (fun k => getV xs (lo + (k : Int))) (winN lo hi) h0 (by unfold winN; omega) j).trans ?_
  unfold winN
  by_cases h : lo ≤ j ∧ j < hi
  · rw [if_pos h, if_pos (by omega)]
    have : lo + ((j - lo).toNat : Int) = j := by omega
    rw [this]
  · rw [if_neg h, if_neg (by omega)]
theorem layV_len (f : Int → Int → Int) (xs : List Int) (lo hi : Int) : (layV f xs lo hi).length = xs.length := layF_len _ _ _
theorem getV_get {xs : List Int} {k : Nat} {x : Int} (h : xs[k]? = some x) : getV xs k = x := by
  have hk := (List.getElem?_eq_some_iff.1 h).1
  unfold getV
  rw [if_pos ⟨by omega, by omega⟩, Int.toNat_natCast, List.getD_eq_getElem?_getD, h]
  rfl
theorem get_getV {xs : List Int} {k : Nat} (h : k < xs.length) : xs[k]? = some (getV xs k) := by
  rw [List.getElem?_eq_getElem h, getV_get (List.getElem?_eq_getElem h)]
theorem in_of_getV {xs : List Int} (h : ∀ k : Nat, In64 (getV xs k)) : ∀ x ∈ xs, In64 x := by
  intro x hx
  obtain ⟨k, hk⟩ := List.getElem?_of_mem hx
  rw [← getV_get hk]
  exact h k
theorem storeV_in {xs : List Int} {a s lo hi : Int} (hs : In64 s) (hx : ∀ x ∈ xs, In64 x) (h0 : 0 ≤ lo) (h1 : hi ≤ xs.length) (h2 : lo ≤ xs.length) : ∀ x ∈ storeV xs a s lo hi, In64 x := by
  refine in_of_getV fun k => ?_
  unfold storeV
  rw [layV_eq _ _ _ _ h0 h1 h2]
  split
  · exact in64_sel hs (getV_in hx _)
  · exact getV_in hx _
theorem clipI_self (n : Nat) : clipI (n : Int) 0 n = n := by unfold clipI; rw [if_neg (by omega), if_neg (by omega)]
theorem clipI_zero (n : Nat) : clipI 0 0 n = 0 := by unfold clipI; rw [if_neg (by omega), if_neg (by omega)]
theorem winE_len (lo hi : Int) : (winE lo hi).length = winN lo hi + 1 := by simp [winE]
theorem rep2_len (lo : Int) (n : Nat) : ((List.range n).flatMap fun (k : Nat) => [((1 : Int), lo + (k : Int)), (1, lo + (k : Int))]).length = 2 * n := by
  induction n with
  | zero => rfl
  | succ n ih => rw [List.range_succ, List.flatMap_append, List.length_append, ih]; simp; omega
theorem winB_len (lo hi : Int) : (winB lo hi).length = 2 * winN lo hi + 1 := by simp only [winB, List.length_cons, rep2_len]
theorem rep2_count (lo : Int) (n : Nat) (j : Int) : countE ((List.range n).flatMap fun (k : Nat) => [((1 : Int), lo + (k : Int)), (1, lo + (k : Int))]) j = if j = 1 then 2 * n else 0 := by
  induction n with
  | zero => simp [countE]
  | succ n ih =>
    rw [List.range_succ, List.flatMap_append, countE_append, ih]
    by_cases h : j = 1
    · subst h
      simp [countE]
      omega
    · have h' : ¬ (1 = j) := fun e => h e.symm
      simp [countE, h, h']
theorem words_form {xs : List Int} {w w' : World} {e : Ending} (h : WOut xs w e w') :
    ∃ ao c, e = .returned (.slice ao xs.length c) ∧ (∀ (w2 : World), Ext w' w2 → ∀ (k : Nat) (x : Int), xs[k]? = some x → ∃ g, ao = some ⟨g, 0, none⟩ ∧ w2.cell? ⟨g, k, none⟩ = some (.int .i64 x)) ∧ Ext w w' := by
  obtain ⟨v, rfl, h1, _, h3⟩ := h
  obtain ⟨ao, c, rfl⟩ := own_form h1
  refine ⟨ao, c, rfl, fun w2 hE k x hx => ?_, h3⟩
  have hk := (List.getElem?_eq_some_iff.1 hx).1
  obtain ⟨g, cp, e⟩ := ownsRow_form h1 (by omega)
  simp only [Value.slice.injEq, true_and] at e
  obtain ⟨rfl, rfl⟩ := e
  refine ⟨g, rfl, ?_⟩
  rw [(ownsRow_turn (F := []) h1 (Turn.of_ext hE) (by simp)).cellAt k (by omega)]
  simp [hx]
end Go.Proofs.Ytoipadeeochbnaa
