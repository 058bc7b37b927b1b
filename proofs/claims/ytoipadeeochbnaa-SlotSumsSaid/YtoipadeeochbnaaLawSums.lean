import Derived.Test.YtoipadeeochbnaaLawTells
namespace Go.Proofs.Ytoipadeeochbnaa
open Go.RowKit Mix
set_option linter.unusedVariables false
attribute [local go_sem] Mix.calm Oper.quietUpon

/-! THE PLAIN LAW -/
structure Fits (W H M Qu I C : Int) : Prop where
  okW : okS W = true
  okH : okS H = true
  m : 1 ≤ M ∧ M ≤ 4
  i : 1 ≤ I ∧ I ≤ 65535
  c : 0 ≤ C ∧ C ≤ 3
theorem btw_iff {n lo hi : Int} : btw n lo hi = true ↔ lo ≤ n ∧ n ≤ hi := by simp [btw]
theorem fits_of {W H M Qu I C : Int} (h : checkV W H M Qu I C = 0) : Fits W H M Qu I C := by
  unfold checkV at h
  split at h
  · omega
  · rename_i h1
    split at h
    · omega
    split at h
    · omega
    rename_i h2
    split at h
    · omega
    split at h
    · omega
    rename_i h3
    split at h
    · omega
    rename_i h4
    simp only [Bool.not_eq_false] at h2 h3 h4
    rw [btw_iff] at h2 h3 h4
    refine ⟨?_, ?_, h2, h3, h4⟩
    · cases e : okS W
      · exact absurd (.inl e) h1
      · rfl
    · cases e : okS H
      · exact absurd (.inr e) h1
      · rfl
theorem mcus_pos {W H M Qu I C : Int} (h : Fits W H M Qu I C) : 1 ≤ mcusV W H M := by
  have hW := (okS_iff W).1 h.okW
  have hH := (okS_iff H).1 h.okH
  have hm := h.m
  have hs : sideX M ≠ 0 := by
    have hh : M = 1 ∨ M = 2 ∨ M = 3 ∨ M = 4 := by omega
    rcases hh with rfl | rfl | rfl | rfl <;> decide
  have hy : sideY M ≠ 0 := fun e => hs ((sideXY M).2 e)
  have hx := sideX_cases M
  have hz := sideY_cases M
  have g : ∀ n s : Int, 1 ≤ n → n ≤ 65535 → (s = 8 ∨ s = 16) → 1 ≤ ceilV n s := by
    intro n s h1 h2 hs
    unfold ceilV
    rw [if_pos (by omega)]
    rcases hs with rfl | rfl <;> omega
  have e1 : 1 ≤ gridX W H M := by
    unfold gridX
    rw [if_neg (by simp [hs, h.okW, h.okH])]
    exact g _ _ hW.1 hW.2 (by omega)
  have e2 : 1 ≤ gridY W H M := by
    unfold gridY
    rw [if_neg (by simp [hs, h.okW, h.okH])]
    exact g _ _ hH.1 hH.2 (by omega)
  unfold mcusV
  have := Int.mul_le_mul e1 e2 (by omega) (by omega)
  omega
theorem nP_pos {W H M Qu I C : Int} (h : Fits W H M Qu I C) : 1 ≤ (nP M : Int) ∧ (nP M : Int) ≤ 6 := by
  have hm := h.m
  have hh : M = 1 ∨ M = 2 ∨ M = 3 ∨ M = 4 := by omega
  rcases hh with rfl | rfl | rfl | rfl <;> decide
/-- How many blocks the first k intervals have. -/
def sumV (W H M I k : Int) : Int := minV (k * I) (mcusV W H M) * (nP M : Int)
theorem inter_facts {W H M Qu I C : Int} (h : Fits W H M Qu I C) : 1 ≤ interV W H M I ∧ (interV W H M I - 1) * I < mcusV W H M ∧ mcusV W H M ≤ interV W H M I * I := by
  have h1 := mcus_pos h
  have h2 := mcusV_bd W H M
  have hi := h.i
  unfold interV
  rw [if_pos hi]
  unfold ceilV
  rw [if_pos (by omega)]
  generalize mcusV W H M = m at *
  have e1 := Int.mul_ediv_add_emod (m + I - 1) I
  have e2 := Int.emod_nonneg (m + I - 1) (show I ≠ 0 by omega)
  have e3 := Int.emod_lt_of_pos (m + I - 1) (show 0 < I by omega)
  rw [Int.mul_comm] at e1
  generalize (m + I - 1) / I = k at *
  generalize (m + I - 1) % I = r at *
  refine ⟨?_, ?_, ?_⟩
  · by_cases hk : k ≤ 0
    · have := Int.mul_le_mul_of_nonneg_right hk (show 0 ≤ I by omega)
      omega
    · omega
  · rw [Int.sub_mul, Int.one_mul]; omega
  · omega
theorem block_facts {W H M Qu I C : Int} (h : Fits W H M Qu I C) (i : Int) (h0 : 0 ≤ i) (h1 : i < interV W H M I) :
    1 ≤ blocksV W H M I i ∧ blocksV W H M I i ≤ blocksV W H M I 0 ∧ (i < interV W H M I - 1 → blocksV W H M I i = blocksV W H M I 0) ∧ blocksV W H M I i ≤ 393210 ∧ sumV W H M I (i + 1) = sumV W H M I i + blocksV W H M I i := by
  have hn := nP_pos h
  have hm := mcus_pos h
  have hi := h.i
  obtain ⟨f1, f2, f3⟩ := inter_facts h
  have q1 : blocksV W H M I i = minV I (mcusV W H M - i * I) * (nP M : Int) := by unfold blocksV; rw [if_pos (by omega)]
  have q0 : blocksV W H M I 0 = minV I (mcusV W H M - 0 * I) * (nP M : Int) := by unfold blocksV; rw [if_pos (by omega)]
  have hb : i * I ≤ (interV W H M I - 1) * I := Int.mul_le_mul_of_nonneg_right (by omega) (by omega)
  have hi0 : 0 ≤ i * I := Int.mul_nonneg h0 (by omega)
  have e4 : i < interV W H M I - 1 → (i + 1) * I ≤ (interV W H M I - 1) * I := fun hl => Int.mul_le_mul_of_nonneg_right (by omega) (by omega)
  have e5 : (i + 1) * I = i * I + I := by rw [Int.add_mul, Int.one_mul]
  have e6 : (0 : Int) * I = 0 := Int.zero_mul I
  rw [e5] at e4
  rw [q1, q0]
  unfold sumV
  rw [e5, e6]
  generalize interV W H M I = n at *
  generalize mcusV W H M = m at *
  generalize i * I = x at *
  generalize (n - 1) * I = y at *
  have b1 : 1 ≤ minV I (m - x) ∧ minV I (m - x) ≤ minV I (m - 0) ∧ (i < n - 1 → minV I (m - x) = minV I (m - 0)) ∧ minV I (m - x) ≤ 65535 ∧ minV (x + I) m = minV x m + minV I (m - x) := by
    unfold minV
    refine ⟨by split <;> omega, by split <;> split <;> omega, fun hl => ?_, by split <;> omega, by split <;> split <;> split <;> omega⟩
    have := e4 hl
    rw [if_neg (by omega), if_neg (by omega)]
  obtain ⟨b2, b3, b4, b5, b6⟩ := b1
  generalize minV I (m - x) = u at *
  generalize minV I (m - 0) = v at *
  refine ⟨?_, Int.mul_le_mul_of_nonneg_right b3 (by omega), fun hl => by rw [b4 hl], ?_, ?_⟩
  · have := Int.mul_le_mul b2 hn.1 (by omega) (by omega); omega
  · have := Int.mul_le_mul b5 hn.2 (by omega) (by omega); omega
  · rw [b6, Int.add_mul]
theorem sum_bd {W H M Qu I C : Int} (h : Fits W H M Qu I C) (k : Int) (hk : 0 ≤ k) : 0 ≤ sumV W H M I k ∧ sumV W H M I k ≤ 402653184 := by
  have hn := nP_pos h
  have hm := mcusV_bd W H M
  have hi := h.i
  have hx : 0 ≤ k * I := Int.mul_nonneg hk (by omega)
  unfold sumV
  have hb : 0 ≤ minV (k * I) (mcusV W H M) ∧ minV (k * I) (mcusV W H M) ≤ 67108864 := by unfold minV; split <;> omega
  refine ⟨Int.mul_nonneg hb.1 (by omega), ?_⟩
  have := Int.mul_le_mul hb.2 hn.2 (by omega) (by omega)
  omega
theorem sum_last {W H M Qu I C : Int} (h : Fits W H M Qu I C) : sumV W H M I (interV W H M I) = mcusV W H M * (nP M : Int) ∧ 1 ≤ mcusV W H M * (nP M : Int) ∧ mcusV W H M * (nP M : Int) % (nP M : Int) = 0 := by
  have hn := nP_pos h
  have hm := mcus_pos h
  obtain ⟨f1, f2, f3⟩ := inter_facts h
  refine ⟨?_, ?_, Int.mul_emod_left _ _⟩
  · unfold sumV minV
    split
    · rfl
    · rw [show interV W H M I * I = mcusV W H M by omega]
  · have := Int.mul_le_mul hm hn.1 (by omega) (by omega); omega
theorem room_facts {W H M Qu I C : Int} (h : Fits W H M Qu I C) :
    roomV W H M I C ≤ roomV W H M I (minV (C + 1) 3) ∧ 0 < roomV W H M I C ∧ reserveV M 0 (blocksV W H M I 0) ≤ 4 * roomV W H M I C ∧ 0 ≤ reserveV M 0 (blocksV W H M I 0) ∧ blocksV W H M I (interV W H M I) = 0 := by
  have hn := nP_pos h
  have hc := h.c
  obtain ⟨f1, f2, f3⟩ := inter_facts h
  have hb := block_facts h 0 (by omega) (by omega)
  obtain ⟨g1, g2, g3, g4, g5⟩ := full_bd (W := W) (H := H) (M := M) (I := I) (by omega)
  have hl := bytesV_bd (n := fullV W H M I * 24) (by omega) (by omega)
  have hh := bytesV_bd (n := fullV W H M I * 1662) (by omega) (by omega)
  have q0 : blocksV W H M I 0 = fullV W H M I := by unfold blocksV fullV; rw [if_pos (by omega), Int.zero_mul, Int.sub_zero]
  have r : ∀ c, 0 ≤ c → c ≤ 3 → roomV W H M I c = bytesV (fullV W H M I * 24) + c * (bytesV (fullV W H M I * 1662) - bytesV (fullV W H M I * 24)) / 3 := by
    intro c h1 h2
    unfold roomV
    rw [if_neg (by simp; omega)]
  have hmn : minV (C + 1) 3 = C + 1 ∨ minV (C + 1) 3 = C := by unfold minV; split <;> omega
  have hmb : 0 ≤ minV (C + 1) 3 ∧ minV (C + 1) 3 ≤ 3 := by unfold minV; split <;> omega
  have hres : reserveV M 0 (blocksV W H M I 0) = 24 * blocksV W H M I 0 := by
    unfold reserveV
    rw [if_neg (by omega), Int.sub_zero]
  rw [r _ hmb.1 hmb.2, r C hc.1 hc.2, hres]
  rw [q0] at hb ⊢
  generalize bytesV (fullV W H M I * 24) = l at *
  generalize bytesV (fullV W H M I * 1662) = u at *
  generalize fullV W H M I = z at *
  have hd : 0 ≤ u - l := by omega
  have e1 : 0 ≤ C * (u - l) := Int.mul_nonneg hc.1 hd
  have e2 : C * (u - l) ≤ minV (C + 1) 3 * (u - l) := Int.mul_le_mul_of_nonneg_right (by omega) hd
  refine ⟨by omega, by omega, by omega, by omega, ?_⟩
  unfold blocksV
  rw [if_neg (by omega)]
end Go.Proofs.Ytoipadeeochbnaa
