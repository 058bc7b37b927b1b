import Derived.Test.YtoipadeeochbnaaSlot2
namespace Go.Proofs.Ytoipadeeochbnaa
open Go.RowKit Mix
attribute [local go_sem] Mix.calm Oper.quietUpon

def minV (a b : Int) : Int := if b < a then b else a
theorem nP_bd (m : Int) : nP m ≤ 6 := by unfold nP; split <;> (try split) <;> (try split) <;> (try split) <;> omega
def blocksV (W H M I i : Int) : Int := if 0 ≤ i ∧ i ≤ interV W H M I - 1 then minV I (mcusV W H M - i * I) * (nP M : Int) else 0
theorem inter_bd {W H M I i : Int} (h : 0 ≤ i ∧ i ≤ interV W H M I - 1) : 1 ≤ I ∧ I ≤ 65535 ∧ 0 ≤ i * I ∧ i * I < mcusV W H M := by
  have hm := mcusV_bd W H M
  unfold interV at h
  split at h
  · rename_i hI
    unfold ceilV at h
    rw [if_pos (by omega)] at h
    refine ⟨hI.1, hI.2, Int.mul_nonneg h.1 (by omega), ?_⟩
    have h1 : i < (mcusV W H M + I - 1) / I := by omega
    have h2 : (i + 1) * I ≤ mcusV W H M + I - 1 := (Int.le_ediv_iff_mul_le (by omega)).1 (by omega)
    rw [Int.add_mul, Int.one_mul] at h2
    omega
  · omega
theorem interV_bd (W H M I : Int) : 0 ≤ interV W H M I ∧ interV W H M I ≤ 67108864 := by
  have hm := mcusV_bd W H M
  unfold interV
  split
  · rename_i hI
    unfold ceilV
    rw [if_pos (by omega)]
    refine ⟨Int.ediv_nonneg (by omega) (by omega), ?_⟩
    by_cases h0 : mcusV W H M = 0
    · rw [h0, Int.ediv_eq_zero_of_lt (by omega) (by omega)]; omega
    have h1 : (mcusV W H M + I - 1) / I ≤ mcusV W H M := by
      apply Int.ediv_le_of_le_mul (by omega)
      have h2 : 0 ≤ (mcusV W H M - 1) * (I - 1) := Int.mul_nonneg (by omega) (by omega)
      rw [Int.sub_mul, Int.mul_sub, Int.one_mul, Int.mul_one] at h2; omega
    omega
  · omega
set_option maxHeartbeats 400000 in
theorem Blocks_any (W H M Qu I C : Int) (i : Int) (w : World) : Calls Try.prog 52 #[.agg #[.int .i64 W, .int .i64 H, .int .i64 M, .int .i64 Qu, .int .i64 I, .int .i64 C], .int .i64 i] w fun e w' => e = .returned (.int .i64 (blocksV W H M I i)) ∧ Ext w w' := by
  have hib := interV_bd W H M I
  by_cases h : 0 ≤ i ∧ i ≤ interV W H M I - 1
  · obtain ⟨b1, b2, b3, b4⟩ := inter_bd h
    have hmb := mcusV_bd W H M
    have hnp := nP_bd M
    have hb : btw i 0 (interV W H M I - 1) = true := by simp [btw, h]
    have e : blocksV W H M I i = minV I (mcusV W H M - i * I) * (nP M : Int) := by unfold blocksV; rw [if_pos h]
    rw [e]
    clear h e
    by_cases hlt : mcusV W H M - i * I < I
    · have e : minV I (mcusV W H M - i * I) = mcusV W H M - i * I := by unfold minV; rw [if_pos hlt]
      have hp : 0 ≤ (mcusV W H M - i * I) * (nP M : Int) ∧ (mcusV W H M - i * I) * (nP M : Int) ≤ 402653184 := by
        refine ⟨Int.mul_nonneg (by omega) (by omega), ?_⟩
        have := Int.mul_le_mul (show mcusV W H M - i * I ≤ 67108864 by omega) (show (nP M : Int) ≤ 6 by omega) (by omega) (by omega)
        omega
      rw [e]
      clear e
      go_enter Try.func52, Try.ntmps52
      go_wp2_with (first | (go_at_call 109; refine (between_any _ _ _ _).mono ?_; intro e w2 h; have he := h.1; have hw := h.2; clear h; subst he; subst hw) | (go_at_call 51; refine (Intervals_any W H M Qu I C _).mono ?_; intro e w1 h; have he := h.1; have hE := h.2; clear h; subst he; have hc1 := hE.cells (w.heap.size + 1) (by first | omega | (simp; done) | (simp; omega)); have hf1 := hE.marks (w.heap.size + 1) (by first | omega | (simp; done) | (simp; omega)); have hs1 := hE.sizes (w.heap.size + 1) (by first | omega | (simp; done) | (simp; omega)); have hg1 := hE.rules.1; have hh1 := hE.rules.2; have hl1_0 : w.heap.size < w1.heap.size := (by omega)))
      refine Mix.wp_region_mixX (w.heap.size + 1) (.c 0 (.c 1 (.c 2 (.c 3 (.c 4 (.c 5 (.c 6 (.c 7 (.c 8 (.c 9 (.c 10 (.c 11 (.e 12 (.c 13 (.c 14 (.c 15 .done)))))))))))))))) (by kernel_rfl) (by kernel_rfl) (by first | omega | (simp; done) | (simp; omega)) (fun hap hapf => ?_)
      repeat (refine Mix.mix_q rfl rfl rfl (fun K hK => ?_); (conv => arg 2; whnf); go_big_quiet_op; refine hK _ ?_; clear hK K)
      (refine Mix.mix_c rfl rfl (fun K hK => ?_); (conv => arg 2; whnf); go_simp; apply Exists.intro; refine ⟨fun _ => ?_, hK _ ?_⟩; exact mcus_any W H M Qu I C _; clear hK K)
      repeat (refine Mix.mix_q rfl rfl rfl (fun K hK => ?_); (conv => arg 2; whnf); go_big_quiet_op; refine hK _ ?_; clear hK K)
      (refine Mix.mix_one rfl rfl (fun w1 hE K hK => ?_); (conv => arg 2; whnf); have hc1 := hE.cells (w.heap.size + 1) (by first | omega | (simp; done) | (simp; omega)); have hf1 := hE.marks (w.heap.size + 1) (by first | omega | (simp; done) | (simp; omega)); have hs1 := hE.sizes (w.heap.size + 1) (by first | omega | (simp; done) | (simp; omega)); have hg1 := hE.rules.1; have hh1 := hE.rules.2; have hl1_0 : w.heap.size < w1.heap.size := (by omega); go_big_op; refine (Parts_any M _).mono ?_)
      rintro e w3 ⟨a, cap, rfl, hc, hE3⟩
      have hc3 := hE3.cells (w.heap.size + 1) (by first | omega | (simp; done) | (simp; omega)); have hf3 := hE3.marks (w.heap.size + 1) (by first | omega | (simp; done) | (simp; omega)); have hs3 := hE3.sizes (w.heap.size + 1) (by first | omega | (simp; done) | (simp; omega)); have hg3 := hE3.rules.1; have hh3 := hE3.rules.2; have hl3_0 : w.heap.size < w3.heap.size := (by omega)
      (refine hK _ _ (Mix.ext_ap (by (repeat' (first | exact Ext.refl _ | assumption | refine Ext.alloc' ?_ _ | (refine Ext.set' ?_ (by first | omega | (simp; done) | (simp; omega)) _) | refine Ext.drew' ?_ | refine Ext.drewN' ?_ _ | refine Ext.trans ?_ (by assumption))))) ?_; clear hK K)
      repeat (refine Mix.mix_q rfl rfl rfl (fun K hK => ?_); (conv => arg 2; whnf); go_big_quiet_op; refine hK _ ?_; clear hK K)
      (refine Mix.mix_nil (fun w2 hE2 => ?_); clear hap hapf; have hc2 := hE2.cells (w.heap.size + 1) (by first | omega | (simp; done) | (simp; omega)); have hf2 := hE2.marks (w.heap.size + 1) (by first | omega | (simp; done) | (simp; omega)); have hs2 := hE2.sizes (w.heap.size + 1) (by first | omega | (simp; done) | (simp; omega)); have hg2 := hE2.rules.1; have hh2 := hE2.rules.2; have hl2_0 : w.heap.size < w2.heap.size := (by omega); dsimp only [Exit.then])
      go_wp2
      go_ret
      exact ⟨rfl, by (repeat' (first | exact Ext.refl _ | assumption | refine Ext.alloc' ?_ _ | (refine Ext.set' ?_ (by first | omega | (simp; done) | (simp; omega)) _) | refine Ext.drew' ?_ | refine Ext.drewN' ?_ _ | refine Ext.trans ?_ (by assumption)))⟩
    · have e : minV I (mcusV W H M - i * I) = I := by unfold minV; rw [if_neg hlt]
      have hp : 0 ≤ I * (nP M : Int) ∧ I * (nP M : Int) ≤ 402653184 := by
        refine ⟨Int.mul_nonneg (by omega) (by omega), ?_⟩
        have := Int.mul_le_mul (show I ≤ 67108864 by omega) (show (nP M : Int) ≤ 6 by omega) (by omega) (by omega)
        omega
      rw [e]
      clear e
      go_enter Try.func52, Try.ntmps52
      go_wp2_with (first | (go_at_call 109; refine (between_any _ _ _ _).mono ?_; intro e w2 h; have he := h.1; have hw := h.2; clear h; subst he; subst hw) | (go_at_call 51; refine (Intervals_any W H M Qu I C _).mono ?_; intro e w1 h; have he := h.1; have hE := h.2; clear h; subst he; have hc1 := hE.cells (w.heap.size + 1) (by first | omega | (simp; done) | (simp; omega)); have hf1 := hE.marks (w.heap.size + 1) (by first | omega | (simp; done) | (simp; omega)); have hs1 := hE.sizes (w.heap.size + 1) (by first | omega | (simp; done) | (simp; omega)); have hg1 := hE.rules.1; have hh1 := hE.rules.2; have hl1_0 : w.heap.size < w1.heap.size := (by omega)))
      refine Mix.wp_region_mixX (w.heap.size + 1) (.c 0 (.c 1 (.c 2 (.c 3 (.c 4 (.c 5 (.c 6 (.c 7 (.c 8 (.c 9 (.c 10 (.c 11 (.e 12 (.c 13 (.c 14 (.c 15 .done)))))))))))))))) (by kernel_rfl) (by kernel_rfl) (by first | omega | (simp; done) | (simp; omega)) (fun hap hapf => ?_)
      repeat (refine Mix.mix_q rfl rfl rfl (fun K hK => ?_); (conv => arg 2; whnf); go_big_quiet_op; refine hK _ ?_; clear hK K)
      (refine Mix.mix_c rfl rfl (fun K hK => ?_); (conv => arg 2; whnf); go_simp; apply Exists.intro; refine ⟨fun _ => ?_, hK _ ?_⟩; exact mcus_any W H M Qu I C _; clear hK K)
      repeat (refine Mix.mix_q rfl rfl rfl (fun K hK => ?_); (conv => arg 2; whnf); go_big_quiet_op; refine hK _ ?_; clear hK K)
      (refine Mix.mix_one rfl rfl (fun w1 hE K hK => ?_); (conv => arg 2; whnf); have hc1 := hE.cells (w.heap.size + 1) (by first | omega | (simp; done) | (simp; omega)); have hf1 := hE.marks (w.heap.size + 1) (by first | omega | (simp; done) | (simp; omega)); have hs1 := hE.sizes (w.heap.size + 1) (by first | omega | (simp; done) | (simp; omega)); have hg1 := hE.rules.1; have hh1 := hE.rules.2; have hl1_0 : w.heap.size < w1.heap.size := (by omega); go_big_op; refine (Parts_any M _).mono ?_)
      rintro e w3 ⟨a, cap, rfl, hc, hE3⟩
      have hc3 := hE3.cells (w.heap.size + 1) (by first | omega | (simp; done) | (simp; omega)); have hf3 := hE3.marks (w.heap.size + 1) (by first | omega | (simp; done) | (simp; omega)); have hs3 := hE3.sizes (w.heap.size + 1) (by first | omega | (simp; done) | (simp; omega)); have hg3 := hE3.rules.1; have hh3 := hE3.rules.2; have hl3_0 : w.heap.size < w3.heap.size := (by omega)
      (refine hK _ _ (Mix.ext_ap (by (repeat' (first | exact Ext.refl _ | assumption | refine Ext.alloc' ?_ _ | (refine Ext.set' ?_ (by first | omega | (simp; done) | (simp; omega)) _) | refine Ext.drew' ?_ | refine Ext.drewN' ?_ _ | refine Ext.trans ?_ (by assumption))))) ?_; clear hK K)
      repeat (refine Mix.mix_q rfl rfl rfl (fun K hK => ?_); (conv => arg 2; whnf); go_big_quiet_op; refine hK _ ?_; clear hK K)
      (refine Mix.mix_nil (fun w2 hE2 => ?_); clear hap hapf; have hc2 := hE2.cells (w.heap.size + 1) (by first | omega | (simp; done) | (simp; omega)); have hf2 := hE2.marks (w.heap.size + 1) (by first | omega | (simp; done) | (simp; omega)); have hs2 := hE2.sizes (w.heap.size + 1) (by first | omega | (simp; done) | (simp; omega)); have hg2 := hE2.rules.1; have hh2 := hE2.rules.2; have hl2_0 : w.heap.size < w2.heap.size := (by omega); dsimp only [Exit.then])
      go_wp2
      go_ret
      exact ⟨rfl, by (repeat' (first | exact Ext.refl _ | assumption | refine Ext.alloc' ?_ _ | (refine Ext.set' ?_ (by first | omega | (simp; done) | (simp; omega)) _) | refine Ext.drew' ?_ | refine Ext.drewN' ?_ _ | refine Ext.trans ?_ (by assumption)))⟩
  · have hb : btw i 0 (interV W H M I - 1) = false := by simp only [btw, Bool.and_eq_false_iff, decide_eq_false_iff_not]; omega
    have e : blocksV W H M I i = 0 := by unfold blocksV; rw [if_neg h]
    rw [e]
    clear h e
    go_enter Try.func52, Try.ntmps52
    go_wp2_with (first | (go_at_call 109; refine (between_any _ _ _ _).mono ?_; intro e w2 h; have he := h.1; have hw := h.2; clear h; subst he; subst hw) | (go_at_call 51; refine (Intervals_any W H M Qu I C _).mono ?_; intro e w1 h; have he := h.1; have hE := h.2; clear h; subst he; have hc1 := hE.cells (w.heap.size + 1) (by first | omega | (simp; done) | (simp; omega)); have hf1 := hE.marks (w.heap.size + 1) (by first | omega | (simp; done) | (simp; omega)); have hs1 := hE.sizes (w.heap.size + 1) (by first | omega | (simp; done) | (simp; omega)); have hg1 := hE.rules.1; have hh1 := hE.rules.2; have hl1_0 : w.heap.size < w1.heap.size := (by omega)))
    go_ret
    exact ⟨rfl, by (repeat' (first | exact Ext.refl _ | assumption | refine Ext.alloc' ?_ _ | (refine Ext.set' ?_ (by first | omega | (simp; done) | (simp; omega)) _) | refine Ext.drew' ?_ | refine Ext.drewN' ?_ _ | refine Ext.trans ?_ (by assumption)))⟩
end Go.Proofs.Ytoipadeeochbnaa
