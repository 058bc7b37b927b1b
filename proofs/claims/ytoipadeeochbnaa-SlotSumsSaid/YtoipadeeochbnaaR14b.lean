import Derived.Test.YtoipadeeochbnaaR14a
namespace Go.Proofs.Ytoipadeeochbnaa
open Go.RowKit Mix
set_option linter.unusedVariables false
attribute [local go_sem] Mix.calm Oper.quietUpon
theorem Rmcus_any (W H M Qu I C : Int) (w : World) : Calls Try.prog 159 #[.agg #[.int .i64 W, .int .i64 H, .int .i64 M, .int .i64 Qu, .int .i64 I, .int .i64 C]] w fun e w' => e = .returned (.int .i64 (mcusV W H M)) ∧ Ext w w' := by
  have hm := mcusV_bd W H M
  have e : mcusV W H M = wrap64 (gridX W H M * gridY W H M) := by rw [wrap_id (by unfold mcusV at hm; omega) (by unfold mcusV at hm; omega)]; rfl
  rw [e]
  clear hm e
  go_enter Try.func159, Try.ntmps159
  go_wp2_with (go_at_call 143; refine (RGrid_any W H M Qu I C _).mono ?_; intro e w1 h; have he := h.1; have hE := h.2; clear h; subst he; have hc1 := hE.cells (w.heap.size + 1) (by first | omega | (simp; done) | (simp; omega)); have hf1 := hE.marks (w.heap.size + 1) (by first | omega | (simp; done) | (simp; omega)); have hs1 := hE.sizes (w.heap.size + 1) (by first | omega | (simp; done) | (simp; omega)); have hg1 := hE.rules.1; have hh1 := hE.rules.2; have hl1_0 : w.heap.size < w1.heap.size := (by omega))
  go_ret
  exact ⟨rfl, by (repeat' (first | exact Ext.refl _ | assumption | refine Ext.alloc' ?_ _ | (refine Ext.set' ?_ (by first | omega | (simp; done) | (simp; omega)) _) | refine Ext.drew' ?_ | refine Ext.drewN' ?_ _ | refine Ext.trans ?_ (by assumption)))⟩
theorem RIntervals_any (W H M Qu I C : Int) (w : World) : Calls Try.prog 113 #[.agg #[.int .i64 W, .int .i64 H, .int .i64 M, .int .i64 Qu, .int .i64 I, .int .i64 C]] w fun e w' => e = .returned (.int .i64 (interV W H M I)) ∧ Ext w w' := by
  by_cases h : 1 ≤ I ∧ I ≤ 65535
  · have e : interV W H M I = ceilV (mcusV W H M) I := by unfold interV; rw [if_pos h]
    rw [e]
    obtain ⟨h1, h2⟩ := h
    clear e
    go_enter Try.func113, Try.ntmps113
    go_wp2
    refine Mix.wp_region_mixX (w.heap.size + 1) (.c 0 (.c 1 (.c 2 (.c 3 (.c 4 (.c 5 .done)))))) (by kernel_rfl) (by kernel_rfl) (by first | omega | (simp; done) | (simp; omega)) (fun hap hapf => ?_)
    repeat (refine Mix.mix_q rfl rfl rfl (fun K hK => ?_); (conv => arg 2; whnf); (first | (go_big_quiet_op; refine hK _ ?_) | (go_simp; refine hK _ ?_)); clear hK K)
    (refine Mix.mix_c rfl rfl (fun K hK => ?_); (conv => arg 2; whnf); go_simp; apply Exists.intro; refine ⟨fun _ => ?_, hK _ ?_⟩; exact Rmcus_any W H M Qu I C _; clear hK K)
    repeat (refine Mix.mix_q rfl rfl rfl (fun K hK => ?_); (conv => arg 2; whnf); (first | (go_big_quiet_op; refine hK _ ?_) | (go_simp; refine hK _ ?_)); clear hK K)
    (refine Mix.mix_c rfl rfl (fun K hK => ?_); (conv => arg 2; whnf); go_simp; apply Exists.intro; refine ⟨fun _ => ?_, hK _ ?_⟩; exact Mix.se (RCeil_any _ _ _); clear hK K)
    repeat (refine Mix.mix_q rfl rfl rfl (fun K hK => ?_); (conv => arg 2; whnf); (first | (go_big_quiet_op; refine hK _ ?_) | (go_simp; refine hK _ ?_)); clear hK K)
    (refine Mix.mix_nil (fun w2 hE2 => ?_); clear hap hapf; have hc2 := hE2.cells (w.heap.size + 1) (by first | omega | (simp; done) | (simp; omega)); have hf2 := hE2.marks (w.heap.size + 1) (by first | omega | (simp; done) | (simp; omega)); have hs2 := hE2.sizes (w.heap.size + 1) (by first | omega | (simp; done) | (simp; omega)); have hg2 := hE2.rules.1; have hh2 := hE2.rules.2; have hl2_0 : w.heap.size < w2.heap.size := (by omega); dsimp only [Exit.then])
    go_wp2
    go_ret
    exact ⟨rfl, by (repeat' (first | exact Ext.refl _ | assumption | refine Ext.alloc' ?_ _ | (refine Ext.set' ?_ (by first | omega | (simp; done) | (simp; omega)) _) | refine Ext.drew' ?_ | refine Ext.drewN' ?_ _ | refine Ext.trans ?_ (by assumption)))⟩
  · have e : interV W H M I = 0 := by unfold interV; rw [if_neg h]
    rw [e]
    clear e
    by_cases h1 : I < 1
    · have h1' : decide (I < 1) = true := by simpa using h1
      clear h h1
      go_enter Try.func113, Try.ntmps113
      go_wp2
      go_ret
      exact ⟨rfl, by (repeat' (first | exact Ext.refl _ | assumption | refine Ext.alloc' ?_ _ | (refine Ext.set' ?_ (by first | omega | (simp; done) | (simp; omega)) _) | refine Ext.drew' ?_ | refine Ext.drewN' ?_ _ | refine Ext.trans ?_ (by assumption)))⟩
    · have h1' : decide (I < 1) = false := by simpa using h1
      have h2' : decide (65535 < I) = true := by simp; omega
      clear h h1
      go_enter Try.func113, Try.ntmps113
      go_wp2
      go_ret
      exact ⟨rfl, by (repeat' (first | exact Ext.refl _ | assumption | refine Ext.alloc' ?_ _ | (refine Ext.set' ?_ (by first | omega | (simp; done) | (simp; omega)) _) | refine Ext.drew' ?_ | refine Ext.drewN' ?_ _ | refine Ext.trans ?_ (by assumption)))⟩
set_option maxHeartbeats 400000 in
theorem RBlocks_any (W H M Qu I C : Int) (i : Int) (w : World) : Calls Try.prog 114 #[.agg #[.int .i64 W, .int .i64 H, .int .i64 M, .int .i64 Qu, .int .i64 I, .int .i64 C], .int .i64 i] w fun e w' => e = .returned (.int .i64 (blocksV W H M I i)) ∧ Ext w w' := by
  have hib := interV_bd W H M I
  by_cases h : 0 ≤ i ∧ i ≤ interV W H M I - 1
  · obtain ⟨b1, b2, b3, b4⟩ := inter_bd h
    have hmb := mcusV_bd W H M
    have hnp := nP_bd M
    have hi1 : decide (i < 0) = false := by simp; omega
    have hi2 : decide (interV W H M I ≤ i) = false := by simp; omega
    have e : blocksV W H M I i = minV I (mcusV W H M - i * I) * (nP M : Int) := by unfold blocksV; rw [if_pos h]
    rw [e]
    clear h e
    by_cases hlt : mcusV W H M - i * I < I
    · have e : minV I (mcusV W H M - i * I) = mcusV W H M - i * I := by unfold minV; rw [if_pos hlt]
      have hp : 0 ≤ (mcusV W H M - i * I) * (nP M : Int) ∧ (mcusV W H M - i * I) * (nP M : Int) ≤ 402653184 := by
        refine ⟨Int.mul_nonneg (by omega) (by omega), ?_⟩
        have := Int.mul_le_mul (show mcusV W H M - i * I ≤ 67108864 by omega) (show (nP M : Int) ≤ 6 by omega) (by omega) (by omega)
        omega
      rw [e]
      clear e
      go_enter Try.func114, Try.ntmps114
      go_wp2_with (go_at_call 113; refine (RIntervals_any W H M Qu I C _).mono ?_; intro e w1 h; have he := h.1; have hE := h.2; clear h; subst he; have hc1 := hE.cells (w.heap.size + 1) (by first | omega | (simp; done) | (simp; omega)); have hf1 := hE.marks (w.heap.size + 1) (by first | omega | (simp; done) | (simp; omega)); have hs1 := hE.sizes (w.heap.size + 1) (by first | omega | (simp; done) | (simp; omega)); have hg1 := hE.rules.1; have hh1 := hE.rules.2; have hl1_0 : w.heap.size < w1.heap.size := (by omega))
      refine Mix.wp_region_mixX (w.heap.size + 1) (.c 0 (.c 1 (.c 2 (.c 3 (.c 4 (.c 5 (.c 6 (.c 7 (.c 8 (.c 9 (.c 10 (.c 11 (.e 12 (.c 13 (.c 14 (.c 15 .done)))))))))))))))) (by kernel_rfl) (by kernel_rfl) (by first | omega | (simp; done) | (simp; omega)) (fun hap hapf => ?_)
      repeat (refine Mix.mix_q rfl rfl rfl (fun K hK => ?_); (conv => arg 2; whnf); (first | (go_big_quiet_op; refine hK _ ?_) | (go_simp; refine hK _ ?_)); clear hK K)
      (refine Mix.mix_c rfl rfl (fun K hK => ?_); (conv => arg 2; whnf); go_simp; apply Exists.intro; refine ⟨fun _ => ?_, hK _ ?_⟩; exact Rmcus_any W H M Qu I C _; clear hK K)
      repeat (refine Mix.mix_q rfl rfl rfl (fun K hK => ?_); (conv => arg 2; whnf); (first | (go_big_quiet_op; refine hK _ ?_) | (go_simp; refine hK _ ?_)); clear hK K)
      (refine Mix.mix_one rfl rfl (fun w1 hE K hK => ?_); (conv => arg 2; whnf); have hc1 := hE.cells (w.heap.size + 1) (by first | omega | (simp; done) | (simp; omega)); have hf1 := hE.marks (w.heap.size + 1) (by first | omega | (simp; done) | (simp; omega)); have hs1 := hE.sizes (w.heap.size + 1) (by first | omega | (simp; done) | (simp; omega)); have hg1 := hE.rules.1; have hh1 := hE.rules.2; have hl1_0 : w.heap.size < w1.heap.size := (by omega); go_big_op; refine (RParts_any M _).mono ?_)
      rintro e w3 ⟨a, cap, rfl, hc, hE3⟩
      have hc3 := hE3.cells (w.heap.size + 1) (by first | omega | (simp; done) | (simp; omega)); have hf3 := hE3.marks (w.heap.size + 1) (by first | omega | (simp; done) | (simp; omega)); have hs3 := hE3.sizes (w.heap.size + 1) (by first | omega | (simp; done) | (simp; omega)); have hg3 := hE3.rules.1; have hh3 := hE3.rules.2; have hl3_0 : w.heap.size < w3.heap.size := (by omega)
      (refine hK _ _ (Mix.ext_ap (by (repeat' (first | exact Ext.refl _ | assumption | refine Ext.alloc' ?_ _ | (refine Ext.set' ?_ (by first | omega | (simp; done) | (simp; omega)) _) | refine Ext.drew' ?_ | refine Ext.drewN' ?_ _ | refine Ext.trans ?_ (by assumption))))) ?_; clear hK K)
      repeat (refine Mix.mix_q rfl rfl rfl (fun K hK => ?_); (conv => arg 2; whnf); (first | (go_big_quiet_op; refine hK _ ?_) | (go_simp; refine hK _ ?_)); clear hK K)
      (refine Mix.mix_nil (fun w2 hE2 => ?_); clear hap hapf; have hc2 := hE2.cells (w.heap.size + 1) (by first | omega | (simp; done) | (simp; omega)); have hf2 := hE2.marks (w.heap.size + 1) (by first | omega | (simp; done) | (simp; omega)); have hs2 := hE2.sizes (w.heap.size + 1) (by first | omega | (simp; done) | (simp; omega)); have hg2 := hE2.rules.1; have hh2 := hE2.rules.2; have hl2_0 : w.heap.size < w2.heap.size := (by omega); dsimp only [Exit.then])
      go_wp2
      go_ret
      exact ⟨rfl, by (repeat' (first | exact Ext.refl _ | assumption | refine Ext.alloc' ?_ _ | (refine Ext.set' ?_ (by first | omega | (simp; done) | (simp; omega)) _) | refine Ext.drew' ?_ | refine Ext.drewN' ?_ _ | refine Ext.trans ?_ (by assumption)))⟩
    · have e : minV I (mcusV W H M - i * I) = I := by unfold minV; rw [if_neg hlt]
      have hp : 0 ≤ I * (nP M : Int) ∧ I * (nP M : Int) ≤ 402653184 := by
        refine ⟨Int.mul_nonneg (by omega) (by omega), ?_⟩
        have := Int.mul_le_mul (show I ≤ 67108864 by omega) (show (nP M : Int) ≤ 6 by omega) (by omega) (by omega)
        omega
      rw [e]
      clear e
      go_enter Try.func114, Try.ntmps114
      go_wp2_with (go_at_call 113; refine (RIntervals_any W H M Qu I C _).mono ?_; intro e w1 h; have he := h.1; have hE := h.2; clear h; subst he; have hc1 := hE.cells (w.heap.size + 1) (by first | omega | (simp; done) | (simp; omega)); have hf1 := hE.marks (w.heap.size + 1) (by first | omega | (simp; done) | (simp; omega)); have hs1 := hE.sizes (w.heap.size + 1) (by first | omega | (simp; done) | (simp; omega)); have hg1 := hE.rules.1; have hh1 := hE.rules.2; have hl1_0 : w.heap.size < w1.heap.size := (by omega))
      refine Mix.wp_region_mixX (w.heap.size + 1) (.c 0 (.c 1 (.c 2 (.c 3 (.c 4 (.c 5 (.c 6 (.c 7 (.c 8 (.c 9 (.c 10 (.c 11 (.e 12 (.c 13 (.c 14 (.c 15 .done)))))))))))))))) (by kernel_rfl) (by kernel_rfl) (by first | omega | (simp; done) | (simp; omega)) (fun hap hapf => ?_)
      repeat (refine Mix.mix_q rfl rfl rfl (fun K hK => ?_); (conv => arg 2; whnf); (first | (go_big_quiet_op; refine hK _ ?_) | (go_simp; refine hK _ ?_)); clear hK K)
      (refine Mix.mix_c rfl rfl (fun K hK => ?_); (conv => arg 2; whnf); go_simp; apply Exists.intro; refine ⟨fun _ => ?_, hK _ ?_⟩; exact Rmcus_any W H M Qu I C _; clear hK K)
      repeat (refine Mix.mix_q rfl rfl rfl (fun K hK => ?_); (conv => arg 2; whnf); (first | (go_big_quiet_op; refine hK _ ?_) | (go_simp; refine hK _ ?_)); clear hK K)
      (refine Mix.mix_one rfl rfl (fun w1 hE K hK => ?_); (conv => arg 2; whnf); have hc1 := hE.cells (w.heap.size + 1) (by first | omega | (simp; done) | (simp; omega)); have hf1 := hE.marks (w.heap.size + 1) (by first | omega | (simp; done) | (simp; omega)); have hs1 := hE.sizes (w.heap.size + 1) (by first | omega | (simp; done) | (simp; omega)); have hg1 := hE.rules.1; have hh1 := hE.rules.2; have hl1_0 : w.heap.size < w1.heap.size := (by omega); go_big_op; refine (RParts_any M _).mono ?_)
      rintro e w3 ⟨a, cap, rfl, hc, hE3⟩
      have hc3 := hE3.cells (w.heap.size + 1) (by first | omega | (simp; done) | (simp; omega)); have hf3 := hE3.marks (w.heap.size + 1) (by first | omega | (simp; done) | (simp; omega)); have hs3 := hE3.sizes (w.heap.size + 1) (by first | omega | (simp; done) | (simp; omega)); have hg3 := hE3.rules.1; have hh3 := hE3.rules.2; have hl3_0 : w.heap.size < w3.heap.size := (by omega)
      (refine hK _ _ (Mix.ext_ap (by (repeat' (first | exact Ext.refl _ | assumption | refine Ext.alloc' ?_ _ | (refine Ext.set' ?_ (by first | omega | (simp; done) | (simp; omega)) _) | refine Ext.drew' ?_ | refine Ext.drewN' ?_ _ | refine Ext.trans ?_ (by assumption))))) ?_; clear hK K)
      repeat (refine Mix.mix_q rfl rfl rfl (fun K hK => ?_); (conv => arg 2; whnf); (first | (go_big_quiet_op; refine hK _ ?_) | (go_simp; refine hK _ ?_)); clear hK K)
      (refine Mix.mix_nil (fun w2 hE2 => ?_); clear hap hapf; have hc2 := hE2.cells (w.heap.size + 1) (by first | omega | (simp; done) | (simp; omega)); have hf2 := hE2.marks (w.heap.size + 1) (by first | omega | (simp; done) | (simp; omega)); have hs2 := hE2.sizes (w.heap.size + 1) (by first | omega | (simp; done) | (simp; omega)); have hg2 := hE2.rules.1; have hh2 := hE2.rules.2; have hl2_0 : w.heap.size < w2.heap.size := (by omega); dsimp only [Exit.then])
      go_wp2
      go_ret
      exact ⟨rfl, by (repeat' (first | exact Ext.refl _ | assumption | refine Ext.alloc' ?_ _ | (refine Ext.set' ?_ (by first | omega | (simp; done) | (simp; omega)) _) | refine Ext.drew' ?_ | refine Ext.drewN' ?_ _ | refine Ext.trans ?_ (by assumption)))⟩
  · have e : blocksV W H M I i = 0 := by unfold blocksV; rw [if_neg h]
    rw [e]
    clear e
    by_cases hi1 : i < 0
    · have hi1' : decide (i < 0) = true := by simpa using hi1
      clear h hi1
      go_enter Try.func114, Try.ntmps114
      go_wp2
      go_ret
      exact ⟨rfl, by (repeat' (first | exact Ext.refl _ | assumption | refine Ext.alloc' ?_ _ | (refine Ext.set' ?_ (by first | omega | (simp; done) | (simp; omega)) _) | refine Ext.drew' ?_ | refine Ext.drewN' ?_ _ | refine Ext.trans ?_ (by assumption)))⟩
    · have hi1' : decide (i < 0) = false := by simpa using hi1
      have hi2 : decide (interV W H M I ≤ i) = true := by simp; omega
      clear h hi1
      go_enter Try.func114, Try.ntmps114
      go_wp2_with (go_at_call 113; refine (RIntervals_any W H M Qu I C _).mono ?_; intro e w1 h; have he := h.1; have hE := h.2; clear h; subst he; have hc1 := hE.cells (w.heap.size + 1) (by first | omega | (simp; done) | (simp; omega)); have hf1 := hE.marks (w.heap.size + 1) (by first | omega | (simp; done) | (simp; omega)); have hs1 := hE.sizes (w.heap.size + 1) (by first | omega | (simp; done) | (simp; omega)); have hg1 := hE.rules.1; have hh1 := hE.rules.2; have hl1_0 : w.heap.size < w1.heap.size := (by omega))
      go_ret
      exact ⟨rfl, by (repeat' (first | exact Ext.refl _ | assumption | refine Ext.alloc' ?_ _ | (refine Ext.set' ?_ (by first | omega | (simp; done) | (simp; omega)) _) | refine Ext.drew' ?_ | refine Ext.drewN' ?_ _ | refine Ext.trans ?_ (by assumption)))⟩
theorem RLeast_any (w : World) : Calls Try.prog 161 #[] w fun e w' => e = .returned (.int .i64 24) ∧ w = w' := by
  go_enter Try.func161, Try.ntmps161
  go_wp2
  go_ret
  exact ⟨rfl, rfl⟩
theorem RMost_any (w : World) : Calls Try.prog 162 #[] w fun e w' => e = .returned (.int .i64 1662) ∧ w = w' := by
  go_enter Try.func162, Try.ntmps162
  go_wp2
  go_ret
  exact ⟨rfl, rfl⟩
theorem Rbytes_any (n : Int) (h0 : 0 ≤ n) (h1 : n ≤ 1000000000000) (w : World) : Calls Try.prog 160 #[.int .i64 n] w fun e w' => e = .returned (.int .i64 (bytesV n)) ∧ w = w' := by
  have hb := bytesV_bd (n := n) h0 (by omega)
  have hb2 : 0 ≤ ceilV n 8 ∧ ceilV n 8 ≤ 1099511627776 := by unfold bytesV at hb; omega
  have e : bytesV n = 2 * ceilV n 8 := rfl
  rw [e]
  clear hb e
  go_enter Try.func160, Try.ntmps160
  go_wp2_with (go_at_call 163; refine (RCeil_any _ _ _).mono ?_; intro e w2 h; have he := h.1; have hw := h.2; clear h; subst he; subst hw)
  go_ret
  exact ⟨rfl, rfl⟩
set_option maxHeartbeats 1000000 in
set_option maxRecDepth 100000 in
theorem RRoom_any (W H M Qu I C : Int) (w : World) : Calls Try.prog 112 #[.agg #[.int .i64 W, .int .i64 H, .int .i64 M, .int .i64 Qu, .int .i64 I, .int .i64 C]] w fun e w' => e = .returned (.int .i64 (roomV W H M I C)) ∧ Ext w w' := by
  have hib := interV_bd W H M I
  by_cases h : interV W H M I = 0
  · have e : roomV W H M I C = 0 := by unfold roomV; rw [if_pos (.inl h)]
    have hi : (interV W H M I == 0) = true := by simpa using h
    clear h
    rw [e]
    clear e
    go_enter Try.func112, Try.ntmps112
    go_wp2_with (go_at_call 113; refine (RIntervals_any W H M Qu I C _).mono ?_; intro e w1 h; have he := h.1; have hE := h.2; clear h; subst he; have hc1 := hE.cells (w.heap.size + 1) (by first | omega | (simp; done) | (simp; omega)); have hf1 := hE.marks (w.heap.size + 1) (by first | omega | (simp; done) | (simp; omega)); have hs1 := hE.sizes (w.heap.size + 1) (by first | omega | (simp; done) | (simp; omega)); have hg1 := hE.rules.1; have hh1 := hE.rules.2; have hl1_0 : w.heap.size < w1.heap.size := (by omega))
    go_ret
    exact ⟨rfl, by (repeat' (first | exact Ext.refl _ | assumption | refine Ext.alloc' ?_ _ | (refine Ext.set' ?_ (by first | omega | (simp; done) | (simp; omega)) _) | refine Ext.drew' ?_ | refine Ext.drewN' ?_ _ | refine Ext.trans ?_ (by assumption)))⟩
  have hi : (interV W H M I == 0) = false := by simpa using h
  by_cases hc0 : C < 0
  · have e : roomV W H M I C = 0 := by unfold roomV; rw [if_pos (.inr (by omega))]
    have hi : decide (C < 0) = true := by simpa using hc0
    clear h hc0
    rw [e]
    clear e
    go_enter Try.func112, Try.ntmps112
    go_wp2_with (go_at_call 113; refine (RIntervals_any W H M Qu I C _).mono ?_; intro e w1 h; have he := h.1; have hE := h.2; clear h; subst he; have hc1 := hE.cells (w.heap.size + 1) (by first | omega | (simp; done) | (simp; omega)); have hf1 := hE.marks (w.heap.size + 1) (by first | omega | (simp; done) | (simp; omega)); have hs1 := hE.sizes (w.heap.size + 1) (by first | omega | (simp; done) | (simp; omega)); have hg1 := hE.rules.1; have hh1 := hE.rules.2; have hl1_0 : w.heap.size < w1.heap.size := (by omega))
    go_ret
    exact ⟨rfl, by (repeat' (first | exact Ext.refl _ | assumption | refine Ext.alloc' ?_ _ | (refine Ext.set' ?_ (by first | omega | (simp; done) | (simp; omega)) _) | refine Ext.drew' ?_ | refine Ext.drewN' ?_ _ | refine Ext.trans ?_ (by assumption)))⟩
  have hc0' : decide (C < 0) = false := by simpa using hc0
  by_cases hc3 : 3 < C
  · have e : roomV W H M I C = 0 := by unfold roomV; rw [if_pos (.inr (by omega))]
    have hi : decide (3 < C) = true := by simpa using hc3
    clear h hc0 hc3
    rw [e]
    clear e
    go_enter Try.func112, Try.ntmps112
    go_wp2_with (go_at_call 113; refine (RIntervals_any W H M Qu I C _).mono ?_; intro e w1 h; have he := h.1; have hE := h.2; clear h; subst he; have hc1 := hE.cells (w.heap.size + 1) (by first | omega | (simp; done) | (simp; omega)); have hf1 := hE.marks (w.heap.size + 1) (by first | omega | (simp; done) | (simp; omega)); have hs1 := hE.sizes (w.heap.size + 1) (by first | omega | (simp; done) | (simp; omega)); have hg1 := hE.rules.1; have hh1 := hE.rules.2; have hl1_0 : w.heap.size < w1.heap.size := (by omega))
    go_ret
    exact ⟨rfl, by (repeat' (first | exact Ext.refl _ | assumption | refine Ext.alloc' ?_ _ | (refine Ext.set' ?_ (by first | omega | (simp; done) | (simp; omega)) _) | refine Ext.drew' ?_ | refine Ext.drewN' ?_ _ | refine Ext.trans ?_ (by assumption)))⟩
  have hc3' : decide (3 < C) = false := by simpa using hc3
  have e : roomV W H M I C = bytesV (fullV W H M I * 24) + C * (bytesV (fullV W H M I * 1662) - bytesV (fullV W H M I * 24)) / 3 := by unfold roomV; rw [if_neg (by simp [h]; omega)]
  obtain ⟨b1, b2, b3, b4, b5⟩ := full_bd h
  have hl := bytesV_bd (n := fullV W H M I * 24) (by omega) (by omega)
  have hh := bytesV_bd (n := fullV W H M I * 1662) (by omega) (by omega)
  have hnp := nP_bd M
  have hmb := mcusV_bd W H M
  have hd : 0 ≤ bytesV (fullV W H M I * 1662) - bytesV (fullV W H M I * 24) ∧ bytesV (fullV W H M I * 1662) - bytesV (fullV W H M I * 24) ≤ 700000000 := by
    obtain ⟨_, _, e1⟩ := hl
    obtain ⟨_, _, e2⟩ := hh
    rw [e1, e2]
    omega
  have hp : 0 ≤ C * (bytesV (fullV W H M I * 1662) - bytesV (fullV W H M I * 24)) ∧ C * (bytesV (fullV W H M I * 1662) - bytesV (fullV W H M I * 24)) ≤ 2100000000 := by
    refine ⟨Int.mul_nonneg (by omega) hd.1, ?_⟩
    have := Int.mul_le_mul (show C ≤ 3 by omega) hd.2 hd.1 (by omega)
    omega
  replace hl : 0 ≤ bytesV (fullV W H M I * 24) ∧ bytesV (fullV W H M I * 24) ≤ 1099511627776 := by omega
  replace hh : 0 ≤ bytesV (fullV W H M I * 1662) ∧ bytesV (fullV W H M I * 1662) ≤ 1099511627776 := by omega
  rw [e]
  clear h e
  by_cases hlt : mcusV W H M < I
  · have hF : mcusV W H M * (nP M : Int) = fullV W H M I := by unfold fullV minV; rw [if_pos hlt]
    go_enter Try.func112, Try.ntmps112
    go_wp2_with (go_at_call 113; refine (RIntervals_any W H M Qu I C _).mono ?_; intro e w1 h; have he := h.1; have hE := h.2; clear h; subst he; have hc1 := hE.cells (w.heap.size + 1) (by first | omega | (simp; done) | (simp; omega)); have hf1 := hE.marks (w.heap.size + 1) (by first | omega | (simp; done) | (simp; omega)); have hs1 := hE.sizes (w.heap.size + 1) (by first | omega | (simp; done) | (simp; omega)); have hg1 := hE.rules.1; have hh1 := hE.rules.2; have hl1_0 : w.heap.size < w1.heap.size := (by omega))
    refine Mix.wp_region_mixX (w.heap.size + 1) (.c 0 (.c 1 (.c 2 (.c 3 (.c 4 (.c 5 (.c 6 (.e 7 (.c 8 (.c 9 (.c 10 .done))))))))))) (by kernel_rfl) (by kernel_rfl) (by first | omega | (simp; done) | (simp; omega)) (fun hap hapf => ?_)
    repeat (refine Mix.mix_q rfl rfl rfl (fun K hK => ?_); (conv => arg 2; whnf); (first | (go_big_quiet_op; refine hK _ ?_) | (go_simp; refine hK _ ?_)); clear hK K)
    (refine Mix.mix_c rfl rfl (fun K hK => ?_); (conv => arg 2; whnf); go_simp; apply Exists.intro; refine ⟨fun _ => ?_, hK _ ?_⟩; exact Rmcus_any W H M Qu I C _; clear hK K)
    repeat (refine Mix.mix_q rfl rfl rfl (fun K hK => ?_); (conv => arg 2; whnf); (first | (go_big_quiet_op; refine hK _ ?_) | (go_simp; refine hK _ ?_)); clear hK K)
    (refine Mix.mix_one rfl rfl (fun w1 hE K hK => ?_); (conv => arg 2; whnf); have hc1 := hE.cells (w.heap.size + 1) (by first | omega | (simp; done) | (simp; omega)); have hf1 := hE.marks (w.heap.size + 1) (by first | omega | (simp; done) | (simp; omega)); have hs1 := hE.sizes (w.heap.size + 1) (by first | omega | (simp; done) | (simp; omega)); have hg1 := hE.rules.1; have hh1 := hE.rules.2; have hl1_0 : w.heap.size < w1.heap.size := (by omega); go_big_op; refine (RParts_any M _).mono ?_)
    rintro e w3 ⟨a, cap, rfl, hc, hE3⟩
    have hc3 := hE3.cells (w.heap.size + 1) (by first | omega | (simp; done) | (simp; omega)); have hf3 := hE3.marks (w.heap.size + 1) (by first | omega | (simp; done) | (simp; omega)); have hs3 := hE3.sizes (w.heap.size + 1) (by first | omega | (simp; done) | (simp; omega)); have hg3 := hE3.rules.1; have hh3 := hE3.rules.2; have hl3_0 : w.heap.size < w3.heap.size := (by omega)
    (refine hK _ _ (Mix.ext_ap (by (repeat' (first | exact Ext.refl _ | assumption | refine Ext.alloc' ?_ _ | (refine Ext.set' ?_ (by first | omega | (simp; done) | (simp; omega)) _) | refine Ext.drew' ?_ | refine Ext.drewN' ?_ _ | refine Ext.trans ?_ (by assumption))))) ?_; clear hK K)
    repeat (refine Mix.mix_q rfl rfl rfl (fun K hK => ?_); (conv => arg 2; whnf); (first | (go_big_quiet_op; refine hK _ ?_) | (go_simp; refine hK _ ?_)); clear hK K)
    (refine Mix.mix_nil (fun w2 hE2 => ?_); clear hap hapf; have hc2 := hE2.cells (w.heap.size + 1) (by first | omega | (simp; done) | (simp; omega)); have hf2 := hE2.marks (w.heap.size + 1) (by first | omega | (simp; done) | (simp; omega)); have hs2 := hE2.sizes (w.heap.size + 1) (by first | omega | (simp; done) | (simp; omega)); have hg2 := hE2.rules.1; have hh2 := hE2.rules.2; have hl2_0 : w.heap.size < w2.heap.size := (by omega); dsimp only [Exit.then])
    go_wp2_with (first | (go_at_call 161; refine (RLeast_any _).mono ?_; intro e w2 h; have he := h.1; have hw := h.2; clear h; subst he; subst hw) | (go_at_call 162; refine (RMost_any _).mono ?_; intro e w2 h; have he := h.1; have hw := h.2; clear h; subst he; subst hw) | (go_at_call 160; refine (Rbytes_any _ (by omega) (by omega) _).mono ?_; intro e w2 h; have he := h.1; have hw := h.2; clear h; subst he; subst hw))
    go_ret
    exact ⟨rfl, by (repeat' (first | exact Ext.refl _ | assumption | refine Ext.alloc' ?_ _ | (refine Ext.set' ?_ (by first | omega | (simp; done) | (simp; omega)) _) | refine Ext.drew' ?_ | refine Ext.drewN' ?_ _ | refine Ext.trans ?_ (by assumption)))⟩
  · have hF : I * (nP M : Int) = fullV W H M I := by unfold fullV minV; rw [if_neg hlt]
    go_enter Try.func112, Try.ntmps112
    go_wp2_with (go_at_call 113; refine (RIntervals_any W H M Qu I C _).mono ?_; intro e w1 h; have he := h.1; have hE := h.2; clear h; subst he; have hc1 := hE.cells (w.heap.size + 1) (by first | omega | (simp; done) | (simp; omega)); have hf1 := hE.marks (w.heap.size + 1) (by first | omega | (simp; done) | (simp; omega)); have hs1 := hE.sizes (w.heap.size + 1) (by first | omega | (simp; done) | (simp; omega)); have hg1 := hE.rules.1; have hh1 := hE.rules.2; have hl1_0 : w.heap.size < w1.heap.size := (by omega))
    refine Mix.wp_region_mixX (w.heap.size + 1) (.c 0 (.c 1 (.c 2 (.c 3 (.c 4 (.c 5 (.c 6 (.e 7 (.c 8 (.c 9 (.c 10 .done))))))))))) (by kernel_rfl) (by kernel_rfl) (by first | omega | (simp; done) | (simp; omega)) (fun hap hapf => ?_)
    repeat (refine Mix.mix_q rfl rfl rfl (fun K hK => ?_); (conv => arg 2; whnf); (first | (go_big_quiet_op; refine hK _ ?_) | (go_simp; refine hK _ ?_)); clear hK K)
    (refine Mix.mix_c rfl rfl (fun K hK => ?_); (conv => arg 2; whnf); go_simp; apply Exists.intro; refine ⟨fun _ => ?_, hK _ ?_⟩; exact Rmcus_any W H M Qu I C _; clear hK K)
    repeat (refine Mix.mix_q rfl rfl rfl (fun K hK => ?_); (conv => arg 2; whnf); (first | (go_big_quiet_op; refine hK _ ?_) | (go_simp; refine hK _ ?_)); clear hK K)
    (refine Mix.mix_one rfl rfl (fun w1 hE K hK => ?_); (conv => arg 2; whnf); have hc1 := hE.cells (w.heap.size + 1) (by first | omega | (simp; done) | (simp; omega)); have hf1 := hE.marks (w.heap.size + 1) (by first | omega | (simp; done) | (simp; omega)); have hs1 := hE.sizes (w.heap.size + 1) (by first | omega | (simp; done) | (simp; omega)); have hg1 := hE.rules.1; have hh1 := hE.rules.2; have hl1_0 : w.heap.size < w1.heap.size := (by omega); go_big_op; refine (RParts_any M _).mono ?_)
    rintro e w3 ⟨a, cap, rfl, hc, hE3⟩
    have hc3 := hE3.cells (w.heap.size + 1) (by first | omega | (simp; done) | (simp; omega)); have hf3 := hE3.marks (w.heap.size + 1) (by first | omega | (simp; done) | (simp; omega)); have hs3 := hE3.sizes (w.heap.size + 1) (by first | omega | (simp; done) | (simp; omega)); have hg3 := hE3.rules.1; have hh3 := hE3.rules.2; have hl3_0 : w.heap.size < w3.heap.size := (by omega)
    (refine hK _ _ (Mix.ext_ap (by (repeat' (first | exact Ext.refl _ | assumption | refine Ext.alloc' ?_ _ | (refine Ext.set' ?_ (by first | omega | (simp; done) | (simp; omega)) _) | refine Ext.drew' ?_ | refine Ext.drewN' ?_ _ | refine Ext.trans ?_ (by assumption))))) ?_; clear hK K)
    repeat (refine Mix.mix_q rfl rfl rfl (fun K hK => ?_); (conv => arg 2; whnf); (first | (go_big_quiet_op; refine hK _ ?_) | (go_simp; refine hK _ ?_)); clear hK K)
    (refine Mix.mix_nil (fun w2 hE2 => ?_); clear hap hapf; have hc2 := hE2.cells (w.heap.size + 1) (by first | omega | (simp; done) | (simp; omega)); have hf2 := hE2.marks (w.heap.size + 1) (by first | omega | (simp; done) | (simp; omega)); have hs2 := hE2.sizes (w.heap.size + 1) (by first | omega | (simp; done) | (simp; omega)); have hg2 := hE2.rules.1; have hh2 := hE2.rules.2; have hl2_0 : w.heap.size < w2.heap.size := (by omega); dsimp only [Exit.then])
    go_wp2_with (first | (go_at_call 161; refine (RLeast_any _).mono ?_; intro e w2 h; have he := h.1; have hw := h.2; clear h; subst he; subst hw) | (go_at_call 162; refine (RMost_any _).mono ?_; intro e w2 h; have he := h.1; have hw := h.2; clear h; subst he; subst hw) | (go_at_call 160; refine (Rbytes_any _ (by omega) (by omega) _).mono ?_; intro e w2 h; have he := h.1; have hw := h.2; clear h; subst he; subst hw))
    go_ret
    exact ⟨rfl, by (repeat' (first | exact Ext.refl _ | assumption | refine Ext.alloc' ?_ _ | (refine Ext.set' ?_ (by first | omega | (simp; done) | (simp; omega)) _) | refine Ext.drew' ?_ | refine Ext.drewN' ?_ _ | refine Ext.trans ?_ (by assumption)))⟩
end Go.Proofs.Ytoipadeeochbnaa
