import Derived.Test.YtoipadeeochbnaaSlot3
namespace Go.Proofs.Ytoipadeeochbnaa
open Go.RowKit Mix
attribute [local go_sem] Mix.calm Oper.quietUpon

theorem Least_any (w : World) : Calls Try.prog 46 #[] w fun e w' => e = .returned (.int .i64 24) ∧ w = w' := by
  go_enter Try.func46, Try.ntmps46
  go_wp2
  go_ret
  exact ⟨rfl, rfl⟩
theorem Most_any (w : World) : Calls Try.prog 44 #[] w fun e w' => e = .returned (.int .i64 1662) ∧ w = w' := by
  go_enter Try.func44, Try.ntmps44
  go_wp2
  go_ret
  exact ⟨rfl, rfl⟩
def bytesV (n : Int) : Int := 2 * ceilV n 8
theorem bytesV_bd {n : Int} (h0 : 0 ≤ n) (h1 : n ≤ 1099511627776) : 0 ≤ bytesV n ∧ bytesV n ≤ n + 8 ∧ bytesV n = 2 * ((n + 7) / 8) := by
  unfold bytesV ceilV
  rw [if_pos (by omega)]
  omega
theorem allLeast (n : Int) (b : Nat) (w : World) (hc : w.cell? ⟨b, 0, none⟩ = some (.int .i64 n)) (h0 : 0 ≤ n) (h1 : n ≤ 402653184) :
    Calls Try.prog 120 #[.func (.func 46) #[] #[], .pointer (some ⟨b, 0, none⟩)] w fun e w' => e = .returned (.int .i64 (bytesV (n * 24))) ∧ Ext w w' := by
  have hb := bytesV_bd (n := n * 24) (by omega) (by omega)
  have hbl := World.block_lt_of_cell? w _ hc
  have hb2 : 0 ≤ ceilV (n * 24) 8 ∧ ceilV (n * 24) 8 ≤ 1099511627776 := by unfold bytesV at hb; omega
  have e : bytesV (n * 24) = 2 * ceilV (n * 24) 8 := rfl
  rw [e]
  clear hb e
  go_enter Try.func120, Try.ntmps120
  go_wp2
  refine Mix.wp_region_mixX (w.heap.size + 0) (.c 0 (.c 1 (.c 2 (.c 3 (.c 4 (.c 5 (.c 6 .done))))))) (by kernel_rfl) (by kernel_rfl) (by first | omega | (simp; done) | (simp; omega)) (fun hap hapf => ?_)
  have hcx : ∀ x, (ap w x).cell? ⟨b, 0, none⟩ = some (.int .i64 n) := fun x => (ap_ext w x).cell hc
  repeat (refine Mix.mix_q rfl rfl rfl (fun K hK => ?_); (conv => arg 2; whnf); go_big_quiet_op; refine hK _ ?_; clear hK K)
  (refine Mix.mix_c rfl rfl (fun K hK => ?_); (conv => arg 2; whnf); go_simp; apply Exists.intro; refine ⟨fun _ => ?_, hK _ ?_⟩; exact Mix.se (Least_any _); clear hK K)
  repeat (refine Mix.mix_q rfl rfl rfl (fun K hK => ?_); (conv => arg 2; whnf); go_big_quiet_op; refine hK _ ?_; clear hK K)
  (refine Mix.mix_c rfl rfl (fun K hK => ?_); (conv => arg 2; whnf); go_simp; apply Exists.intro; refine ⟨fun _ => ?_, hK _ ?_⟩; exact Mix.se (Ceil_any _ _ _); clear hK K)
  repeat (refine Mix.mix_q rfl rfl rfl (fun K hK => ?_); (conv => arg 2; whnf); go_big_quiet_op; refine hK _ ?_; clear hK K)
  clear hcx
  (refine Mix.mix_nil (fun w2 hE2 => ?_); clear hap hapf; have hc2 := hE2.cells (w.heap.size + 0) (by first | omega | (simp; done) | (simp; omega)); have hf2 := hE2.marks (w.heap.size + 0) (by first | omega | (simp; done) | (simp; omega)); have hs2 := hE2.sizes (w.heap.size + 0) (by first | omega | (simp; done) | (simp; omega)); have hg2 := hE2.rules.1; have hh2 := hE2.rules.2; skip; dsimp only [Exit.then])
  go_wp2
  go_ret
  exact ⟨rfl, by (repeat' (first | exact Ext.refl _ | assumption | refine Ext.alloc' ?_ _ | (refine Ext.set' ?_ (by first | omega | (simp; done) | (simp; omega)) _) | refine Ext.drew' ?_ | refine Ext.drewN' ?_ _ | refine Ext.trans ?_ (by assumption)))⟩
theorem allMost (n : Int) (b : Nat) (w : World) (hc : w.cell? ⟨b, 0, none⟩ = some (.int .i64 n)) (h0 : 0 ≤ n) (h1 : n ≤ 402653184) :
    Calls Try.prog 120 #[.func (.func 44) #[] #[], .pointer (some ⟨b, 0, none⟩)] w fun e w' => e = .returned (.int .i64 (bytesV (n * 1662))) ∧ Ext w w' := by
  have hb := bytesV_bd (n := n * 1662) (by omega) (by omega)
  have hbl := World.block_lt_of_cell? w _ hc
  have hb2 : 0 ≤ ceilV (n * 1662) 8 ∧ ceilV (n * 1662) 8 ≤ 1099511627776 := by unfold bytesV at hb; omega
  have e : bytesV (n * 1662) = 2 * ceilV (n * 1662) 8 := rfl
  rw [e]
  clear hb e
  go_enter Try.func120, Try.ntmps120
  go_wp2
  refine Mix.wp_region_mixX (w.heap.size + 0) (.c 0 (.c 1 (.c 2 (.c 3 (.c 4 (.c 5 (.c 6 .done))))))) (by kernel_rfl) (by kernel_rfl) (by first | omega | (simp; done) | (simp; omega)) (fun hap hapf => ?_)
  have hcx : ∀ x, (ap w x).cell? ⟨b, 0, none⟩ = some (.int .i64 n) := fun x => (ap_ext w x).cell hc
  repeat (refine Mix.mix_q rfl rfl rfl (fun K hK => ?_); (conv => arg 2; whnf); go_big_quiet_op; refine hK _ ?_; clear hK K)
  (refine Mix.mix_c rfl rfl (fun K hK => ?_); (conv => arg 2; whnf); go_simp; apply Exists.intro; refine ⟨fun _ => ?_, hK _ ?_⟩; exact Mix.se (Most_any _); clear hK K)
  repeat (refine Mix.mix_q rfl rfl rfl (fun K hK => ?_); (conv => arg 2; whnf); go_big_quiet_op; refine hK _ ?_; clear hK K)
  (refine Mix.mix_c rfl rfl (fun K hK => ?_); (conv => arg 2; whnf); go_simp; apply Exists.intro; refine ⟨fun _ => ?_, hK _ ?_⟩; exact Mix.se (Ceil_any _ _ _); clear hK K)
  repeat (refine Mix.mix_q rfl rfl rfl (fun K hK => ?_); (conv => arg 2; whnf); go_big_quiet_op; refine hK _ ?_; clear hK K)
  clear hcx
  (refine Mix.mix_nil (fun w2 hE2 => ?_); clear hap hapf; have hc2 := hE2.cells (w.heap.size + 0) (by first | omega | (simp; done) | (simp; omega)); have hf2 := hE2.marks (w.heap.size + 0) (by first | omega | (simp; done) | (simp; omega)); have hs2 := hE2.sizes (w.heap.size + 0) (by first | omega | (simp; done) | (simp; omega)); have hg2 := hE2.rules.1; have hh2 := hE2.rules.2; skip; dsimp only [Exit.then])
  go_wp2
  go_ret
  exact ⟨rfl, by (repeat' (first | exact Ext.refl _ | assumption | refine Ext.alloc' ?_ _ | (refine Ext.set' ?_ (by first | omega | (simp; done) | (simp; omega)) _) | refine Ext.drew' ?_ | refine Ext.drewN' ?_ _ | refine Ext.trans ?_ (by assumption)))⟩

/-- How many blocks a full interval has. -/
def fullV (W H M I : Int) : Int := minV I (mcusV W H M) * (nP M : Int)
def roomV (W H M I C : Int) : Int :=
  if interV W H M I = 0 ∨ ¬ (0 ≤ C ∧ C ≤ 3) then 0 else bytesV (fullV W H M I * 24) + C * (bytesV (fullV W H M I * 1662) - bytesV (fullV W H M I * 24)) / 3
theorem full_bd {W H M I : Int} (h : interV W H M I ≠ 0) : 1 ≤ I ∧ I ≤ 65535 ∧ 1 ≤ mcusV W H M ∧ 0 ≤ fullV W H M I ∧ fullV W H M I ≤ 393210 := by
  have hm := mcusV_bd W H M
  have hnp := nP_bd M
  unfold interV at h
  split at h
  case isFalse => exact absurd rfl h
  rename_i hI
  have hm1 : 1 ≤ mcusV W H M := by
    by_cases h' : mcusV W H M = 0
    · exact absurd (by rw [h']; unfold ceilV; rw [if_pos (by omega), Int.ediv_eq_zero_of_lt (by omega) (by omega)]) h
    · omega
  refine ⟨hI.1, hI.2, hm1, ?_⟩
  unfold fullV
  have hmin : 0 ≤ minV I (mcusV W H M) ∧ minV I (mcusV W H M) ≤ 65535 := by unfold minV; split <;> omega
  refine ⟨Int.mul_nonneg hmin.1 (by omega), ?_⟩
  have := Int.mul_le_mul hmin.2 (show (nP M : Int) ≤ 6 by omega) (by omega) (by omega)
  omega
set_option maxHeartbeats 1000000 in
set_option maxRecDepth 100000 in
theorem Room_any (W H M Qu I C : Int) (w : World) : Calls Try.prog 53 #[.agg #[.int .i64 W, .int .i64 H, .int .i64 M, .int .i64 Qu, .int .i64 I, .int .i64 C]] w fun e w' => e = .returned (.int .i64 (roomV W H M I C)) ∧ Ext w w' := by
  have hib := interV_bd W H M I
  by_cases h : interV W H M I = 0
  · have e : roomV W H M I C = 0 := by unfold roomV; rw [if_pos (.inl h)]
    have hi : (interV W H M I == 0) = true := by simpa using h
    rw [e]
    clear h e
    go_enter Try.func53, Try.ntmps53
    go_wp2_with (first | (go_at_call 109; refine (between_any _ _ _ _).mono ?_; intro e w2 h; have he := h.1; have hw := h.2; clear h; subst he; subst hw) | (go_at_call 51; refine (Intervals_any W H M Qu I C _).mono ?_; intro e w1 h; have he := h.1; have hE := h.2; clear h; subst he; have hc1 := hE.cells (w.heap.size + 1) (by first | omega | (simp; done) | (simp; omega)); have hf1 := hE.marks (w.heap.size + 1) (by first | omega | (simp; done) | (simp; omega)); have hs1 := hE.sizes (w.heap.size + 1) (by first | omega | (simp; done) | (simp; omega)); have hg1 := hE.rules.1; have hh1 := hE.rules.2; have hl1_0 : w.heap.size < w1.heap.size := (by omega)))
    go_ret
    exact ⟨rfl, by (repeat' (first | exact Ext.refl _ | assumption | refine Ext.alloc' ?_ _ | (refine Ext.set' ?_ (by first | omega | (simp; done) | (simp; omega)) _) | refine Ext.drew' ?_ | refine Ext.drewN' ?_ _ | refine Ext.trans ?_ (by assumption)))⟩
  have hi : (interV W H M I == 0) = false := by simpa using h
  by_cases hcc : 0 ≤ C ∧ C ≤ 3
  case neg =>
    have hb : btw C 0 3 = false := by simp only [btw, Bool.and_eq_false_iff, decide_eq_false_iff_not]; omega
    have e : roomV W H M I C = 0 := by unfold roomV; rw [if_pos (.inr hcc)]
    rw [e]
    clear h e hcc
    go_enter Try.func53, Try.ntmps53
    go_wp2_with (first | (go_at_call 109; refine (between_any _ _ _ _).mono ?_; intro e w2 h; have he := h.1; have hw := h.2; clear h; subst he; subst hw) | (go_at_call 51; refine (Intervals_any W H M Qu I C _).mono ?_; intro e w1 h; have he := h.1; have hE := h.2; clear h; subst he; have hc1 := hE.cells (w.heap.size + 1) (by first | omega | (simp; done) | (simp; omega)); have hf1 := hE.marks (w.heap.size + 1) (by first | omega | (simp; done) | (simp; omega)); have hs1 := hE.sizes (w.heap.size + 1) (by first | omega | (simp; done) | (simp; omega)); have hg1 := hE.rules.1; have hh1 := hE.rules.2; have hl1_0 : w.heap.size < w1.heap.size := (by omega)))
    go_ret
    exact ⟨rfl, by (repeat' (first | exact Ext.refl _ | assumption | refine Ext.alloc' ?_ _ | (refine Ext.set' ?_ (by first | omega | (simp; done) | (simp; omega)) _) | refine Ext.drew' ?_ | refine Ext.drewN' ?_ _ | refine Ext.trans ?_ (by assumption)))⟩
  have hb : btw C 0 3 = true := by simp [btw, hcc]
  have e : roomV W H M I C = bytesV (fullV W H M I * 24) + C * (bytesV (fullV W H M I * 1662) - bytesV (fullV W H M I * 24)) / 3 := by unfold roomV; rw [if_neg (by simp [h, hcc])]
  obtain ⟨b1, b2, b3, b4, b5⟩ := full_bd h
  have hl := bytesV_bd (n := fullV W H M I * 24) (by omega) (by omega)
  have hh := bytesV_bd (n := fullV W H M I * 1662) (by omega) (by omega)
  have hnp := nP_bd M
  have hmb := mcusV_bd W H M
  obtain ⟨hc0, hc3⟩ := hcc
  have hd : 0 ≤ bytesV (fullV W H M I * 1662) - bytesV (fullV W H M I * 24) ∧ bytesV (fullV W H M I * 1662) - bytesV (fullV W H M I * 24) ≤ 700000000 := by
    obtain ⟨_, _, e1⟩ := hl
    obtain ⟨_, _, e2⟩ := hh
    rw [e1, e2]
    omega
  have hp : 0 ≤ C * (bytesV (fullV W H M I * 1662) - bytesV (fullV W H M I * 24)) ∧ C * (bytesV (fullV W H M I * 1662) - bytesV (fullV W H M I * 24)) ≤ 2100000000 := by
    refine ⟨Int.mul_nonneg hc0 hd.1, ?_⟩
    have := Int.mul_le_mul hc3 hd.2 hd.1 (by omega)
    omega
  replace hl : 0 ≤ bytesV (fullV W H M I * 24) ∧ bytesV (fullV W H M I * 24) ≤ 1099511627776 := by omega
  replace hh : 0 ≤ bytesV (fullV W H M I * 1662) ∧ bytesV (fullV W H M I * 1662) ≤ 1099511627776 := by omega
  rw [e]
  clear h e
  by_cases hlt : mcusV W H M < I
  · have hF : mcusV W H M * (nP M : Int) = fullV W H M I := by unfold fullV minV; rw [if_pos hlt]
    go_enter Try.func53, Try.ntmps53
    go_wp2_with (first | (go_at_call 109; refine (between_any _ _ _ _).mono ?_; intro e w2 h; have he := h.1; have hw := h.2; clear h; subst he; subst hw) | (go_at_call 51; refine (Intervals_any W H M Qu I C _).mono ?_; intro e w1 h; have he := h.1; have hE := h.2; clear h; subst he; have hc1 := hE.cells (w.heap.size + 1) (by first | omega | (simp; done) | (simp; omega)); have hf1 := hE.marks (w.heap.size + 1) (by first | omega | (simp; done) | (simp; omega)); have hs1 := hE.sizes (w.heap.size + 1) (by first | omega | (simp; done) | (simp; omega)); have hg1 := hE.rules.1; have hh1 := hE.rules.2; have hl1_0 : w.heap.size < w1.heap.size := (by omega)))
    refine Mix.wp_region_mixX (w.heap.size + 1) (.c 0 (.c 1 (.c 2 (.c 3 (.c 4 (.c 5 (.c 6 (.f 7 (.c 8 (.c 9 (.e 10 (.e 11 .done)))) 10 (.e 7 (.c 8 (.c 9 (.e 11 .done)))))))))))) (by kernel_rfl) (by kernel_rfl) (by first | omega | (simp; done) | (simp; omega)) (fun hap hapf => ?_)
    repeat (refine Mix.mix_q rfl rfl rfl (fun K hK => ?_); (conv => arg 2; whnf); go_big_quiet_op; refine hK _ ?_; clear hK K)
    (refine Mix.mix_c rfl rfl (fun K hK => ?_); (conv => arg 2; whnf); go_simp; apply Exists.intro; refine ⟨fun _ => ?_, hK _ ?_⟩; exact mcus_any W H M Qu I C _; clear hK K)
    repeat (refine Mix.mix_q rfl rfl rfl (fun K hK => ?_); (conv => arg 2; whnf); go_big_quiet_op; refine hK _ ?_; clear hK K)
    refine Mix.mix_two rfl rfl rfl rfl (fun w5 hE5 K hK => ?_) (fun w5 hE5 K hK => ?_)
    · (conv => arg 2; whnf)
      have hc5 := hE5.cells (w.heap.size + 1) (by first | omega | (simp; done) | (simp; omega)); have hf5 := hE5.marks (w.heap.size + 1) (by first | omega | (simp; done) | (simp; omega)); have hs5 := hE5.sizes (w.heap.size + 1) (by first | omega | (simp; done) | (simp; omega)); have hg5 := hE5.rules.1; have hh5 := hE5.rules.2; have hl5_0 : w.heap.size < w5.heap.size := (by omega)
      go_big_op
      refine (Parts_any M _).mono ?_
      rintro e w6 ⟨a, cap, rfl, hc, hE6⟩
      have hc6 := hE6.cells (w.heap.size + 1) (by first | omega | (simp; done) | (simp; omega)); have hf6 := hE6.marks (w.heap.size + 1) (by first | omega | (simp; done) | (simp; omega)); have hs6 := hE6.sizes (w.heap.size + 1) (by first | omega | (simp; done) | (simp; omega)); have hg6 := hE6.rules.1; have hh6 := hE6.rules.2; have hl6_0 : w.heap.size < w6.heap.size := (by omega)
      (refine hK _ _ (Mix.ext_ap (by (repeat' (first | exact Ext.refl _ | assumption | refine Ext.alloc' ?_ _ | (refine Ext.set' ?_ (by first | omega | (simp; done) | (simp; omega)) _) | refine Ext.drew' ?_ | refine Ext.drewN' ?_ _ | refine Ext.trans ?_ (by assumption))))) ?_; clear hK K)
      repeat (refine Mix.mix_q rfl rfl rfl (fun K hK => ?_); (conv => arg 2; whnf); go_big_quiet_op; refine hK _ ?_; clear hK K)
      refine Mix.mix_one rfl rfl (fun w7 hE7 K hK => ?_)
      (conv => arg 2; whnf)
      have hc7 := hE7.cells (w.heap.size + 1) (by first | omega | (simp; done) | (simp; omega)); have hf7 := hE7.marks (w.heap.size + 1) (by first | omega | (simp; done) | (simp; omega)); have hs7 := hE7.sizes (w.heap.size + 1) (by first | omega | (simp; done) | (simp; omega)); have hg7 := hE7.rules.1; have hh7 := hE7.rules.2; have hl7_0 : w.heap.size < w7.heap.size := (by omega)
      go_big_op
      (refine hK _ _ (Mix.ext_ap (by (repeat' (first | exact Ext.refl _ | assumption | refine Ext.alloc' ?_ _ | (refine Ext.set' ?_ (by first | omega | (simp; done) | (simp; omega)) _) | refine Ext.drew' ?_ | refine Ext.drewN' ?_ _ | refine Ext.trans ?_ (by assumption))))) ?_; clear hK K)
      refine Mix.mix_last rfl rfl (by kernel_rfl) (fun w8 hE8 K hK => ?_)
      (conv => arg 2; whnf)
      clear hap hapf
      have hz8 : w7.heap.size < w8.heap.size := by have := hE8.size; simp at this; omega
      have hc8 := hE8.cells (w.heap.size + 1) (by first | omega | (simp; done) | (simp; omega)); have hf8 := hE8.marks (w.heap.size + 1) (by first | omega | (simp; done) | (simp; omega)); have hs8 := hE8.sizes (w.heap.size + 1) (by first | omega | (simp; done) | (simp; omega)); have hg8 := hE8.rules.1; have hh8 := hE8.rules.2; have hl8_0 : w.heap.size < w8.heap.size := (by omega)
      go_big_op
      refine hK _ _ (fun w9 hE9 => ?_)
      clear hK K
      have hz9 : w7.heap.size < w9.heap.size := by have := hE9.size; simp at this; omega
      have hc9 := hE9.cells (w.heap.size + 1) (by first | omega | (simp; done) | (simp; omega)); have hf9 := hE9.marks (w.heap.size + 1) (by first | omega | (simp; done) | (simp; omega)); have hs9 := hE9.sizes (w.heap.size + 1) (by first | omega | (simp; done) | (simp; omega)); have hg9 := hE9.rules.1; have hh9 := hE9.rules.2; have hl9_0 : w.heap.size < w9.heap.size := (by omega)
      dsimp only [Exit.then]
      have hn : w9.cell? ⟨w7.heap.size, 0, none⟩ = some (.int .i64 (fullV W H M I)) := by simp [hg9, hg8, hz8, go_sem]
      go_wp2_with fail
      refine (allLeast _ _ _ hn b4 (by omega)).mono ?_
      intro e wa h
      have he := h.1
      have hEa := h.2
      clear h
      subst he
      have hna := hEa.cell hn
      have hc10 := hEa.cells (w.heap.size + 1) (by first | omega | (simp; done) | (simp; omega)); have hf10 := hEa.marks (w.heap.size + 1) (by first | omega | (simp; done) | (simp; omega)); have hs10 := hEa.sizes (w.heap.size + 1) (by first | omega | (simp; done) | (simp; omega)); have hg10 := hEa.rules.1; have hh10 := hEa.rules.2; have hl10_0 : w.heap.size < wa.heap.size := (by omega)
      go_wp2_with fail
      refine (allMost _ _ _ hna b4 (by omega)).mono ?_
      intro e wb h
      have he := h.1
      have hEb := h.2
      clear h
      subst he
      have hc11 := hEb.cells (w.heap.size + 1) (by first | omega | (simp; done) | (simp; omega)); have hf11 := hEb.marks (w.heap.size + 1) (by first | omega | (simp; done) | (simp; omega)); have hs11 := hEb.sizes (w.heap.size + 1) (by first | omega | (simp; done) | (simp; omega)); have hg11 := hEb.rules.1; have hh11 := hEb.rules.2; have hl11_0 : w.heap.size < wb.heap.size := (by omega)
      clear hn hna
      go_wp2
      go_ret
      exact ⟨rfl, by (repeat' (first | exact Ext.refl _ | assumption | refine Ext.alloc' ?_ _ | (refine Ext.set' ?_ (by first | omega | (simp; done) | (simp; omega)) _) | refine Ext.drew' ?_ | refine Ext.drewN' ?_ _ | refine Ext.trans ?_ (by assumption)))⟩
    · (conv => arg 2; whnf)
      have hc5 := hE5.cells (w.heap.size + 1) (by first | omega | (simp; done) | (simp; omega)); have hf5 := hE5.marks (w.heap.size + 1) (by first | omega | (simp; done) | (simp; omega)); have hs5 := hE5.sizes (w.heap.size + 1) (by first | omega | (simp; done) | (simp; omega)); have hg5 := hE5.rules.1; have hh5 := hE5.rules.2; have hl5_0 : w.heap.size < w5.heap.size := (by omega)
      go_big_op
      (refine hK _ _ (Mix.ext_ap (by (repeat' (first | exact Ext.refl _ | assumption | refine Ext.alloc' ?_ _ | (refine Ext.set' ?_ (by first | omega | (simp; done) | (simp; omega)) _) | refine Ext.drew' ?_ | refine Ext.drewN' ?_ _ | refine Ext.trans ?_ (by assumption))))) ?_; clear hK K)
      refine Mix.mix_one rfl rfl (fun w6 hE6 K hK => ?_)
      (conv => arg 2; whnf)
      have hz6 : w5.heap.size < w6.heap.size := by have := hE6.size; simp at this; omega
      have hc6 := hE6.cells (w.heap.size + 1) (by first | omega | (simp; done) | (simp; omega)); have hf6 := hE6.marks (w.heap.size + 1) (by first | omega | (simp; done) | (simp; omega)); have hs6 := hE6.sizes (w.heap.size + 1) (by first | omega | (simp; done) | (simp; omega)); have hg6 := hE6.rules.1; have hh6 := hE6.rules.2; have hl6_0 : w.heap.size < w6.heap.size := (by omega)
      go_big_op
      refine (Parts_any M _).mono ?_
      rintro e w7 ⟨a, cap, rfl, hc, hE7⟩
      have hz7 : w5.heap.size < w7.heap.size := by have := hE7.size; omega
      have hc7 := hE7.cells (w.heap.size + 1) (by first | omega | (simp; done) | (simp; omega)); have hf7 := hE7.marks (w.heap.size + 1) (by first | omega | (simp; done) | (simp; omega)); have hs7 := hE7.sizes (w.heap.size + 1) (by first | omega | (simp; done) | (simp; omega)); have hg7 := hE7.rules.1; have hh7 := hE7.rules.2; have hl7_0 : w.heap.size < w7.heap.size := (by omega)
      (refine hK _ _ (Mix.ext_ap (by (repeat' (first | exact Ext.refl _ | assumption | refine Ext.alloc' ?_ _ | (refine Ext.set' ?_ (by first | omega | (simp; done) | (simp; omega)) _) | refine Ext.drew' ?_ | refine Ext.drewN' ?_ _ | refine Ext.trans ?_ (by assumption))))) ?_; clear hK K)
      repeat (refine Mix.mix_q rfl rfl rfl (fun K hK => ?_); (conv => arg 2; whnf); go_big_quiet_op; refine hK _ ?_; clear hK K)
      refine Mix.mix_last rfl rfl (by kernel_rfl) (fun w8 hE8 K hK => ?_)
      (conv => arg 2; whnf)
      clear hap hapf
      have hz8 : w5.heap.size < w8.heap.size := by have := hE8.size; omega
      have hc8 := hE8.cells (w.heap.size + 1) (by first | omega | (simp; done) | (simp; omega)); have hf8 := hE8.marks (w.heap.size + 1) (by first | omega | (simp; done) | (simp; omega)); have hs8 := hE8.sizes (w.heap.size + 1) (by first | omega | (simp; done) | (simp; omega)); have hg8 := hE8.rules.1; have hh8 := hE8.rules.2; have hl8_0 : w.heap.size < w8.heap.size := (by omega)
      go_big_op
      refine hK _ _ (fun w9 hE9 => ?_)
      clear hK K
      have hz9 : w5.heap.size < w9.heap.size := by have := hE9.size; simp at this; omega
      have hc9 := hE9.cells (w.heap.size + 1) (by first | omega | (simp; done) | (simp; omega)); have hf9 := hE9.marks (w.heap.size + 1) (by first | omega | (simp; done) | (simp; omega)); have hs9 := hE9.sizes (w.heap.size + 1) (by first | omega | (simp; done) | (simp; omega)); have hg9 := hE9.rules.1; have hh9 := hE9.rules.2; have hl9_0 : w.heap.size < w9.heap.size := (by omega)
      dsimp only [Exit.then]
      have hn : w9.cell? ⟨w5.heap.size, 0, none⟩ = some (.int .i64 (fullV W H M I)) := by simp [hg9, hg8, hg7, hg6, hz8, hz7, hz6, go_sem]
      go_wp2_with fail
      refine (allLeast _ _ _ hn b4 (by omega)).mono ?_
      intro e wa h
      have he := h.1
      have hEa := h.2
      clear h
      subst he
      have hna := hEa.cell hn
      have hc10 := hEa.cells (w.heap.size + 1) (by first | omega | (simp; done) | (simp; omega)); have hf10 := hEa.marks (w.heap.size + 1) (by first | omega | (simp; done) | (simp; omega)); have hs10 := hEa.sizes (w.heap.size + 1) (by first | omega | (simp; done) | (simp; omega)); have hg10 := hEa.rules.1; have hh10 := hEa.rules.2; have hl10_0 : w.heap.size < wa.heap.size := (by omega)
      go_wp2_with fail
      refine (allMost _ _ _ hna b4 (by omega)).mono ?_
      intro e wb h
      have he := h.1
      have hEb := h.2
      clear h
      subst he
      have hc11 := hEb.cells (w.heap.size + 1) (by first | omega | (simp; done) | (simp; omega)); have hf11 := hEb.marks (w.heap.size + 1) (by first | omega | (simp; done) | (simp; omega)); have hs11 := hEb.sizes (w.heap.size + 1) (by first | omega | (simp; done) | (simp; omega)); have hg11 := hEb.rules.1; have hh11 := hEb.rules.2; have hl11_0 : w.heap.size < wb.heap.size := (by omega)
      clear hn hna
      go_wp2
      go_ret
      exact ⟨rfl, by (repeat' (first | exact Ext.refl _ | assumption | refine Ext.alloc' ?_ _ | (refine Ext.set' ?_ (by first | omega | (simp; done) | (simp; omega)) _) | refine Ext.drew' ?_ | refine Ext.drewN' ?_ _ | refine Ext.trans ?_ (by assumption)))⟩
  · have hF : I * (nP M : Int) = fullV W H M I := by unfold fullV minV; rw [if_neg hlt]
    go_enter Try.func53, Try.ntmps53
    go_wp2_with (first | (go_at_call 109; refine (between_any _ _ _ _).mono ?_; intro e w2 h; have he := h.1; have hw := h.2; clear h; subst he; subst hw) | (go_at_call 51; refine (Intervals_any W H M Qu I C _).mono ?_; intro e w1 h; have he := h.1; have hE := h.2; clear h; subst he; have hc1 := hE.cells (w.heap.size + 1) (by first | omega | (simp; done) | (simp; omega)); have hf1 := hE.marks (w.heap.size + 1) (by first | omega | (simp; done) | (simp; omega)); have hs1 := hE.sizes (w.heap.size + 1) (by first | omega | (simp; done) | (simp; omega)); have hg1 := hE.rules.1; have hh1 := hE.rules.2; have hl1_0 : w.heap.size < w1.heap.size := (by omega)))
    refine Mix.wp_region_mixX (w.heap.size + 1) (.c 0 (.c 1 (.c 2 (.c 3 (.c 4 (.c 5 (.c 6 (.f 7 (.c 8 (.c 9 (.e 10 (.e 11 .done)))) 10 (.e 7 (.c 8 (.c 9 (.e 11 .done)))))))))))) (by kernel_rfl) (by kernel_rfl) (by first | omega | (simp; done) | (simp; omega)) (fun hap hapf => ?_)
    repeat (refine Mix.mix_q rfl rfl rfl (fun K hK => ?_); (conv => arg 2; whnf); go_big_quiet_op; refine hK _ ?_; clear hK K)
    (refine Mix.mix_c rfl rfl (fun K hK => ?_); (conv => arg 2; whnf); go_simp; apply Exists.intro; refine ⟨fun _ => ?_, hK _ ?_⟩; exact mcus_any W H M Qu I C _; clear hK K)
    repeat (refine Mix.mix_q rfl rfl rfl (fun K hK => ?_); (conv => arg 2; whnf); go_big_quiet_op; refine hK _ ?_; clear hK K)
    refine Mix.mix_two rfl rfl rfl rfl (fun w5 hE5 K hK => ?_) (fun w5 hE5 K hK => ?_)
    · (conv => arg 2; whnf)
      have hc5 := hE5.cells (w.heap.size + 1) (by first | omega | (simp; done) | (simp; omega)); have hf5 := hE5.marks (w.heap.size + 1) (by first | omega | (simp; done) | (simp; omega)); have hs5 := hE5.sizes (w.heap.size + 1) (by first | omega | (simp; done) | (simp; omega)); have hg5 := hE5.rules.1; have hh5 := hE5.rules.2; have hl5_0 : w.heap.size < w5.heap.size := (by omega)
      go_big_op
      refine (Parts_any M _).mono ?_
      rintro e w6 ⟨a, cap, rfl, hc, hE6⟩
      have hc6 := hE6.cells (w.heap.size + 1) (by first | omega | (simp; done) | (simp; omega)); have hf6 := hE6.marks (w.heap.size + 1) (by first | omega | (simp; done) | (simp; omega)); have hs6 := hE6.sizes (w.heap.size + 1) (by first | omega | (simp; done) | (simp; omega)); have hg6 := hE6.rules.1; have hh6 := hE6.rules.2; have hl6_0 : w.heap.size < w6.heap.size := (by omega)
      (refine hK _ _ (Mix.ext_ap (by (repeat' (first | exact Ext.refl _ | assumption | refine Ext.alloc' ?_ _ | (refine Ext.set' ?_ (by first | omega | (simp; done) | (simp; omega)) _) | refine Ext.drew' ?_ | refine Ext.drewN' ?_ _ | refine Ext.trans ?_ (by assumption))))) ?_; clear hK K)
      repeat (refine Mix.mix_q rfl rfl rfl (fun K hK => ?_); (conv => arg 2; whnf); go_big_quiet_op; refine hK _ ?_; clear hK K)
      refine Mix.mix_one rfl rfl (fun w7 hE7 K hK => ?_)
      (conv => arg 2; whnf)
      have hc7 := hE7.cells (w.heap.size + 1) (by first | omega | (simp; done) | (simp; omega)); have hf7 := hE7.marks (w.heap.size + 1) (by first | omega | (simp; done) | (simp; omega)); have hs7 := hE7.sizes (w.heap.size + 1) (by first | omega | (simp; done) | (simp; omega)); have hg7 := hE7.rules.1; have hh7 := hE7.rules.2; have hl7_0 : w.heap.size < w7.heap.size := (by omega)
      go_big_op
      (refine hK _ _ (Mix.ext_ap (by (repeat' (first | exact Ext.refl _ | assumption | refine Ext.alloc' ?_ _ | (refine Ext.set' ?_ (by first | omega | (simp; done) | (simp; omega)) _) | refine Ext.drew' ?_ | refine Ext.drewN' ?_ _ | refine Ext.trans ?_ (by assumption))))) ?_; clear hK K)
      refine Mix.mix_last rfl rfl (by kernel_rfl) (fun w8 hE8 K hK => ?_)
      (conv => arg 2; whnf)
      clear hap hapf
      have hz8 : w7.heap.size < w8.heap.size := by have := hE8.size; simp at this; omega
      have hc8 := hE8.cells (w.heap.size + 1) (by first | omega | (simp; done) | (simp; omega)); have hf8 := hE8.marks (w.heap.size + 1) (by first | omega | (simp; done) | (simp; omega)); have hs8 := hE8.sizes (w.heap.size + 1) (by first | omega | (simp; done) | (simp; omega)); have hg8 := hE8.rules.1; have hh8 := hE8.rules.2; have hl8_0 : w.heap.size < w8.heap.size := (by omega)
      go_big_op
      refine hK _ _ (fun w9 hE9 => ?_)
      clear hK K
      have hz9 : w7.heap.size < w9.heap.size := by have := hE9.size; simp at this; omega
      have hc9 := hE9.cells (w.heap.size + 1) (by first | omega | (simp; done) | (simp; omega)); have hf9 := hE9.marks (w.heap.size + 1) (by first | omega | (simp; done) | (simp; omega)); have hs9 := hE9.sizes (w.heap.size + 1) (by first | omega | (simp; done) | (simp; omega)); have hg9 := hE9.rules.1; have hh9 := hE9.rules.2; have hl9_0 : w.heap.size < w9.heap.size := (by omega)
      dsimp only [Exit.then]
      have hn : w9.cell? ⟨w7.heap.size, 0, none⟩ = some (.int .i64 (fullV W H M I)) := by simp [hg9, hg8, hz8, go_sem]
      go_wp2_with fail
      refine (allLeast _ _ _ hn b4 (by omega)).mono ?_
      intro e wa h
      have he := h.1
      have hEa := h.2
      clear h
      subst he
      have hna := hEa.cell hn
      have hc10 := hEa.cells (w.heap.size + 1) (by first | omega | (simp; done) | (simp; omega)); have hf10 := hEa.marks (w.heap.size + 1) (by first | omega | (simp; done) | (simp; omega)); have hs10 := hEa.sizes (w.heap.size + 1) (by first | omega | (simp; done) | (simp; omega)); have hg10 := hEa.rules.1; have hh10 := hEa.rules.2; have hl10_0 : w.heap.size < wa.heap.size := (by omega)
      go_wp2_with fail
      refine (allMost _ _ _ hna b4 (by omega)).mono ?_
      intro e wb h
      have he := h.1
      have hEb := h.2
      clear h
      subst he
      have hc11 := hEb.cells (w.heap.size + 1) (by first | omega | (simp; done) | (simp; omega)); have hf11 := hEb.marks (w.heap.size + 1) (by first | omega | (simp; done) | (simp; omega)); have hs11 := hEb.sizes (w.heap.size + 1) (by first | omega | (simp; done) | (simp; omega)); have hg11 := hEb.rules.1; have hh11 := hEb.rules.2; have hl11_0 : w.heap.size < wb.heap.size := (by omega)
      clear hn hna
      go_wp2
      go_ret
      exact ⟨rfl, by (repeat' (first | exact Ext.refl _ | assumption | refine Ext.alloc' ?_ _ | (refine Ext.set' ?_ (by first | omega | (simp; done) | (simp; omega)) _) | refine Ext.drew' ?_ | refine Ext.drewN' ?_ _ | refine Ext.trans ?_ (by assumption)))⟩
    · (conv => arg 2; whnf)
      have hc5 := hE5.cells (w.heap.size + 1) (by first | omega | (simp; done) | (simp; omega)); have hf5 := hE5.marks (w.heap.size + 1) (by first | omega | (simp; done) | (simp; omega)); have hs5 := hE5.sizes (w.heap.size + 1) (by first | omega | (simp; done) | (simp; omega)); have hg5 := hE5.rules.1; have hh5 := hE5.rules.2; have hl5_0 : w.heap.size < w5.heap.size := (by omega)
      go_big_op
      (refine hK _ _ (Mix.ext_ap (by (repeat' (first | exact Ext.refl _ | assumption | refine Ext.alloc' ?_ _ | (refine Ext.set' ?_ (by first | omega | (simp; done) | (simp; omega)) _) | refine Ext.drew' ?_ | refine Ext.drewN' ?_ _ | refine Ext.trans ?_ (by assumption))))) ?_; clear hK K)
      refine Mix.mix_one rfl rfl (fun w6 hE6 K hK => ?_)
      (conv => arg 2; whnf)
      have hz6 : w5.heap.size < w6.heap.size := by have := hE6.size; simp at this; omega
      have hc6 := hE6.cells (w.heap.size + 1) (by first | omega | (simp; done) | (simp; omega)); have hf6 := hE6.marks (w.heap.size + 1) (by first | omega | (simp; done) | (simp; omega)); have hs6 := hE6.sizes (w.heap.size + 1) (by first | omega | (simp; done) | (simp; omega)); have hg6 := hE6.rules.1; have hh6 := hE6.rules.2; have hl6_0 : w.heap.size < w6.heap.size := (by omega)
      go_big_op
      refine (Parts_any M _).mono ?_
      rintro e w7 ⟨a, cap, rfl, hc, hE7⟩
      have hz7 : w5.heap.size < w7.heap.size := by have := hE7.size; omega
      have hc7 := hE7.cells (w.heap.size + 1) (by first | omega | (simp; done) | (simp; omega)); have hf7 := hE7.marks (w.heap.size + 1) (by first | omega | (simp; done) | (simp; omega)); have hs7 := hE7.sizes (w.heap.size + 1) (by first | omega | (simp; done) | (simp; omega)); have hg7 := hE7.rules.1; have hh7 := hE7.rules.2; have hl7_0 : w.heap.size < w7.heap.size := (by omega)
      (refine hK _ _ (Mix.ext_ap (by (repeat' (first | exact Ext.refl _ | assumption | refine Ext.alloc' ?_ _ | (refine Ext.set' ?_ (by first | omega | (simp; done) | (simp; omega)) _) | refine Ext.drew' ?_ | refine Ext.drewN' ?_ _ | refine Ext.trans ?_ (by assumption))))) ?_; clear hK K)
      repeat (refine Mix.mix_q rfl rfl rfl (fun K hK => ?_); (conv => arg 2; whnf); go_big_quiet_op; refine hK _ ?_; clear hK K)
      refine Mix.mix_last rfl rfl (by kernel_rfl) (fun w8 hE8 K hK => ?_)
      (conv => arg 2; whnf)
      clear hap hapf
      have hz8 : w5.heap.size < w8.heap.size := by have := hE8.size; omega
      have hc8 := hE8.cells (w.heap.size + 1) (by first | omega | (simp; done) | (simp; omega)); have hf8 := hE8.marks (w.heap.size + 1) (by first | omega | (simp; done) | (simp; omega)); have hs8 := hE8.sizes (w.heap.size + 1) (by first | omega | (simp; done) | (simp; omega)); have hg8 := hE8.rules.1; have hh8 := hE8.rules.2; have hl8_0 : w.heap.size < w8.heap.size := (by omega)
      go_big_op
      refine hK _ _ (fun w9 hE9 => ?_)
      clear hK K
      have hz9 : w5.heap.size < w9.heap.size := by have := hE9.size; simp at this; omega
      have hc9 := hE9.cells (w.heap.size + 1) (by first | omega | (simp; done) | (simp; omega)); have hf9 := hE9.marks (w.heap.size + 1) (by first | omega | (simp; done) | (simp; omega)); have hs9 := hE9.sizes (w.heap.size + 1) (by first | omega | (simp; done) | (simp; omega)); have hg9 := hE9.rules.1; have hh9 := hE9.rules.2; have hl9_0 : w.heap.size < w9.heap.size := (by omega)
      dsimp only [Exit.then]
      have hn : w9.cell? ⟨w5.heap.size, 0, none⟩ = some (.int .i64 (fullV W H M I)) := by simp [hg9, hg8, hg7, hg6, hz8, hz7, hz6, go_sem]
      go_wp2_with fail
      refine (allLeast _ _ _ hn b4 (by omega)).mono ?_
      intro e wa h
      have he := h.1
      have hEa := h.2
      clear h
      subst he
      have hna := hEa.cell hn
      have hc10 := hEa.cells (w.heap.size + 1) (by first | omega | (simp; done) | (simp; omega)); have hf10 := hEa.marks (w.heap.size + 1) (by first | omega | (simp; done) | (simp; omega)); have hs10 := hEa.sizes (w.heap.size + 1) (by first | omega | (simp; done) | (simp; omega)); have hg10 := hEa.rules.1; have hh10 := hEa.rules.2; have hl10_0 : w.heap.size < wa.heap.size := (by omega)
      go_wp2_with fail
      refine (allMost _ _ _ hna b4 (by omega)).mono ?_
      intro e wb h
      have he := h.1
      have hEb := h.2
      clear h
      subst he
      have hc11 := hEb.cells (w.heap.size + 1) (by first | omega | (simp; done) | (simp; omega)); have hf11 := hEb.marks (w.heap.size + 1) (by first | omega | (simp; done) | (simp; omega)); have hs11 := hEb.sizes (w.heap.size + 1) (by first | omega | (simp; done) | (simp; omega)); have hg11 := hEb.rules.1; have hh11 := hEb.rules.2; have hl11_0 : w.heap.size < wb.heap.size := (by omega)
      clear hn hna
      go_wp2
      go_ret
      exact ⟨rfl, by (repeat' (first | exact Ext.refl _ | assumption | refine Ext.alloc' ?_ _ | (refine Ext.set' ?_ (by first | omega | (simp; done) | (simp; omega)) _) | refine Ext.drew' ?_ | refine Ext.drewN' ?_ _ | refine Ext.trans ?_ (by assumption)))⟩
end Go.Proofs.Ytoipadeeochbnaa
